/- Part of the proof; written by a program out of the texts in wip/. -/
import Derived.Test.YtoboapnbbcedbaaRouteEitherOk2
namespace Go.Sh
open Go Go.Eng Go.Proofs
set_option linter.unusedVariables false
set_option linter.unusedSimpArgs false
set_option maxRecDepth 100000
theorem ref16_Draft_Topo_ok (N : Nat) (a0_ : ref16_Draft) (r : api_Topo) (h : ref16_Draft_Topo N a0_ = some r) : PCall Try.prog 31 [.agg (c_ref16_Draft a0_)] (.agg [iv r.Nodes, s_eB false r.Station, s_e_api_Link false r.Links]) := by
  unfold ref16_Draft_Topo at h
  have hH : HP ([] : List HO) [] := trivial
  refine pcall_of chk31 rfl rfl (vc_sound _ _ _ ?_) rfl
  refine vc_seq ?_
  refine vc_reg (S := ⟨[(1, .loc 1 0), (2, .loc 2 0)], [(1, (c_ref16_Draft a0_)), (2, [iv 0, s_eB true [], s_e_api_Link true []])], []⟩) (APath.fin (by kernel_rfl)) (by kernel_rfl) ?_
  refine vc_seq ?_
  refine vc_reg (S := ⟨[(1, .loc 1 0), (2, .loc 2 0), (3, iv (w64 (1 + (w64 ((Int.tmod a0_.Bridges 6))))))], [(1, (c_ref16_Draft a0_)), (2, [iv 0, s_eB true [], s_e_api_Link true []])], []⟩) (APath.fin (by kernel_rfl)) (by kernel_rfl) ?_
  refine vc_seq ?_
  refine vc_reg (S := ⟨[(1, .loc 1 0), (2, .loc 2 0), (3, iv (w64 (1 + (w64 ((Int.tmod a0_.Bridges 6)))))), (4, iv (w64 (2 + (w64 ((Int.tmod a0_.Stations 5))))))], [(1, (c_ref16_Draft a0_)), (2, [iv 0, s_eB true [], s_e_api_Link true []])], []⟩) (APath.fin (by kernel_rfl)) (by kernel_rfl) ?_
  refine vc_seq ?_
  refine vc_reg (S := ⟨[(1, .loc 1 0), (2, .loc 2 0), (3, iv (w64 (1 + (w64 ((Int.tmod a0_.Bridges 6)))))), (4, iv (w64 (2 + (w64 ((Int.tmod a0_.Stations 5)))))), (5, .loc 5 0)], [(1, (c_ref16_Draft a0_)), (2, [iv 0, s_eB true [], s_e_api_Link true []]), (5, [iv (w64 ((w64 (1 + (w64 ((Int.tmod a0_.Bridges 6))))) + (w64 (2 + (w64 ((Int.tmod a0_.Stations 5))))))), s_eB true [], s_e_api_Link true []])], []⟩) (APath.fin (by kernel_rfl)) (by kernel_rfl) ?_
  refine vc_seq ?_
  refine vc_seq ?_
  refine vc_reg (S := ⟨[(1, .loc 1 0), (2, .loc 2 0), (3, iv (w64 (1 + (w64 ((Int.tmod a0_.Bridges 6)))))), (4, iv (w64 (2 + (w64 ((Int.tmod a0_.Stations 5)))))), (5, .loc 5 0), (6, iv 0)], [(1, (c_ref16_Draft a0_)), (2, [iv 0, s_eB true [], s_e_api_Link true []]), (5, [iv (w64 ((w64 (1 + (w64 ((Int.tmod a0_.Bridges 6))))) + (w64 (2 + (w64 ((Int.tmod a0_.Stations 5))))))), s_eB true [], s_e_api_Link true []])], []⟩) (APath.fin (by kernel_rfl)) (by kernel_rfl) ?_
  refine vc_block ?_
  obtain ⟨o511, ho511, h⟩ := bind_some h
  refine vc_loop ((loop_sim (fun (x : Int × (List Bool)) s => ∃ (a1 : AV) (H2 : List HO), s = ⟨[(1, .loc 1 0), (2, .loc 2 0), (3, iv (w64 (1 + (w64 ((Int.tmod a0_.Bridges 6)))))), (4, iv (w64 (2 + (w64 ((Int.tmod a0_.Stations 5)))))), (5, .loc 5 0), (6, iv x.1)], [(1, (c_ref16_Draft a0_)), (2, [iv 0, s_eB true [], s_e_api_Link true []]), (5, [iv (w64 ((w64 (1 + (w64 ((Int.tmod a0_.Bridges 6))))) + (w64 (2 + (w64 ((Int.tmod a0_.Stations 5))))))), a1, s_e_api_Link true []])], H2⟩ ∧ HP H2 [.arr a1 1 false (List.map eB x.2)]) (fun x : Int × (List Bool) => ref16_Draft_Topo_L1 N a0_ x.1 x.2) (fun (p : (List Bool)) e s => e = .exit 0 ∧ (∃ (a505 : AV) (H506 : List HO), s = ⟨[(1, .loc 1 0), (2, .loc 2 0), (3, iv (w64 (1 + (w64 ((Int.tmod a0_.Bridges 6)))))), (4, iv (w64 (2 + (w64 ((Int.tmod a0_.Stations 5)))))), (5, .loc 5 0)], [(1, (c_ref16_Draft a0_)), (2, [iv 0, s_eB true [], s_e_api_Link true []]), (5, [iv (w64 ((w64 (1 + (w64 ((Int.tmod a0_.Bridges 6))))) + (w64 (2 + (w64 ((Int.tmod a0_.Stations 5))))))), a505, s_e_api_Link true []])], H506⟩ ∧ HP H506 [.arr a505 1 false (List.map eB p)])) ?_ N _ o511 _ ho511 ⟨(.p (.sl 1 true [])), [], (by show _ = _; kernel_rfl), (HP.pick (HP.nilArr hH 1 false) [0] rfl)⟩).mono ?_)
  · clear h ho511
    rintro ⟨i3, l4⟩ o s h hR
    obtain ⟨a1, H2, rfl, hH⟩ := hR
    replace hH : HP H2 [.arr a1 1 false (List.map eB l4)] := hH
    have hfa1 := own_form (HP.get hH 0 rfl)
    replace h : ref16_Draft_Topo_L1 N a0_ i3 l4 = some o := h
    unfold ref16_Draft_Topo_L1 at h
    refine vc_seq ?_
    refine vc_seq ?_
    refine vc_reg (S := ⟨[(1, .loc 1 0), (2, .loc 2 0), (3, iv (w64 (1 + (w64 ((Int.tmod a0_.Bridges 6)))))), (4, iv (w64 (2 + (w64 ((Int.tmod a0_.Stations 5)))))), (5, .loc 5 0), (6, iv i3), (28, bv (decide (i3 < (w64 ((w64 (1 + (w64 ((Int.tmod a0_.Bridges 6))))) + (w64 (2 + (w64 ((Int.tmod a0_.Stations 5))))))))))], [(1, (c_ref16_Draft a0_)), (2, [iv 0, s_eB true [], s_e_api_Link true []]), (5, [iv (w64 ((w64 (1 + (w64 ((Int.tmod a0_.Bridges 6))))) + (w64 (2 + (w64 ((Int.tmod a0_.Stations 5))))))), a1, s_e_api_Link true []])], H2⟩) (APath.fin (by rcases hfa1 with ha1e | ⟨_, _, ha1e⟩ <;> subst ha1e <;> kernel_rfl)) (by rcases hfa1 with ha1e | ⟨_, _, ha1e⟩ <;> subst ha1e <;> kernel_rfl) ?_
    refine vc_ite (by kernel_rfl) h (fun hc507 h => ?_) (fun hc507 h => ?_)
    · refine vc_skip ?_
      refine vc_kp ?_
      refine vc_seq ?_
      refine vc_block ?_
      obtain ⟨l510, hl510, h⟩ := bind_some h
      obtain ⟨a508, H509, ha508, hH⟩ := HP.app (k := 0) (a := a1) (sz := 1) (frz := false) eB hH rfl hl510
      replace hH : HP H509 [.arr a508 1 false (List.map eB l510)] := hH
      have hfa508 := own_form (HP.get hH 0 rfl)
      refine vc_reg (S := ⟨[(1, .loc 1 0), (2, .loc 2 0), (3, iv (w64 (1 + (w64 ((Int.tmod a0_.Bridges 6)))))), (4, iv (w64 (2 + (w64 ((Int.tmod a0_.Stations 5)))))), (5, .loc 5 0), (6, iv i3)], [(1, (c_ref16_Draft a0_)), (2, [iv 0, s_eB true [], s_e_api_Link true []]), (5, [iv (w64 ((w64 (1 + (w64 ((Int.tmod a0_.Bridges 6))))) + (w64 (2 + (w64 ((Int.tmod a0_.Stations 5))))))), a508, s_e_api_Link true []])], H509⟩) (APath.chunk 6 (by rcases hfa1 with ha1e | ⟨_, _, ha1e⟩ <;> rcases hfa508 with ha508e | ⟨_, _, ha508e⟩ <;> subst ha1e ha508e <;> kernel_rfl) (APath.one (.app 37 (.t 32) (.t 36) 1 1) (by kernel_rfl) (st_app (H := H2) (a := a1) (b := s_eB true [(decide (i3 ≥ (w64 (1 + (w64 ((Int.tmod a0_.Bridges 6)))))))]) (by rcases hfa1 with ha1e | ⟨_, _, ha1e⟩ <;> rcases hfa508 with ha508e | ⟨_, _, ha508e⟩ <;> subst ha1e ha508e <;> kernel_rfl) (by rcases hfa1 with ha1e | ⟨_, _, ha1e⟩ <;> rcases hfa508 with ha508e | ⟨_, _, ha508e⟩ <;> subst ha1e ha508e <;> kernel_rfl) (by rcases hfa1 with ha1e | ⟨_, _, ha1e⟩ <;> rcases hfa508 with ha508e | ⟨_, _, ha508e⟩ <;> subst ha1e ha508e <;> kernel_rfl) (by rcases hfa1 with ha1e | ⟨_, _, ha1e⟩ <;> rcases hfa508 with ha508e | ⟨_, _, ha508e⟩ <;> subst ha1e ha508e <;> kernel_rfl) ha508) (APath.fin (by rcases hfa1 with ha1e | ⟨_, _, ha1e⟩ <;> rcases hfa508 with ha508e | ⟨_, _, ha508e⟩ <;> subst ha1e ha508e <;> kernel_rfl)))) (by rcases hfa1 with ha1e | ⟨_, _, ha1e⟩ <;> rcases hfa508 with ha508e | ⟨_, _, ha508e⟩ <;> subst ha1e ha508e <;> kernel_rfl) ?_
      refine vc_reg (S := ⟨[(1, .loc 1 0), (2, .loc 2 0), (3, iv (w64 (1 + (w64 ((Int.tmod a0_.Bridges 6)))))), (4, iv (w64 (2 + (w64 ((Int.tmod a0_.Stations 5)))))), (5, .loc 5 0), (6, iv (w64 (i3 + 1)))], [(1, (c_ref16_Draft a0_)), (2, [iv 0, s_eB true [], s_e_api_Link true []]), (5, [iv (w64 ((w64 (1 + (w64 ((Int.tmod a0_.Bridges 6))))) + (w64 (2 + (w64 ((Int.tmod a0_.Stations 5))))))), a508, s_e_api_Link true []])], H509⟩) (APath.fin (by rcases hfa508 with ha508e | ⟨_, _, ha508e⟩ <;> subst ha508e <;> kernel_rfl)) (by rcases hfa508 with ha508e | ⟨_, _, ha508e⟩ <;> subst ha508e <;> kernel_rfl) ?_
      obtain rfl := some_inj h
      exact ⟨_, rfl, ⟨a508, H509, (by show _ = _; rcases hfa508 with ha508e | ⟨_, _, ha508e⟩ <;> subst ha508e <;> kernel_rfl), (HP.pick hH [0] rfl)⟩⟩
    · refine vc_kp ?_
      try show vc _ _ _ _ _
      refine vc_exit ?_
      try show vc _ _ _ _ _
      obtain rfl := some_inj h
      exact ⟨_, rfl, rfl, ⟨a1, H2, (by show _ = _; rcases hfa1 with ha1e | ⟨_, _, ha1e⟩ <;> subst ha1e <;> kernel_rfl), (HP.pick hH [0] rfl)⟩⟩
  · rintro e s hq
    obtain ⟨rfl, hR⟩ := hq
    obtain ⟨a505, H506, rfl, hH⟩ := hR
    replace hH : HP H506 [.arr a505 1 false (List.map eB o511)] := hH
    have hfa505 := own_form (HP.get hH 0 rfl)
    try show vc _ _ _ _ _
    refine vc_seq ?_
    refine vc_seq ?_
    refine vc_reg (S := ⟨[(1, .loc 1 0), (2, .loc 2 0), (3, iv (w64 (1 + (w64 ((Int.tmod a0_.Bridges 6)))))), (4, iv (w64 (2 + (w64 ((Int.tmod a0_.Stations 5)))))), (5, .loc 5 0), (7, iv 1)], [(1, (c_ref16_Draft a0_)), (2, [iv 0, s_eB true [], s_e_api_Link true []]), (5, [iv (w64 ((w64 (1 + (w64 ((Int.tmod a0_.Bridges 6))))) + (w64 (2 + (w64 ((Int.tmod a0_.Stations 5))))))), a505, s_e_api_Link true []])], H506⟩) (APath.fin (by rcases hfa505 with ha505e | ⟨_, _, ha505e⟩ <;> subst ha505e <;> kernel_rfl)) (by rcases hfa505 with ha505e | ⟨_, _, ha505e⟩ <;> subst ha505e <;> kernel_rfl) ?_
    refine vc_block ?_
    obtain ⟨o1027, ho1027, h⟩ := bind_some h
    refine vc_loop ((loop_sim (fun (x : Int × Int × (List Bool) × (List api_Link)) s => ∃ (a512 : AV) (a513 : AV) (H514 : List HO), s = ⟨[(1, .loc 1 0), (2, .loc 2 0), (3, iv (w64 (1 + (w64 ((Int.tmod a0_.Bridges 6)))))), (4, iv (w64 (2 + (w64 ((Int.tmod a0_.Stations 5)))))), (5, .loc 5 0), (7, iv x.1)], [(1, (c_ref16_Draft a0_)), (2, [iv 0, s_eB true [], s_e_api_Link true []]), (5, [iv x.2.1, a512, a513])], H514⟩ ∧ HP H514 [.arr a512 1 true (List.map eB x.2.2.1), .arr a513 4 true (List.map e_api_Link x.2.2.2)]) (fun x : Int × Int × (List Bool) × (List api_Link) => ref16_Draft_Topo_L2 N a0_ x.1 x.2.1 x.2.2.1 x.2.2.2) (fun (p : Int × (List Bool) × (List api_Link)) e s => e = .exit 2 ∧ (∃ (a1019 : AV) (a1020 : AV) (H1021 : List HO), s = ⟨[(1, .loc 1 0), (2, .loc 2 0), (3, iv (w64 (1 + (w64 ((Int.tmod a0_.Bridges 6)))))), (4, iv (w64 (2 + (w64 ((Int.tmod a0_.Stations 5)))))), (5, .loc 5 0)], [(1, (c_ref16_Draft a0_)), (2, [iv 0, s_eB true [], s_e_api_Link true []]), (5, [iv p.1, a1019, a1020])], H1021⟩ ∧ HP H1021 [.arr a1019 1 true (List.map eB p.2.1), .arr a1020 4 true (List.map e_api_Link p.2.2)])) ?_ N _ o1027 _ ho1027 ⟨a505, (.p (.sl 4 true [])), H506, (by show _ = _; rcases hfa505 with ha505e | ⟨_, _, ha505e⟩ <;> subst ha505e <;> kernel_rfl), (HP.frzUp (k := 0) (HP.pick (HP.nilArr hH 4 true) [1, 0] rfl) rfl)⟩).mono ?_)
    · clear h ho1027
      rintro ⟨i515, i516, l517, l518⟩ o s h hR
      obtain ⟨a512, a513, H514, rfl, hH⟩ := hR
      replace hH : HP H514 [.arr a512 1 true (List.map eB l517), .arr a513 4 true (List.map e_api_Link l518)] := hH
      have hfa512 := own_form (HP.get hH 0 rfl)
      have hfa513 := own_form (HP.get hH 1 rfl)
      replace h : ref16_Draft_Topo_L2 N a0_ i515 i516 l517 l518 = some o := h
      unfold ref16_Draft_Topo_L2 at h
      refine vc_seq ?_
      refine vc_seq ?_
      refine vc_reg (S := ⟨[(1, .loc 1 0), (2, .loc 2 0), (3, iv (w64 (1 + (w64 ((Int.tmod a0_.Bridges 6)))))), (4, iv (w64 (2 + (w64 ((Int.tmod a0_.Stations 5)))))), (5, .loc 5 0), (7, iv i515), (41, bv (decide (i515 < (w64 (1 + (w64 ((Int.tmod a0_.Bridges 6))))))))], [(1, (c_ref16_Draft a0_)), (2, [iv 0, s_eB true [], s_e_api_Link true []]), (5, [iv i516, a512, a513])], H514⟩) (APath.fin (by rcases hfa512 with ha512e | ⟨_, _, ha512e⟩ <;> rcases hfa513 with ha513e | ⟨_, _, ha513e⟩ <;> subst ha512e ha513e <;> kernel_rfl)) (by rcases hfa512 with ha512e | ⟨_, _, ha512e⟩ <;> rcases hfa513 with ha513e | ⟨_, _, ha513e⟩ <;> subst ha512e ha513e <;> kernel_rfl) ?_
      refine vc_ite (by kernel_rfl) h (fun hc1022 h => ?_) (fun hc1022 h => ?_)
      · refine vc_skip ?_
        refine vc_kp ?_
        refine vc_seq ?_
        refine vc_block ?_
        obtain ⟨r1023, hr1023, h⟩ := bind_some h
        have hl_a512 := HP.get hH 0 rfl
        have hl_a513 := HP.get hH 1 rfl
        obtain ⟨a1024, a1025, H1026, hvr1023, hpr1023⟩ := ref16_Draft_with_ok N a0_ (api_Topo.mk i516 l517 l518) (w64 (i515 - 1)) i515   a512 a513 H514 (HP.now (HP.pick hH [0, 1] rfl)) r1023 hr1023
        replace hH : HP H1026 [.arr a1024 1 true (List.map eB r1023.Station), .arr a1025 4 true (List.map e_api_Link r1023.Links)] := HP.callee (fp := [.arr a512 1 true (List.map eB l517), .arr a513 4 true (List.map e_api_Link l518)]) (rest := []) (HP.pick hH [0, 1] rfl) hpr1023
        have hfa1024 := own_form (HP.get hH 0 rfl)
        have hfa1025 := own_form (HP.get hH 1 rfl)
        refine vc_reg (S := ⟨[(1, .loc 1 0), (2, .loc 2 0), (3, iv (w64 (1 + (w64 ((Int.tmod a0_.Bridges 6)))))), (4, iv (w64 (2 + (w64 ((Int.tmod a0_.Stations 5)))))), (5, .loc 5 0), (7, iv i515)], [(1, (c_ref16_Draft a0_)), (2, [iv 0, s_eB true [], s_e_api_Link true []]), (5, [iv r1023.Nodes, a1024, a1025])], H1026⟩) (APath.chunk 5 (by rcases hfa1024 with ha1024e | ⟨_, _, ha1024e⟩ <;> rcases hfa1025 with ha1025e | ⟨_, _, ha1025e⟩ <;> rcases hfa512 with ha512e | ⟨_, _, ha512e⟩ <;> rcases hfa513 with ha513e | ⟨_, _, ha513e⟩ <;> subst ha1024e ha1025e ha512e ha513e <;> kernel_rfl) (APath.one (.call (some 49) 64 [.t 44, .t 45, .t 47, .t 48]) (by kernel_rfl) (st_callL (H := H514) (ys := [.agg (c_ref16_Draft a0_), .agg [iv i516, a512, a513], iv (w64 (i515 - 1)), iv i515]) (by rcases hfa1024 with ha1024e | ⟨_, _, ha1024e⟩ <;> rcases hfa1025 with ha1025e | ⟨_, _, ha1025e⟩ <;> rcases hfa512 with ha512e | ⟨_, _, ha512e⟩ <;> rcases hfa513 with ha513e | ⟨_, _, ha513e⟩ <;> subst ha1024e ha1025e ha512e ha513e <;> kernel_rfl) (by rcases hfa1024 with ha1024e | ⟨_, _, ha1024e⟩ <;> rcases hfa1025 with ha1025e | ⟨_, _, ha1025e⟩ <;> rcases hfa512 with ha512e | ⟨_, _, ha512e⟩ <;> rcases hfa513 with ha513e | ⟨_, _, ha513e⟩ <;> subst ha1024e ha1025e ha512e ha513e <;> kernel_rfl) [[], [false, true, true], [], []] (passL_cons (passV_frz rfl) (passL_cons (passV_agg (passC_cons (pass1_frz rfl) (passC_cons (pass1_raw (own_noLoc hl_a512)) (passC_cons (pass1_raw (own_noLoc hl_a513)) passC_nil')))) (passL_cons (passV_frz rfl) (passL_cons (passV_frz rfl) passL_nil')))) hvr1023) (APath.fin (by rcases hfa1024 with ha1024e | ⟨_, _, ha1024e⟩ <;> rcases hfa1025 with ha1025e | ⟨_, _, ha1025e⟩ <;> rcases hfa512 with ha512e | ⟨_, _, ha512e⟩ <;> rcases hfa513 with ha513e | ⟨_, _, ha513e⟩ <;> subst ha1024e ha1025e ha512e ha513e <;> kernel_rfl)))) (by rcases hfa1024 with ha1024e | ⟨_, _, ha1024e⟩ <;> rcases hfa1025 with ha1025e | ⟨_, _, ha1025e⟩ <;> rcases hfa512 with ha512e | ⟨_, _, ha512e⟩ <;> rcases hfa513 with ha513e | ⟨_, _, ha513e⟩ <;> subst ha1024e ha1025e ha512e ha513e <;> kernel_rfl) ?_
        refine vc_reg (S := ⟨[(1, .loc 1 0), (2, .loc 2 0), (3, iv (w64 (1 + (w64 ((Int.tmod a0_.Bridges 6)))))), (4, iv (w64 (2 + (w64 ((Int.tmod a0_.Stations 5)))))), (5, .loc 5 0), (7, iv (w64 (i515 + 1)))], [(1, (c_ref16_Draft a0_)), (2, [iv 0, s_eB true [], s_e_api_Link true []]), (5, [iv r1023.Nodes, a1024, a1025])], H1026⟩) (APath.fin (by rcases hfa1024 with ha1024e | ⟨_, _, ha1024e⟩ <;> rcases hfa1025 with ha1025e | ⟨_, _, ha1025e⟩ <;> subst ha1024e ha1025e <;> kernel_rfl)) (by rcases hfa1024 with ha1024e | ⟨_, _, ha1024e⟩ <;> rcases hfa1025 with ha1025e | ⟨_, _, ha1025e⟩ <;> subst ha1024e ha1025e <;> kernel_rfl) ?_
        obtain rfl := some_inj h
        exact ⟨_, rfl, ⟨a1024, a1025, H1026, (by show _ = _; rcases hfa1024 with ha1024e | ⟨_, _, ha1024e⟩ <;> rcases hfa1025 with ha1025e | ⟨_, _, ha1025e⟩ <;> subst ha1024e ha1025e <;> kernel_rfl), (HP.pick hH [0, 1] rfl)⟩⟩
      · refine vc_kp ?_
        try show vc _ _ _ _ _
        refine vc_exit ?_
        try show vc _ _ _ _ _
        obtain rfl := some_inj h
        exact ⟨_, rfl, rfl, ⟨a512, a513, H514, (by show _ = _; rcases hfa512 with ha512e | ⟨_, _, ha512e⟩ <;> rcases hfa513 with ha513e | ⟨_, _, ha513e⟩ <;> subst ha512e ha513e <;> kernel_rfl), (HP.pick hH [0, 1] rfl)⟩⟩
    · rintro e s hq
      obtain ⟨rfl, hR⟩ := hq
      obtain ⟨a1019, a1020, H1021, rfl, hH⟩ := hR
      replace hH : HP H1021 [.arr a1019 1 true (List.map eB o1027.2.1), .arr a1020 4 true (List.map e_api_Link o1027.2.2)] := hH
      have hfa1019 := own_form (HP.get hH 0 rfl)
      have hfa1020 := own_form (HP.get hH 1 rfl)
      try show vc _ _ _ _ _
      refine vc_seq ?_
      refine vc_seq ?_
      refine vc_reg (S := ⟨[(1, .loc 1 0), (2, .loc 2 0), (3, iv (w64 (1 + (w64 ((Int.tmod a0_.Bridges 6)))))), (4, iv (w64 (2 + (w64 ((Int.tmod a0_.Stations 5)))))), (5, .loc 5 0), (8, iv 0)], [(1, (c_ref16_Draft a0_)), (2, [iv 0, s_eB true [], s_e_api_Link true []]), (5, [iv o1027.1, a1019, a1020])], H1021⟩) (APath.fin (by rcases hfa1019 with ha1019e | ⟨_, _, ha1019e⟩ <;> rcases hfa1020 with ha1020e | ⟨_, _, ha1020e⟩ <;> subst ha1019e ha1020e <;> kernel_rfl)) (by rcases hfa1019 with ha1019e | ⟨_, _, ha1019e⟩ <;> rcases hfa1020 with ha1020e | ⟨_, _, ha1020e⟩ <;> subst ha1019e ha1020e <;> kernel_rfl) ?_
      refine vc_block ?_
      obtain ⟨o1545, ho1545, h⟩ := bind_some h
      refine vc_loop ((loop_sim (fun (x : Int × Int × (List Bool) × (List api_Link)) s => ∃ (a1028 : AV) (a1029 : AV) (H1030 : List HO), s = ⟨[(1, .loc 1 0), (2, .loc 2 0), (3, iv (w64 (1 + (w64 ((Int.tmod a0_.Bridges 6)))))), (4, iv (w64 (2 + (w64 ((Int.tmod a0_.Stations 5)))))), (5, .loc 5 0), (8, iv x.1)], [(1, (c_ref16_Draft a0_)), (2, [iv 0, s_eB true [], s_e_api_Link true []]), (5, [iv x.2.1, a1028, a1029])], H1030⟩ ∧ HP H1030 [.arr a1028 1 true (List.map eB x.2.2.1), .arr a1029 4 true (List.map e_api_Link x.2.2.2)]) (fun x : Int × Int × (List Bool) × (List api_Link) => ref16_Draft_Topo_L3 N a0_ x.1 x.2.1 x.2.2.1 x.2.2.2) (fun (p : Int × (List Bool) × (List api_Link)) e s => e = .exit 4 ∧ (∃ (a1535 : AV) (a1536 : AV) (H1537 : List HO), s = ⟨[(1, .loc 1 0), (2, .loc 2 0), (3, iv (w64 (1 + (w64 ((Int.tmod a0_.Bridges 6)))))), (4, iv (w64 (2 + (w64 ((Int.tmod a0_.Stations 5)))))), (5, .loc 5 0)], [(1, (c_ref16_Draft a0_)), (2, [iv 0, s_eB true [], s_e_api_Link true []]), (5, [iv p.1, a1535, a1536])], H1537⟩ ∧ HP H1537 [.arr a1535 1 true (List.map eB p.2.1), .arr a1536 4 true (List.map e_api_Link p.2.2)])) ?_ N _ o1545 _ ho1545 ⟨a1019, a1020, H1021, (by show _ = _; rcases hfa1019 with ha1019e | ⟨_, _, ha1019e⟩ <;> rcases hfa1020 with ha1020e | ⟨_, _, ha1020e⟩ <;> subst ha1019e ha1020e <;> kernel_rfl), (HP.pick hH [0, 1] rfl)⟩).mono ?_)
      · clear h ho1545
        rintro ⟨i1031, i1032, l1033, l1034⟩ o s h hR
        obtain ⟨a1028, a1029, H1030, rfl, hH⟩ := hR
        replace hH : HP H1030 [.arr a1028 1 true (List.map eB l1033), .arr a1029 4 true (List.map e_api_Link l1034)] := hH
        have hfa1028 := own_form (HP.get hH 0 rfl)
        have hfa1029 := own_form (HP.get hH 1 rfl)
        replace h : ref16_Draft_Topo_L3 N a0_ i1031 i1032 l1033 l1034 = some o := h
        unfold ref16_Draft_Topo_L3 at h
        refine vc_seq ?_
        refine vc_seq ?_
        refine vc_reg (S := ⟨[(1, .loc 1 0), (2, .loc 2 0), (3, iv (w64 (1 + (w64 ((Int.tmod a0_.Bridges 6)))))), (4, iv (w64 (2 + (w64 ((Int.tmod a0_.Stations 5)))))), (5, .loc 5 0), (8, iv i1031), (52, bv (decide (i1031 < (w64 (2 + (w64 ((Int.tmod a0_.Stations 5))))))))], [(1, (c_ref16_Draft a0_)), (2, [iv 0, s_eB true [], s_e_api_Link true []]), (5, [iv i1032, a1028, a1029])], H1030⟩) (APath.fin (by rcases hfa1028 with ha1028e | ⟨_, _, ha1028e⟩ <;> rcases hfa1029 with ha1029e | ⟨_, _, ha1029e⟩ <;> subst ha1028e ha1029e <;> kernel_rfl)) (by rcases hfa1028 with ha1028e | ⟨_, _, ha1028e⟩ <;> rcases hfa1029 with ha1029e | ⟨_, _, ha1029e⟩ <;> subst ha1028e ha1029e <;> kernel_rfl) ?_
        refine vc_ite (by kernel_rfl) h (fun hc1538 h => ?_) (fun hc1538 h => ?_)
        · refine vc_skip ?_
          refine vc_kp ?_
          refine vc_seq ?_
          refine vc_block ?_
          obtain ⟨r1539, hr1539, h⟩ := bind_some h
          obtain ⟨m1540, hm1540, h⟩ := bind_some h
          obtain ⟨r1541, hr1541, h⟩ := bind_some h
          have hl_a1028 := HP.get hH 0 rfl
          have hl_a1029 := HP.get hH 1 rfl
          obtain ⟨a1542, a1543, H1544, hvr1541, hpr1541⟩ := ref16_Draft_with_ok N a0_ (api_Topo.mk i1032 l1033 l1034) (w64 ((w64 (1 + (w64 ((Int.tmod a0_.Bridges 6))))) + i1031)) m1540   a1028 a1029 H1030 (HP.now (HP.pick hH [0, 1] rfl)) r1541 hr1541
          replace hH : HP H1544 [.arr a1542 1 true (List.map eB r1541.Station), .arr a1543 4 true (List.map e_api_Link r1541.Links)] := HP.callee (fp := [.arr a1028 1 true (List.map eB l1033), .arr a1029 4 true (List.map e_api_Link l1034)]) (rest := []) (HP.pick hH [0, 1] rfl) hpr1541
          have hfa1542 := own_form (HP.get hH 0 rfl)
          have hfa1543 := own_form (HP.get hH 1 rfl)
          refine vc_regD (S := ⟨[(1, .loc 1 0), (2, .loc 2 0), (3, iv (w64 (1 + (w64 ((Int.tmod a0_.Bridges 6)))))), (4, iv (w64 (2 + (w64 ((Int.tmod a0_.Stations 5)))))), (5, .loc 5 0), (8, iv i1031)], [(1, (c_ref16_Draft a0_)), (2, [iv 0, s_eB true [], s_e_api_Link true []]), (5, [iv r1541.Nodes, a1542, a1543])], H1544⟩) (by rcases hfa1028 with ha1028e | ⟨_, _, ha1028e⟩ <;> rcases hfa1029 with ha1029e | ⟨_, _, ha1029e⟩ <;> subst ha1028e ha1029e <;> kernel_rfl) (APath.chunk 9 (by rcases hfa1028 with ha1028e | ⟨_, _, ha1028e⟩ <;> rcases hfa1029 with ha1029e | ⟨_, _, ha1029e⟩ <;> rcases hfa1542 with ha1542e | ⟨_, _, ha1542e⟩ <;> rcases hfa1543 with ha1543e | ⟨_, _, ha1543e⟩ <;> subst ha1028e ha1029e ha1542e ha1543e <;> kernel_rfl) (APath.one (.callP 64 65 [.t 61, .t 63]) (by kernel_rfl) (st_callP (by rcases hfa1028 with ha1028e | ⟨_, _, ha1028e⟩ <;> rcases hfa1029 with ha1029e | ⟨_, _, ha1029e⟩ <;> rcases hfa1542 with ha1542e | ⟨_, _, ha1542e⟩ <;> rcases hfa1543 with ha1543e | ⟨_, _, ha1543e⟩ <;> subst ha1028e ha1029e ha1542e ha1543e <;> kernel_rfl) (ref16_pick_ok N a0_.Homes (w64 (2 * i1031)) r1539 hr1539)) (APath.chunk 1 (by rcases hfa1028 with ha1028e | ⟨_, _, ha1028e⟩ <;> rcases hfa1029 with ha1029e | ⟨_, _, ha1029e⟩ <;> rcases hfa1542 with ha1542e | ⟨_, _, ha1542e⟩ <;> rcases hfa1543 with ha1543e | ⟨_, _, ha1543e⟩ <;> subst ha1028e ha1029e ha1542e ha1543e <;> kernel_rfl) (APath.one (.val 66 (.bin .rem) [.t 64, .t 65]) (by kernel_rfl) (st_val (ys := [iv r1539, iv (w64 (1 + (w64 ((Int.tmod a0_.Bridges 6)))))]) (by rcases hfa1028 with ha1028e | ⟨_, _, ha1028e⟩ <;> rcases hfa1029 with ha1029e | ⟨_, _, ha1029e⟩ <;> rcases hfa1542 with ha1542e | ⟨_, _, ha1542e⟩ <;> rcases hfa1543 with ha1543e | ⟨_, _, ha1543e⟩ <;> subst ha1028e ha1029e ha1542e ha1543e <;> kernel_rfl) (vexec_rem hm1540)) (APath.one (.call (some 67) 64 [.t 55, .t 56, .t 59, .t 66]) (by kernel_rfl) (st_callL (H := H1030) (ys := [.agg (c_ref16_Draft a0_), .agg [iv i1032, a1028, a1029], iv (w64 ((w64 (1 + (w64 ((Int.tmod a0_.Bridges 6))))) + i1031)), iv m1540]) (by rcases hfa1028 with ha1028e | ⟨_, _, ha1028e⟩ <;> rcases hfa1029 with ha1029e | ⟨_, _, ha1029e⟩ <;> rcases hfa1542 with ha1542e | ⟨_, _, ha1542e⟩ <;> rcases hfa1543 with ha1543e | ⟨_, _, ha1543e⟩ <;> subst ha1028e ha1029e ha1542e ha1543e <;> kernel_rfl) (by rcases hfa1028 with ha1028e | ⟨_, _, ha1028e⟩ <;> rcases hfa1029 with ha1029e | ⟨_, _, ha1029e⟩ <;> rcases hfa1542 with ha1542e | ⟨_, _, ha1542e⟩ <;> rcases hfa1543 with ha1543e | ⟨_, _, ha1543e⟩ <;> subst ha1028e ha1029e ha1542e ha1543e <;> kernel_rfl) [[], [false, true, true], [], []] (passL_cons (passV_frz rfl) (passL_cons (passV_agg (passC_cons (pass1_frz rfl) (passC_cons (pass1_raw (own_noLoc hl_a1028)) (passC_cons (pass1_raw (own_noLoc hl_a1029)) passC_nil')))) (passL_cons (passV_frz rfl) (passL_cons (passV_frz rfl) passL_nil')))) hvr1541) (APath.fin (by rcases hfa1028 with ha1028e | ⟨_, _, ha1028e⟩ <;> rcases hfa1029 with ha1029e | ⟨_, _, ha1029e⟩ <;> rcases hfa1542 with ha1542e | ⟨_, _, ha1542e⟩ <;> rcases hfa1543 with ha1543e | ⟨_, _, ha1543e⟩ <;> subst ha1028e ha1029e ha1542e ha1543e <;> kernel_rfl))))))) (by rcases hfa1028 with ha1028e | ⟨_, _, ha1028e⟩ <;> rcases hfa1029 with ha1029e | ⟨_, _, ha1029e⟩ <;> rcases hfa1542 with ha1542e | ⟨_, _, ha1542e⟩ <;> rcases hfa1543 with ha1543e | ⟨_, _, ha1543e⟩ <;> subst ha1028e ha1029e ha1542e ha1543e <;> kernel_rfl) ?_
          refine vc_reg (S := ⟨[(1, .loc 1 0), (2, .loc 2 0), (3, iv (w64 (1 + (w64 ((Int.tmod a0_.Bridges 6)))))), (4, iv (w64 (2 + (w64 ((Int.tmod a0_.Stations 5)))))), (5, .loc 5 0), (8, iv (w64 (i1031 + 1)))], [(1, (c_ref16_Draft a0_)), (2, [iv 0, s_eB true [], s_e_api_Link true []]), (5, [iv r1541.Nodes, a1542, a1543])], H1544⟩) (APath.fin (by rcases hfa1542 with ha1542e | ⟨_, _, ha1542e⟩ <;> rcases hfa1543 with ha1543e | ⟨_, _, ha1543e⟩ <;> subst ha1542e ha1543e <;> kernel_rfl)) (by rcases hfa1542 with ha1542e | ⟨_, _, ha1542e⟩ <;> rcases hfa1543 with ha1543e | ⟨_, _, ha1543e⟩ <;> subst ha1542e ha1543e <;> kernel_rfl) ?_
          obtain rfl := some_inj h
          exact ⟨_, rfl, ⟨a1542, a1543, H1544, (by show _ = _; rcases hfa1542 with ha1542e | ⟨_, _, ha1542e⟩ <;> rcases hfa1543 with ha1543e | ⟨_, _, ha1543e⟩ <;> subst ha1542e ha1543e <;> kernel_rfl), (HP.pick hH [0, 1] rfl)⟩⟩
        · refine vc_kp ?_
          try show vc _ _ _ _ _
          refine vc_exit ?_
          try show vc _ _ _ _ _
          obtain rfl := some_inj h
          exact ⟨_, rfl, rfl, ⟨a1028, a1029, H1030, (by show _ = _; rcases hfa1028 with ha1028e | ⟨_, _, ha1028e⟩ <;> rcases hfa1029 with ha1029e | ⟨_, _, ha1029e⟩ <;> subst ha1028e ha1029e <;> kernel_rfl), (HP.pick hH [0, 1] rfl)⟩⟩
      · rintro e s hq
        obtain ⟨rfl, hR⟩ := hq
        obtain ⟨a1535, a1536, H1537, rfl, hH⟩ := hR
        replace hH : HP H1537 [.arr a1535 1 true (List.map eB o1545.2.1), .arr a1536 4 true (List.map e_api_Link o1545.2.2)] := hH
        have hfa1535 := own_form (HP.get hH 0 rfl)
        have hfa1536 := own_form (HP.get hH 1 rfl)
        try show vc _ _ _ _ _
        obtain ⟨j2049, hj2049, h⟩ := bind_some h
        refine vc_joinK [1, 2, 3, 4, 5] (fun s => ∃ (a2046 : AV) (a2047 : AV) (H2048 : List HO), s = ⟨[(1, .loc 1 0), (2, .loc 2 0), (3, iv (w64 (1 + (w64 ((Int.tmod a0_.Bridges 6)))))), (4, iv (w64 (2 + (w64 ((Int.tmod a0_.Stations 5)))))), (5, .loc 5 0)], [(1, (c_ref16_Draft a0_)), (2, [iv 0, s_eB true [], s_e_api_Link true []]), (5, [iv j2049.1, a2046, a2047])], H2048⟩ ∧ HP H2048 [.arr a2046 1 true (List.map eB j2049.2.1), .arr a2047 4 true (List.map e_api_Link j2049.2.2)]) ?_ ?_
        · clear h
          have h := hj2049
          refine vc_seq ?_
          refine vc_regX ⟨[(1, .loc 1 0), (2, .loc 2 0), (3, iv (w64 (1 + (w64 ((Int.tmod a0_.Bridges 6)))))), (4, iv (w64 (2 + (w64 ((Int.tmod a0_.Stations 5)))))), (5, .loc 5 0), (75, bv ((decide ((w64 (1 + (w64 ((Int.tmod a0_.Bridges 6))))) > 2)) && ((Int.tmod a0_.Bridges 2) == 0)))], [(1, (c_ref16_Draft a0_)), (2, [iv 0, s_eB true [], s_e_api_Link true []]), (5, [iv o1545.1, a1535, a1536])], H1537⟩ ?_ ?_
          · rcases Bool.eq_false_or_eq_true (decide ((w64 (1 + (w64 ((Int.tmod a0_.Bridges 6))))) > 2)) with hc2050 | hc2051
            · exact ⟨_, (APath.chunk 1 (by rcases hfa1535 with ha1535e | ⟨_, _, ha1535e⟩ <;> rcases hfa1536 with ha1536e | ⟨_, _, ha1536e⟩ <;> subst ha1535e ha1536e <;> kernel_rfl) (APath.one (.val 69 (.bin .gtr) [.t 68, .k (.p (.int .i64 2))]) (by kernel_rfl) (st_bool (c := (decide ((w64 (1 + (w64 ((Int.tmod a0_.Bridges 6))))) > 2))) (by rcases hfa1535 with ha1535e | ⟨_, _, ha1535e⟩ <;> rcases hfa1536 with ha1536e | ⟨_, _, ha1536e⟩ <;> subst ha1535e ha1536e <;> kernel_rfl) hc2050) (APath.fin (by rcases hfa1535 with ha1535e | ⟨_, _, ha1535e⟩ <;> rcases hfa1536 with ha1536e | ⟨_, _, ha1536e⟩ <;> subst ha1535e ha1536e <;> kernel_rfl)))), by simp only [hc2050]; rcases hfa1535 with ha1535e | ⟨_, _, ha1535e⟩ <;> rcases hfa1536 with ha1536e | ⟨_, _, ha1536e⟩ <;> subst ha1535e ha1536e <;> kernel_rfl⟩
            · exact ⟨_, (APath.chunk 1 (by rcases hfa1535 with ha1535e | ⟨_, _, ha1535e⟩ <;> rcases hfa1536 with ha1536e | ⟨_, _, ha1536e⟩ <;> subst ha1535e ha1536e <;> kernel_rfl) (APath.one (.val 69 (.bin .gtr) [.t 68, .k (.p (.int .i64 2))]) (by kernel_rfl) (st_bool (c := (decide ((w64 (1 + (w64 ((Int.tmod a0_.Bridges 6))))) > 2))) (by rcases hfa1535 with ha1535e | ⟨_, _, ha1535e⟩ <;> rcases hfa1536 with ha1536e | ⟨_, _, ha1536e⟩ <;> subst ha1535e ha1536e <;> kernel_rfl) hc2051) (APath.fin (by rcases hfa1535 with ha1535e | ⟨_, _, ha1535e⟩ <;> rcases hfa1536 with ha1536e | ⟨_, _, ha1536e⟩ <;> subst ha1535e ha1536e <;> kernel_rfl)))), by simp only [hc2051]; rcases hfa1535 with ha1535e | ⟨_, _, ha1535e⟩ <;> rcases hfa1536 with ha1536e | ⟨_, _, ha1536e⟩ <;> subst ha1535e ha1536e <;> kernel_rfl⟩
          · refine vc_ite (by kernel_rfl) h (fun hc2052 h => ?_) (fun hc2052 h => ?_)
            · obtain ⟨r2053, hr2053, h⟩ := bind_some h
              have hl_a1535 := HP.get hH 0 rfl
              have hl_a1536 := HP.get hH 1 rfl
              obtain ⟨a2054, a2055, H2056, hvr2053, hpr2053⟩ := ref16_Draft_with_ok N a0_ (api_Topo.mk o1545.1 o1545.2.1 o1545.2.2) (w64 ((w64 (1 + (w64 ((Int.tmod a0_.Bridges 6))))) - 1)) 0   a1535 a1536 H1537 (HP.now (HP.pick hH [0, 1] rfl)) r2053 hr2053
              replace hH : HP H2056 [.arr a2054 1 true (List.map eB r2053.Station), .arr a2055 4 true (List.map e_api_Link r2053.Links)] := HP.callee (fp := [.arr a1535 1 true (List.map eB o1545.2.1), .arr a1536 4 true (List.map e_api_Link o1545.2.2)]) (rest := []) (HP.pick hH [0, 1] rfl) hpr2053
              have hfa2054 := own_form (HP.get hH 0 rfl)
              have hfa2055 := own_form (HP.get hH 1 rfl)
              refine vc_reg (S := ⟨[(1, .loc 1 0), (2, .loc 2 0), (3, iv (w64 (1 + (w64 ((Int.tmod a0_.Bridges 6)))))), (4, iv (w64 (2 + (w64 ((Int.tmod a0_.Stations 5)))))), (5, .loc 5 0)], [(1, (c_ref16_Draft a0_)), (2, [iv 0, s_eB true [], s_e_api_Link true []]), (5, [iv r2053.Nodes, a2054, a2055])], H2056⟩) (APath.chunk 4 (by rcases hfa1535 with ha1535e | ⟨_, _, ha1535e⟩ <;> rcases hfa1536 with ha1536e | ⟨_, _, ha1536e⟩ <;> rcases hfa2054 with ha2054e | ⟨_, _, ha2054e⟩ <;> rcases hfa2055 with ha2055e | ⟨_, _, ha2055e⟩ <;> subst ha1535e ha1536e ha2054e ha2055e <;> kernel_rfl) (APath.one (.call (some 80) 64 [.t 76, .t 77, .t 79, .k (.p (.int .i64 0))]) (by kernel_rfl) (st_callL (H := H1537) (ys := [.agg (c_ref16_Draft a0_), .agg [iv o1545.1, a1535, a1536], iv (w64 ((w64 (1 + (w64 ((Int.tmod a0_.Bridges 6))))) - 1)), iv 0]) (by rcases hfa1535 with ha1535e | ⟨_, _, ha1535e⟩ <;> rcases hfa1536 with ha1536e | ⟨_, _, ha1536e⟩ <;> rcases hfa2054 with ha2054e | ⟨_, _, ha2054e⟩ <;> rcases hfa2055 with ha2055e | ⟨_, _, ha2055e⟩ <;> subst ha1535e ha1536e ha2054e ha2055e <;> kernel_rfl) (by rcases hfa1535 with ha1535e | ⟨_, _, ha1535e⟩ <;> rcases hfa1536 with ha1536e | ⟨_, _, ha1536e⟩ <;> rcases hfa2054 with ha2054e | ⟨_, _, ha2054e⟩ <;> rcases hfa2055 with ha2055e | ⟨_, _, ha2055e⟩ <;> subst ha1535e ha1536e ha2054e ha2055e <;> kernel_rfl) [[], [false, true, true], [], []] (passL_cons (passV_frz rfl) (passL_cons (passV_agg (passC_cons (pass1_frz rfl) (passC_cons (pass1_raw (own_noLoc hl_a1535)) (passC_cons (pass1_raw (own_noLoc hl_a1536)) passC_nil')))) (passL_cons (passV_frz rfl) (passL_cons (passV_frz rfl) passL_nil')))) hvr2053) (APath.fin (by rcases hfa1535 with ha1535e | ⟨_, _, ha1535e⟩ <;> rcases hfa1536 with ha1536e | ⟨_, _, ha1536e⟩ <;> rcases hfa2054 with ha2054e | ⟨_, _, ha2054e⟩ <;> rcases hfa2055 with ha2055e | ⟨_, _, ha2055e⟩ <;> subst ha1535e ha1536e ha2054e ha2055e <;> kernel_rfl)))) (by rcases hfa1535 with ha1535e | ⟨_, _, ha1535e⟩ <;> rcases hfa1536 with ha1536e | ⟨_, _, ha1536e⟩ <;> rcases hfa2054 with ha2054e | ⟨_, _, ha2054e⟩ <;> rcases hfa2055 with ha2055e | ⟨_, _, ha2055e⟩ <;> subst ha1535e ha1536e ha2054e ha2055e <;> kernel_rfl) ?_
              obtain rfl := some_inj h
              exact ⟨rfl, ⟨a2054, a2055, H2056, (by show _ = _; rcases hfa2054 with ha2054e | ⟨_, _, ha2054e⟩ <;> rcases hfa2055 with ha2055e | ⟨_, _, ha2055e⟩ <;> subst ha2054e ha2055e <;> kernel_rfl), (HP.pick hH [0, 1] rfl)⟩⟩
            · refine vc_skip ?_
              obtain rfl := some_inj h
              exact ⟨rfl, ⟨a1535, a1536, H1537, (by show _ = _; rcases hfa1535 with ha1535e | ⟨_, _, ha1535e⟩ <;> rcases hfa1536 with ha1536e | ⟨_, _, ha1536e⟩ <;> subst ha1535e ha1536e <;> kernel_rfl), (HP.pick hH [0, 1] rfl)⟩⟩
        · clear hj2049
          rintro s hR
          obtain ⟨a2046, a2047, H2048, rfl, hH⟩ := hR
          replace hH : HP H2048 [.arr a2046 1 true (List.map eB j2049.2.1), .arr a2047 4 true (List.map e_api_Link j2049.2.2)] := hH
          have hfa2046 := own_form (HP.get hH 0 rfl)
          have hfa2047 := own_form (HP.get hH 1 rfl)
          refine vc_seq ?_
          refine vc_seq ?_
          refine vc_reg (S := ⟨[(1, .loc 1 0), (2, .loc 2 0), (3, iv (w64 (1 + (w64 ((Int.tmod a0_.Bridges 6)))))), (4, iv (w64 (2 + (w64 ((Int.tmod a0_.Stations 5)))))), (5, .loc 5 0), (9, iv 0)], [(1, (c_ref16_Draft a0_)), (2, [iv 0, s_eB true [], s_e_api_Link true []]), (5, [iv j2049.1, a2046, a2047])], H2048⟩) (APath.fin (by rcases hfa2046 with ha2046e | ⟨_, _, ha2046e⟩ <;> rcases hfa2047 with ha2047e | ⟨_, _, ha2047e⟩ <;> subst ha2046e ha2047e <;> kernel_rfl)) (by rcases hfa2046 with ha2046e | ⟨_, _, ha2046e⟩ <;> rcases hfa2047 with ha2047e | ⟨_, _, ha2047e⟩ <;> subst ha2046e ha2047e <;> kernel_rfl) ?_
          refine vc_block ?_
          obtain ⟨o3080, ho3080, h⟩ := bind_some h
          refine vc_loop ((loop_sim (fun (x : Int × Int × (List Bool) × (List api_Link)) s => ∃ (a2057 : AV) (a2058 : AV) (H2059 : List HO), s = ⟨[(1, .loc 1 0), (2, .loc 2 0), (3, iv (w64 (1 + (w64 ((Int.tmod a0_.Bridges 6)))))), (4, iv (w64 (2 + (w64 ((Int.tmod a0_.Stations 5)))))), (5, .loc 5 0), (9, iv x.1)], [(1, (c_ref16_Draft a0_)), (2, [iv 0, s_eB true [], s_e_api_Link true []]), (5, [iv x.2.1, a2057, a2058])], H2059⟩ ∧ HP H2059 [.arr a2057 1 true (List.map eB x.2.2.1), .arr a2058 4 true (List.map e_api_Link x.2.2.2)]) (fun x : Int × Int × (List Bool) × (List api_Link) => ref16_Draft_Topo_L4 N a0_ x.1 x.2.1 x.2.2.1 x.2.2.2) (fun (p : Int × (List Bool) × (List api_Link)) e s => e = .exit 6 ∧ (∃ (a2564 : AV) (a2565 : AV) (H2566 : List HO), s = ⟨[(1, .loc 1 0), (2, .loc 2 0), (3, iv (w64 (1 + (w64 ((Int.tmod a0_.Bridges 6)))))), (5, .loc 5 0)], [(1, (c_ref16_Draft a0_)), (2, [iv 0, s_eB true [], s_e_api_Link true []]), (5, [iv p.1, a2564, a2565])], H2566⟩ ∧ HP H2566 [.arr a2564 1 true (List.map eB p.2.1), .arr a2565 4 true (List.map e_api_Link p.2.2)])) ?_ N _ o3080 _ ho3080 ⟨a2046, a2047, H2048, (by show _ = _; rcases hfa2046 with ha2046e | ⟨_, _, ha2046e⟩ <;> rcases hfa2047 with ha2047e | ⟨_, _, ha2047e⟩ <;> subst ha2046e ha2047e <;> kernel_rfl), (HP.pick hH [0, 1] rfl)⟩).mono ?_)
          · clear h ho3080
            rintro ⟨i2060, i2061, l2062, l2063⟩ o s h hR
            obtain ⟨a2057, a2058, H2059, rfl, hH⟩ := hR
            replace hH : HP H2059 [.arr a2057 1 true (List.map eB l2062), .arr a2058 4 true (List.map e_api_Link l2063)] := hH
            have hfa2057 := own_form (HP.get hH 0 rfl)
            have hfa2058 := own_form (HP.get hH 1 rfl)
            replace h : ref16_Draft_Topo_L4 N a0_ i2060 i2061 l2062 l2063 = some o := h
            unfold ref16_Draft_Topo_L4 at h
            refine vc_seq ?_
            refine vc_seq ?_
            refine vc_reg (S := ⟨[(1, .loc 1 0), (2, .loc 2 0), (3, iv (w64 (1 + (w64 ((Int.tmod a0_.Bridges 6)))))), (4, iv (w64 (2 + (w64 ((Int.tmod a0_.Stations 5)))))), (5, .loc 5 0), (9, iv i2060), (83, bv (decide (i2060 < (w64 (2 + (w64 ((Int.tmod a0_.Stations 5))))))))], [(1, (c_ref16_Draft a0_)), (2, [iv 0, s_eB true [], s_e_api_Link true []]), (5, [iv i2061, a2057, a2058])], H2059⟩) (APath.fin (by rcases hfa2057 with ha2057e | ⟨_, _, ha2057e⟩ <;> rcases hfa2058 with ha2058e | ⟨_, _, ha2058e⟩ <;> subst ha2057e ha2058e <;> kernel_rfl)) (by rcases hfa2057 with ha2057e | ⟨_, _, ha2057e⟩ <;> rcases hfa2058 with ha2058e | ⟨_, _, ha2058e⟩ <;> subst ha2057e ha2058e <;> kernel_rfl) ?_
            refine vc_ite (by kernel_rfl) h (fun hc2567 h => ?_) (fun hc2567 h => ?_)
            · refine vc_skip ?_
              refine vc_kp ?_
              obtain ⟨j3071, hj3071, h⟩ := bind_some h
              refine vc_joinK [1, 2, 3, 4, 5, 9] (fun s => ∃ (a3068 : AV) (a3069 : AV) (H3070 : List HO), s = ⟨[(1, .loc 1 0), (2, .loc 2 0), (3, iv (w64 (1 + (w64 ((Int.tmod a0_.Bridges 6)))))), (4, iv (w64 (2 + (w64 ((Int.tmod a0_.Stations 5)))))), (5, .loc 5 0), (9, iv i2060)], [(1, (c_ref16_Draft a0_)), (2, [iv 0, s_eB true [], s_e_api_Link true []]), (5, [iv j3071.1, a3068, a3069])], H3070⟩ ∧ HP H3070 [.arr a3068 1 true (List.map eB j3071.2.1), .arr a3069 4 true (List.map e_api_Link j3071.2.2)]) ?_ ?_
              · clear h
                have h := hj3071
                refine vc_block ?_
                refine vc_seq ?_
                obtain ⟨r3072, hr3072, h⟩ := bind_some h
                refine vc_reg (S := ⟨[(1, .loc 1 0), (2, .loc 2 0), (3, iv (w64 (1 + (w64 ((Int.tmod a0_.Bridges 6)))))), (4, iv (w64 (2 + (w64 ((Int.tmod a0_.Stations 5)))))), (5, .loc 5 0), (9, iv i2060), (93, bv (decide ((Int.tmod r3072 3) > 0)))], [(1, (c_ref16_Draft a0_)), (2, [iv 0, s_eB true [], s_e_api_Link true []]), (5, [iv i2061, a2057, a2058])], H2059⟩) (APath.chunk 5 (by rcases hfa2057 with ha2057e | ⟨_, _, ha2057e⟩ <;> rcases hfa2058 with ha2058e | ⟨_, _, ha2058e⟩ <;> subst ha2057e ha2058e <;> kernel_rfl) (APath.one (.call (some 91) 65 [.t 87, .t 90]) (by kernel_rfl) (st_call (by rcases hfa2057 with ha2057e | ⟨_, _, ha2057e⟩ <;> rcases hfa2058 with ha2058e | ⟨_, _, ha2058e⟩ <;> subst ha2057e ha2058e <;> kernel_rfl) (ref16_pick_ok N a0_.Homes (w64 ((w64 (2 * i2060)) + 1)) r3072 hr3072)) (APath.fin (by rcases hfa2057 with ha2057e | ⟨_, _, ha2057e⟩ <;> rcases hfa2058 with ha2058e | ⟨_, _, ha2058e⟩ <;> subst ha2057e ha2058e <;> kernel_rfl)))) (by rcases hfa2057 with ha2057e | ⟨_, _, ha2057e⟩ <;> rcases hfa2058 with ha2058e | ⟨_, _, ha2058e⟩ <;> subst ha2057e ha2058e <;> kernel_rfl) ?_
                refine vc_ite (by kernel_rfl) h (fun hc3073 h => ?_) (fun hc3073 h => ?_)
                · obtain ⟨r3074, hr3074, h⟩ := bind_some h
                  obtain ⟨m3075, hm3075, h⟩ := bind_some h
                  obtain ⟨r3076, hr3076, h⟩ := bind_some h
                  have hl_a2057 := HP.get hH 0 rfl
                  have hl_a2058 := HP.get hH 1 rfl
                  obtain ⟨a3077, a3078, H3079, hvr3076, hpr3076⟩ := ref16_Draft_with_ok N a0_ (api_Topo.mk i2061 l2062 l2063) (w64 ((w64 (1 + (w64 ((Int.tmod a0_.Bridges 6))))) + i2060)) m3075   a2057 a2058 H2059 (HP.now (HP.pick hH [0, 1] rfl)) r3076 hr3076
                  replace hH : HP H3079 [.arr a3077 1 true (List.map eB r3076.Station), .arr a3078 4 true (List.map e_api_Link r3076.Links)] := HP.callee (fp := [.arr a2057 1 true (List.map eB l2062), .arr a2058 4 true (List.map e_api_Link l2063)]) (rest := []) (HP.pick hH [0, 1] rfl) hpr3076
                  have hfa3077 := own_form (HP.get hH 0 rfl)
                  have hfa3078 := own_form (HP.get hH 1 rfl)
                  refine vc_regD (S := ⟨[(1, .loc 1 0), (2, .loc 2 0), (3, iv (w64 (1 + (w64 ((Int.tmod a0_.Bridges 6)))))), (4, iv (w64 (2 + (w64 ((Int.tmod a0_.Stations 5)))))), (5, .loc 5 0), (9, iv i2060)], [(1, (c_ref16_Draft a0_)), (2, [iv 0, s_eB true [], s_e_api_Link true []]), (5, [iv r3076.Nodes, a3077, a3078])], H3079⟩) (by rcases hfa2057 with ha2057e | ⟨_, _, ha2057e⟩ <;> rcases hfa2058 with ha2058e | ⟨_, _, ha2058e⟩ <;> subst ha2057e ha2058e <;> kernel_rfl) (APath.chunk 10 (by rcases hfa2057 with ha2057e | ⟨_, _, ha2057e⟩ <;> rcases hfa2058 with ha2058e | ⟨_, _, ha2058e⟩ <;> rcases hfa3077 with ha3077e | ⟨_, _, ha3077e⟩ <;> rcases hfa3078 with ha3078e | ⟨_, _, ha3078e⟩ <;> subst ha2057e ha2058e ha3077e ha3078e <;> kernel_rfl) (APath.one (.callP 104 65 [.t 100, .t 103]) (by kernel_rfl) (st_callP (by rcases hfa2057 with ha2057e | ⟨_, _, ha2057e⟩ <;> rcases hfa2058 with ha2058e | ⟨_, _, ha2058e⟩ <;> rcases hfa3077 with ha3077e | ⟨_, _, ha3077e⟩ <;> rcases hfa3078 with ha3078e | ⟨_, _, ha3078e⟩ <;> subst ha2057e ha2058e ha3077e ha3078e <;> kernel_rfl) (ref16_pick_ok N a0_.Homes (w64 ((w64 (2 * i2060)) + 1)) r3074 hr3074)) (APath.chunk 1 (by rcases hfa2057 with ha2057e | ⟨_, _, ha2057e⟩ <;> rcases hfa2058 with ha2058e | ⟨_, _, ha2058e⟩ <;> rcases hfa3077 with ha3077e | ⟨_, _, ha3077e⟩ <;> rcases hfa3078 with ha3078e | ⟨_, _, ha3078e⟩ <;> subst ha2057e ha2058e ha3077e ha3078e <;> kernel_rfl) (APath.one (.val 106 (.bin .rem) [.t 104, .t 105]) (by kernel_rfl) (st_val (ys := [iv r3074, iv (w64 (1 + (w64 ((Int.tmod a0_.Bridges 6)))))]) (by rcases hfa2057 with ha2057e | ⟨_, _, ha2057e⟩ <;> rcases hfa2058 with ha2058e | ⟨_, _, ha2058e⟩ <;> rcases hfa3077 with ha3077e | ⟨_, _, ha3077e⟩ <;> rcases hfa3078 with ha3078e | ⟨_, _, ha3078e⟩ <;> subst ha2057e ha2058e ha3077e ha3078e <;> kernel_rfl) (vexec_rem hm3075)) (APath.one (.call (some 107) 64 [.t 94, .t 95, .t 98, .t 106]) (by kernel_rfl) (st_callL (H := H2059) (ys := [.agg (c_ref16_Draft a0_), .agg [iv i2061, a2057, a2058], iv (w64 ((w64 (1 + (w64 ((Int.tmod a0_.Bridges 6))))) + i2060)), iv m3075]) (by rcases hfa2057 with ha2057e | ⟨_, _, ha2057e⟩ <;> rcases hfa2058 with ha2058e | ⟨_, _, ha2058e⟩ <;> rcases hfa3077 with ha3077e | ⟨_, _, ha3077e⟩ <;> rcases hfa3078 with ha3078e | ⟨_, _, ha3078e⟩ <;> subst ha2057e ha2058e ha3077e ha3078e <;> kernel_rfl) (by rcases hfa2057 with ha2057e | ⟨_, _, ha2057e⟩ <;> rcases hfa2058 with ha2058e | ⟨_, _, ha2058e⟩ <;> rcases hfa3077 with ha3077e | ⟨_, _, ha3077e⟩ <;> rcases hfa3078 with ha3078e | ⟨_, _, ha3078e⟩ <;> subst ha2057e ha2058e ha3077e ha3078e <;> kernel_rfl) [[], [false, true, true], [], []] (passL_cons (passV_frz rfl) (passL_cons (passV_agg (passC_cons (pass1_frz rfl) (passC_cons (pass1_raw (own_noLoc hl_a2057)) (passC_cons (pass1_raw (own_noLoc hl_a2058)) passC_nil')))) (passL_cons (passV_frz rfl) (passL_cons (passV_frz rfl) passL_nil')))) hvr3076) (APath.fin (by rcases hfa2057 with ha2057e | ⟨_, _, ha2057e⟩ <;> rcases hfa2058 with ha2058e | ⟨_, _, ha2058e⟩ <;> rcases hfa3077 with ha3077e | ⟨_, _, ha3077e⟩ <;> rcases hfa3078 with ha3078e | ⟨_, _, ha3078e⟩ <;> subst ha2057e ha2058e ha3077e ha3078e <;> kernel_rfl))))))) (by rcases hfa2057 with ha2057e | ⟨_, _, ha2057e⟩ <;> rcases hfa2058 with ha2058e | ⟨_, _, ha2058e⟩ <;> rcases hfa3077 with ha3077e | ⟨_, _, ha3077e⟩ <;> rcases hfa3078 with ha3078e | ⟨_, _, ha3078e⟩ <;> subst ha2057e ha2058e ha3077e ha3078e <;> kernel_rfl) ?_
                  obtain rfl := some_inj h
                  exact ⟨rfl, ⟨a3077, a3078, H3079, (by show _ = _; rcases hfa3077 with ha3077e | ⟨_, _, ha3077e⟩ <;> rcases hfa3078 with ha3078e | ⟨_, _, ha3078e⟩ <;> subst ha3077e ha3078e <;> kernel_rfl), (HP.pick hH [0, 1] rfl)⟩⟩
                · refine vc_skip ?_
                  obtain rfl := some_inj h
                  exact ⟨rfl, ⟨a2057, a2058, H2059, (by show _ = _; rcases hfa2057 with ha2057e | ⟨_, _, ha2057e⟩ <;> rcases hfa2058 with ha2058e | ⟨_, _, ha2058e⟩ <;> subst ha2057e ha2058e <;> kernel_rfl), (HP.pick hH [0, 1] rfl)⟩⟩
              · clear hj3071
                rintro s hR
                obtain ⟨a3068, a3069, H3070, rfl, hH⟩ := hR
                replace hH : HP H3070 [.arr a3068 1 true (List.map eB j3071.2.1), .arr a3069 4 true (List.map e_api_Link j3071.2.2)] := hH
                have hfa3068 := own_form (HP.get hH 0 rfl)
                have hfa3069 := own_form (HP.get hH 1 rfl)
                refine vc_reg (S := ⟨[(1, .loc 1 0), (2, .loc 2 0), (3, iv (w64 (1 + (w64 ((Int.tmod a0_.Bridges 6)))))), (4, iv (w64 (2 + (w64 ((Int.tmod a0_.Stations 5)))))), (5, .loc 5 0), (9, iv (w64 (i2060 + 1)))], [(1, (c_ref16_Draft a0_)), (2, [iv 0, s_eB true [], s_e_api_Link true []]), (5, [iv j3071.1, a3068, a3069])], H3070⟩) (APath.fin (by rcases hfa3068 with ha3068e | ⟨_, _, ha3068e⟩ <;> rcases hfa3069 with ha3069e | ⟨_, _, ha3069e⟩ <;> subst ha3068e ha3069e <;> kernel_rfl)) (by rcases hfa3068 with ha3068e | ⟨_, _, ha3068e⟩ <;> rcases hfa3069 with ha3069e | ⟨_, _, ha3069e⟩ <;> subst ha3068e ha3069e <;> kernel_rfl) ?_
                obtain rfl := some_inj h
                exact ⟨_, rfl, ⟨a3068, a3069, H3070, (by show _ = _; rcases hfa3068 with ha3068e | ⟨_, _, ha3068e⟩ <;> rcases hfa3069 with ha3069e | ⟨_, _, ha3069e⟩ <;> subst ha3068e ha3069e <;> kernel_rfl), (HP.pick hH [0, 1] rfl)⟩⟩
            · refine vc_kp ?_
              try show vc _ _ _ _ _
              refine vc_exit ?_
              try show vc _ _ _ _ _
              obtain rfl := some_inj h
              exact ⟨_, rfl, rfl, ⟨a2057, a2058, H2059, (by show _ = _; rcases hfa2057 with ha2057e | ⟨_, _, ha2057e⟩ <;> rcases hfa2058 with ha2058e | ⟨_, _, ha2058e⟩ <;> subst ha2057e ha2058e <;> kernel_rfl), (HP.pick hH [0, 1] rfl)⟩⟩
          · rintro e s hq
            obtain ⟨rfl, hR⟩ := hq
            obtain ⟨a2564, a2565, H2566, rfl, hH⟩ := hR
            replace hH : HP H2566 [.arr a2564 1 true (List.map eB o3080.2.1), .arr a2565 4 true (List.map e_api_Link o3080.2.2)] := hH
            have hfa2564 := own_form (HP.get hH 0 rfl)
            have hfa2565 := own_form (HP.get hH 1 rfl)
            try show vc _ _ _ _ _
            refine vc_seq ?_
            refine vc_seq ?_
            refine vc_reg (S := ⟨[(1, .loc 1 0), (2, .loc 2 0), (3, iv (w64 (1 + (w64 ((Int.tmod a0_.Bridges 6)))))), (5, .loc 5 0), (10, iv 0)], [(1, (c_ref16_Draft a0_)), (2, [iv 0, s_eB true [], s_e_api_Link true []]), (5, [iv o3080.1, a2564, a2565])], H2566⟩) (APath.fin (by rcases hfa2564 with ha2564e | ⟨_, _, ha2564e⟩ <;> rcases hfa2565 with ha2565e | ⟨_, _, ha2565e⟩ <;> subst ha2564e ha2565e <;> kernel_rfl)) (by rcases hfa2564 with ha2564e | ⟨_, _, ha2564e⟩ <;> rcases hfa2565 with ha2565e | ⟨_, _, ha2565e⟩ <;> subst ha2564e ha2565e <;> kernel_rfl) ?_
            refine vc_block ?_
            obtain ⟨o3602, ho3602, h⟩ := bind_some h
            refine vc_loop ((loop_sim (fun (x : Int × Int × (List Bool) × (List api_Link)) s => ∃ (a3081 : AV) (a3082 : AV) (H3083 : List HO), s = ⟨[(1, .loc 1 0), (2, .loc 2 0), (3, iv (w64 (1 + (w64 ((Int.tmod a0_.Bridges 6)))))), (5, .loc 5 0), (10, iv x.1)], [(1, (c_ref16_Draft a0_)), (2, [iv 0, s_eB true [], s_e_api_Link true []]), (5, [iv x.2.1, a3081, a3082])], H3083⟩ ∧ HP H3083 [.arr a3081 1 true (List.map eB x.2.2.1), .arr a3082 4 true (List.map e_api_Link x.2.2.2)]) (fun x : Int × Int × (List Bool) × (List api_Link) => ref16_Draft_Topo_L5 N a0_ x.1 x.2.1 x.2.2.1 x.2.2.2) (fun (p : Int × (List Bool) × (List api_Link)) e s => e = .exit 8 ∧ (∃ (a3588 : AV) (a3589 : AV) (H3590 : List HO), s = ⟨[(2, .loc 2 0), (5, .loc 5 0)], [(2, [iv 0, s_eB true [], s_e_api_Link true []]), (5, [iv p.1, a3588, a3589])], H3590⟩ ∧ HP H3590 [.arr a3588 1 true (List.map eB p.2.1), .arr a3589 4 true (List.map e_api_Link p.2.2)])) ?_ N _ o3602 _ ho3602 ⟨a2564, a2565, H2566, (by show _ = _; rcases hfa2564 with ha2564e | ⟨_, _, ha2564e⟩ <;> rcases hfa2565 with ha2565e | ⟨_, _, ha2565e⟩ <;> subst ha2564e ha2565e <;> kernel_rfl), (HP.pick hH [0, 1] rfl)⟩).mono ?_)
            · clear h ho3602
              rintro ⟨i3084, i3085, l3086, l3087⟩ o s h hR
              obtain ⟨a3081, a3082, H3083, rfl, hH⟩ := hR
              replace hH : HP H3083 [.arr a3081 1 true (List.map eB l3086), .arr a3082 4 true (List.map e_api_Link l3087)] := hH
              have hfa3081 := own_form (HP.get hH 0 rfl)
              have hfa3082 := own_form (HP.get hH 1 rfl)
              replace h : ref16_Draft_Topo_L5 N a0_ i3084 i3085 l3086 l3087 = some o := h
              unfold ref16_Draft_Topo_L5 at h
              refine vc_seq ?_
              refine vc_seq ?_
              refine vc_regX ⟨[(1, .loc 1 0), (2, .loc 2 0), (3, iv (w64 (1 + (w64 ((Int.tmod a0_.Bridges 6)))))), (5, .loc 5 0), (10, iv i3084), (117, bv ((decide ((w64 (i3084 + 1)) < ((List.length a0_.Chords : Nat) : Int))) && (decide (i3084 < 12))))], [(1, (c_ref16_Draft a0_)), (2, [iv 0, s_eB true [], s_e_api_Link true []]), (5, [iv i3085, a3081, a3082])], H3083⟩ ?_ ?_
              · rcases Bool.eq_false_or_eq_true (decide ((w64 (i3084 + 1)) < ((List.length a0_.Chords : Nat) : Int))) with hc3591 | hc3592
                · exact ⟨_, (APath.chunk 4 (by rcases hfa3081 with ha3081e | ⟨_, _, ha3081e⟩ <;> rcases hfa3082 with ha3082e | ⟨_, _, ha3082e⟩ <;> subst ha3081e ha3082e <;> kernel_rfl) (APath.one (.val 112 .len [.t 111]) (by kernel_rfl) (st_val (ys := [s_eI_u8 false a0_.Chords]) (by rcases hfa3081 with ha3081e | ⟨_, _, ha3081e⟩ <;> rcases hfa3082 with ha3082e | ⟨_, _, ha3082e⟩ <;> subst ha3081e ha3082e <;> kernel_rfl) (vexec_len (eI .u8))) (APath.one (.val 113 (.bin .lss) [.t 109, .t 112]) (by kernel_rfl) (st_bool (c := (decide ((w64 (i3084 + 1)) < ((List.length a0_.Chords : Nat) : Int)))) (by rcases hfa3081 with ha3081e | ⟨_, _, ha3081e⟩ <;> rcases hfa3082 with ha3082e | ⟨_, _, ha3082e⟩ <;> subst ha3081e ha3082e <;> kernel_rfl) hc3591) (APath.fin (by rcases hfa3081 with ha3081e | ⟨_, _, ha3081e⟩ <;> rcases hfa3082 with ha3082e | ⟨_, _, ha3082e⟩ <;> subst ha3081e ha3082e <;> kernel_rfl))))), by simp only [hc3591]; rcases hfa3081 with ha3081e | ⟨_, _, ha3081e⟩ <;> rcases hfa3082 with ha3082e | ⟨_, _, ha3082e⟩ <;> subst ha3081e ha3082e <;> kernel_rfl⟩
                · exact ⟨_, (APath.chunk 4 (by rcases hfa3081 with ha3081e | ⟨_, _, ha3081e⟩ <;> rcases hfa3082 with ha3082e | ⟨_, _, ha3082e⟩ <;> subst ha3081e ha3082e <;> kernel_rfl) (APath.one (.val 112 .len [.t 111]) (by kernel_rfl) (st_val (ys := [s_eI_u8 false a0_.Chords]) (by rcases hfa3081 with ha3081e | ⟨_, _, ha3081e⟩ <;> rcases hfa3082 with ha3082e | ⟨_, _, ha3082e⟩ <;> subst ha3081e ha3082e <;> kernel_rfl) (vexec_len (eI .u8))) (APath.one (.val 113 (.bin .lss) [.t 109, .t 112]) (by kernel_rfl) (st_bool (c := (decide ((w64 (i3084 + 1)) < ((List.length a0_.Chords : Nat) : Int)))) (by rcases hfa3081 with ha3081e | ⟨_, _, ha3081e⟩ <;> rcases hfa3082 with ha3082e | ⟨_, _, ha3082e⟩ <;> subst ha3081e ha3082e <;> kernel_rfl) hc3592) (APath.fin (by rcases hfa3081 with ha3081e | ⟨_, _, ha3081e⟩ <;> rcases hfa3082 with ha3082e | ⟨_, _, ha3082e⟩ <;> subst ha3081e ha3082e <;> kernel_rfl))))), by simp only [hc3592]; rcases hfa3081 with ha3081e | ⟨_, _, ha3081e⟩ <;> rcases hfa3082 with ha3082e | ⟨_, _, ha3082e⟩ <;> subst ha3081e ha3082e <;> kernel_rfl⟩
              · refine vc_ite (by kernel_rfl) h (fun hc3593 h => ?_) (fun hc3593 h => ?_)
                · refine vc_skip ?_
                  refine vc_kp ?_
                  refine vc_seq ?_
                  refine vc_block ?_
                  obtain ⟨e3594, he3594, h⟩ := bind_some h
                  obtain ⟨m3595, hm3595, h⟩ := bind_some h
                  obtain ⟨e3596, he3596, h⟩ := bind_some h
                  obtain ⟨m3597, hm3597, h⟩ := bind_some h
                  obtain ⟨r3598, hr3598, h⟩ := bind_some h
                  have hl_a3081 := HP.get hH 0 rfl
                  have hl_a3082 := HP.get hH 1 rfl
                  obtain ⟨a3599, a3600, H3601, hvr3598, hpr3598⟩ := ref16_Draft_with_ok N a0_ (api_Topo.mk i3085 l3086 l3087) m3595 m3597   a3081 a3082 H3083 (HP.now (HP.pick hH [0, 1] rfl)) r3598 hr3598
                  replace hH : HP H3601 [.arr a3599 1 true (List.map eB r3598.Station), .arr a3600 4 true (List.map e_api_Link r3598.Links)] := HP.callee (fp := [.arr a3081 1 true (List.map eB l3086), .arr a3082 4 true (List.map e_api_Link l3087)]) (rest := []) (HP.pick hH [0, 1] rfl) hpr3598
                  have hfa3599 := own_form (HP.get hH 0 rfl)
                  have hfa3600 := own_form (HP.get hH 1 rfl)
                  refine vc_regD (S := ⟨[(1, .loc 1 0), (2, .loc 2 0), (3, iv (w64 (1 + (w64 ((Int.tmod a0_.Bridges 6)))))), (5, .loc 5 0), (10, iv i3084)], [(1, (c_ref16_Draft a0_)), (2, [iv 0, s_eB true [], s_e_api_Link true []]), (5, [iv r3598.Nodes, a3599, a3600])], H3601⟩) (by rcases hfa3081 with ha3081e | ⟨_, _, ha3081e⟩ <;> rcases hfa3082 with ha3082e | ⟨_, _, ha3082e⟩ <;> subst ha3081e ha3082e <;> kernel_rfl) (APath.chunk 5 (by rcases hfa3081 with ha3081e | ⟨_, _, ha3081e⟩ <;> rcases hfa3082 with ha3082e | ⟨_, _, ha3082e⟩ <;> rcases hfa3599 with ha3599e | ⟨_, _, ha3599e⟩ <;> rcases hfa3600 with ha3600e | ⟨_, _, ha3600e⟩ <;> subst ha3081e ha3082e ha3599e ha3600e <;> kernel_rfl) (APath.one (.val 125 (.iaddrS 1) [.t 123, .t 124]) (by kernel_rfl) (st_val (ys := [s_eI_u8 false a0_.Chords, iv i3084]) (by rcases hfa3081 with ha3081e | ⟨_, _, ha3081e⟩ <;> rcases hfa3082 with ha3082e | ⟨_, _, ha3082e⟩ <;> rcases hfa3599 with ha3599e | ⟨_, _, ha3599e⟩ <;> rcases hfa3600 with ha3600e | ⟨_, _, ha3600e⟩ <;> subst ha3081e ha3082e ha3599e ha3600e <;> kernel_rfl) (vexec_iaddrS (eI .u8) he3594)) (APath.one (.load 126 (.t 125) 1 false) (by kernel_rfl) (st_loadP (sz := 1) (off := 0) (cs := [.int .u8 e3594]) (r := .p (.int .u8 e3594)) (eI .u8) he3594 (by rcases hfa3081 with ha3081e | ⟨_, _, ha3081e⟩ <;> rcases hfa3082 with ha3082e | ⟨_, _, ha3082e⟩ <;> rcases hfa3599 with ha3599e | ⟨_, _, ha3599e⟩ <;> rcases hfa3600 with ha3600e | ⟨_, _, ha3600e⟩ <;> subst ha3081e ha3082e ha3599e ha3600e <;> kernel_rfl) (by rcases hfa3081 with ha3081e | ⟨_, _, ha3081e⟩ <;> rcases hfa3082 with ha3082e | ⟨_, _, ha3082e⟩ <;> rcases hfa3599 with ha3599e | ⟨_, _, ha3599e⟩ <;> rcases hfa3600 with ha3600e | ⟨_, _, ha3600e⟩ <;> subst ha3081e ha3082e ha3599e ha3600e <;> kernel_rfl) (by rcases hfa3081 with ha3081e | ⟨_, _, ha3081e⟩ <;> rcases hfa3082 with ha3082e | ⟨_, _, ha3082e⟩ <;> rcases hfa3599 with ha3599e | ⟨_, _, ha3599e⟩ <;> rcases hfa3600 with ha3600e | ⟨_, _, ha3600e⟩ <;> subst ha3081e ha3082e ha3599e ha3600e <;> kernel_rfl)) (APath.chunk 2 (by rcases hfa3081 with ha3081e | ⟨_, _, ha3081e⟩ <;> rcases hfa3082 with ha3082e | ⟨_, _, ha3082e⟩ <;> rcases hfa3599 with ha3599e | ⟨_, _, ha3599e⟩ <;> rcases hfa3600 with ha3600e | ⟨_, _, ha3600e⟩ <;> subst ha3081e ha3082e ha3599e ha3600e <;> kernel_rfl) (APath.one (.val 129 (.bin .rem) [.t 127, .t 128]) (by kernel_rfl) (st_val (ys := [iv (w64 (e3594)), iv (w64 (1 + (w64 ((Int.tmod a0_.Bridges 6)))))]) (by rcases hfa3081 with ha3081e | ⟨_, _, ha3081e⟩ <;> rcases hfa3082 with ha3082e | ⟨_, _, ha3082e⟩ <;> rcases hfa3599 with ha3599e | ⟨_, _, ha3599e⟩ <;> rcases hfa3600 with ha3600e | ⟨_, _, ha3600e⟩ <;> subst ha3081e ha3082e ha3599e ha3600e <;> kernel_rfl) (vexec_rem hm3595)) (APath.chunk 4 (by rcases hfa3081 with ha3081e | ⟨_, _, ha3081e⟩ <;> rcases hfa3082 with ha3082e | ⟨_, _, ha3082e⟩ <;> rcases hfa3599 with ha3599e | ⟨_, _, ha3599e⟩ <;> rcases hfa3600 with ha3600e | ⟨_, _, ha3600e⟩ <;> subst ha3081e ha3082e ha3599e ha3600e <;> kernel_rfl) (APath.one (.val 134 (.iaddrS 1) [.t 131, .t 133]) (by kernel_rfl) (st_val (ys := [s_eI_u8 false a0_.Chords, iv (w64 (i3084 + 1))]) (by rcases hfa3081 with ha3081e | ⟨_, _, ha3081e⟩ <;> rcases hfa3082 with ha3082e | ⟨_, _, ha3082e⟩ <;> rcases hfa3599 with ha3599e | ⟨_, _, ha3599e⟩ <;> rcases hfa3600 with ha3600e | ⟨_, _, ha3600e⟩ <;> subst ha3081e ha3082e ha3599e ha3600e <;> kernel_rfl) (vexec_iaddrS (eI .u8) he3596)) (APath.one (.load 135 (.t 134) 1 false) (by kernel_rfl) (st_loadP (sz := 1) (off := 0) (cs := [.int .u8 e3596]) (r := .p (.int .u8 e3596)) (eI .u8) he3596 (by rcases hfa3081 with ha3081e | ⟨_, _, ha3081e⟩ <;> rcases hfa3082 with ha3082e | ⟨_, _, ha3082e⟩ <;> rcases hfa3599 with ha3599e | ⟨_, _, ha3599e⟩ <;> rcases hfa3600 with ha3600e | ⟨_, _, ha3600e⟩ <;> subst ha3081e ha3082e ha3599e ha3600e <;> kernel_rfl) (by rcases hfa3081 with ha3081e | ⟨_, _, ha3081e⟩ <;> rcases hfa3082 with ha3082e | ⟨_, _, ha3082e⟩ <;> rcases hfa3599 with ha3599e | ⟨_, _, ha3599e⟩ <;> rcases hfa3600 with ha3600e | ⟨_, _, ha3600e⟩ <;> subst ha3081e ha3082e ha3599e ha3600e <;> kernel_rfl) (by rcases hfa3081 with ha3081e | ⟨_, _, ha3081e⟩ <;> rcases hfa3082 with ha3082e | ⟨_, _, ha3082e⟩ <;> rcases hfa3599 with ha3599e | ⟨_, _, ha3599e⟩ <;> rcases hfa3600 with ha3600e | ⟨_, _, ha3600e⟩ <;> subst ha3081e ha3082e ha3599e ha3600e <;> kernel_rfl)) (APath.chunk 2 (by rcases hfa3081 with ha3081e | ⟨_, _, ha3081e⟩ <;> rcases hfa3082 with ha3082e | ⟨_, _, ha3082e⟩ <;> rcases hfa3599 with ha3599e | ⟨_, _, ha3599e⟩ <;> rcases hfa3600 with ha3600e | ⟨_, _, ha3600e⟩ <;> subst ha3081e ha3082e ha3599e ha3600e <;> kernel_rfl) (APath.one (.val 138 (.bin .rem) [.t 136, .t 137]) (by kernel_rfl) (st_val (ys := [iv (w64 (e3596)), iv (w64 (1 + (w64 ((Int.tmod a0_.Bridges 6)))))]) (by rcases hfa3081 with ha3081e | ⟨_, _, ha3081e⟩ <;> rcases hfa3082 with ha3082e | ⟨_, _, ha3082e⟩ <;> rcases hfa3599 with ha3599e | ⟨_, _, ha3599e⟩ <;> rcases hfa3600 with ha3600e | ⟨_, _, ha3600e⟩ <;> subst ha3081e ha3082e ha3599e ha3600e <;> kernel_rfl) (vexec_rem hm3597)) (APath.one (.call (some 139) 64 [.t 120, .t 121, .t 129, .t 138]) (by kernel_rfl) (st_callL (H := H3083) (ys := [.agg (c_ref16_Draft a0_), .agg [iv i3085, a3081, a3082], iv m3595, iv m3597]) (by rcases hfa3081 with ha3081e | ⟨_, _, ha3081e⟩ <;> rcases hfa3082 with ha3082e | ⟨_, _, ha3082e⟩ <;> rcases hfa3599 with ha3599e | ⟨_, _, ha3599e⟩ <;> rcases hfa3600 with ha3600e | ⟨_, _, ha3600e⟩ <;> subst ha3081e ha3082e ha3599e ha3600e <;> kernel_rfl) (by rcases hfa3081 with ha3081e | ⟨_, _, ha3081e⟩ <;> rcases hfa3082 with ha3082e | ⟨_, _, ha3082e⟩ <;> rcases hfa3599 with ha3599e | ⟨_, _, ha3599e⟩ <;> rcases hfa3600 with ha3600e | ⟨_, _, ha3600e⟩ <;> subst ha3081e ha3082e ha3599e ha3600e <;> kernel_rfl) [[], [false, true, true], [], []] (passL_cons (passV_frz rfl) (passL_cons (passV_agg (passC_cons (pass1_frz rfl) (passC_cons (pass1_raw (own_noLoc hl_a3081)) (passC_cons (pass1_raw (own_noLoc hl_a3082)) passC_nil')))) (passL_cons (passV_frz rfl) (passL_cons (passV_frz rfl) passL_nil')))) hvr3598) (APath.fin (by rcases hfa3081 with ha3081e | ⟨_, _, ha3081e⟩ <;> rcases hfa3082 with ha3082e | ⟨_, _, ha3082e⟩ <;> rcases hfa3599 with ha3599e | ⟨_, _, ha3599e⟩ <;> rcases hfa3600 with ha3600e | ⟨_, _, ha3600e⟩ <;> subst ha3081e ha3082e ha3599e ha3600e <;> kernel_rfl))))))))))))) (by rcases hfa3081 with ha3081e | ⟨_, _, ha3081e⟩ <;> rcases hfa3082 with ha3082e | ⟨_, _, ha3082e⟩ <;> rcases hfa3599 with ha3599e | ⟨_, _, ha3599e⟩ <;> rcases hfa3600 with ha3600e | ⟨_, _, ha3600e⟩ <;> subst ha3081e ha3082e ha3599e ha3600e <;> kernel_rfl) ?_
                  refine vc_reg (S := ⟨[(1, .loc 1 0), (2, .loc 2 0), (3, iv (w64 (1 + (w64 ((Int.tmod a0_.Bridges 6)))))), (5, .loc 5 0), (10, iv (w64 (i3084 + 2)))], [(1, (c_ref16_Draft a0_)), (2, [iv 0, s_eB true [], s_e_api_Link true []]), (5, [iv r3598.Nodes, a3599, a3600])], H3601⟩) (APath.fin (by rcases hfa3599 with ha3599e | ⟨_, _, ha3599e⟩ <;> rcases hfa3600 with ha3600e | ⟨_, _, ha3600e⟩ <;> subst ha3599e ha3600e <;> kernel_rfl)) (by rcases hfa3599 with ha3599e | ⟨_, _, ha3599e⟩ <;> rcases hfa3600 with ha3600e | ⟨_, _, ha3600e⟩ <;> subst ha3599e ha3600e <;> kernel_rfl) ?_
                  obtain rfl := some_inj h
                  exact ⟨_, rfl, ⟨a3599, a3600, H3601, (by show _ = _; rcases hfa3599 with ha3599e | ⟨_, _, ha3599e⟩ <;> rcases hfa3600 with ha3600e | ⟨_, _, ha3600e⟩ <;> subst ha3599e ha3600e <;> kernel_rfl), (HP.pick hH [0, 1] rfl)⟩⟩
                · refine vc_kp ?_
                  try show vc _ _ _ _ _
                  refine vc_exit ?_
                  try show vc _ _ _ _ _
                  obtain rfl := some_inj h
                  exact ⟨_, rfl, rfl, ⟨a3081, a3082, H3083, (by show _ = _; rcases hfa3081 with ha3081e | ⟨_, _, ha3081e⟩ <;> rcases hfa3082 with ha3082e | ⟨_, _, ha3082e⟩ <;> subst ha3081e ha3082e <;> kernel_rfl), (HP.pick hH [0, 1] rfl)⟩⟩
            · rintro e s hq
              obtain ⟨rfl, hR⟩ := hq
              obtain ⟨a3588, a3589, H3590, rfl, hH⟩ := hR
              replace hH : HP H3590 [.arr a3588 1 true (List.map eB o3602.2.1), .arr a3589 4 true (List.map e_api_Link o3602.2.2)] := hH
              have hfa3588 := own_form (HP.get hH 0 rfl)
              have hfa3589 := own_form (HP.get hH 1 rfl)
              try show vc _ _ _ _ _
              refine vc_seq ?_
              refine vc_reg (S := ⟨[(2, .loc 2 0)], [(2, [iv o3602.1, a3588, a3589])], H3590⟩) (APath.fin (by rcases hfa3588 with ha3588e | ⟨_, _, ha3588e⟩ <;> rcases hfa3589 with ha3589e | ⟨_, _, ha3589e⟩ <;> subst ha3588e ha3589e <;> kernel_rfl)) (by rcases hfa3588 with ha3588e | ⟨_, _, ha3588e⟩ <;> rcases hfa3589 with ha3589e | ⟨_, _, ha3589e⟩ <;> subst ha3588e ha3589e <;> kernel_rfl) ?_
              refine vc_ret ?_
              obtain rfl := some_inj h
              exact ret_own (H := H3590) (ys := [.agg [iv o3602.1, a3588, a3589]]) (xs := [.agg [iv o3602.1, .p (.sl 1 false (List.map eB o3602.2.1)), .p (.sl 4 false (List.map e_api_Link o3602.2.2))]]) (by rcases hfa3588 with ha3588e | ⟨_, _, ha3588e⟩ <;> rcases hfa3589 with ha3589e | ⟨_, _, ha3589e⟩ <;> subst ha3588e ha3589e <;> kernel_rfl) (by rcases hfa3588 with ha3588e | ⟨_, _, ha3588e⟩ <;> rcases hfa3589 with ha3589e | ⟨_, _, ha3589e⟩ <;> subst ha3588e ha3589e <;> kernel_rfl) (pureVL_cons (pureV_agg (pureL_cons rfl (pureL_cons (HP.pure (k := 0) (frz := true) eB hH rfl).1 (pureL_cons (HP.pure (k := 1) (frz := true) e_api_Link hH rfl).1 pureL_nil)))) pureVL_nil) (by kernel_rfl)
theorem topo_Check_ok (N : Nat) (a0_ : api_Topo) (r : Int) (h : topo_Check N a0_ = some r) : PCall Try.prog 50 [.agg (c_api_Topo a0_)] (iv r) := by
  unfold topo_Check at h
  have hH : HP ([] : List HO) [] := trivial
  refine pcall_of chk50 rfl rfl (vc_sound _ _ _ ?_) rfl
  refine vc_seq ?_
  refine vc_reg (S := ⟨[(1, .loc 1 0)], [(1, (c_api_Topo a0_))], []⟩) (APath.fin (by kernel_rfl)) (by kernel_rfl) ?_
  refine vc_seq ?_
  refine vc_seq ?_
  refine vc_regX ⟨[(1, .loc 1 0), (23, bv ((decide (a0_.Nodes < 2)) || ((decide (a0_.Nodes > 12)) || (((List.length a0_.Station : Nat) : Int) != a0_.Nodes))))], [(1, (c_api_Topo a0_))], []⟩ ?_ ?_
  · rcases Bool.eq_false_or_eq_true (decide (a0_.Nodes < 2)) with hc1 | hc2
    · exact ⟨_, (APath.chunk 2 (by kernel_rfl) (APath.one (.val 10 (.bin .lss) [.t 9, .k (.p (.int .i64 2))]) (by kernel_rfl) (st_bool (c := (decide (a0_.Nodes < 2))) (by kernel_rfl) hc1) (APath.fin (by kernel_rfl)))), by simp only [hc1]; kernel_rfl⟩
    · rcases Bool.eq_false_or_eq_true (decide (a0_.Nodes > 12)) with hc3 | hc4
      · exact ⟨_, (APath.chunk 2 (by kernel_rfl) (APath.one (.val 10 (.bin .lss) [.t 9, .k (.p (.int .i64 2))]) (by kernel_rfl) (st_bool (c := (decide (a0_.Nodes < 2))) (by kernel_rfl) hc2) (APath.chunk 3 (by kernel_rfl) (APath.oneG (.val 14 (.bin .gtr) [.t 13, .k (.p (.int .i64 12))]) 11 false (by kernel_rfl) (by kernel_rfl) (st_bool (c := (decide (a0_.Nodes > 12))) (by kernel_rfl) hc3) (APath.fin (by kernel_rfl)))))), by simp only [hc2, hc3]; kernel_rfl⟩
      · exact ⟨_, (APath.chunk 2 (by kernel_rfl) (APath.one (.val 10 (.bin .lss) [.t 9, .k (.p (.int .i64 2))]) (by kernel_rfl) (st_bool (c := (decide (a0_.Nodes < 2))) (by kernel_rfl) hc2) (APath.chunk 3 (by kernel_rfl) (APath.oneG (.val 14 (.bin .gtr) [.t 13, .k (.p (.int .i64 12))]) 11 false (by kernel_rfl) (by kernel_rfl) (st_bool (c := (decide (a0_.Nodes > 12))) (by kernel_rfl) hc4) (APath.chunk 4 (by kernel_rfl) (APath.oneG (.val 19 .len [.t 18]) 16 false (by kernel_rfl) (by kernel_rfl) (st_val (ys := [s_eB false a0_.Station]) (by kernel_rfl) (vexec_len eB)) (APath.fin (by kernel_rfl)))))))), by simp only [hc2, hc4]; kernel_rfl⟩
  · refine vc_ite (by kernel_rfl) h (fun hc5 h => ?_) (fun hc5 h => ?_)
    · refine vc_seq ?_
      refine vc_reg (S := ⟨[(2, iv 260)], [], []⟩) (APath.fin (by kernel_rfl)) (by kernel_rfl) ?_
      refine vc_ret ?_
      obtain rfl := some_inj h
      exact ret_of (by kernel_rfl)
    · refine vc_skip ?_
      refine vc_kp ?_
      refine vc_seq ?_
      refine vc_seq ?_
      obtain ⟨j9, hj, h⟩ := bind_some h
      refine vc_regXR (fun s => s = ⟨[(1, .loc 1 0), (32, bv j9)], [(1, (c_api_Topo a0_))], []⟩) ?_ ?_
      · clear h
        rcases ite_some hj with ⟨hc6, hj⟩ | ⟨hc7, hj⟩
        · obtain rfl := some_inj hj
          exact ⟨_, (APath.chunk 2 (by kernel_rfl) (APath.one (.val 26 .len [.t 25]) (by kernel_rfl) (st_val (ys := [s_e_api_Link false a0_.Links]) (by kernel_rfl) (vexec_len e_api_Link)) (APath.one (.val 27 (.bin .gtr) [.t 26, .k (.p (.int .i64 24))]) (by kernel_rfl) (st_bool (c := (decide (((List.length a0_.Links : Nat) : Int) > 24))) (by kernel_rfl) hc6) (APath.fin (by kernel_rfl))))), (by show _ = _; kernel_rfl)⟩
        · obtain ⟨r8, hr8, hj⟩ := bind_some hj
          obtain rfl := some_inj hj
          exact ⟨_, (APath.chunk 2 (by kernel_rfl) (APath.one (.val 26 .len [.t 25]) (by kernel_rfl) (st_val (ys := [s_e_api_Link false a0_.Links]) (by kernel_rfl) (vexec_len e_api_Link)) (APath.one (.val 27 (.bin .gtr) [.t 26, .k (.p (.int .i64 24))]) (by kernel_rfl) (st_bool (c := (decide (((List.length a0_.Links : Nat) : Int) > 24))) (by kernel_rfl) hc7) (APath.chunk 2 (by kernel_rfl) (APath.oneG (.call (some 30) 74 [.t 29]) 28 false (by kernel_rfl) (by kernel_rfl) (st_call (by kernel_rfl) (topo_sound_ok N a0_ r8 hr8)) (APath.fin (by kernel_rfl))))))), (by show _ = _; kernel_rfl)⟩
      · clear hj
        rintro s hR
        obtain rfl := hR
        refine vc_ite (by kernel_rfl) h (fun hc10 h => ?_) (fun hc10 h => ?_)
        · refine vc_seq ?_
          refine vc_reg (S := ⟨[(2, iv 260)], [], []⟩) (APath.fin (by kernel_rfl)) (by kernel_rfl) ?_
          refine vc_ret ?_
          obtain rfl := some_inj h
          exact ret_of (by kernel_rfl)
        · refine vc_skip ?_
          refine vc_kp ?_
          refine vc_seq ?_
          obtain ⟨l13, hl13, h⟩ := bind_some h
          obtain ⟨a11, H12, ha11, hH12, ha11b, hH⟩ := HP.make eI64 hH hl13
          replace hH : HP H12 [.arr a11 1 false (List.map eI64 l13)] := hH
          have hfa11 := own_form (HP.get hH 0 rfl)
          refine vc_reg (S := ⟨[(1, .loc 1 0), (3, a11)], [(1, (c_api_Topo a0_))], H12⟩) (APath.chunk 2 (by rcases hfa11 with ha11e | ⟨_, _, ha11e⟩ <;> subst ha11e <;> kernel_rfl) (APath.one (.mkSl 35 (.t 34) (.t 34) [.int .i64 0] 8) (by kernel_rfl) (st_make (H := []) (zero := [.int .i64 0]) (bytes := 8) (by rcases hfa11 with ha11e | ⟨_, _, ha11e⟩ <;> subst ha11e <;> kernel_rfl) (by rcases hfa11 with ha11e | ⟨_, _, ha11e⟩ <;> subst ha11e <;> kernel_rfl) (by rcases hfa11 with ha11e | ⟨_, _, ha11e⟩ <;> subst ha11e <;> kernel_rfl) ha11 hH12 ha11b) (APath.fin (by rcases hfa11 with ha11e | ⟨_, _, ha11e⟩ <;> subst ha11e <;> kernel_rfl)))) (by rcases hfa11 with ha11e | ⟨_, _, ha11e⟩ <;> subst ha11e <;> kernel_rfl) ?_
          refine vc_seq ?_
          refine vc_seq ?_
          refine vc_reg (S := ⟨[(1, .loc 1 0), (3, a11), (37, s_e_api_Link false a0_.Links), (38, iv ((List.length a0_.Links : Nat) : Int)), (39, iv 0)], [(1, (c_api_Topo a0_))], H12⟩) (APath.chunk 2 (by rcases hfa11 with ha11e | ⟨_, _, ha11e⟩ <;> subst ha11e <;> kernel_rfl) (APath.one (.val 38 .len [.t 37]) (by kernel_rfl) (st_val (ys := [s_e_api_Link false a0_.Links]) (by rcases hfa11 with ha11e | ⟨_, _, ha11e⟩ <;> subst ha11e <;> kernel_rfl) (vexec_len e_api_Link)) (APath.fin (by rcases hfa11 with ha11e | ⟨_, _, ha11e⟩ <;> subst ha11e <;> kernel_rfl)))) (by rcases hfa11 with ha11e | ⟨_, _, ha11e⟩ <;> subst ha11e <;> kernel_rfl) ?_
          refine vc_block ?_
          obtain ⟨o536, ho536, h⟩ := bind_some h
          refine vc_loop ((loop_sim (fun (x : Int × (List Int)) s => ∃ (a14 : AV) (H15 : List HO), s = ⟨[(1, .loc 1 0), (3, a14), (37, s_e_api_Link false a0_.Links), (38, iv ((List.length a0_.Links : Nat) : Int)), (39, iv x.1)], [(1, (c_api_Topo a0_))], H15⟩ ∧ HP H15 [.arr a14 1 false (List.map eI64 x.2)]) (fun x : Int × (List Int) => topo_Check_L1 N a0_ x.1 x.2) (fun (p : (List Int)) e s => e = .exit 0 ∧ (∃ (a518 : AV) (H519 : List HO), s = ⟨[(1, .loc 1 0), (3, a518)], [(1, (c_api_Topo a0_))], H519⟩ ∧ HP H519 [.arr a518 1 false (List.map eI64 p)])) ?_ N _ o536 _ ho536 ⟨a11, H12, (by show _ = _; rcases hfa11 with ha11e | ⟨_, _, ha11e⟩ <;> subst ha11e <;> kernel_rfl), (HP.pick hH [0] rfl)⟩).mono ?_)
          · clear h ho536
            rintro ⟨i16, l17⟩ o s h hR
            obtain ⟨a14, H15, rfl, hH⟩ := hR
            replace hH : HP H15 [.arr a14 1 false (List.map eI64 l17)] := hH
            have hfa14 := own_form (HP.get hH 0 rfl)
            replace h : topo_Check_L1 N a0_ i16 l17 = some o := h
            unfold topo_Check_L1 at h
            refine vc_seq ?_
            refine vc_reg (S := ⟨[(1, .loc 1 0), (3, a14), (37, s_e_api_Link false a0_.Links), (38, iv ((List.length a0_.Links : Nat) : Int)), (39, iv i16), (40, bv (decide (i16 < ((List.length a0_.Links : Nat) : Int))))], [(1, (c_api_Topo a0_))], H15⟩) (APath.fin (by rcases hfa14 with ha14e | ⟨_, _, ha14e⟩ <;> subst ha14e <;> kernel_rfl)) (by rcases hfa14 with ha14e | ⟨_, _, ha14e⟩ <;> subst ha14e <;> kernel_rfl) ?_
            refine vc_seq ?_
            refine vc_ite (by kernel_rfl) h (fun hc520 h => ?_) (fun hc520 h => ?_)
            · refine vc_skip ?_
              refine vc_kp ?_
              refine vc_seq ?_
              refine vc_block ?_
              refine vc_seq ?_
              obtain ⟨e521, he521, h⟩ := bind_some h
              refine vc_reg (S := ⟨[(1, .loc 1 0), (3, a14), (5, .loc 5 0), (37, s_e_api_Link false a0_.Links), (38, iv ((List.length a0_.Links : Nat) : Int)), (39, iv i16)], [(1, (c_api_Topo a0_)), (5, (c_api_Link e521))], H15⟩) (APath.one (.val 41 (.iaddrS 4) [.t 37, .t 39]) (by kernel_rfl) (st_val (ys := [s_e_api_Link false a0_.Links, iv i16]) (by rcases hfa14 with ha14e | ⟨_, _, ha14e⟩ <;> subst ha14e <;> kernel_rfl) (vexec_iaddrS e_api_Link he521)) (APath.one (.load 42 (.t 41) 4 true) (by kernel_rfl) (st_loadP (sz := 4) (off := 0) (cs := [.int .i64 e521.A, .int .i64 e521.B, .int .i64 e521.Per, .int .i64 e521.Delay]) (r := .agg (c_api_Link e521)) e_api_Link he521 (by rcases hfa14 with ha14e | ⟨_, _, ha14e⟩ <;> subst ha14e <;> kernel_rfl) (by rcases hfa14 with ha14e | ⟨_, _, ha14e⟩ <;> subst ha14e <;> kernel_rfl) (by rcases hfa14 with ha14e | ⟨_, _, ha14e⟩ <;> subst ha14e <;> kernel_rfl)) (APath.fin (by rcases hfa14 with ha14e | ⟨_, _, ha14e⟩ <;> subst ha14e <;> kernel_rfl)))) (by rcases hfa14 with ha14e | ⟨_, _, ha14e⟩ <;> subst ha14e <;> kernel_rfl) ?_
              refine vc_seq ?_
              obtain ⟨e522, he522, h⟩ := bind_some h
              obtain ⟨id523, ver524, _, hid523f, hid523, hid523a, hid523v⟩ := HP.elem (k := 0) (a := a14) (sz := 1) (frz := false) eI64 hH rfl he522
              obtain ⟨e525, he525, h⟩ := bind_some h
              obtain ⟨id526, ver527, _, hid526f, hid526, hid526a, hid526v⟩ := HP.elem (k := 0) (a := a14) (sz := 1) (frz := false) eI64 hH rfl he525
              obtain ⟨H528, hH528, hH⟩ := HP.setRow (k := 0) (off := 0) (cs := [iv (w64 (e522 + 1))]) (ps := [.int .i64 (w64 (e522 + 1))]) (e' := (w64 (e522 + 1))) eI64 hH rfl hid526a hid526 (hid526f rfl) he525 (by kernel_rfl) (by kernel_rfl)
              replace hH : HP H528 [.arr a14 1 false (List.map eI64 (List.set l17 (Int.toNat e521.A) (w64 (e522 + 1))))] := hH
              refine vc_reg (S := ⟨[(1, .loc 1 0), (3, a14), (5, .loc 5 0), (37, s_e_api_Link false a0_.Links), (38, iv ((List.length a0_.Links : Nat) : Int)), (39, iv i16)], [(1, (c_api_Topo a0_)), (5, (c_api_Link e521))], H528⟩) (APath.chunk 3 (by rcases hfa14 with ha14e | ⟨_, _, ha14e⟩ <;> subst ha14e <;> kernel_rfl) (APath.one (.val 46 (.iaddrS 1) [.t 43, .t 45]) (by kernel_rfl) (st_val (ys := [a14, iv e521.A]) (by rcases hfa14 with ha14e | ⟨_, _, ha14e⟩ <;> subst ha14e <;> kernel_rfl) (hid523v .i64)) (APath.one (.load 47 (.t 46) 1 false) (by kernel_rfl) (st_loadO (H := H15) (off := 0) (cs := [.int .i64 e522]) (r := iv e522) eI64 he522 hid523 (by rcases hfa14 with ha14e | ⟨_, _, ha14e⟩ <;> subst ha14e <;> kernel_rfl) (by rcases hfa14 with ha14e | ⟨_, _, ha14e⟩ <;> subst ha14e <;> kernel_rfl) (by rcases hfa14 with ha14e | ⟨_, _, ha14e⟩ <;> subst ha14e <;> kernel_rfl) (by rcases hfa14 with ha14e | ⟨_, _, ha14e⟩ <;> subst ha14e <;> kernel_rfl)) (APath.chunk 1 (by rcases hfa14 with ha14e | ⟨_, _, ha14e⟩ <;> subst ha14e <;> kernel_rfl) (APath.one (.val 49 (.iaddrS 1) [.t 43, .t 45]) (by kernel_rfl) (st_val (ys := [a14, iv e521.A]) (by rcases hfa14 with ha14e | ⟨_, _, ha14e⟩ <;> subst ha14e <;> kernel_rfl) (hid526v .i64)) (APath.one (.store (.t 49) (.t 48) 1) (by kernel_rfl) (st_storeH (H := H15) (v := iv (w64 (e522 + 1))) (by rcases hfa14 with ha14e | ⟨_, _, ha14e⟩ <;> subst ha14e <;> kernel_rfl) (by rcases hfa14 with ha14e | ⟨_, _, ha14e⟩ <;> subst ha14e <;> kernel_rfl) (by rcases hfa14 with ha14e | ⟨_, _, ha14e⟩ <;> subst ha14e <;> kernel_rfl) (by rcases hfa14 with ha14e | ⟨_, _, ha14e⟩ <;> subst ha14e <;> kernel_rfl) hH528) APath.done)))))) (by rcases hfa14 with ha14e | ⟨_, _, ha14e⟩ <;> subst ha14e <;> kernel_rfl) ?_
              obtain ⟨e529, he529, h⟩ := bind_some h
              obtain ⟨id530, ver531, _, hid530f, hid530, hid530a, hid530v⟩ := HP.elem (k := 0) (a := a14) (sz := 1) (frz := false) eI64 hH rfl he529
              obtain ⟨e532, he532, h⟩ := bind_some h
              obtain ⟨id533, ver534, _, hid533f, hid533, hid533a, hid533v⟩ := HP.elem (k := 0) (a := a14) (sz := 1) (frz := false) eI64 hH rfl he532
              obtain ⟨H535, hH535, hH⟩ := HP.setRow (k := 0) (off := 0) (cs := [iv (w64 (e529 + 1))]) (ps := [.int .i64 (w64 (e529 + 1))]) (e' := (w64 (e529 + 1))) eI64 hH rfl hid533a hid533 (hid533f rfl) he532 (by kernel_rfl) (by kernel_rfl)
              replace hH : HP H535 [.arr a14 1 false (List.map eI64 (List.set (List.set l17 (Int.toNat e521.A) (w64 (e522 + 1))) (Int.toNat e521.B) (w64 (e529 + 1))))] := hH
              refine vc_reg (S := ⟨[(1, .loc 1 0), (3, a14), (37, s_e_api_Link false a0_.Links), (38, iv ((List.length a0_.Links : Nat) : Int)), (39, iv i16)], [(1, (c_api_Topo a0_))], H535⟩) (APath.chunk 3 (by rcases hfa14 with ha14e | ⟨_, _, ha14e⟩ <;> subst ha14e <;> kernel_rfl) (APath.one (.val 53 (.iaddrS 1) [.t 50, .t 52]) (by kernel_rfl) (st_val (ys := [a14, iv e521.B]) (by rcases hfa14 with ha14e | ⟨_, _, ha14e⟩ <;> subst ha14e <;> kernel_rfl) (hid530v .i64)) (APath.one (.load 54 (.t 53) 1 false) (by kernel_rfl) (st_loadO (H := H528) (off := 0) (cs := [.int .i64 e529]) (r := iv e529) eI64 he529 hid530 (by rcases hfa14 with ha14e | ⟨_, _, ha14e⟩ <;> subst ha14e <;> kernel_rfl) (by rcases hfa14 with ha14e | ⟨_, _, ha14e⟩ <;> subst ha14e <;> kernel_rfl) (by rcases hfa14 with ha14e | ⟨_, _, ha14e⟩ <;> subst ha14e <;> kernel_rfl) (by rcases hfa14 with ha14e | ⟨_, _, ha14e⟩ <;> subst ha14e <;> kernel_rfl)) (APath.chunk 1 (by rcases hfa14 with ha14e | ⟨_, _, ha14e⟩ <;> subst ha14e <;> kernel_rfl) (APath.one (.val 56 (.iaddrS 1) [.t 50, .t 52]) (by kernel_rfl) (st_val (ys := [a14, iv e521.B]) (by rcases hfa14 with ha14e | ⟨_, _, ha14e⟩ <;> subst ha14e <;> kernel_rfl) (hid533v .i64)) (APath.one (.store (.t 56) (.t 55) 1) (by kernel_rfl) (st_storeH (H := H528) (v := iv (w64 (e529 + 1))) (by rcases hfa14 with ha14e | ⟨_, _, ha14e⟩ <;> subst ha14e <;> kernel_rfl) (by rcases hfa14 with ha14e | ⟨_, _, ha14e⟩ <;> subst ha14e <;> kernel_rfl) (by rcases hfa14 with ha14e | ⟨_, _, ha14e⟩ <;> subst ha14e <;> kernel_rfl) (by rcases hfa14 with ha14e | ⟨_, _, ha14e⟩ <;> subst ha14e <;> kernel_rfl) hH535) APath.done)))))) (by rcases hfa14 with ha14e | ⟨_, _, ha14e⟩ <;> subst ha14e <;> kernel_rfl) ?_
              refine vc_reg (S := ⟨[(1, .loc 1 0), (3, a14), (37, s_e_api_Link false a0_.Links), (38, iv ((List.length a0_.Links : Nat) : Int)), (39, iv (w64 (i16 + 1)))], [(1, (c_api_Topo a0_))], H535⟩) (APath.fin (by rcases hfa14 with ha14e | ⟨_, _, ha14e⟩ <;> subst ha14e <;> kernel_rfl)) (by rcases hfa14 with ha14e | ⟨_, _, ha14e⟩ <;> subst ha14e <;> kernel_rfl) ?_
              obtain rfl := some_inj h
              exact ⟨_, rfl, ⟨a14, H535, (by show _ = _; rcases hfa14 with ha14e | ⟨_, _, ha14e⟩ <;> subst ha14e <;> kernel_rfl), (HP.pick hH [0] rfl)⟩⟩
            · refine vc_kp ?_
              try show vc _ _ _ _ _
              refine vc_exit ?_
              try show vc _ _ _ _ _
              obtain rfl := some_inj h
              exact ⟨_, rfl, rfl, ⟨a14, H15, (by show _ = _; rcases hfa14 with ha14e | ⟨_, _, ha14e⟩ <;> subst ha14e <;> kernel_rfl), (HP.pick hH [0] rfl)⟩⟩
          · rintro e s hq
            obtain ⟨rfl, hR⟩ := hq
            obtain ⟨a518, H519, rfl, hH⟩ := hR
            replace hH : HP H519 [.arr a518 1 false (List.map eI64 o536)] := hH
            have hfa518 := own_form (HP.get hH 0 rfl)
            try show vc _ _ _ _ _
            refine vc_seq ?_
            refine vc_seq ?_
            refine vc_reg (S := ⟨[(1, .loc 1 0), (3, a518), (59, s_eB false a0_.Station), (60, iv ((List.length a0_.Station : Nat) : Int)), (61, iv 0)], [(1, (c_api_Topo a0_))], H519⟩) (APath.chunk 2 (by rcases hfa518 with ha518e | ⟨_, _, ha518e⟩ <;> subst ha518e <;> kernel_rfl) (APath.one (.val 60 .len [.t 59]) (by kernel_rfl) (st_val (ys := [s_eB false a0_.Station]) (by rcases hfa518 with ha518e | ⟨_, _, ha518e⟩ <;> subst ha518e <;> kernel_rfl) (vexec_len eB)) (APath.fin (by rcases hfa518 with ha518e | ⟨_, _, ha518e⟩ <;> subst ha518e <;> kernel_rfl)))) (by rcases hfa518 with ha518e | ⟨_, _, ha518e⟩ <;> subst ha518e <;> kernel_rfl) ?_
            refine vc_block ?_
            obtain ⟨o1052, ho1052, h⟩ := bind_some h
            refine vc_loop ((loop_sim (fun (x : Int) s => s = ⟨[(1, .loc 1 0), (3, a518), (59, s_eB false a0_.Station), (60, iv ((List.length a0_.Station : Nat) : Int)), (61, iv x)], [(1, (c_api_Topo a0_))], H519⟩) (fun x : Int => topo_Check_L2 N a0_ o536 x) (fun (p : (Unit) ⊕ (Int)) e s => match p with | (.inl p) => e = .exit 2 ∧ (s = ⟨[(1, .loc 1 0)], [(1, (c_api_Topo a0_))], H519⟩) | (.inr p) => e = .ret ∧ ∃ xs, resL s i50.res = some xs ∧ tupOf xs = iv p) ?_ N _ o1052 _ ho1052 (by show _ = _; rcases hfa518 with ha518e | ⟨_, _, ha518e⟩ <;> subst ha518e <;> kernel_rfl)).mono ?_)
            · clear h ho1052
              rintro i537 o s h hR
              obtain rfl := hR
              replace h : topo_Check_L2 N a0_ o536 i537 = some o := h
              unfold topo_Check_L2 at h
              refine vc_seq ?_
              refine vc_reg (S := ⟨[(1, .loc 1 0), (3, a518), (59, s_eB false a0_.Station), (60, iv ((List.length a0_.Station : Nat) : Int)), (61, iv i537), (62, bv (decide (i537 < ((List.length a0_.Station : Nat) : Int))))], [(1, (c_api_Topo a0_))], H519⟩) (APath.fin (by rcases hfa518 with ha518e | ⟨_, _, ha518e⟩ <;> subst ha518e <;> kernel_rfl)) (by rcases hfa518 with ha518e | ⟨_, _, ha518e⟩ <;> subst ha518e <;> kernel_rfl) ?_
              refine vc_seq ?_
              refine vc_ite (by kernel_rfl) h (fun hc1038 h => ?_) (fun hc1038 h => ?_)
              · refine vc_skip ?_
                refine vc_kp ?_
                refine vc_seq ?_
                refine vc_block ?_
                refine vc_seq ?_
                obtain ⟨e1039, he1039, h⟩ := bind_some h
                refine vc_reg (S := ⟨[(1, .loc 1 0), (3, a518), (6, iv i537), (7, bv e1039), (59, s_eB false a0_.Station), (60, iv ((List.length a0_.Station : Nat) : Int)), (61, iv i537)], [(1, (c_api_Topo a0_))], H519⟩) (APath.chunk 1 (by rcases hfa518 with ha518e | ⟨_, _, ha518e⟩ <;> subst ha518e <;> kernel_rfl) (APath.one (.val 64 (.iaddrS 1) [.t 59, .t 61]) (by kernel_rfl) (st_val (ys := [s_eB false a0_.Station, iv i537]) (by rcases hfa518 with ha518e | ⟨_, _, ha518e⟩ <;> subst ha518e <;> kernel_rfl) (vexec_iaddrS eB he1039)) (APath.one (.load 65 (.t 64) 1 false) (by kernel_rfl) (st_loadP (sz := 1) (off := 0) (cs := [.bool e1039]) (r := bv e1039) eB he1039 (by rcases hfa518 with ha518e | ⟨_, _, ha518e⟩ <;> subst ha518e <;> kernel_rfl) (by rcases hfa518 with ha518e | ⟨_, _, ha518e⟩ <;> subst ha518e <;> kernel_rfl) (by rcases hfa518 with ha518e | ⟨_, _, ha518e⟩ <;> subst ha518e <;> kernel_rfl)) (APath.fin (by rcases hfa518 with ha518e | ⟨_, _, ha518e⟩ <;> subst ha518e <;> kernel_rfl))))) (by rcases hfa518 with ha518e | ⟨_, _, ha518e⟩ <;> subst ha518e <;> kernel_rfl) ?_
                refine vc_seq ?_
                obtain ⟨j1050, hj, h⟩ := bind_some h
                refine vc_regXR (fun s => s = ⟨[(1, .loc 1 0), (3, a518), (59, s_eB false a0_.Station), (60, iv ((List.length a0_.Station : Nat) : Int)), (61, iv i537), (80, bv j1050)], [(1, (c_api_Topo a0_))], H519⟩) ?_ ?_
                · clear h
                  rcases ite_some hj with ⟨hc1040, hj⟩ | ⟨hc1049, hj⟩
                  · obtain ⟨e1041, he1041, hj⟩ := bind_some hj
                    obtain ⟨id1042, ver1043, _, hid1042f, hid1042, hid1042a, hid1042v⟩ := HP.elem (k := 0) (a := a518) (sz := 1) (frz := false) eI64 hH rfl he1041
                    rcases ite_some hj with ⟨hc1044, hj⟩ | ⟨hc1045, hj⟩
                    · obtain rfl := some_inj hj
                      exact ⟨_, (APath.one (.val 66 .mov [.t 7]) (by kernel_rfl) (st_bool (c := e1039) (by rcases hfa518 with ha518e | ⟨_, _, ha518e⟩ <;> subst ha518e <;> kernel_rfl) hc1040) (APath.chunk 3 (by rcases hfa518 with ha518e | ⟨_, _, ha518e⟩ <;> subst ha518e <;> kernel_rfl) (APath.oneG (.val 70 (.iaddrS 1) [.t 68, .t 69]) 67 true (by kernel_rfl) (by rcases hfa518 with ha518e | ⟨_, _, ha518e⟩ <;> subst ha518e <;> kernel_rfl) (st_val (ys := [a518, iv i537]) (by rcases hfa518 with ha518e | ⟨_, _, ha518e⟩ <;> subst ha518e <;> kernel_rfl) (hid1042v .i64)) (APath.oneG (.load 71 (.t 70) 1 false) 67 true (by kernel_rfl) (by rcases hfa518 with ha518e | ⟨_, _, ha518e⟩ <;> subst ha518e <;> kernel_rfl) (st_loadO (H := H519) (off := 0) (cs := [.int .i64 e1041]) (r := iv e1041) eI64 he1041 hid1042 (by rcases hfa518 with ha518e | ⟨_, _, ha518e⟩ <;> subst ha518e <;> kernel_rfl) (by rcases hfa518 with ha518e | ⟨_, _, ha518e⟩ <;> subst ha518e <;> kernel_rfl) (by rcases hfa518 with ha518e | ⟨_, _, ha518e⟩ <;> subst ha518e <;> kernel_rfl) (by rcases hfa518 with ha518e | ⟨_, _, ha518e⟩ <;> subst ha518e <;> kernel_rfl)) (APath.oneG (.val 72 (.bin .lss) [.t 71, .k (.p (.int .i64 1))]) 67 true (by kernel_rfl) (by rcases hfa518 with ha518e | ⟨_, _, ha518e⟩ <;> subst ha518e <;> kernel_rfl) (st_bool (c := (decide (e1041 < 1))) (by rcases hfa518 with ha518e | ⟨_, _, ha518e⟩ <;> subst ha518e <;> kernel_rfl) hc1044) (APath.fin (by rcases hfa518 with ha518e | ⟨_, _, ha518e⟩ <;> subst ha518e <;> kernel_rfl))))))), (by show _ = _; rcases hfa518 with ha518e | ⟨_, _, ha518e⟩ <;> subst ha518e <;> kernel_rfl)⟩
                    · obtain ⟨e1046, he1046, hj⟩ := bind_some hj
                      obtain ⟨id1047, ver1048, _, hid1047f, hid1047, hid1047a, hid1047v⟩ := HP.elem (k := 0) (a := a518) (sz := 1) (frz := false) eI64 hH rfl he1046
                      obtain rfl := some_inj hj
                      exact ⟨_, (APath.one (.val 66 .mov [.t 7]) (by kernel_rfl) (st_bool (c := e1039) (by rcases hfa518 with ha518e | ⟨_, _, ha518e⟩ <;> subst ha518e <;> kernel_rfl) hc1040) (APath.chunk 3 (by rcases hfa518 with ha518e | ⟨_, _, ha518e⟩ <;> subst ha518e <;> kernel_rfl) (APath.oneG (.val 70 (.iaddrS 1) [.t 68, .t 69]) 67 true (by kernel_rfl) (by rcases hfa518 with ha518e | ⟨_, _, ha518e⟩ <;> subst ha518e <;> kernel_rfl) (st_val (ys := [a518, iv i537]) (by rcases hfa518 with ha518e | ⟨_, _, ha518e⟩ <;> subst ha518e <;> kernel_rfl) (hid1042v .i64)) (APath.oneG (.load 71 (.t 70) 1 false) 67 true (by kernel_rfl) (by rcases hfa518 with ha518e | ⟨_, _, ha518e⟩ <;> subst ha518e <;> kernel_rfl) (st_loadO (H := H519) (off := 0) (cs := [.int .i64 e1041]) (r := iv e1041) eI64 he1041 hid1042 (by rcases hfa518 with ha518e | ⟨_, _, ha518e⟩ <;> subst ha518e <;> kernel_rfl) (by rcases hfa518 with ha518e | ⟨_, _, ha518e⟩ <;> subst ha518e <;> kernel_rfl) (by rcases hfa518 with ha518e | ⟨_, _, ha518e⟩ <;> subst ha518e <;> kernel_rfl) (by rcases hfa518 with ha518e | ⟨_, _, ha518e⟩ <;> subst ha518e <;> kernel_rfl)) (APath.oneG (.val 72 (.bin .lss) [.t 71, .k (.p (.int .i64 1))]) 67 true (by kernel_rfl) (by rcases hfa518 with ha518e | ⟨_, _, ha518e⟩ <;> subst ha518e <;> kernel_rfl) (st_bool (c := (decide (e1041 < 1))) (by rcases hfa518 with ha518e | ⟨_, _, ha518e⟩ <;> subst ha518e <;> kernel_rfl) hc1045) (APath.chunk 3 (by rcases hfa518 with ha518e | ⟨_, _, ha518e⟩ <;> subst ha518e <;> kernel_rfl) (APath.oneG (.val 76 (.iaddrS 1) [.t 74, .t 75]) 73 false (by kernel_rfl) (by rcases hfa518 with ha518e | ⟨_, _, ha518e⟩ <;> subst ha518e <;> kernel_rfl) (st_val (ys := [a518, iv i537]) (by rcases hfa518 with ha518e | ⟨_, _, ha518e⟩ <;> subst ha518e <;> kernel_rfl) (hid1047v .i64)) (APath.oneG (.load 77 (.t 76) 1 false) 73 false (by kernel_rfl) (by rcases hfa518 with ha518e | ⟨_, _, ha518e⟩ <;> subst ha518e <;> kernel_rfl) (st_loadO (H := H519) (off := 0) (cs := [.int .i64 e1046]) (r := iv e1046) eI64 he1046 hid1047 (by rcases hfa518 with ha518e | ⟨_, _, ha518e⟩ <;> subst ha518e <;> kernel_rfl) (by rcases hfa518 with ha518e | ⟨_, _, ha518e⟩ <;> subst ha518e <;> kernel_rfl) (by rcases hfa518 with ha518e | ⟨_, _, ha518e⟩ <;> subst ha518e <;> kernel_rfl) (by rcases hfa518 with ha518e | ⟨_, _, ha518e⟩ <;> subst ha518e <;> kernel_rfl)) (APath.fin (by rcases hfa518 with ha518e | ⟨_, _, ha518e⟩ <;> subst ha518e <;> kernel_rfl)))))))))), (by show _ = _; rcases hfa518 with ha518e | ⟨_, _, ha518e⟩ <;> subst ha518e <;> kernel_rfl)⟩
                  · obtain rfl := some_inj hj
                    exact ⟨_, (APath.one (.val 66 .mov [.t 7]) (by kernel_rfl) (st_bool (c := e1039) (by rcases hfa518 with ha518e | ⟨_, _, ha518e⟩ <;> subst ha518e <;> kernel_rfl) hc1049) (APath.fin (by rcases hfa518 with ha518e | ⟨_, _, ha518e⟩ <;> subst ha518e <;> kernel_rfl))), (by show _ = _; rcases hfa518 with ha518e | ⟨_, _, ha518e⟩ <;> subst ha518e <;> kernel_rfl)⟩
                · clear hj
                  rintro s hR
                  obtain rfl := hR
                  refine vc_ite (by kernel_rfl) h (fun hc1051 h => ?_) (fun hc1051 h => ?_)
                  · refine vc_seq ?_
                    refine vc_reg (S := ⟨[(2, iv 260)], [], H519⟩) (APath.fin (by rcases hfa518 with ha518e | ⟨_, _, ha518e⟩ <;> subst ha518e <;> kernel_rfl)) (by rcases hfa518 with ha518e | ⟨_, _, ha518e⟩ <;> subst ha518e <;> kernel_rfl) ?_
                    replace hH : HP H519 [] := HP.pick hH [] rfl
                    refine vc_ret ?_
                    obtain rfl := some_inj h
                    exact ⟨_, rfl, rfl, ret_of (by kernel_rfl)⟩
                  · refine vc_skip ?_
                    refine vc_kp ?_
                    refine vc_reg (S := ⟨[(1, .loc 1 0), (3, a518), (59, s_eB false a0_.Station), (60, iv ((List.length a0_.Station : Nat) : Int)), (61, iv (w64 (i537 + 1)))], [(1, (c_api_Topo a0_))], H519⟩) (APath.fin (by rcases hfa518 with ha518e | ⟨_, _, ha518e⟩ <;> subst ha518e <;> kernel_rfl)) (by rcases hfa518 with ha518e | ⟨_, _, ha518e⟩ <;> subst ha518e <;> kernel_rfl) ?_
                    obtain rfl := some_inj h
                    exact ⟨_, rfl, (by show _ = _; rcases hfa518 with ha518e | ⟨_, _, ha518e⟩ <;> subst ha518e <;> kernel_rfl)⟩
              · refine vc_kp ?_
                try show vc _ _ _ _ _
                replace hH : HP H519 [] := HP.pick hH [] rfl
                refine vc_exit ?_
                try show vc _ _ _ _ _
                obtain rfl := some_inj h
                exact ⟨_, rfl, rfl, (by show _ = _; kernel_rfl)⟩
            · rintro e s hq
              rcases o1052 with p1053 | p1057
              · dsimp only at h hq
                obtain ⟨rfl, hR⟩ := hq
                obtain rfl := hR
                try show vc _ _ _ _ _
                refine vc_seq ?_
                refine vc_seq ?_
                obtain ⟨r1054, hr1054, h⟩ := bind_some h
                obtain ⟨r1055, hr1055, h⟩ := bind_some h
                refine vc_reg (S := ⟨[(85, bv r1055)], [], H519⟩) (APath.chunk 2 (by kernel_rfl) (APath.one (.call (some 84) 76 [.t 82, .k (.p (.int .i64 0)), .t 83]) (by kernel_rfl) (st_call (by kernel_rfl) (topo_reach_ok N a0_ 0 (Arr24_Bool.mk false false false false false false false false false false false false false false false false false false false false false false false false) r1054 hr1054)) (APath.one (.call (some 85) 75 [.t 84, .k (.p (.bool false))]) (by kernel_rfl) (st_call (by kernel_rfl) (slices_Contains__bool_bool_ok N r1054 false r1055 hr1055)) APath.done))) (by kernel_rfl) ?_
                refine vc_ite (by kernel_rfl) h (fun hc1056 h => ?_) (fun hc1056 h => ?_)
                · refine vc_seq ?_
                  refine vc_reg (S := ⟨[(2, iv 260)], [], H519⟩) (APath.fin (by kernel_rfl)) (by kernel_rfl) ?_
                  refine vc_ret ?_
                  obtain rfl := some_inj h
                  exact ret_of (by kernel_rfl)
                · refine vc_skip ?_
                  refine vc_kp ?_
                  refine vc_seq ?_
                  refine vc_reg (S := ⟨[(2, iv 0)], [], H519⟩) (APath.fin (by kernel_rfl)) (by kernel_rfl) ?_
                  refine vc_ret ?_
                  obtain rfl := some_inj h
                  exact ret_of (by kernel_rfl)
              · dsimp only at h hq
                obtain ⟨rfl, hq⟩ := hq
                obtain rfl := some_inj h
                exact hq
theorem route_Apart_1_ok (N : Nat) (a0_ : route_walk) (c0_ : (List Int)) (c1_ : (List Int)) (k0_ : Nat) (k1_ : Nat) (H : List HO) (hH : HP H [.cel k0_ [s_eI64 false c0_], .cel k1_ [s_eI64 false c1_]]) (r : Bool × Int) (h : route_Apart_1 N a0_ c0_ c1_ = some r) : ACall Try.prog 58 [.agg (c_api_Topo a0_.Topo), .ptr k0_ 0, .ptr k1_ 0] H (.tup [bv r.1, iv r.2]) H := by
  unfold route_Apart_1 at h
  refine acall_ofW chk58 rfl rfl rfl (vc_sound _ _ _ ?_)
  refine vc_seq ?_
  refine vc_reg (S := ⟨[(1, .ptr k0_ 0), (2, .ptr k1_ 0), (3, .loc 3 0)], [(3, (c_api_Topo a0_.Topo))], H⟩) (APath.fin (by kernel_rfl)) (by kernel_rfl) ?_
  refine vc_seq ?_
  refine vc_seq ?_
  have hlc1 := HP.get hH 0 rfl
  obtain ⟨r2, hr2, h⟩ := bind_some h
  refine vc_reg (S := ⟨[(1, .ptr k0_ 0), (2, .ptr k1_ 0), (3, .loc 3 0), (9, bv (!r2))], [(3, (c_api_Topo a0_.Topo))], H⟩) (APath.chunk 1 (by kernel_rfl) (APath.one (.load 7 (.t 1) 1 false) (by kernel_rfl) (st_loadC (H := H) (id := k0_) (off := 0) (cs := [s_eI64 false c0_]) (c := [s_eI64 false c0_]) (r := s_eI64 false c0_) (by kernel_rfl) (by kernel_rfl) hlc1 (by kernel_rfl) (by kernel_rfl) (by kernel_rfl)) (APath.one (.call (some 8) 51 [.t 6, .t 7]) (by kernel_rfl) (st_call (by kernel_rfl) (route_walk_valid_ok N a0_ c0_ r2 hr2)) (APath.fin (by kernel_rfl))))) (by kernel_rfl) ?_
  refine vc_ite (by kernel_rfl) h (fun hc3 h => ?_) (fun hc3 h => ?_)
  · refine vc_seq ?_
    refine vc_reg (S := ⟨[(4, bv false), (5, iv 310)], [], H⟩) (APath.fin (by kernel_rfl)) (by kernel_rfl) ?_
    replace hH : HP H [] := HP.pick hH [] rfl
    refine vc_ret ?_
    obtain rfl := some_inj h
    exact ret_ofAW (by kernel_rfl) (by kernel_rfl)
  · refine vc_skip ?_
    refine vc_kp ?_
    refine vc_seq ?_
    obtain ⟨j17, hj, h⟩ := bind_some h
    refine vc_regXR (fun s => s = ⟨[(4, bv j17), (5, iv 0)], [], H⟩) ?_ ?_
    · clear h
      have hlc4 := HP.get hH 1 rfl
      have hlc5 := HP.get hH 0 rfl
      obtain ⟨r6, hr6, hj⟩ := bind_some hj
      rcases ite_some hj with ⟨hc7, hj⟩ | ⟨hc16, hj⟩
      · have hlc8 := HP.get hH 1 rfl
        have hlc9 := HP.get hH 0 rfl
        obtain ⟨r10, hr10, hj⟩ := bind_some hj
        rcases ite_some hj with ⟨hc11, hj⟩ | ⟨hc15, hj⟩
        · have hlc12 := HP.get hH 0 rfl
          have hlc13 := HP.get hH 1 rfl
          obtain ⟨r14, hr14, hj⟩ := bind_some hj
          obtain rfl := some_inj hj
          exact ⟨_, (APath.one (.load 10 (.t 2) 1 false) (by kernel_rfl) (st_loadC (H := H) (id := k1_) (off := 0) (cs := [s_eI64 false c1_]) (c := [s_eI64 false c1_]) (r := s_eI64 false c1_) (by kernel_rfl) (by kernel_rfl) hlc4 (by kernel_rfl) (by kernel_rfl) (by kernel_rfl)) (APath.one (.load 11 (.t 1) 1 false) (by kernel_rfl) (st_loadC (H := H) (id := k0_) (off := 0) (cs := [s_eI64 false c0_]) (c := [s_eI64 false c0_]) (r := s_eI64 false c0_) (by kernel_rfl) (by kernel_rfl) hlc5 (by kernel_rfl) (by kernel_rfl) (by kernel_rfl)) (APath.one (.call (some 12) 59 [.t 10, .t 11]) (by kernel_rfl) (st_call (by kernel_rfl) (route_shares_ok N c1_ c0_ r6 hr6)) (APath.one (.val 13 .not [.t 12]) (by kernel_rfl) (st_bool (c := (!r6)) (by kernel_rfl) hc7) (APath.chunk 2 (by kernel_rfl) (APath.oneG (.load 16 (.t 2) 1 false) 14 true (by kernel_rfl) (by kernel_rfl) (st_loadC (H := H) (id := k1_) (off := 0) (cs := [s_eI64 false c1_]) (c := [s_eI64 false c1_]) (r := s_eI64 false c1_) (by kernel_rfl) (by kernel_rfl) hlc8 (by kernel_rfl) (by kernel_rfl) (by kernel_rfl)) (APath.oneG (.load 17 (.t 1) 1 false) 14 true (by kernel_rfl) (by kernel_rfl) (st_loadC (H := H) (id := k0_) (off := 0) (cs := [s_eI64 false c0_]) (c := [s_eI64 false c0_]) (r := s_eI64 false c0_) (by kernel_rfl) (by kernel_rfl) hlc9 (by kernel_rfl) (by kernel_rfl) (by kernel_rfl)) (APath.oneG (.call (some 18) 60 [.t 15, .t 16, .t 17]) 14 true (by kernel_rfl) (by kernel_rfl) (st_call (by kernel_rfl) (route_walk_meets_ok N a0_ c1_ c0_ r10 hr10)) (APath.oneG (.val 19 .not [.t 18]) 14 true (by kernel_rfl) (by kernel_rfl) (st_bool (c := (!r10)) (by kernel_rfl) hc11) (APath.chunk 3 (by kernel_rfl) (APath.oneG (.load 23 (.t 1) 1 false) 21 true (by kernel_rfl) (by kernel_rfl) (st_loadC (H := H) (id := k0_) (off := 0) (cs := [s_eI64 false c0_]) (c := [s_eI64 false c0_]) (r := s_eI64 false c0_) (by kernel_rfl) (by kernel_rfl) hlc12 (by kernel_rfl) (by kernel_rfl) (by kernel_rfl)) (APath.oneG (.load 24 (.t 2) 1 false) 21 true (by kernel_rfl) (by kernel_rfl) (st_loadC (H := H) (id := k1_) (off := 0) (cs := [s_eI64 false c1_]) (c := [s_eI64 false c1_]) (r := s_eI64 false c1_) (by kernel_rfl) (by kernel_rfl) hlc13 (by kernel_rfl) (by kernel_rfl) (by kernel_rfl)) (APath.oneG (.call (some 25) 60 [.t 22, .t 23, .t 24]) 21 true (by kernel_rfl) (by kernel_rfl) (st_call (by kernel_rfl) (route_walk_meets_ok N a0_ c0_ c1_ r14 hr14)) (APath.fin (by kernel_rfl))))))))))))))), (by show _ = _; kernel_rfl)⟩
        · obtain rfl := some_inj hj
          exact ⟨_, (APath.one (.load 10 (.t 2) 1 false) (by kernel_rfl) (st_loadC (H := H) (id := k1_) (off := 0) (cs := [s_eI64 false c1_]) (c := [s_eI64 false c1_]) (r := s_eI64 false c1_) (by kernel_rfl) (by kernel_rfl) hlc4 (by kernel_rfl) (by kernel_rfl) (by kernel_rfl)) (APath.one (.load 11 (.t 1) 1 false) (by kernel_rfl) (st_loadC (H := H) (id := k0_) (off := 0) (cs := [s_eI64 false c0_]) (c := [s_eI64 false c0_]) (r := s_eI64 false c0_) (by kernel_rfl) (by kernel_rfl) hlc5 (by kernel_rfl) (by kernel_rfl) (by kernel_rfl)) (APath.one (.call (some 12) 59 [.t 10, .t 11]) (by kernel_rfl) (st_call (by kernel_rfl) (route_shares_ok N c1_ c0_ r6 hr6)) (APath.one (.val 13 .not [.t 12]) (by kernel_rfl) (st_bool (c := (!r6)) (by kernel_rfl) hc7) (APath.chunk 2 (by kernel_rfl) (APath.oneG (.load 16 (.t 2) 1 false) 14 true (by kernel_rfl) (by kernel_rfl) (st_loadC (H := H) (id := k1_) (off := 0) (cs := [s_eI64 false c1_]) (c := [s_eI64 false c1_]) (r := s_eI64 false c1_) (by kernel_rfl) (by kernel_rfl) hlc8 (by kernel_rfl) (by kernel_rfl) (by kernel_rfl)) (APath.oneG (.load 17 (.t 1) 1 false) 14 true (by kernel_rfl) (by kernel_rfl) (st_loadC (H := H) (id := k0_) (off := 0) (cs := [s_eI64 false c0_]) (c := [s_eI64 false c0_]) (r := s_eI64 false c0_) (by kernel_rfl) (by kernel_rfl) hlc9 (by kernel_rfl) (by kernel_rfl) (by kernel_rfl)) (APath.oneG (.call (some 18) 60 [.t 15, .t 16, .t 17]) 14 true (by kernel_rfl) (by kernel_rfl) (st_call (by kernel_rfl) (route_walk_meets_ok N a0_ c1_ c0_ r10 hr10)) (APath.oneG (.val 19 .not [.t 18]) 14 true (by kernel_rfl) (by kernel_rfl) (st_bool (c := (!r10)) (by kernel_rfl) hc15) (APath.fin (by kernel_rfl))))))))))), (by show _ = _; kernel_rfl)⟩
      · obtain rfl := some_inj hj
        exact ⟨_, (APath.one (.load 10 (.t 2) 1 false) (by kernel_rfl) (st_loadC (H := H) (id := k1_) (off := 0) (cs := [s_eI64 false c1_]) (c := [s_eI64 false c1_]) (r := s_eI64 false c1_) (by kernel_rfl) (by kernel_rfl) hlc4 (by kernel_rfl) (by kernel_rfl) (by kernel_rfl)) (APath.one (.load 11 (.t 1) 1 false) (by kernel_rfl) (st_loadC (H := H) (id := k0_) (off := 0) (cs := [s_eI64 false c0_]) (c := [s_eI64 false c0_]) (r := s_eI64 false c0_) (by kernel_rfl) (by kernel_rfl) hlc5 (by kernel_rfl) (by kernel_rfl) (by kernel_rfl)) (APath.one (.call (some 12) 59 [.t 10, .t 11]) (by kernel_rfl) (st_call (by kernel_rfl) (route_shares_ok N c1_ c0_ r6 hr6)) (APath.one (.val 13 .not [.t 12]) (by kernel_rfl) (st_bool (c := (!r6)) (by kernel_rfl) hc16) (APath.fin (by kernel_rfl)))))), (by show _ = _; kernel_rfl)⟩
    · clear hj
      rintro s hR
      obtain rfl := hR
      refine vc_ret ?_
      obtain rfl := some_inj h
      exact ret_ofAW (by kernel_rfl) (by kernel_rfl)
theorem topo_ask_int_ok (N : Nat) (a0_ : api_Topo) (a1_ : Int) (a2_ : topo_end → Option (Int)) (a2_f : Nat) (a2_p a2_c : List AV) (ha2_n : (noLocL a2_p && noLocL a2_c) = true) (its : List Thing) (ha2_ : ∀ (H : List HO) (x0 : topo_end) (r : Int), HP H its → a2_ x0 = some r → VCall Try.prog (.fn a2_f a2_p a2_c) [.agg [iv x0.Link.A, iv x0.Link.B, iv x0.Link.Per, iv x0.Link.Delay, iv x0.port]] H (iv r) H) (H : List HO) (hH : HP H (its)) (r : Int × Int) (h : topo_ask_int N a0_ a1_ a2_ = some r) : ACall Try.prog 79 [.agg (c_api_Topo a0_), iv a1_, .fn a2_f a2_p a2_c] H (.tup [iv r.1, iv r.2]) H := by
  unfold topo_ask_int at h
  refine acall_ofW chk79 rfl (by simpa [noLocL, noLoc.noLocL, noLoc] using ha2_n) rfl (vc_sound _ _ _ ?_)
  refine vc_seq ?_
  refine vc_reg (S := ⟨[(1, iv a1_), (2, .fn a2_f a2_p a2_c), (3, .loc 3 0)], [(3, (c_api_Topo a0_))], H⟩) (APath.fin (by kernel_rfl)) (by kernel_rfl) ?_
  refine vc_seq ?_
  refine vc_reg (S := ⟨[(1, iv a1_), (2, .fn a2_f a2_p a2_c), (3, .loc 3 0), (8, iv 0)], [(3, (c_api_Topo a0_))], H⟩) (APath.fin (by kernel_rfl)) (by kernel_rfl) ?_
  refine vc_seq ?_
  refine vc_seq ?_
  obtain ⟨r1, hr1, h⟩ := bind_some h
  refine vc_reg (S := ⟨[(1, iv a1_), (2, .fn a2_f a2_p a2_c), (3, .loc 3 0), (8, iv 0), (9, iv r1)], [(3, (c_api_Topo a0_))], H⟩) (APath.chunk 1 (by kernel_rfl) (APath.one (.call (some 11) 50 [.t 10]) (by kernel_rfl) (st_call (by kernel_rfl) (topo_Check_ok N a0_ r1 hr1)) (APath.fin (by kernel_rfl)))) (by kernel_rfl) ?_
  refine vc_seq ?_
  refine vc_reg (S := ⟨[(1, iv a1_), (2, .fn a2_f a2_p a2_c), (3, .loc 3 0), (8, iv 0), (9, iv r1), (13, bv (r1 != 0))], [(3, (c_api_Topo a0_))], H⟩) (APath.fin (by kernel_rfl)) (by kernel_rfl) ?_
  refine vc_ite (by kernel_rfl) h (fun hc2 h => ?_) (fun hc2 h => ?_)
  · refine vc_seq ?_
    refine vc_reg (S := ⟨[(6, iv 0), (7, iv r1)], [], H⟩) (APath.fin (by kernel_rfl)) (by kernel_rfl) ?_
    refine vc_ret ?_
    obtain rfl := some_inj h
    exact ret_ofAW (by kernel_rfl) (by kernel_rfl)
  · refine vc_skip ?_
    refine vc_kp ?_
    refine vc_seq ?_
    refine vc_seq ?_
    refine vc_regX ⟨[(1, iv a1_), (2, .fn a2_f a2_p a2_c), (3, .loc 3 0), (8, iv 0), (25, bv ((decide (a1_ < 0)) || (decide (a1_ ≥ (w64 (2 * ((List.length a0_.Links : Nat) : Int)))))))], [(3, (c_api_Topo a0_))], H⟩ ?_ ?_
    · rcases Bool.eq_false_or_eq_true (decide (a1_ < 0)) with hc3 | hc4
      · exact ⟨_, (APath.chunk 1 (by kernel_rfl) (APath.one (.val 17 (.bin .lss) [.t 16, .k (.p (.int .i64 0))]) (by kernel_rfl) (st_bool (c := (decide (a1_ < 0))) (by kernel_rfl) hc3) (APath.fin (by kernel_rfl)))), by simp only [hc3]; kernel_rfl⟩
      · exact ⟨_, (APath.chunk 1 (by kernel_rfl) (APath.one (.val 17 (.bin .lss) [.t 16, .k (.p (.int .i64 0))]) (by kernel_rfl) (st_bool (c := (decide (a1_ < 0))) (by kernel_rfl) hc4) (APath.chunk 4 (by kernel_rfl) (APath.oneG (.val 22 .len [.t 21]) 18 false (by kernel_rfl) (by kernel_rfl) (st_val (ys := [s_e_api_Link false a0_.Links]) (by kernel_rfl) (vexec_len e_api_Link)) (APath.fin (by kernel_rfl)))))), by simp only [hc4]; kernel_rfl⟩
    · refine vc_ite (by kernel_rfl) h (fun hc5 h => ?_) (fun hc5 h => ?_)
      · refine vc_seq ?_
        refine vc_reg (S := ⟨[(6, iv 0), (7, iv 2)], [], H⟩) (APath.fin (by kernel_rfl)) (by kernel_rfl) ?_
        refine vc_ret ?_
        obtain rfl := some_inj h
        exact ret_ofAW (by kernel_rfl) (by kernel_rfl)
      · refine vc_skip ?_
        refine vc_kp ?_
        refine vc_seq ?_
        obtain ⟨e6, he6, h⟩ := bind_some h
        obtain ⟨r7, hr7, h⟩ := bind_some h
        have hvr7 := ha2_ _ (topo_end.mk e6 a1_) _ hH hr7
        refine vc_reg (S := ⟨[(6, iv r7), (7, iv 0)], [], H⟩) (APath.chunk 5 (by kernel_rfl) (APath.one (.val 32 (.iaddrS 4) [.t 29, .t 31]) (by kernel_rfl) (st_val (ys := [s_e_api_Link false a0_.Links, iv (w64 (Int.tdiv a1_ 2))]) (by kernel_rfl) (vexec_iaddrS e_api_Link he6)) (APath.one (.load 33 (.t 32) 4 true) (by kernel_rfl) (st_loadP (sz := 4) (off := 0) (cs := [.int .i64 e6.A, .int .i64 e6.B, .int .i64 e6.Per, .int .i64 e6.Delay]) (r := .agg (c_api_Link e6)) e_api_Link he6 (by kernel_rfl) (by kernel_rfl) (by kernel_rfl)) (APath.chunk 2 (by kernel_rfl) (APath.one (.callV (some 36) (.t 27) [.t 35]) (by kernel_rfl) (st_callV (H := H) (ys := [.agg [iv e6.A, iv e6.B, iv e6.Per, iv e6.Delay, iv a1_]]) (by kernel_rfl) (by kernel_rfl) (by kernel_rfl) hvr7) (APath.fin (by kernel_rfl))))))) (by kernel_rfl) ?_
        refine vc_ret ?_
        obtain rfl := some_inj h
        exact ret_ofAW (by kernel_rfl) (by kernel_rfl)
theorem route_Check_ok (N : Nat) (a0_ : api_Topo) (a1_ : (List Int)) (r : Int) (h : route_Check N a0_ a1_ = some r) : PCall Try.prog 19 [.agg (c_api_Topo a0_), s_eI64 false a1_] (iv r) := by
  unfold route_Check at h
  have hH : HP ([] : List HO) [] := trivial
  refine pcall_of chk19 rfl rfl (vc_sound _ _ _ ?_) rfl
  refine vc_seq ?_
  refine vc_reg (S := ⟨[(1, s_eI64 false a1_), (2, .loc 2 0)], [(2, (c_api_Topo a0_))], []⟩) (APath.fin (by kernel_rfl)) (by kernel_rfl) ?_
  refine vc_seq ?_
  refine vc_seq ?_
  obtain ⟨r1, hr1, h⟩ := bind_some h
  refine vc_reg (S := ⟨[(1, s_eI64 false a1_), (2, .loc 2 0), (5, iv r1)], [(2, (c_api_Topo a0_))], []⟩) (APath.chunk 1 (by kernel_rfl) (APath.one (.call (some 7) 50 [.t 6]) (by kernel_rfl) (st_call (by kernel_rfl) (topo_Check_ok N a0_ r1 hr1)) (APath.fin (by kernel_rfl)))) (by kernel_rfl) ?_
  refine vc_seq ?_
  refine vc_reg (S := ⟨[(1, s_eI64 false a1_), (2, .loc 2 0), (5, iv r1), (9, bv (r1 != 0))], [(2, (c_api_Topo a0_))], []⟩) (APath.fin (by kernel_rfl)) (by kernel_rfl) ?_
  refine vc_ite (by kernel_rfl) h (fun hc2 h => ?_) (fun hc2 h => ?_)
  · refine vc_seq ?_
    refine vc_reg (S := ⟨[(4, iv r1)], [], []⟩) (APath.fin (by kernel_rfl)) (by kernel_rfl) ?_
    refine vc_ret ?_
    obtain rfl := some_inj h
    exact ret_of (by kernel_rfl)
  · refine vc_skip ?_
    refine vc_kp ?_
    refine vc_seq ?_
    refine vc_seq ?_
    obtain ⟨r3, hr3, h⟩ := bind_some h
    refine vc_reg (S := ⟨[(15, bv (!r3))], [], []⟩) (APath.chunk 3 (by kernel_rfl) (APath.one (.call (some 14) 51 [.t 12, .t 13]) (by kernel_rfl) (st_call (by kernel_rfl) (route_walk_valid_ok N (route_walk.mk a0_) a1_ r3 hr3)) (APath.fin (by kernel_rfl)))) (by kernel_rfl) ?_
    refine vc_ite (by kernel_rfl) h (fun hc4 h => ?_) (fun hc4 h => ?_)
    · refine vc_seq ?_
      refine vc_reg (S := ⟨[(4, iv 310)], [], []⟩) (APath.fin (by kernel_rfl)) (by kernel_rfl) ?_
      refine vc_ret ?_
      obtain rfl := some_inj h
      exact ret_of (by kernel_rfl)
    · refine vc_skip ?_
      refine vc_kp ?_
      refine vc_seq ?_
      refine vc_reg (S := ⟨[(4, iv 0)], [], []⟩) (APath.fin (by kernel_rfl)) (by kernel_rfl) ?_
      refine vc_ret ?_
      obtain rfl := some_inj h
      exact ret_of (by kernel_rfl)
theorem route_Tree_ok (N : Nat) (a0_ : api_Topo) (a1_ : (List (List Int))) (r : (List Int) × Bool × Int) (h : route_Tree N a0_ a1_ = some r) : PCall Try.prog 28 [.agg (c_api_Topo a0_), s_eSl_1_eI64 false a1_] (.tup [s_eI64 false r.1, bv r.2.1, iv r.2.2]) := by
  unfold route_Tree at h
  have hH : HP ([] : List HO) [] := trivial
  refine pcall_of chk28 rfl rfl (vc_sound _ _ _ ?_) rfl
  refine vc_seq ?_
  refine vc_reg (S := ⟨[(1, s_eSl_1_eI64 false a1_), (2, .loc 2 0)], [(2, (c_api_Topo a0_))], []⟩) (APath.fin (by kernel_rfl)) (by kernel_rfl) ?_
  refine vc_seq ?_
  refine vc_seq ?_
  obtain ⟨r1, hr1, h⟩ := bind_some h
  refine vc_reg (S := ⟨[(1, s_eSl_1_eI64 false a1_), (2, .loc 2 0), (7, iv r1)], [(2, (c_api_Topo a0_))], []⟩) (APath.chunk 1 (by kernel_rfl) (APath.one (.call (some 23) 50 [.t 22]) (by kernel_rfl) (st_call (by kernel_rfl) (topo_Check_ok N a0_ r1 hr1)) (APath.fin (by kernel_rfl)))) (by kernel_rfl) ?_
  refine vc_seq ?_
  refine vc_reg (S := ⟨[(1, s_eSl_1_eI64 false a1_), (2, .loc 2 0), (7, iv r1), (25, bv (r1 != 0))], [(2, (c_api_Topo a0_))], []⟩) (APath.fin (by kernel_rfl)) (by kernel_rfl) ?_
  refine vc_ite (by kernel_rfl) h (fun hc2 h => ?_) (fun hc2 h => ?_)
  · refine vc_seq ?_
    refine vc_reg (S := ⟨[(4, s_eI64 true []), (5, bv false), (6, iv r1)], [], []⟩) (APath.fin (by kernel_rfl)) (by kernel_rfl) ?_
    refine vc_ret ?_
    obtain rfl := some_inj h
    exact ret_of (by kernel_rfl)
  · refine vc_skip ?_
    refine vc_kp ?_
    refine vc_seq ?_
    refine vc_reg (S := ⟨[(1, s_eSl_1_eI64 false a1_), (8, .loc 8 0)], [(8, (c_api_Topo a0_))], []⟩) (APath.fin (by kernel_rfl)) (by kernel_rfl) ?_
    refine vc_seq ?_
    refine vc_seq ?_
    refine vc_reg (S := ⟨[(1, s_eSl_1_eI64 false a1_), (8, .loc 8 0), (29, s_eSl_1_eI64 false a1_), (30, iv ((List.length a1_ : Nat) : Int)), (31, iv 0)], [(8, (c_api_Topo a0_))], []⟩) (APath.chunk 1 (by kernel_rfl) (APath.one (.val 30 .len [.t 29]) (by kernel_rfl) (st_val (ys := [s_eSl_1_eI64 false a1_]) (by kernel_rfl) (vexec_len (eSl 1 eI64))) (APath.fin (by kernel_rfl)))) (by kernel_rfl) ?_
    refine vc_block ?_
    obtain ⟨o508, ho508, h⟩ := bind_some h
    refine vc_loop ((loop_sim (fun (x : Int) s => s = ⟨[(1, s_eSl_1_eI64 false a1_), (8, .loc 8 0), (29, s_eSl_1_eI64 false a1_), (30, iv ((List.length a1_ : Nat) : Int)), (31, iv x)], [(8, (c_api_Topo a0_))], []⟩) (fun x : Int => route_Tree_L1 N a0_ a1_ x) (fun (p : (Unit) ⊕ ((List Int) × Bool × Int)) e s => match p with | (.inl p) => e = .exit 0 ∧ (s = ⟨[(1, s_eSl_1_eI64 false a1_), (8, .loc 8 0)], [(8, (c_api_Topo a0_))], []⟩) | (.inr p) => e = .ret ∧ ∃ xs, resL s i28.res = some xs ∧ tupOf xs = .tup [s_eI64 false p.1, bv p.2.1, iv p.2.2]) ?_ N _ o508 _ ho508 (by show _ = _; kernel_rfl)).mono ?_)
    · clear h ho508
      rintro i3 o s h hR
      obtain rfl := hR
      replace h : route_Tree_L1 N a0_ a1_ i3 = some o := h
      unfold route_Tree_L1 at h
      refine vc_seq ?_
      refine vc_reg (S := ⟨[(1, s_eSl_1_eI64 false a1_), (8, .loc 8 0), (29, s_eSl_1_eI64 false a1_), (30, iv ((List.length a1_ : Nat) : Int)), (31, iv i3), (32, bv (decide (i3 < ((List.length a1_ : Nat) : Int))))], [(8, (c_api_Topo a0_))], []⟩) (APath.fin (by kernel_rfl)) (by kernel_rfl) ?_
      refine vc_seq ?_
      refine vc_ite (by kernel_rfl) h (fun hc504 h => ?_) (fun hc504 h => ?_)
      · refine vc_skip ?_
        refine vc_kp ?_
        refine vc_seq ?_
        refine vc_block ?_
        refine vc_seq ?_
        obtain ⟨e505, he505, h⟩ := bind_some h
        refine vc_reg (S := ⟨[(1, s_eSl_1_eI64 false a1_), (8, .loc 8 0), (10, s_eI64 false e505), (29, s_eSl_1_eI64 false a1_), (30, iv ((List.length a1_ : Nat) : Int)), (31, iv i3)], [(8, (c_api_Topo a0_))], []⟩) (APath.one (.val 33 (.iaddrS 1) [.t 29, .t 31]) (by kernel_rfl) (st_val (ys := [s_eSl_1_eI64 false a1_, iv i3]) (by kernel_rfl) (vexec_iaddrS (eSl 1 eI64) he505)) (APath.one (.load 34 (.t 33) 1 false) (by kernel_rfl) (st_loadP (sz := 1) (off := 0) (cs := [.sl 1 false (List.map eI64 e505)]) (r := s_eI64 false e505) (eSl 1 eI64) he505 (by kernel_rfl) (by kernel_rfl) (by kernel_rfl)) (APath.fin (by kernel_rfl)))) (by kernel_rfl) ?_
        refine vc_seq ?_
        obtain ⟨r506, hr506, h⟩ := bind_some h
        refine vc_reg (S := ⟨[(1, s_eSl_1_eI64 false a1_), (8, .loc 8 0), (29, s_eSl_1_eI64 false a1_), (30, iv ((List.length a1_ : Nat) : Int)), (31, iv i3), (38, bv (!r506))], [(8, (c_api_Topo a0_))], []⟩) (APath.chunk 2 (by kernel_rfl) (APath.one (.call (some 37) 51 [.t 35, .t 36]) (by kernel_rfl) (st_call (by kernel_rfl) (route_walk_valid_ok N (route_walk.mk a0_) e505 r506 hr506)) (APath.fin (by kernel_rfl)))) (by kernel_rfl) ?_
        refine vc_ite (by kernel_rfl) h (fun hc507 h => ?_) (fun hc507 h => ?_)
        · refine vc_seq ?_
          refine vc_reg (S := ⟨[(4, s_eI64 true []), (5, bv false), (6, iv 310)], [], []⟩) (APath.fin (by kernel_rfl)) (by kernel_rfl) ?_
          refine vc_ret ?_
          obtain rfl := some_inj h
          exact ⟨_, rfl, rfl, ret_of (by kernel_rfl)⟩
        · refine vc_skip ?_
          refine vc_kp ?_
          refine vc_reg (S := ⟨[(1, s_eSl_1_eI64 false a1_), (8, .loc 8 0), (29, s_eSl_1_eI64 false a1_), (30, iv ((List.length a1_ : Nat) : Int)), (31, iv (w64 (i3 + 1)))], [(8, (c_api_Topo a0_))], []⟩) (APath.fin (by kernel_rfl)) (by kernel_rfl) ?_
          obtain rfl := some_inj h
          exact ⟨_, rfl, (by show _ = _; kernel_rfl)⟩
      · refine vc_kp ?_
        try show vc _ _ _ _ _
        refine vc_exit ?_
        try show vc _ _ _ _ _
        obtain rfl := some_inj h
        exact ⟨_, rfl, rfl, (by show _ = _; kernel_rfl)⟩
    · rintro e s hq
      rcases o508 with p509 | p3592
      · dsimp only at h hq
        obtain ⟨rfl, hR⟩ := hq
        obtain rfl := hR
        try show vc _ _ _ _ _
        refine vc_seq ?_
        obtain ⟨id510, H511, hid510, hH511, hH⟩ := HP.newCell hH (c_Arr48_Bool (Arr48_Bool.mk false false false false false false false false false false false false false false false false false false false false false false false false false false false false false false false false false false false false false false false false false false false false false false false false))
        replace hH : HP H511 [.cel id510 (c_Arr48_Bool (Arr48_Bool.mk false false false false false false false false false false false false false false false false false false false false false false false false false false false false false false false false false false false false false false false false false false false false false false false false))] := hH
        refine vc_reg (S := ⟨[(1, s_eSl_1_eI64 false a1_), (8, .loc 8 0), (11, .ptr id510 0)], [(8, (c_api_Topo a0_))], H511⟩) (APath.one (.newH 11 (List.replicate 48 (.p (.bool false)))) (by kernel_rfl) (st_newH (H := []) (by kernel_rfl) hid510 hH511) APath.done) (by kernel_rfl) ?_
        refine vc_seq ?_
        obtain ⟨id512, H513, hid512, hH513, hH⟩ := HP.newCell hH (c_Arr12_i64 (Arr12_i64.mk 0 0 0 0 0 0 0 0 0 0 0 0))
        replace hH : HP H513 [.cel id512 (c_Arr12_i64 (Arr12_i64.mk 0 0 0 0 0 0 0 0 0 0 0 0)), .cel id510 (c_Arr48_Bool (Arr48_Bool.mk false false false false false false false false false false false false false false false false false false false false false false false false false false false false false false false false false false false false false false false false false false false false false false false false))] := hH
        refine vc_reg (S := ⟨[(1, s_eSl_1_eI64 false a1_), (8, .loc 8 0), (11, .ptr id510 0), (12, .ptr id512 0)], [(8, (c_api_Topo a0_))], H513⟩) (APath.one (.newH 12 [.p (.int .i64 0), .p (.int .i64 0), .p (.int .i64 0), .p (.int .i64 0), .p (.int .i64 0), .p (.int .i64 0), .p (.int .i64 0), .p (.int .i64 0), .p (.int .i64 0), .p (.int .i64 0), .p (.int .i64 0), .p (.int .i64 0)]) (by kernel_rfl) (st_newH (H := H511) (by kernel_rfl) hid512 hH513) APath.done) (by kernel_rfl) ?_
        refine vc_seq ?_
        obtain ⟨id514, H515, hid514, hH515, hH⟩ := HP.newCell hH [iv 0]
        replace hH : HP H515 [.cel id514 [iv 0], .cel id512 (c_Arr12_i64 (Arr12_i64.mk 0 0 0 0 0 0 0 0 0 0 0 0)), .cel id510 (c_Arr48_Bool (Arr48_Bool.mk false false false false false false false false false false false false false false false false false false false false false false false false false false false false false false false false false false false false false false false false false false false false false false false false))] := hH
        obtain ⟨id516, H517, hid516, hH517, hH⟩ := HP.newCell hH [bv false]
        replace hH : HP H517 [.cel id516 [bv false], .cel id514 [iv 0], .cel id512 (c_Arr12_i64 (Arr12_i64.mk 0 0 0 0 0 0 0 0 0 0 0 0)), .cel id510 (c_Arr48_Bool (Arr48_Bool.mk false false false false false false false false false false false false false false false false false false false false false false false false false false false false false false false false false false false false false false false false false false false false false false false false))] := hH
        obtain ⟨H518, hH518, hH⟩ := HP.setCell (k := 1) (off := 0) (cs := [iv 0]) (vs := [iv (-1)]) (cs' := [iv (-1)]) hH rfl (by kernel_rfl)
        replace hH : HP H518 [.cel id516 [bv false], .cel id514 [iv (-1)], .cel id512 (c_Arr12_i64 (Arr12_i64.mk 0 0 0 0 0 0 0 0 0 0 0 0)), .cel id510 (c_Arr48_Bool (Arr48_Bool.mk false false false false false false false false false false false false false false false false false false false false false false false false false false false false false false false false false false false false false false false false false false false false false false false false))] := hH
        obtain ⟨H519, hH519, hH⟩ := HP.setCell (k := 0) (off := 0) (cs := [bv false]) (vs := [bv true]) (cs' := [bv true]) hH rfl (by kernel_rfl)
        replace hH : HP H519 [.cel id516 [bv true], .cel id514 [iv (-1)], .cel id512 (c_Arr12_i64 (Arr12_i64.mk 0 0 0 0 0 0 0 0 0 0 0 0)), .cel id510 (c_Arr48_Bool (Arr48_Bool.mk false false false false false false false false false false false false false false false false false false false false false false false false false false false false false false false false false false false false false false false false false false false false false false false false))] := hH
        refine vc_reg (S := ⟨[(1, s_eSl_1_eI64 false a1_), (8, .loc 8 0), (11, .ptr id510 0), (12, .ptr id512 0), (13, .ptr id514 0), (14, .ptr id516 0)], [(8, (c_api_Topo a0_))], H519⟩) (APath.one (.newH 13 [.p (.int .i64 0)]) (by kernel_rfl) (st_newH (H := H513) (by kernel_rfl) hid514 hH515) (APath.one (.newH 14 [.p (.bool false)]) (by kernel_rfl) (st_newH (H := H515) (by kernel_rfl) hid516 hH517) (APath.one (.store (.t 13) (.k (.p (.int .i64 (-1)))) 1) (by kernel_rfl) (st_storeH (H := H517) (v := iv (-1)) (by kernel_rfl) (by kernel_rfl) (by kernel_rfl) (by kernel_rfl) hH518) (APath.one (.store (.t 14) (.k (.p (.bool true))) 1) (by kernel_rfl) (st_storeH (H := H518) (v := bv true) (by kernel_rfl) (by kernel_rfl) (by kernel_rfl) (by kernel_rfl) hH519) APath.done)))) (by kernel_rfl) ?_
        refine vc_seq ?_
        refine vc_seq ?_
        refine vc_reg (S := ⟨[(8, .loc 8 0), (11, .ptr id510 0), (12, .ptr id512 0), (13, .ptr id514 0), (14, .ptr id516 0), (40, s_eSl_1_eI64 false a1_), (41, iv ((List.length a1_ : Nat) : Int)), (42, iv 0)], [(8, (c_api_Topo a0_))], H519⟩) (APath.chunk 1 (by kernel_rfl) (APath.one (.val 41 .len [.t 40]) (by kernel_rfl) (st_val (ys := [s_eSl_1_eI64 false a1_]) (by kernel_rfl) (vexec_len (eSl 1 eI64))) (APath.fin (by kernel_rfl)))) (by kernel_rfl) ?_
        refine vc_block ?_
        obtain ⟨o2573, ho2573, h⟩ := bind_some h
        refine vc_loop ((loop_sim (fun (x : Int × Arr48_Bool × Arr12_i64 × Int × Bool) s => ∃ (H520 : List HO), s = ⟨[(8, .loc 8 0), (11, .ptr id510 0), (12, .ptr id512 0), (13, .ptr id514 0), (14, .ptr id516 0), (40, s_eSl_1_eI64 false a1_), (41, iv ((List.length a1_ : Nat) : Int)), (42, iv x.1)], [(8, (c_api_Topo a0_))], H520⟩ ∧ HP H520 [.cel id510 (c_Arr48_Bool x.2.1), .cel id512 (c_Arr12_i64 x.2.2.1), .cel id514 [iv x.2.2.2.1], .cel id516 [bv x.2.2.2.2]]) (fun x : Int × Arr48_Bool × Arr12_i64 × Int × Bool => route_Tree_L2 N a0_ a1_ x.1 x.2.1 x.2.2.1 x.2.2.2.1 x.2.2.2.2) (fun (p : Arr48_Bool × Bool) e s => e = .exit 2 ∧ (∃ (H1026 : List HO), s = ⟨[(11, .ptr id510 0), (14, .ptr id516 0)], [], H1026⟩ ∧ HP H1026 [.cel id510 (c_Arr48_Bool p.1), .cel id516 [bv p.2]])) ?_ N _ o2573 _ ho2573 ⟨H519, (by show _ = _; kernel_rfl), (HP.pick hH [3, 2, 1, 0] rfl)⟩).mono ?_)
        · clear h ho2573
          rintro ⟨i521, l522, l523, i524, b525⟩ o s h hR
          obtain ⟨H520, rfl, hH⟩ := hR
          replace hH : HP H520 [.cel id510 (c_Arr48_Bool l522), .cel id512 (c_Arr12_i64 l523), .cel id514 [iv i524], .cel id516 [bv b525]] := hH
          replace h : route_Tree_L2 N a0_ a1_ i521 l522 l523 i524 b525 = some o := h
          unfold route_Tree_L2 at h
          refine vc_seq ?_
          refine vc_reg (S := ⟨[(8, .loc 8 0), (11, .ptr id510 0), (12, .ptr id512 0), (13, .ptr id514 0), (14, .ptr id516 0), (40, s_eSl_1_eI64 false a1_), (41, iv ((List.length a1_ : Nat) : Int)), (42, iv i521), (43, bv (decide (i521 < ((List.length a1_ : Nat) : Int))))], [(8, (c_api_Topo a0_))], H520⟩) (APath.fin (by kernel_rfl)) (by kernel_rfl) ?_
          refine vc_seq ?_
          refine vc_ite (by kernel_rfl) h (fun hc1027 h => ?_) (fun hc1027 h => ?_)
          · refine vc_skip ?_
            refine vc_kp ?_
            refine vc_seq ?_
            refine vc_block ?_
            refine vc_seq ?_
            obtain ⟨e1028, he1028, h⟩ := bind_some h
            refine vc_reg (S := ⟨[(8, .loc 8 0), (11, .ptr id510 0), (12, .ptr id512 0), (13, .ptr id514 0), (14, .ptr id516 0), (16, s_eI64 false e1028), (40, s_eSl_1_eI64 false a1_), (41, iv ((List.length a1_ : Nat) : Int)), (42, iv i521)], [(8, (c_api_Topo a0_))], H520⟩) (APath.one (.val 44 (.iaddrS 1) [.t 40, .t 42]) (by kernel_rfl) (st_val (ys := [s_eSl_1_eI64 false a1_, iv i521]) (by kernel_rfl) (vexec_iaddrS (eSl 1 eI64) he1028)) (APath.one (.load 45 (.t 44) 1 false) (by kernel_rfl) (st_loadP (sz := 1) (off := 0) (cs := [.sl 1 false (List.map eI64 e1028)]) (r := s_eI64 false e1028) (eSl 1 eI64) he1028 (by kernel_rfl) (by kernel_rfl) (by kernel_rfl)) (APath.fin (by kernel_rfl)))) (by kernel_rfl) ?_
            refine vc_seq ?_
            obtain ⟨r1029, hr1029, h⟩ := bind_some h
            obtain ⟨id1031, id1032, H1030, hvr1029, hpr1029⟩ := route_walk_hops_ok N (route_walk.mk a0_) e1028 H520 r1029 hr1029
            replace hH : HP H1030 [.cel id1031 [s_eI64 false r1029.1], .cel id1032 (c_api_Topo r1029.2.Topo), .cel id510 (c_Arr48_Bool l522), .cel id512 (c_Arr12_i64 l523), .cel id514 [iv i524], .cel id516 [bv b525]] := HP.callee (fp := []) (rest := [.cel id510 (c_Arr48_Bool l522), .cel id512 (c_Arr12_i64 l523), .cel id514 [iv i524], .cel id516 [bv b525]]) hH hpr1029
            refine vc_reg (S := ⟨[(8, .loc 8 0), (11, .ptr id510 0), (12, .ptr id512 0), (13, .ptr id514 0), (14, .ptr id516 0), (40, s_eSl_1_eI64 false a1_), (41, iv ((List.length a1_ : Nat) : Int)), (42, iv i521), (48, .fn 78 [] [.ptr id1031 0, .ptr id1032 0])], [(8, (c_api_Topo a0_))], H1030⟩) (APath.chunk 2 (by kernel_rfl) (APath.one (.call (some 48) 62 [.t 46, .t 47]) (by kernel_rfl) (st_callH (H := H520) (ys := [.agg (c_api_Topo a0_), s_eI64 false e1028]) (by kernel_rfl) (by kernel_rfl) (by kernel_rfl) hvr1029) APath.done)) (by kernel_rfl) ?_
            refine vc_block ?_
            obtain ⟨o2571, ho2571, h⟩ := bind_some h
            have hyo2571 : ∀ (x1034 : Int) (x1035 : route_hop) (s : Arr48_Bool × Arr12_i64 × Int × Bool) (r : (Arr48_Bool × Arr12_i64 × Int × Bool) × Bool) (H : List HO) (its : List Thing), (fun (s : Arr48_Bool × Arr12_i64 × Int × Bool) (its : List Thing) => its = [.cel id510 (c_Arr48_Bool s.1), .cel id512 (c_Arr12_i64 s.2.1), .cel id514 [iv s.2.2.1], .cel id516 [bv s.2.2.2]] ++ [.lp (List.length H1030) (lcOf Try.prog i28.nt [49, 50] ra28_3 rb28_3) [(11, .ptr id510 0), (12, .ptr id512 0), (13, .ptr id514 0), (14, .ptr id516 0)] .ready]) s its → HP H its → (fun (s : Arr48_Bool × Arr12_i64 × Int × Bool) (x1034 : Int) (x1035 : route_hop) => yieldT (fun v : Arr48_Bool × Arr12_i64 × Int × Bool => route_Tree_R3 N v.1 v.2.1 v.2.2.1 v.2.2.2 x1034 x1035) s) s x1034 x1035 = some r → ∃ H' its', YCall Try.prog (List.length H1030) [iv x1034, .agg (c_route_hop x1035)] H r.2 H' ∧ (fun (s : Arr48_Bool × Arr12_i64 × Int × Bool) (its : List Thing) => its = [.cel id510 (c_Arr48_Bool s.1), .cel id512 (c_Arr12_i64 s.2.1), .cel id514 [iv s.2.2.1], .cel id516 [bv s.2.2.2]] ++ [.lp (List.length H1030) (lcOf Try.prog i28.nt [49, 50] ra28_3 rb28_3) [(11, .ptr id510 0), (12, .ptr id512 0), (13, .ptr id514 0), (14, .ptr id516 0)] .ready]) r.1 its' ∧ Fp H H' its its' := by
              clear h
              intro x1034 x1035 s r H1033 its hT hH h
              obtain ⟨q, hb, rfl⟩ := yieldT_some h
              clear h
              obtain ⟨vs, rfl⟩ : ∃ v, v = s := ⟨s, rfl⟩
              obtain ⟨l1036, l1037, i1038, b1039⟩ := vs
              obtain rfl := hT
              replace h : route_Tree_R3 N l1036 l1037 i1038 b1039 x1034 x1035 = some q := hb
              clear hb
              unfold route_Tree_R3 at h
              replace hH : Fp H1033 H1033 [.cel id510 (c_Arr48_Bool l1036), .cel id512 (c_Arr12_i64 l1037), .cel id514 [iv i1038], .cel id516 [bv b1039], .lp (List.length H1030) (lcOf Try.prog i28.nt [49, 50] ra28_3 rb28_3) [(11, .ptr id510 0), (12, .ptr id512 0), (13, .ptr id514 0), (14, .ptr id516 0)] .ready] [.cel id510 (c_Arr48_Bool l1036), .cel id512 (c_Arr12_i64 l1037), .cel id514 [iv i1038], .cel id516 [bv b1039], .lp (List.length H1030) (lcOf Try.prog i28.nt [49, 50] ra28_3 rb28_3) [(11, .ptr id510 0), (12, .ptr id512 0), (13, .ptr id514 0), (14, .ptr id516 0)] .ready] := Fp.refl hH
              suffices hs : ∃ H', YCall Try.prog (List.length H1030) [iv x1034, .agg (c_route_hop x1035)] H1033 true H' ∧ ∃ its', (fun (s : Arr48_Bool × Arr12_i64 × Int × Bool) (its : List Thing) => its = [.cel id510 (c_Arr48_Bool s.1), .cel id512 (c_Arr12_i64 s.2.1), .cel id514 [iv s.2.2.1], .cel id516 [bv s.2.2.2]] ++ [.lp (List.length H1030) (lcOf Try.prog i28.nt [49, 50] ra28_3 rb28_3) [(11, .ptr id510 0), (12, .ptr id512 0), (13, .ptr id514 0), (14, .ptr id516 0)] .ready]) q its' ∧ Fp H1033 H' [.cel id510 (c_Arr48_Bool l1036), .cel id512 (c_Arr12_i64 l1037), .cel id514 [iv i1038], .cel id516 [bv b1039], .lp (List.length H1030) (lcOf Try.prog i28.nt [49, 50] ra28_3 rb28_3) [(11, .ptr id510 0), (12, .ptr id512 0), (13, .ptr id514 0), (14, .ptr id516 0)] .ready] its' by
                obtain ⟨H', h1, its', h2, h3⟩ := hs
                exact ⟨H', its', h1, h2, h3⟩
              refine ycall_det (id := (List.length H1030)) (args := [iv x1034, .agg (c_route_hop x1035)]) (H := H1033) (n := i28.nt) (ps := [49, 50]) (fr0 := [(11, .ptr id510 0), (12, .ptr id512 0), (13, .ptr id514 0), (14, .ptr id516 0)]) (ia := ra28_3) (ib := rb28_3) true (fun H' => ∃ its', (fun (s : Arr48_Bool × Arr12_i64 × Int × Bool) (its : List Thing) => its = [.cel id510 (c_Arr48_Bool s.1), .cel id512 (c_Arr12_i64 s.2.1), .cel id514 [iv s.2.2.1], .cel id516 [bv s.2.2.2]] ++ [.lp (List.length H1030) (lcOf Try.prog i28.nt [49, 50] ra28_3 rb28_3) [(11, .ptr id510 0), (12, .ptr id512 0), (13, .ptr id514 0), (14, .ptr id516 0)] .ready]) q its' ∧ Fp H1033 H' [.cel id510 (c_Arr48_Bool l1036), .cel id512 (c_Arr12_i64 l1037), .cel id514 [iv i1038], .cel id516 [bv b1039], .lp (List.length H1030) (lcOf Try.prog i28.nt [49, 50] ra28_3 rb28_3) [(11, .ptr id510 0), (12, .ptr id512 0), (13, .ptr id514 0), (14, .ptr id516 0)] .ready] its') (Fp.get hH 4 rfl) rfl (by decide +kernel) rfl ?_
              show vc _ _ _ _ ⟨[(11, .ptr id510 0), (12, .ptr id512 0), (13, .ptr id514 0), (14, .ptr id516 0), (49, iv x1034), (50, .agg (c_route_hop x1035))], [], H1033⟩
              refine vc_seq ?_
              refine vc_reg (S := ⟨[(11, .ptr id510 0), (12, .ptr id512 0), (13, .ptr id514 0), (14, .ptr id516 0), (17, iv x1034), (50, .agg (c_route_hop x1035))], [], H1033⟩) (APath.fin (by kernel_rfl)) (by kernel_rfl) ?_
              refine vc_reg (S := ⟨[(11, .ptr id510 0), (12, .ptr id512 0), (13, .ptr id514 0), (14, .ptr id516 0), (17, iv x1034), (18, .loc 18 0)], [(18, (c_route_hop x1035))], H1033⟩) (APath.fin (by kernel_rfl)) (by kernel_rfl) ?_
              refine ia_done (k := 4) hH rfl ?_
              intro H1536 hH
              replace hH : Fp H1033 H1536 [.cel id510 (c_Arr48_Bool l1036), .cel id512 (c_Arr12_i64 l1037), .cel id514 [iv i1038], .cel id516 [bv b1039], .lp (List.length H1030) (lcOf Try.prog i28.nt [49, 50] ra28_3 rb28_3) [(11, .ptr id510 0), (12, .ptr id512 0), (13, .ptr id514 0), (14, .ptr id516 0)] .ready] [.cel id510 (c_Arr48_Bool l1036), .cel id512 (c_Arr12_i64 l1037), .cel id514 [iv i1038], .cel id516 [bv b1039], .lp (List.length H1030) (lcOf Try.prog i28.nt [49, 50] ra28_3 rb28_3) [(11, .ptr id510 0), (12, .ptr id512 0), (13, .ptr id514 0), (14, .ptr id516 0)] .busy] := hH
              show vc _ _ _ _ ⟨[(11, .ptr id510 0), (12, .ptr id512 0), (13, .ptr id514 0), (14, .ptr id516 0), (17, iv x1034), (18, .loc 18 0)], [(18, (c_route_hop x1035))], H1536⟩
              refine vc_block ?_
              obtain ⟨j2038, hj2038, h⟩ := bind_some h
              refine vc_joinK [11, 12, 13, 14, 17, 18] (fun s => ∃ (H2037 : List HO), s = ⟨[(11, .ptr id510 0), (12, .ptr id512 0), (13, .ptr id514 0), (14, .ptr id516 0), (17, iv x1034), (18, .loc 18 0)], [(18, (c_route_hop x1035))], H2037⟩ ∧ Fp H1033 H2037 [.cel id510 (c_Arr48_Bool l1036), .cel id512 (c_Arr12_i64 l1037), .cel id514 [iv i1038], .cel id516 [bv b1039], .lp (List.length H1030) (lcOf Try.prog i28.nt [49, 50] ra28_3 rb28_3) [(11, .ptr id510 0), (12, .ptr id512 0), (13, .ptr id514 0), (14, .ptr id516 0)] .ready] [.cel id510 (c_Arr48_Bool l1036), .cel id512 (c_Arr12_i64 l1037), .cel id514 [iv j2038], .cel id516 [bv b1039], .lp (List.length H1030) (lcOf Try.prog i28.nt [49, 50] ra28_3 rb28_3) [(11, .ptr id510 0), (12, .ptr id512 0), (13, .ptr id514 0), (14, .ptr id516 0)] .busy]) ?_ ?_
              · clear h
                have h := hj2038
                refine vc_seq ?_
                obtain ⟨j2042, hj, h⟩ := bind_some h
                refine vc_regXR (fun s => s = ⟨[(11, .ptr id510 0), (12, .ptr id512 0), (13, .ptr id514 0), (14, .ptr id516 0), (17, iv x1034), (18, .loc 18 0), (56, bv j2042)], [(18, (c_route_hop x1035))], H1536⟩) ?_ ?_
                · clear h
                  rcases ite_some hj with ⟨hc2039, hj⟩ | ⟨hc2041, hj⟩
                  · have hlc2040 := Fp.get hH 2 rfl
                    obtain rfl := some_inj hj
                    exact ⟨_, (APath.chunk 1 (by kernel_rfl) (APath.one (.val 52 (.bin .eql) [.t 51, .k (.p (.int .i64 0))]) (by kernel_rfl) (st_bool (c := (x1034 == 0)) (by kernel_rfl) hc2039) (APath.chunk 1 (by kernel_rfl) (APath.oneG (.load 54 (.t 13) 1 false) 53 true (by kernel_rfl) (by kernel_rfl) (st_loadC (H := H1536) (id := id514) (off := 0) (cs := [iv i1038]) (c := [iv i1038]) (r := iv i1038) (by kernel_rfl) (by kernel_rfl) hlc2040 (by kernel_rfl) (by kernel_rfl) (by kernel_rfl)) (APath.fin (by kernel_rfl)))))), (by show _ = _; kernel_rfl)⟩
                  · obtain rfl := some_inj hj
                    exact ⟨_, (APath.chunk 1 (by kernel_rfl) (APath.one (.val 52 (.bin .eql) [.t 51, .k (.p (.int .i64 0))]) (by kernel_rfl) (st_bool (c := (x1034 == 0)) (by kernel_rfl) hc2041) (APath.fin (by kernel_rfl)))), (by show _ = _; kernel_rfl)⟩
                · clear hj
                  rintro s hR
                  obtain rfl := hR
                  refine vc_ite (by kernel_rfl) h (fun hc2043 h => ?_) (fun hc2043 h => ?_)
                  · obtain ⟨H2044, hH2044, hH⟩ := Fp.setCell (k := 2) (off := 0) (cs := [iv i1038]) (vs := [iv x1035.from_]) (cs' := [iv x1035.from_]) hH rfl (by kernel_rfl)
                    replace hH : Fp H1033 H2044 [.cel id510 (c_Arr48_Bool l1036), .cel id512 (c_Arr12_i64 l1037), .cel id514 [iv i1038], .cel id516 [bv b1039], .lp (List.length H1030) (lcOf Try.prog i28.nt [49, 50] ra28_3 rb28_3) [(11, .ptr id510 0), (12, .ptr id512 0), (13, .ptr id514 0), (14, .ptr id516 0)] .ready] [.cel id510 (c_Arr48_Bool l1036), .cel id512 (c_Arr12_i64 l1037), .cel id514 [iv x1035.from_], .cel id516 [bv b1039], .lp (List.length H1030) (lcOf Try.prog i28.nt [49, 50] ra28_3 rb28_3) [(11, .ptr id510 0), (12, .ptr id512 0), (13, .ptr id514 0), (14, .ptr id516 0)] .busy] := hH
                    refine vc_reg (S := ⟨[(11, .ptr id510 0), (12, .ptr id512 0), (13, .ptr id514 0), (14, .ptr id516 0), (17, iv x1034), (18, .loc 18 0)], [(18, (c_route_hop x1035))], H2044⟩) (APath.chunk 2 (by kernel_rfl) (APath.one (.store (.t 13) (.t 58) 1) (by kernel_rfl) (st_storeH (H := H1536) (v := iv x1035.from_) (by kernel_rfl) (by kernel_rfl) (by kernel_rfl) (by kernel_rfl) hH2044) APath.done)) (by kernel_rfl) ?_
                    obtain rfl := some_inj h
                    exact ⟨rfl, ⟨H2044, (by show _ = _; kernel_rfl), (Fp.pick hH [0, 1, 2, 3, 4] rfl)⟩⟩
                  · refine vc_skip ?_
                    obtain rfl := some_inj h
                    exact ⟨rfl, ⟨H1536, (by show _ = _; kernel_rfl), (Fp.pick hH [0, 1, 2, 3, 4] rfl)⟩⟩
              · clear hj2038
                rintro s hR
                obtain ⟨H2037, rfl, hH⟩ := hR
                replace hH : Fp H1033 H2037 [.cel id510 (c_Arr48_Bool l1036), .cel id512 (c_Arr12_i64 l1037), .cel id514 [iv i1038], .cel id516 [bv b1039], .lp (List.length H1030) (lcOf Try.prog i28.nt [49, 50] ra28_3 rb28_3) [(11, .ptr id510 0), (12, .ptr id512 0), (13, .ptr id514 0), (14, .ptr id516 0)] .ready] [.cel id510 (c_Arr48_Bool l1036), .cel id512 (c_Arr12_i64 l1037), .cel id514 [iv j2038], .cel id516 [bv b1039], .lp (List.length H1030) (lcOf Try.prog i28.nt [49, 50] ra28_3 rb28_3) [(11, .ptr id510 0), (12, .ptr id512 0), (13, .ptr id514 0), (14, .ptr id516 0)] .busy] := hH
                obtain ⟨j2546, hj2546, h⟩ := bind_some h
                refine vc_joinK [11, 12, 18] (fun s => ∃ (H2545 : List HO), s = ⟨[(11, .ptr id510 0), (12, .ptr id512 0), (18, .loc 18 0)], [(18, (c_route_hop x1035))], H2545⟩ ∧ Fp H1033 H2545 [.cel id510 (c_Arr48_Bool l1036), .cel id512 (c_Arr12_i64 l1037), .cel id514 [iv i1038], .cel id516 [bv b1039], .lp (List.length H1030) (lcOf Try.prog i28.nt [49, 50] ra28_3 rb28_3) [(11, .ptr id510 0), (12, .ptr id512 0), (13, .ptr id514 0), (14, .ptr id516 0)] .ready] [.cel id510 (c_Arr48_Bool l1036), .cel id512 (c_Arr12_i64 l1037), .cel id514 [iv j2038], .cel id516 [bv j2546], .lp (List.length H1030) (lcOf Try.prog i28.nt [49, 50] ra28_3 rb28_3) [(11, .ptr id510 0), (12, .ptr id512 0), (13, .ptr id514 0), (14, .ptr id516 0)] .busy]) ?_ ?_
                · clear h
                  have h := hj2546
                  refine vc_seq ?_
                  obtain ⟨j2564, hj, h⟩ := bind_some h
                  refine vc_regDXR (fun s => s = ⟨[(11, .ptr id510 0), (12, .ptr id512 0), (14, .ptr id516 0), (18, .loc 18 0), (83, bv j2564)], [(18, (c_route_hop x1035))], H2037⟩) (by kernel_rfl) ?_ ?_
                  · clear h
                    rcases ite_some hj with ⟨hc2547, hj⟩ | ⟨hc2557, hj⟩
                    · have hlc2548 := Fp.get hH 2 rfl
                      rcases ite_some hj with ⟨hc2549, hj⟩ | ⟨hc2550, hj⟩
                      · obtain rfl := some_inj hj
                        exact ⟨_, (APath.chunk 1 (by kernel_rfl) (APath.one (.val 60 (.bin .eql) [.t 59, .k (.p (.int .i64 0))]) (by kernel_rfl) (st_bool (c := (x1034 == 0)) (by kernel_rfl) hc2547) (APath.chunk 1 (by kernel_rfl) (APath.oneG (.load 62 (.t 13) 1 false) 61 true (by kernel_rfl) (by kernel_rfl) (st_loadC (H := H2037) (id := id514) (off := 0) (cs := [iv j2038]) (c := [iv j2038]) (r := iv j2038) (by kernel_rfl) (by kernel_rfl) hlc2548 (by kernel_rfl) (by kernel_rfl) (by kernel_rfl)) (APath.chunk 2 (by kernel_rfl) (APath.oneG (.val 65 (.bin .neq) [.t 62, .t 64]) 61 true (by kernel_rfl) (by kernel_rfl) (st_bool (c := (j2038 != x1035.from_)) (by kernel_rfl) hc2549) (APath.fin (by kernel_rfl)))))))), (by show _ = _; kernel_rfl)⟩
                      · obtain ⟨e2551, he2551, hj⟩ := bind_some hj
                        have hlc2552 := Fp.get hH 1 rfl
                        rcases ite_some hj with ⟨hc2553, hj⟩ | ⟨hc2556, hj⟩
                        · obtain ⟨e2554, he2554, hj⟩ := bind_some hj
                          have hlc2555 := Fp.get hH 1 rfl
                          obtain rfl := some_inj hj
                          exact ⟨_, (APath.chunk 1 (by kernel_rfl) (APath.one (.val 60 (.bin .eql) [.t 59, .k (.p (.int .i64 0))]) (by kernel_rfl) (st_bool (c := (x1034 == 0)) (by kernel_rfl) hc2547) (APath.chunk 1 (by kernel_rfl) (APath.oneG (.load 62 (.t 13) 1 false) 61 true (by kernel_rfl) (by kernel_rfl) (st_loadC (H := H2037) (id := id514) (off := 0) (cs := [iv j2038]) (c := [iv j2038]) (r := iv j2038) (by kernel_rfl) (by kernel_rfl) hlc2548 (by kernel_rfl) (by kernel_rfl) (by kernel_rfl)) (APath.chunk 2 (by kernel_rfl) (APath.oneG (.val 65 (.bin .neq) [.t 62, .t 64]) 61 true (by kernel_rfl) (by kernel_rfl) (st_bool (c := (j2038 != x1035.from_)) (by kernel_rfl) hc2550) (APath.chunk 4 (by kernel_rfl) (APath.oneG (.val 70 (.iaddr 12 1) [.t 12, .t 69]) 67 false (by kernel_rfl) (by kernel_rfl) (st_val (ys := [.ptr id512 0, iv x1035.to_]) (by kernel_rfl) (vexec_iaddrP (l := l1037.l) he2551 rfl)) (APath.oneG (.load 71 (.t 70) 1 false) 67 false (by kernel_rfl) (by kernel_rfl) (st_loadAP (H := H2037) (id := id512) (off := 0) (cs := (c_Arr12_i64 l1037)) (l := l1037.l) (fun x => iv x) [] [] he2551 (by kernel_rfl) (by kernel_rfl) hlc2552 rfl rfl) (APath.oneG (.val 72 (.bin .neq) [.t 71, .k (.p (.int .i64 0))]) 67 false (by kernel_rfl) (by kernel_rfl) (st_bool (c := (e2551 != 0)) (by kernel_rfl) hc2553) (APath.chunk 3 (by kernel_rfl) (APath.oneG (.val 76 (.iaddr 12 1) [.t 12, .t 75]) 73 true (by kernel_rfl) (by kernel_rfl) (st_val (ys := [.ptr id512 0, iv x1035.to_]) (by kernel_rfl) (vexec_iaddrP (l := l1037.l) he2554 rfl)) (APath.oneG (.load 77 (.t 76) 1 false) 73 true (by kernel_rfl) (by kernel_rfl) (st_loadAP (H := H2037) (id := id512) (off := 0) (cs := (c_Arr12_i64 l1037)) (l := l1037.l) (fun x => iv x) [] [] he2554 (by kernel_rfl) (by kernel_rfl) hlc2555 rfl rfl) (APath.fin (by kernel_rfl))))))))))))))), (by show _ = _; kernel_rfl)⟩
                        · obtain rfl := some_inj hj
                          exact ⟨_, (APath.chunk 1 (by kernel_rfl) (APath.one (.val 60 (.bin .eql) [.t 59, .k (.p (.int .i64 0))]) (by kernel_rfl) (st_bool (c := (x1034 == 0)) (by kernel_rfl) hc2547) (APath.chunk 1 (by kernel_rfl) (APath.oneG (.load 62 (.t 13) 1 false) 61 true (by kernel_rfl) (by kernel_rfl) (st_loadC (H := H2037) (id := id514) (off := 0) (cs := [iv j2038]) (c := [iv j2038]) (r := iv j2038) (by kernel_rfl) (by kernel_rfl) hlc2548 (by kernel_rfl) (by kernel_rfl) (by kernel_rfl)) (APath.chunk 2 (by kernel_rfl) (APath.oneG (.val 65 (.bin .neq) [.t 62, .t 64]) 61 true (by kernel_rfl) (by kernel_rfl) (st_bool (c := (j2038 != x1035.from_)) (by kernel_rfl) hc2550) (APath.chunk 4 (by kernel_rfl) (APath.oneG (.val 70 (.iaddr 12 1) [.t 12, .t 69]) 67 false (by kernel_rfl) (by kernel_rfl) (st_val (ys := [.ptr id512 0, iv x1035.to_]) (by kernel_rfl) (vexec_iaddrP (l := l1037.l) he2551 rfl)) (APath.oneG (.load 71 (.t 70) 1 false) 67 false (by kernel_rfl) (by kernel_rfl) (st_loadAP (H := H2037) (id := id512) (off := 0) (cs := (c_Arr12_i64 l1037)) (l := l1037.l) (fun x => iv x) [] [] he2551 (by kernel_rfl) (by kernel_rfl) hlc2552 rfl rfl) (APath.oneG (.val 72 (.bin .neq) [.t 71, .k (.p (.int .i64 0))]) 67 false (by kernel_rfl) (by kernel_rfl) (st_bool (c := (e2551 != 0)) (by kernel_rfl) hc2556) (APath.fin (by kernel_rfl)))))))))))), (by show _ = _; kernel_rfl)⟩
                    · obtain ⟨e2558, he2558, hj⟩ := bind_some hj
                      have hlc2559 := Fp.get hH 1 rfl
                      rcases ite_some hj with ⟨hc2560, hj⟩ | ⟨hc2563, hj⟩
                      · obtain ⟨e2561, he2561, hj⟩ := bind_some hj
                        have hlc2562 := Fp.get hH 1 rfl
                        obtain rfl := some_inj hj
                        exact ⟨_, (APath.chunk 1 (by kernel_rfl) (APath.one (.val 60 (.bin .eql) [.t 59, .k (.p (.int .i64 0))]) (by kernel_rfl) (st_bool (c := (x1034 == 0)) (by kernel_rfl) hc2557) (APath.chunk 9 (by kernel_rfl) (APath.oneG (.val 70 (.iaddr 12 1) [.t 12, .t 69]) 67 false (by kernel_rfl) (by kernel_rfl) (st_val (ys := [.ptr id512 0, iv x1035.to_]) (by kernel_rfl) (vexec_iaddrP (l := l1037.l) he2558 rfl)) (APath.oneG (.load 71 (.t 70) 1 false) 67 false (by kernel_rfl) (by kernel_rfl) (st_loadAP (H := H2037) (id := id512) (off := 0) (cs := (c_Arr12_i64 l1037)) (l := l1037.l) (fun x => iv x) [] [] he2558 (by kernel_rfl) (by kernel_rfl) hlc2559 rfl rfl) (APath.oneG (.val 72 (.bin .neq) [.t 71, .k (.p (.int .i64 0))]) 67 false (by kernel_rfl) (by kernel_rfl) (st_bool (c := (e2558 != 0)) (by kernel_rfl) hc2560) (APath.chunk 3 (by kernel_rfl) (APath.oneG (.val 76 (.iaddr 12 1) [.t 12, .t 75]) 73 true (by kernel_rfl) (by kernel_rfl) (st_val (ys := [.ptr id512 0, iv x1035.to_]) (by kernel_rfl) (vexec_iaddrP (l := l1037.l) he2561 rfl)) (APath.oneG (.load 77 (.t 76) 1 false) 73 true (by kernel_rfl) (by kernel_rfl) (st_loadAP (H := H2037) (id := id512) (off := 0) (cs := (c_Arr12_i64 l1037)) (l := l1037.l) (fun x => iv x) [] [] he2561 (by kernel_rfl) (by kernel_rfl) hlc2562 rfl rfl) (APath.fin (by kernel_rfl))))))))))), (by show _ = _; kernel_rfl)⟩
                      · obtain rfl := some_inj hj
                        exact ⟨_, (APath.chunk 1 (by kernel_rfl) (APath.one (.val 60 (.bin .eql) [.t 59, .k (.p (.int .i64 0))]) (by kernel_rfl) (st_bool (c := (x1034 == 0)) (by kernel_rfl) hc2557) (APath.chunk 9 (by kernel_rfl) (APath.oneG (.val 70 (.iaddr 12 1) [.t 12, .t 69]) 67 false (by kernel_rfl) (by kernel_rfl) (st_val (ys := [.ptr id512 0, iv x1035.to_]) (by kernel_rfl) (vexec_iaddrP (l := l1037.l) he2558 rfl)) (APath.oneG (.load 71 (.t 70) 1 false) 67 false (by kernel_rfl) (by kernel_rfl) (st_loadAP (H := H2037) (id := id512) (off := 0) (cs := (c_Arr12_i64 l1037)) (l := l1037.l) (fun x => iv x) [] [] he2558 (by kernel_rfl) (by kernel_rfl) hlc2559 rfl rfl) (APath.oneG (.val 72 (.bin .neq) [.t 71, .k (.p (.int .i64 0))]) 67 false (by kernel_rfl) (by kernel_rfl) (st_bool (c := (e2558 != 0)) (by kernel_rfl) hc2563) (APath.fin (by kernel_rfl)))))))), (by show _ = _; kernel_rfl)⟩
                  · clear hj
                    rintro s hR
                    obtain rfl := hR
                    refine vc_ite (by kernel_rfl) h (fun hc2565 h => ?_) (fun hc2565 h => ?_)
                    · obtain ⟨H2566, hH2566, hH⟩ := Fp.setCell (k := 3) (off := 0) (cs := [bv b1039]) (vs := [bv false]) (cs' := [bv false]) hH rfl (by kernel_rfl)
                      replace hH : Fp H1033 H2566 [.cel id510 (c_Arr48_Bool l1036), .cel id512 (c_Arr12_i64 l1037), .cel id514 [iv i1038], .cel id516 [bv b1039], .lp (List.length H1030) (lcOf Try.prog i28.nt [49, 50] ra28_3 rb28_3) [(11, .ptr id510 0), (12, .ptr id512 0), (13, .ptr id514 0), (14, .ptr id516 0)] .ready] [.cel id510 (c_Arr48_Bool l1036), .cel id512 (c_Arr12_i64 l1037), .cel id514 [iv j2038], .cel id516 [bv false], .lp (List.length H1030) (lcOf Try.prog i28.nt [49, 50] ra28_3 rb28_3) [(11, .ptr id510 0), (12, .ptr id512 0), (13, .ptr id514 0), (14, .ptr id516 0)] .busy] := hH
                      refine vc_reg (S := ⟨[(11, .ptr id510 0), (12, .ptr id512 0), (18, .loc 18 0)], [(18, (c_route_hop x1035))], H2566⟩) (APath.one (.store (.t 14) (.k (.p (.bool false))) 1) (by kernel_rfl) (st_storeH (H := H2037) (v := bv false) (by kernel_rfl) (by kernel_rfl) (by kernel_rfl) (by kernel_rfl) hH2566) APath.done) (by kernel_rfl) ?_
                      obtain rfl := some_inj h
                      exact ⟨rfl, ⟨H2566, (by show _ = _; kernel_rfl), (Fp.pick hH [0, 1, 2, 3, 4] rfl)⟩⟩
                    · refine vc_skip ?_
                      obtain rfl := some_inj h
                      exact ⟨rfl, ⟨H2037, (by show _ = _; kernel_rfl), (Fp.pick hH [0, 1, 2, 3, 4] rfl)⟩⟩
                · clear hj2546
                  rintro s hR
                  obtain ⟨H2545, rfl, hH⟩ := hR
                  replace hH : Fp H1033 H2545 [.cel id510 (c_Arr48_Bool l1036), .cel id512 (c_Arr12_i64 l1037), .cel id514 [iv i1038], .cel id516 [bv b1039], .lp (List.length H1030) (lcOf Try.prog i28.nt [49, 50] ra28_3 rb28_3) [(11, .ptr id510 0), (12, .ptr id512 0), (13, .ptr id514 0), (14, .ptr id516 0)] .ready] [.cel id510 (c_Arr48_Bool l1036), .cel id512 (c_Arr12_i64 l1037), .cel id514 [iv j2038], .cel id516 [bv j2546], .lp (List.length H1030) (lcOf Try.prog i28.nt [49, 50] ra28_3 rb28_3) [(11, .ptr id510 0), (12, .ptr id512 0), (13, .ptr id514 0), (14, .ptr id516 0)] .busy] := hH
                  refine vc_seq ?_
                  obtain ⟨e2567, he2567, h⟩ := bind_some h
                  obtain ⟨H2568, hH2568, hH⟩ := Fp.setCell (k := 1) (off := 0 + Int.toNat x1035.to_ * 1) (cs := (c_Arr12_i64 l1037)) (vs := [iv (w64 (x1035.port + 1))]) (cs' := (c_Arr12_i64 (Arr12_i64.set l1037 x1035.to_ (w64 (x1035.port + 1))))) hH rfl (splice_arr (fun x => iv x) [] [] (l := l1037.l) he2567 rfl rfl rfl (arr_new (Arr12_i64.c_set l1037 x1035.to_ (w64 (x1035.port + 1))) (by show (c_Arr12_i64 (Arr12_i64.set l1037 x1035.to_ (w64 (x1035.port + 1)))) = [] ++ (c_Arr12_i64 (Arr12_i64.set l1037 x1035.to_ (w64 (x1035.port + 1))) ++ []); rfl)))
                  replace hH : Fp H1033 H2568 [.cel id510 (c_Arr48_Bool l1036), .cel id512 (c_Arr12_i64 l1037), .cel id514 [iv i1038], .cel id516 [bv b1039], .lp (List.length H1030) (lcOf Try.prog i28.nt [49, 50] ra28_3 rb28_3) [(11, .ptr id510 0), (12, .ptr id512 0), (13, .ptr id514 0), (14, .ptr id516 0)] .ready] [.cel id510 (c_Arr48_Bool l1036), .cel id512 (c_Arr12_i64 (Arr12_i64.set l1037 x1035.to_ (w64 (x1035.port + 1)))), .cel id514 [iv j2038], .cel id516 [bv j2546], .lp (List.length H1030) (lcOf Try.prog i28.nt [49, 50] ra28_3 rb28_3) [(11, .ptr id510 0), (12, .ptr id512 0), (13, .ptr id514 0), (14, .ptr id516 0)] .busy] := hH
                  refine vc_reg (S := ⟨[(11, .ptr id510 0), (18, .loc 18 0)], [(18, (c_route_hop x1035))], H2568⟩) (APath.chunk 5 (by kernel_rfl) (APath.one (.val 89 (.iaddr 12 1) [.t 12, .t 85]) (by kernel_rfl) (st_val (ys := [.ptr id512 0, iv x1035.to_]) (by kernel_rfl) (vexec_iaddrP (l := l1037.l) he2567 rfl)) (APath.one (.store (.t 89) (.t 88) 1) (by kernel_rfl) (st_storeH (H := H2545) (v := iv (w64 (x1035.port + 1))) (by kernel_rfl) (by kernel_rfl) (by kernel_rfl) (by kernel_rfl) hH2568) APath.done))) (by kernel_rfl) ?_
                  obtain ⟨e2569, he2569, h⟩ := bind_some h
                  obtain ⟨H2570, hH2570, hH⟩ := Fp.setCell (k := 0) (off := 0 + Int.toNat x1035.port * 1) (cs := (c_Arr48_Bool l1036)) (vs := [bv true]) (cs' := (c_Arr48_Bool (Arr48_Bool.set l1036 x1035.port true))) hH rfl (splice_arr (fun x => bv x) [] [] (l := l1036.l) he2569 rfl rfl rfl (arr_new (Arr48_Bool.c_set l1036 x1035.port true) (by show (c_Arr48_Bool (Arr48_Bool.set l1036 x1035.port true)) = [] ++ (c_Arr48_Bool (Arr48_Bool.set l1036 x1035.port true) ++ []); rfl)))
                  replace hH : Fp H1033 H2570 [.cel id510 (c_Arr48_Bool l1036), .cel id512 (c_Arr12_i64 l1037), .cel id514 [iv i1038], .cel id516 [bv b1039], .lp (List.length H1030) (lcOf Try.prog i28.nt [49, 50] ra28_3 rb28_3) [(11, .ptr id510 0), (12, .ptr id512 0), (13, .ptr id514 0), (14, .ptr id516 0)] .ready] [.cel id510 (c_Arr48_Bool (Arr48_Bool.set l1036 x1035.port true)), .cel id512 (c_Arr12_i64 (Arr12_i64.set l1037 x1035.to_ (w64 (x1035.port + 1)))), .cel id514 [iv j2038], .cel id516 [bv j2546], .lp (List.length H1030) (lcOf Try.prog i28.nt [49, 50] ra28_3 rb28_3) [(11, .ptr id510 0), (12, .ptr id512 0), (13, .ptr id514 0), (14, .ptr id516 0)] .busy] := hH
                  refine vc_reg (S := ⟨[], [], H2570⟩) (APath.chunk 2 (by kernel_rfl) (APath.one (.val 92 (.iaddr 48 1) [.t 11, .t 91]) (by kernel_rfl) (st_val (ys := [.ptr id510 0, iv x1035.port]) (by kernel_rfl) (vexec_iaddrP (l := l1036.l) he2569 rfl)) (APath.one (.store (.t 92) (.k (.p (.bool true))) 1) (by kernel_rfl) (st_storeH (H := H2568) (v := bv true) (by kernel_rfl) (by kernel_rfl) (by kernel_rfl) (by kernel_rfl) hH2570) APath.done))) (by kernel_rfl) ?_
                  obtain rfl := some_inj h
                  exact rb_done (k := 4) (.ready) hH rfl rfl (fun H6 hH => ⟨_, (Eq.refl _), (Fp.pick hH [0, 1, 2, 3, 4] rfl)⟩)
            refine vc_range (s := ⟨[(8, .loc 8 0), (11, .ptr id510 0), (12, .ptr id512 0), (13, .ptr id514 0), (14, .ptr id516 0), (40, s_eSl_1_eI64 false a1_), (41, iv ((List.length a1_ : Nat) : Int)), (42, iv i521), (48, .fn 78 [] [.ptr id1031 0, .ptr id1032 0])], [(8, (c_api_Topo a0_))], H1030⟩) [(11, .ptr id510 0), (12, .ptr id512 0), (13, .ptr id514 0), (14, .ptr id516 0)] (FrOK.cons (by kernel_rfl) (by kernel_rfl) (FrOK.cons (by kernel_rfl) (by kernel_rfl) (FrOK.cons (by kernel_rfl) (by kernel_rfl) (FrOK.cons (by kernel_rfl) (by kernel_rfl) FrOK.nil)))) (by kernel_rfl) (fun H => rfl) (capT := [.cel id1031 [s_eI64 false r1029.1], .cel id1032 (c_api_Topo r1029.2.Topo)]) (cells0 := [.cel id510 (c_Arr48_Bool l522), .cel id512 (c_Arr12_i64 l523), .cel id514 [iv i524], .cel id516 [bv b525]]) (rest := []) (HP.now (HP.pick hH [0, 1, 2, 3, 4, 5] rfl)) (fun (s : Arr48_Bool × Arr12_i64 × Int × Bool) (its : List Thing) => its = [.cel id510 (c_Arr48_Bool s.1), .cel id512 (c_Arr12_i64 s.2.1), .cel id514 [iv s.2.2.1], .cel id516 [bv s.2.2.2]] ++ [.lp (List.length H1030) (lcOf Try.prog i28.nt [49, 50] ra28_3 rb28_3) [(11, .ptr id510 0), (12, .ptr id512 0), (13, .ptr id514 0), (14, .ptr id516 0)] .ready]) (l522, l523, i524, b525) o2571 (by exact (Eq.refl _)) (fun H its hT hH => route_walk_hops_1_ok N (fun (s : Arr48_Bool × Arr12_i64 × Int × Bool) (x1034 : Int) (x1035 : route_hop) => yieldT (fun v : Arr48_Bool × Arr12_i64 × Int × Bool => route_Tree_R3 N v.1 v.2.1 v.2.2.1 v.2.2.2 x1034 x1035) s) r1029.1 r1029.2 (l522, l523, i524, b525) id1031 id1032 (List.length H1030) (fun (s : Arr48_Bool × Arr12_i64 × Int × Bool) (its : List Thing) => its = [.cel id510 (c_Arr48_Bool s.1), .cel id512 (c_Arr12_i64 s.2.1), .cel id514 [iv s.2.2.1], .cel id516 [bv s.2.2.2]] ++ [.lp (List.length H1030) (lcOf Try.prog i28.nt [49, 50] ra28_3 rb28_3) [(11, .ptr id510 0), (12, .ptr id512 0), (13, .ptr id514 0), (14, .ptr id516 0)] .ready]) hyo2571 H its hT hH o2571 ho2571) ?_
            rintro its hT
            obtain rfl := hT
            refine ⟨_, _, rfl, ?_⟩
            intro H2572 hF
            replace hH : HP H2572 [.cel id1031 [s_eI64 false r1029.1], .cel id1032 (c_api_Topo r1029.2.Topo), .cel id510 (c_Arr48_Bool o2571.1), .cel id512 (c_Arr12_i64 o2571.2.1), .cel id514 [iv o2571.2.2.1], .cel id516 [bv o2571.2.2.2]] := HP.after (HP.pick hH [0, 1, 2, 3, 4, 5] rfl) hF
            refine outQ_ready (S := ⟨[(8, .loc 8 0), (11, .ptr id510 0), (12, .ptr id512 0), (13, .ptr id514 0), (14, .ptr id516 0), (40, s_eSl_1_eI64 false a1_), (41, iv ((List.length a1_ : Nat) : Int)), (42, iv i521), (48, .fn 78 [] [.ptr id1031 0, .ptr id1032 0])], [(8, (c_api_Topo a0_))], H2572⟩) ?_
            try show vc _ _ _ _ _
            refine vc_kp ?_
            replace hH : HP H2572 [.cel id510 (c_Arr48_Bool o2571.1), .cel id512 (c_Arr12_i64 o2571.2.1), .cel id514 [iv o2571.2.2.1], .cel id516 [bv o2571.2.2.2]] := HP.pick hH [2, 3, 4, 5] rfl
            refine vc_reg (S := ⟨[(8, .loc 8 0), (11, .ptr id510 0), (12, .ptr id512 0), (13, .ptr id514 0), (14, .ptr id516 0), (40, s_eSl_1_eI64 false a1_), (41, iv ((List.length a1_ : Nat) : Int)), (42, iv (w64 (i521 + 1)))], [(8, (c_api_Topo a0_))], H2572⟩) (APath.fin (by kernel_rfl)) (by kernel_rfl) ?_
            obtain rfl := some_inj h
            exact ⟨_, rfl, ⟨H2572, (by show _ = _; kernel_rfl), (HP.pick hH [0, 1, 2, 3] rfl)⟩⟩
          · refine vc_kp ?_
            try show vc _ _ _ _ _
            replace hH : HP H520 [.cel id510 (c_Arr48_Bool l522), .cel id516 [bv b525]] := HP.pick hH [0, 3] rfl
            refine vc_exit ?_
            try show vc _ _ _ _ _
            obtain rfl := some_inj h
            exact ⟨_, rfl, rfl, ⟨H520, (by show _ = _; kernel_rfl), (HP.pick hH [0, 1] rfl)⟩⟩
        · rintro e s hq
          obtain ⟨rfl, hR⟩ := hq
          obtain ⟨H1026, rfl, hH⟩ := hR
          replace hH : HP H1026 [.cel id510 (c_Arr48_Bool o2573.1), .cel id516 [bv o2573.2]] := hH
          try show vc _ _ _ _ _
          refine vc_seq ?_
          refine vc_reg (S := ⟨[(11, .ptr id510 0), (14, .ptr id516 0), (19, s_eI64 true [])], [], H1026⟩) (APath.fin (by kernel_rfl)) (by kernel_rfl) ?_
          refine vc_seq ?_
          refine vc_seq ?_
          have hlc2574 := HP.get hH 0 rfl
          refine vc_reg (S := ⟨[(14, .ptr id516 0), (19, s_eI64 true []), (94, .agg (c_Arr48_Bool o2573.1)), (95, iv 0)], [], H1026⟩) (APath.one (.load 94 (.t 11) 48 true) (by kernel_rfl) (st_loadC (H := H1026) (id := id510) (off := 0) (cs := (c_Arr48_Bool o2573.1)) (c := (c_Arr48_Bool o2573.1)) (r := .agg (c_Arr48_Bool o2573.1)) (by kernel_rfl) (by kernel_rfl) hlc2574 (by kernel_rfl) (by kernel_rfl) (by kernel_rfl)) (APath.fin (by kernel_rfl))) (by kernel_rfl) ?_
          replace hH : HP H1026 [.cel id516 [bv o2573.2]] := HP.pick hH [1] rfl
          refine vc_block ?_
          obtain ⟨o3590, ho3590, h⟩ := bind_some h
          refine vc_loop ((loop_sim (fun (x : Int × (List Int)) s => ∃ (a2575 : AV) (H2576 : List HO), s = ⟨[(14, .ptr id516 0), (19, a2575), (94, .agg (c_Arr48_Bool o2573.1)), (95, iv x.1)], [], H2576⟩ ∧ HP H2576 [.arr a2575 1 false (List.map eI64 x.2), .cel id516 [bv o2573.2]]) (fun x : Int × (List Int) => route_Tree_L4 N o2573 x.1 x.2) (fun (p : (List Int)) e s => e = .exit 6 ∧ (∃ (a3079 : AV) (H3080 : List HO), s = ⟨[(14, .ptr id516 0), (19, a3079)], [], H3080⟩ ∧ HP H3080 [.arr a3079 1 false (List.map eI64 p), .cel id516 [bv o2573.2]])) ?_ N _ o3590 _ ho3590 ⟨(.p (.sl 1 true [])), H1026, (by show _ = _; kernel_rfl), (HP.pick (HP.nilArr hH 1 false) [0, 1] rfl)⟩).mono ?_)
          · clear h ho3590
            rintro ⟨i2577, l2578⟩ o s h hR
            obtain ⟨a2575, H2576, rfl, hH⟩ := hR
            replace hH : HP H2576 [.arr a2575 1 false (List.map eI64 l2578), .cel id516 [bv o2573.2]] := hH
            have hfa2575 := own_form (HP.get hH 0 rfl)
            replace h : route_Tree_L4 N o2573 i2577 l2578 = some o := h
            unfold route_Tree_L4 at h
            refine vc_seq ?_
            refine vc_reg (S := ⟨[(14, .ptr id516 0), (19, a2575), (94, .agg (c_Arr48_Bool o2573.1)), (95, iv i2577), (96, bv (decide (i2577 < 48)))], [], H2576⟩) (APath.fin (by rcases hfa2575 with ha2575e | ⟨_, _, ha2575e⟩ <;> subst ha2575e <;> kernel_rfl)) (by rcases hfa2575 with ha2575e | ⟨_, _, ha2575e⟩ <;> subst ha2575e <;> kernel_rfl) ?_
            refine vc_seq ?_
            refine vc_ite (by kernel_rfl) h (fun hc3081 h => ?_) (fun hc3081 h => ?_)
            · refine vc_skip ?_
              refine vc_kp ?_
              obtain ⟨j3584, hj3584, h⟩ := bind_some h
              refine vc_joinK [14, 19, 94, 95] (fun s => ∃ (a3582 : AV) (H3583 : List HO), s = ⟨[(14, .ptr id516 0), (19, a3582), (94, .agg (c_Arr48_Bool o2573.1)), (95, iv i2577)], [], H3583⟩ ∧ HP H3583 [.arr a3582 1 false (List.map eI64 j3584), .cel id516 [bv o2573.2]]) ?_ ?_
              · clear h
                have h := hj3584
                refine vc_block ?_
                refine vc_seq ?_
                obtain ⟨e3585, he3585, h⟩ := bind_some h
                refine vc_reg (S := ⟨[(14, .ptr id516 0), (19, a2575), (20, iv i2577), (21, bv e3585), (94, .agg (c_Arr48_Bool o2573.1)), (95, iv i2577)], [], H2576⟩) (APath.chunk 1 (by rcases hfa2575 with ha2575e | ⟨_, _, ha2575e⟩ <;> subst ha2575e <;> kernel_rfl) (APath.one (.val 98 (.idx 48 1 false) [.t 94, .t 95]) (by kernel_rfl) (st_val (ys := [.agg (c_Arr48_Bool o2573.1), iv i2577]) (by rcases hfa2575 with ha2575e | ⟨_, _, ha2575e⟩ <;> subst ha2575e <;> kernel_rfl) (vexec_idxA (l := o2573.1.l) (fun x => bv x) he3585 rfl rfl)) (APath.fin (by rcases hfa2575 with ha2575e | ⟨_, _, ha2575e⟩ <;> subst ha2575e <;> kernel_rfl)))) (by rcases hfa2575 with ha2575e | ⟨_, _, ha2575e⟩ <;> subst ha2575e <;> kernel_rfl) ?_
                refine vc_seq ?_
                refine vc_reg (S := ⟨[(14, .ptr id516 0), (19, a2575), (20, iv i2577), (94, .agg (c_Arr48_Bool o2573.1)), (95, iv i2577), (99, bv e3585)], [], H2576⟩) (APath.fin (by rcases hfa2575 with ha2575e | ⟨_, _, ha2575e⟩ <;> subst ha2575e <;> kernel_rfl)) (by rcases hfa2575 with ha2575e | ⟨_, _, ha2575e⟩ <;> subst ha2575e <;> kernel_rfl) ?_
                refine vc_ite (by kernel_rfl) h (fun hc3586 h => ?_) (fun hc3586 h => ?_)
                · obtain ⟨l3589, hl3589, h⟩ := bind_some h
                  obtain ⟨a3587, H3588, ha3587, hH⟩ := HP.app (k := 0) (a := a2575) (sz := 1) (frz := false) eI64 hH rfl hl3589
                  replace hH : HP H3588 [.arr a3587 1 false (List.map eI64 l3589), .cel id516 [bv o2573.2]] := hH
                  have hfa3587 := own_form (HP.get hH 0 rfl)
                  refine vc_reg (S := ⟨[(14, .ptr id516 0), (19, a3587), (94, .agg (c_Arr48_Bool o2573.1)), (95, iv i2577)], [], H3588⟩) (APath.chunk 3 (by rcases hfa2575 with ha2575e | ⟨_, _, ha2575e⟩ <;> rcases hfa3587 with ha3587e | ⟨_, _, ha3587e⟩ <;> subst ha2575e ha3587e <;> kernel_rfl) (APath.one (.app 103 (.t 100) (.t 102) 1 8) (by kernel_rfl) (st_app (H := H2576) (a := a2575) (b := s_eI64 true [i2577]) (by rcases hfa2575 with ha2575e | ⟨_, _, ha2575e⟩ <;> rcases hfa3587 with ha3587e | ⟨_, _, ha3587e⟩ <;> subst ha2575e ha3587e <;> kernel_rfl) (by rcases hfa2575 with ha2575e | ⟨_, _, ha2575e⟩ <;> rcases hfa3587 with ha3587e | ⟨_, _, ha3587e⟩ <;> subst ha2575e ha3587e <;> kernel_rfl) (by rcases hfa2575 with ha2575e | ⟨_, _, ha2575e⟩ <;> rcases hfa3587 with ha3587e | ⟨_, _, ha3587e⟩ <;> subst ha2575e ha3587e <;> kernel_rfl) (by rcases hfa2575 with ha2575e | ⟨_, _, ha2575e⟩ <;> rcases hfa3587 with ha3587e | ⟨_, _, ha3587e⟩ <;> subst ha2575e ha3587e <;> kernel_rfl) ha3587) (APath.fin (by rcases hfa2575 with ha2575e | ⟨_, _, ha2575e⟩ <;> rcases hfa3587 with ha3587e | ⟨_, _, ha3587e⟩ <;> subst ha2575e ha3587e <;> kernel_rfl)))) (by rcases hfa2575 with ha2575e | ⟨_, _, ha2575e⟩ <;> rcases hfa3587 with ha3587e | ⟨_, _, ha3587e⟩ <;> subst ha2575e ha3587e <;> kernel_rfl) ?_
                  obtain rfl := some_inj h
                  exact ⟨rfl, ⟨a3587, H3588, (by show _ = _; rcases hfa3587 with ha3587e | ⟨_, _, ha3587e⟩ <;> subst ha3587e <;> kernel_rfl), (HP.pick hH [0, 1] rfl)⟩⟩
                · refine vc_skip ?_
                  obtain rfl := some_inj h
                  exact ⟨rfl, ⟨a2575, H2576, (by show _ = _; rcases hfa2575 with ha2575e | ⟨_, _, ha2575e⟩ <;> subst ha2575e <;> kernel_rfl), (HP.pick hH [0, 1] rfl)⟩⟩
              · clear hj3584
                rintro s hR
                obtain ⟨a3582, H3583, rfl, hH⟩ := hR
                replace hH : HP H3583 [.arr a3582 1 false (List.map eI64 j3584), .cel id516 [bv o2573.2]] := hH
                have hfa3582 := own_form (HP.get hH 0 rfl)
                refine vc_reg (S := ⟨[(14, .ptr id516 0), (19, a3582), (94, .agg (c_Arr48_Bool o2573.1)), (95, iv (w64 (i2577 + 1)))], [], H3583⟩) (APath.fin (by rcases hfa3582 with ha3582e | ⟨_, _, ha3582e⟩ <;> subst ha3582e <;> kernel_rfl)) (by rcases hfa3582 with ha3582e | ⟨_, _, ha3582e⟩ <;> subst ha3582e <;> kernel_rfl) ?_
                obtain rfl := some_inj h
                exact ⟨_, rfl, ⟨a3582, H3583, (by show _ = _; rcases hfa3582 with ha3582e | ⟨_, _, ha3582e⟩ <;> subst ha3582e <;> kernel_rfl), (HP.pick hH [0, 1] rfl)⟩⟩
            · refine vc_kp ?_
              try show vc _ _ _ _ _
              refine vc_exit ?_
              try show vc _ _ _ _ _
              obtain rfl := some_inj h
              exact ⟨_, rfl, rfl, ⟨a2575, H2576, (by show _ = _; rcases hfa2575 with ha2575e | ⟨_, _, ha2575e⟩ <;> subst ha2575e <;> kernel_rfl), (HP.pick hH [0, 1] rfl)⟩⟩
          · rintro e s hq
            obtain ⟨rfl, hR⟩ := hq
            obtain ⟨a3079, H3080, rfl, hH⟩ := hR
            replace hH : HP H3080 [.arr a3079 1 false (List.map eI64 o3590), .cel id516 [bv o2573.2]] := hH
            have hfa3079 := own_form (HP.get hH 0 rfl)
            try show vc _ _ _ _ _
            refine vc_seq ?_
            have hlc3591 := HP.get hH 1 rfl
            refine vc_regD (S := ⟨[(4, a3079), (5, bv o2573.2), (6, iv 0)], [], H3080⟩) (by rcases hfa3079 with ha3079e | ⟨_, _, ha3079e⟩ <;> subst ha3079e <;> kernel_rfl) (APath.chunk 1 (by rcases hfa3079 with ha3079e | ⟨_, _, ha3079e⟩ <;> subst ha3079e <;> kernel_rfl) (APath.one (.load 106 (.t 14) 1 false) (by kernel_rfl) (st_loadC (H := H3080) (id := id516) (off := 0) (cs := [bv o2573.2]) (c := [bv o2573.2]) (r := bv o2573.2) (by rcases hfa3079 with ha3079e | ⟨_, _, ha3079e⟩ <;> subst ha3079e <;> kernel_rfl) (by rcases hfa3079 with ha3079e | ⟨_, _, ha3079e⟩ <;> subst ha3079e <;> kernel_rfl) hlc3591 (by rcases hfa3079 with ha3079e | ⟨_, _, ha3079e⟩ <;> subst ha3079e <;> kernel_rfl) (by rcases hfa3079 with ha3079e | ⟨_, _, ha3079e⟩ <;> subst ha3079e <;> kernel_rfl) (by rcases hfa3079 with ha3079e | ⟨_, _, ha3079e⟩ <;> subst ha3079e <;> kernel_rfl)) (APath.fin (by rcases hfa3079 with ha3079e | ⟨_, _, ha3079e⟩ <;> subst ha3079e <;> kernel_rfl)))) (by rcases hfa3079 with ha3079e | ⟨_, _, ha3079e⟩ <;> subst ha3079e <;> kernel_rfl) ?_
            replace hH : HP H3080 [.arr a3079 1 false (List.map eI64 o3590)] := HP.pick hH [0] rfl
            refine vc_ret ?_
            obtain rfl := some_inj h
            exact ret_own (H := H3080) (ys := [a3079, bv o2573.2, iv 0]) (xs := [.p (.sl 1 false (List.map eI64 o3590)), bv o2573.2, iv 0]) (by rcases hfa3079 with ha3079e | ⟨_, _, ha3079e⟩ <;> subst ha3079e <;> kernel_rfl) (by rcases hfa3079 with ha3079e | ⟨_, _, ha3079e⟩ <;> subst ha3079e <;> kernel_rfl) (pureVL_cons (HP.pure (k := 0) (frz := false) eI64 hH rfl).2 (pureVL_cons rfl (pureVL_cons rfl pureVL_nil))) (by kernel_rfl)
      · dsimp only at h hq
        obtain ⟨rfl, hq⟩ := hq
        obtain rfl := some_inj h
        exact hq
theorem route_ask__int_ok (N : Nat) (a0_ : api_Topo) (a1_ : (List Int)) (a2_ : route_walk → Option ((List Int) × Int)) (a2_f : Nat) (a2_p a2_c : List AV) (ha2_n : (noLocL a2_p && noLocL a2_c) = true) (its : List Thing) (ha2_ : ∀ (H : List HO) (x0 : route_walk) (r : (List Int) × Int), HP H its → a2_ x0 = some r → VCall Try.prog (.fn a2_f a2_p a2_c) [.agg [iv x0.Topo.Nodes, s_eB false x0.Topo.Station, s_e_api_Link false x0.Topo.Links]] H (.tup [s_eI64 false r.1, iv r.2]) H) (H : List HO) (hH : HP H (its)) (r : (List Int) × Int) (h : route_ask__int N a0_ a1_ a2_ = some r) : ACall Try.prog 35 [.agg (c_api_Topo a0_), s_eI64 false a1_, .fn a2_f a2_p a2_c] H (.tup [s_eI64 false r.1, iv r.2]) H := by
  unfold route_ask__int at h
  refine acall_ofW chk35 rfl (by simpa [noLocL, noLoc.noLocL, noLoc] using ha2_n) rfl (vc_sound _ _ _ ?_)
  refine vc_seq ?_
  refine vc_reg (S := ⟨[(1, s_eI64 false a1_), (2, .fn a2_f a2_p a2_c), (3, .loc 3 0)], [(3, (c_api_Topo a0_))], H⟩) (APath.fin (by kernel_rfl)) (by kernel_rfl) ?_
  refine vc_seq ?_
  refine vc_reg (S := ⟨[(1, s_eI64 false a1_), (2, .fn a2_f a2_p a2_c), (3, .loc 3 0), (8, s_eI64 true [])], [(3, (c_api_Topo a0_))], H⟩) (APath.fin (by kernel_rfl)) (by kernel_rfl) ?_
  refine vc_seq ?_
  refine vc_seq ?_
  obtain ⟨r1, hr1, h⟩ := bind_some h
  refine vc_reg (S := ⟨[(2, .fn a2_f a2_p a2_c), (3, .loc 3 0), (8, s_eI64 true []), (9, iv r1)], [(3, (c_api_Topo a0_))], H⟩) (APath.chunk 2 (by kernel_rfl) (APath.one (.call (some 12) 19 [.t 10, .t 11]) (by kernel_rfl) (st_call (by kernel_rfl) (route_Check_ok N a0_ a1_ r1 hr1)) (APath.fin (by kernel_rfl)))) (by kernel_rfl) ?_
  refine vc_seq ?_
  refine vc_reg (S := ⟨[(2, .fn a2_f a2_p a2_c), (3, .loc 3 0), (8, s_eI64 true []), (9, iv r1), (14, bv (r1 != 0))], [(3, (c_api_Topo a0_))], H⟩) (APath.fin (by kernel_rfl)) (by kernel_rfl) ?_
  refine vc_ite (by kernel_rfl) h (fun hc2 h => ?_) (fun hc2 h => ?_)
  · refine vc_seq ?_
    refine vc_reg (S := ⟨[(6, s_eI64 true []), (7, iv r1)], [], H⟩) (APath.fin (by kernel_rfl)) (by kernel_rfl) ?_
    refine vc_ret ?_
    obtain rfl := some_inj h
    exact ret_ofAW (by kernel_rfl) (by kernel_rfl)
  · refine vc_skip ?_
    refine vc_kp ?_
    refine vc_seq ?_
    obtain ⟨r3, hr3, h⟩ := bind_some h
    have hvr3 := ha2_ _ (route_walk.mk a0_) _ hH hr3
    refine vc_reg (S := ⟨[(6, s_eI64 false r3.1), (7, iv r3.2)], [], H⟩) (APath.chunk 3 (by kernel_rfl) (APath.one (.callV (some 20) (.t 17) [.t 19]) (by kernel_rfl) (st_callV (H := H) (ys := [.agg (c_api_Topo a0_)]) (by kernel_rfl) (by kernel_rfl) (by kernel_rfl) hvr3) (APath.fin (by kernel_rfl)))) (by kernel_rfl) ?_
    refine vc_ret ?_
    obtain rfl := some_inj h
    exact ret_ofAW (by kernel_rfl) (by kernel_rfl)
theorem route_ask_int_ok (N : Nat) (a0_ : api_Topo) (a1_ : (List Int)) (a2_ : route_walk → Option (Int × Int)) (a2_f : Nat) (a2_p a2_c : List AV) (ha2_n : (noLocL a2_p && noLocL a2_c) = true) (its : List Thing) (ha2_ : ∀ (H : List HO) (x0 : route_walk) (r : Int × Int), HP H its → a2_ x0 = some r → VCall Try.prog (.fn a2_f a2_p a2_c) [.agg [iv x0.Topo.Nodes, s_eB false x0.Topo.Station, s_e_api_Link false x0.Topo.Links]] H (.tup [iv r.1, iv r.2]) H) (H : List HO) (hH : HP H (its)) (r : Int × Int) (h : route_ask_int N a0_ a1_ a2_ = some r) : ACall Try.prog 38 [.agg (c_api_Topo a0_), s_eI64 false a1_, .fn a2_f a2_p a2_c] H (.tup [iv r.1, iv r.2]) H := by
  unfold route_ask_int at h
  refine acall_ofW chk38 rfl (by simpa [noLocL, noLoc.noLocL, noLoc] using ha2_n) rfl (vc_sound _ _ _ ?_)
  refine vc_seq ?_
  refine vc_reg (S := ⟨[(1, s_eI64 false a1_), (2, .fn a2_f a2_p a2_c), (3, .loc 3 0)], [(3, (c_api_Topo a0_))], H⟩) (APath.fin (by kernel_rfl)) (by kernel_rfl) ?_
  refine vc_seq ?_
  refine vc_reg (S := ⟨[(1, s_eI64 false a1_), (2, .fn a2_f a2_p a2_c), (3, .loc 3 0), (8, iv 0)], [(3, (c_api_Topo a0_))], H⟩) (APath.fin (by kernel_rfl)) (by kernel_rfl) ?_
  refine vc_seq ?_
  refine vc_seq ?_
  obtain ⟨r1, hr1, h⟩ := bind_some h
  refine vc_reg (S := ⟨[(2, .fn a2_f a2_p a2_c), (3, .loc 3 0), (8, iv 0), (9, iv r1)], [(3, (c_api_Topo a0_))], H⟩) (APath.chunk 2 (by kernel_rfl) (APath.one (.call (some 12) 19 [.t 10, .t 11]) (by kernel_rfl) (st_call (by kernel_rfl) (route_Check_ok N a0_ a1_ r1 hr1)) (APath.fin (by kernel_rfl)))) (by kernel_rfl) ?_
  refine vc_seq ?_
  refine vc_reg (S := ⟨[(2, .fn a2_f a2_p a2_c), (3, .loc 3 0), (8, iv 0), (9, iv r1), (14, bv (r1 != 0))], [(3, (c_api_Topo a0_))], H⟩) (APath.fin (by kernel_rfl)) (by kernel_rfl) ?_
  refine vc_ite (by kernel_rfl) h (fun hc2 h => ?_) (fun hc2 h => ?_)
  · refine vc_seq ?_
    refine vc_reg (S := ⟨[(6, iv 0), (7, iv r1)], [], H⟩) (APath.fin (by kernel_rfl)) (by kernel_rfl) ?_
    refine vc_ret ?_
    obtain rfl := some_inj h
    exact ret_ofAW (by kernel_rfl) (by kernel_rfl)
  · refine vc_skip ?_
    refine vc_kp ?_
    refine vc_seq ?_
    obtain ⟨r3, hr3, h⟩ := bind_some h
    have hvr3 := ha2_ _ (route_walk.mk a0_) _ hH hr3
    refine vc_reg (S := ⟨[(6, iv r3.1), (7, iv r3.2)], [], H⟩) (APath.chunk 3 (by kernel_rfl) (APath.one (.callV (some 20) (.t 17) [.t 19]) (by kernel_rfl) (st_callV (H := H) (ys := [.agg (c_api_Topo a0_)]) (by kernel_rfl) (by kernel_rfl) (by kernel_rfl) hvr3) (APath.fin (by kernel_rfl)))) (by kernel_rfl) ?_
    refine vc_ret ?_
    obtain rfl := some_inj h
    exact ret_ofAW (by kernel_rfl) (by kernel_rfl)
theorem route_ask_api_Route_ok (N : Nat) (a0_ : api_Topo) (a1_ : (List Int)) (a2_ : route_walk → Option ((List Int) × Int)) (a2_f : Nat) (a2_p a2_c : List AV) (ha2_n : (noLocL a2_p && noLocL a2_c) = true) (its : List Thing) (ha2_ : ∀ (H : List HO) (x0 : route_walk) (r : (List Int) × Int), HP H its → a2_ x0 = some r → VCall Try.prog (.fn a2_f a2_p a2_c) [.agg [iv x0.Topo.Nodes, s_eB false x0.Topo.Station, s_e_api_Link false x0.Topo.Links]] H (.tup [s_eI64 false r.1, iv r.2]) H) (H : List HO) (hH : HP H (its)) (r : (List Int) × Int) (h : route_ask_api_Route N a0_ a1_ a2_ = some r) : ACall Try.prog 44 [.agg (c_api_Topo a0_), s_eI64 false a1_, .fn a2_f a2_p a2_c] H (.tup [s_eI64 false r.1, iv r.2]) H := by
  unfold route_ask_api_Route at h
  refine acall_ofW chk44 rfl (by simpa [noLocL, noLoc.noLocL, noLoc] using ha2_n) rfl (vc_sound _ _ _ ?_)
  refine vc_seq ?_
  refine vc_reg (S := ⟨[(1, s_eI64 false a1_), (2, .fn a2_f a2_p a2_c), (3, .loc 3 0)], [(3, (c_api_Topo a0_))], H⟩) (APath.fin (by kernel_rfl)) (by kernel_rfl) ?_
  refine vc_seq ?_
  refine vc_reg (S := ⟨[(1, s_eI64 false a1_), (2, .fn a2_f a2_p a2_c), (3, .loc 3 0), (8, s_eI64 true [])], [(3, (c_api_Topo a0_))], H⟩) (APath.fin (by kernel_rfl)) (by kernel_rfl) ?_
  refine vc_seq ?_
  refine vc_seq ?_
  obtain ⟨r1, hr1, h⟩ := bind_some h
  refine vc_reg (S := ⟨[(2, .fn a2_f a2_p a2_c), (3, .loc 3 0), (8, s_eI64 true []), (9, iv r1)], [(3, (c_api_Topo a0_))], H⟩) (APath.chunk 2 (by kernel_rfl) (APath.one (.call (some 12) 19 [.t 10, .t 11]) (by kernel_rfl) (st_call (by kernel_rfl) (route_Check_ok N a0_ a1_ r1 hr1)) (APath.fin (by kernel_rfl)))) (by kernel_rfl) ?_
  refine vc_seq ?_
  refine vc_reg (S := ⟨[(2, .fn a2_f a2_p a2_c), (3, .loc 3 0), (8, s_eI64 true []), (9, iv r1), (14, bv (r1 != 0))], [(3, (c_api_Topo a0_))], H⟩) (APath.fin (by kernel_rfl)) (by kernel_rfl) ?_
  refine vc_ite (by kernel_rfl) h (fun hc2 h => ?_) (fun hc2 h => ?_)
  · refine vc_seq ?_
    refine vc_reg (S := ⟨[(6, s_eI64 true []), (7, iv r1)], [], H⟩) (APath.fin (by kernel_rfl)) (by kernel_rfl) ?_
    refine vc_ret ?_
    obtain rfl := some_inj h
    exact ret_ofAW (by kernel_rfl) (by kernel_rfl)
  · refine vc_skip ?_
    refine vc_kp ?_
    refine vc_seq ?_
    obtain ⟨r3, hr3, h⟩ := bind_some h
    have hvr3 := ha2_ _ (route_walk.mk a0_) _ hH hr3
    refine vc_reg (S := ⟨[(6, s_eI64 false r3.1), (7, iv r3.2)], [], H⟩) (APath.chunk 3 (by kernel_rfl) (APath.one (.callV (some 20) (.t 17) [.t 19]) (by kernel_rfl) (st_callV (H := H) (ys := [.agg (c_api_Topo a0_)]) (by kernel_rfl) (by kernel_rfl) (by kernel_rfl) hvr3) (APath.fin (by kernel_rfl)))) (by kernel_rfl) ?_
    refine vc_ret ?_
    obtain rfl := some_inj h
    exact ret_ofAW (by kernel_rfl) (by kernel_rfl)
theorem route_ask_bool_ok (N : Nat) (a0_ : api_Topo) (a1_ : (List Int)) (a2_ : route_walk → Option (Bool × Int)) (a2_f : Nat) (a2_p a2_c : List AV) (ha2_n : (noLocL a2_p && noLocL a2_c) = true) (its : List Thing) (ha2_ : ∀ (H : List HO) (x0 : route_walk) (r : Bool × Int), HP H its → a2_ x0 = some r → VCall Try.prog (.fn a2_f a2_p a2_c) [.agg [iv x0.Topo.Nodes, s_eB false x0.Topo.Station, s_e_api_Link false x0.Topo.Links]] H (.tup [bv r.1, iv r.2]) H) (H : List HO) (hH : HP H (its)) (r : Bool × Int) (h : route_ask_bool N a0_ a1_ a2_ = some r) : ACall Try.prog 57 [.agg (c_api_Topo a0_), s_eI64 false a1_, .fn a2_f a2_p a2_c] H (.tup [bv r.1, iv r.2]) H := by
  unfold route_ask_bool at h
  refine acall_ofW chk57 rfl (by simpa [noLocL, noLoc.noLocL, noLoc] using ha2_n) rfl (vc_sound _ _ _ ?_)
  refine vc_seq ?_
  refine vc_reg (S := ⟨[(1, s_eI64 false a1_), (2, .fn a2_f a2_p a2_c), (3, .loc 3 0)], [(3, (c_api_Topo a0_))], H⟩) (APath.fin (by kernel_rfl)) (by kernel_rfl) ?_
  refine vc_seq ?_
  refine vc_reg (S := ⟨[(1, s_eI64 false a1_), (2, .fn a2_f a2_p a2_c), (3, .loc 3 0), (8, bv false)], [(3, (c_api_Topo a0_))], H⟩) (APath.fin (by kernel_rfl)) (by kernel_rfl) ?_
  refine vc_seq ?_
  refine vc_seq ?_
  obtain ⟨r1, hr1, h⟩ := bind_some h
  refine vc_reg (S := ⟨[(2, .fn a2_f a2_p a2_c), (3, .loc 3 0), (8, bv false), (9, iv r1)], [(3, (c_api_Topo a0_))], H⟩) (APath.chunk 2 (by kernel_rfl) (APath.one (.call (some 12) 19 [.t 10, .t 11]) (by kernel_rfl) (st_call (by kernel_rfl) (route_Check_ok N a0_ a1_ r1 hr1)) (APath.fin (by kernel_rfl)))) (by kernel_rfl) ?_
  refine vc_seq ?_
  refine vc_reg (S := ⟨[(2, .fn a2_f a2_p a2_c), (3, .loc 3 0), (8, bv false), (9, iv r1), (14, bv (r1 != 0))], [(3, (c_api_Topo a0_))], H⟩) (APath.fin (by kernel_rfl)) (by kernel_rfl) ?_
  refine vc_ite (by kernel_rfl) h (fun hc2 h => ?_) (fun hc2 h => ?_)
  · refine vc_seq ?_
    refine vc_reg (S := ⟨[(6, bv false), (7, iv r1)], [], H⟩) (APath.fin (by kernel_rfl)) (by kernel_rfl) ?_
    refine vc_ret ?_
    obtain rfl := some_inj h
    exact ret_ofAW (by kernel_rfl) (by kernel_rfl)
  · refine vc_skip ?_
    refine vc_kp ?_
    refine vc_seq ?_
    obtain ⟨r3, hr3, h⟩ := bind_some h
    have hvr3 := ha2_ _ (route_walk.mk a0_) _ hH hr3
    refine vc_reg (S := ⟨[(6, bv r3.1), (7, iv r3.2)], [], H⟩) (APath.chunk 3 (by kernel_rfl) (APath.one (.callV (some 20) (.t 17) [.t 19]) (by kernel_rfl) (st_callV (H := H) (ys := [.agg (c_api_Topo a0_)]) (by kernel_rfl) (by kernel_rfl) (by kernel_rfl) hvr3) (APath.fin (by kernel_rfl)))) (by kernel_rfl) ?_
    refine vc_ret ?_
    obtain rfl := some_inj h
    exact ret_ofAW (by kernel_rfl) (by kernel_rfl)
theorem topo_Back_ok (N : Nat) (a0_ : api_Topo) (a1_ : Int) (r : Int × Int) (h : topo_Back N a0_ a1_ = some r) : PCall Try.prog 69 [.agg (c_api_Topo a0_), iv a1_] (.tup [iv r.1, iv r.2]) := by
  unfold topo_Back at h
  have hH : HP ([] : List HO) [] := trivial
  refine pcall_of chk69 rfl rfl (vc_sound _ _ _ ?_) rfl
  refine vc_seq ?_
  refine vc_reg (S := ⟨[(1, iv a1_), (2, .loc 2 0)], [(2, (c_api_Topo a0_))], []⟩) (APath.fin (by kernel_rfl)) (by kernel_rfl) ?_
  refine vc_seq ?_
  obtain ⟨r1, hr1, h⟩ := bind_some h
  have hvr1 := (topo_ask_int_ok N a0_ a1_ (fun x0 => topo_end_back N x0 )   80 [] [] (by kernel_rfl) [] (fun H x0 r hH h => VCall.of (by kernel_rfl) ((topo_end_back_ok N  x0 r h).frame H)) [] (HP.now (HP.pick hH [] rfl)) r1 hr1)
  refine vc_reg (S := ⟨[(4, iv r1.1), (5, iv r1.2)], [], []⟩) (APath.chunk 2 (by kernel_rfl) (APath.one (.call (some 8) 79 [.t 6, .t 7, .k (.fn 80 [] [])]) (by kernel_rfl) (st_callH (H := []) (ys := [.agg (c_api_Topo a0_), iv a1_, .fn 80 [] []]) (by kernel_rfl) (by kernel_rfl) (by kernel_rfl) hvr1) (APath.fin (by kernel_rfl)))) (by kernel_rfl) ?_
  refine vc_ret ?_
  obtain rfl := some_inj h
  exact ret_of (by kernel_rfl)
theorem route_Nodes_ok (N : Nat) (a0_ : api_Topo) (a1_ : (List Int)) (r : (List Int) × Int) (h : route_Nodes N a0_ a1_ = some r) : PCall Try.prog 13 [.agg (c_api_Topo a0_), s_eI64 false a1_] (.tup [s_eI64 false r.1, iv r.2]) := by
  unfold route_Nodes at h
  have hH : HP ([] : List HO) [] := trivial
  refine pcall_of chk13 rfl rfl (vc_sound _ _ _ ?_) rfl
  refine vc_seq ?_
  obtain ⟨id1, H2, hid1, hH2, hH⟩ := HP.newCell hH [s_eI64 false a1_]
  replace hH : HP H2 [.cel id1 [s_eI64 false a1_]] := hH
  refine vc_reg (S := ⟨[(2, .loc 2 0), (3, .ptr id1 0)], [(2, (c_api_Topo a0_))], H2⟩) (APath.chunk 1 (by kernel_rfl) (APath.one (.boxH 3 (.t 1)) (by kernel_rfl) (st_boxH (H := []) (v := s_eI64 false a1_) (by kernel_rfl) (by kernel_rfl) (by kernel_rfl) hid1 hH2) (APath.fin (by kernel_rfl)))) (by kernel_rfl) ?_
  refine vc_seq ?_
  have hlc3 := HP.get hH 0 rfl
  obtain ⟨r4, hr4, h⟩ := bind_some h
  have hvr4 := (route_ask__int_ok N a0_ a1_ (fun x0 => route_Nodes_1 N x0 a1_)   36 [] [.ptr id1 0] (by kernel_rfl) [.cel id1 [s_eI64 false a1_]] (fun H x0 r hH h => VCall.of (by kernel_rfl) (route_Nodes_1_ok N  x0 a1_ id1 H hH r h)) H2 (HP.now (HP.pick hH [0] rfl)) r4 hr4)
  refine vc_reg (S := ⟨[(4, s_eI64 false r4.1), (5, iv r4.2)], [], H2⟩) (APath.chunk 1 (by kernel_rfl) (APath.one (.load 7 (.t 3) 1 false) (by kernel_rfl) (st_loadC (H := H2) (id := id1) (off := 0) (cs := [s_eI64 false a1_]) (c := [s_eI64 false a1_]) (r := s_eI64 false a1_) (by kernel_rfl) (by kernel_rfl) hlc3 (by kernel_rfl) (by kernel_rfl) (by kernel_rfl)) (APath.chunk 1 (by kernel_rfl) (APath.one (.call (some 9) 35 [.t 6, .t 7, .t 8]) (by kernel_rfl) (st_callH (H := H2) (ys := [.agg (c_api_Topo a0_), s_eI64 false a1_, .fn 36 [] [.ptr id1 0]]) (by kernel_rfl) (by kernel_rfl) (by kernel_rfl) hvr4) (APath.fin (by kernel_rfl)))))) (by kernel_rfl) ?_
  replace hH : HP H2 [] := HP.pick hH [] rfl
  refine vc_ret ?_
  obtain rfl := some_inj h
  exact ret_of (by kernel_rfl)
theorem route_Ends_ok (N : Nat) (a0_ : api_Topo) (a1_ : (List Int)) (r : Int × Int × Int) (h : route_Ends N a0_ a1_ = some r) : PCall Try.prog 14 [.agg (c_api_Topo a0_), s_eI64 false a1_] (.tup [iv r.1, iv r.2.1, iv r.2.2]) := by
  unfold route_Ends at h
  have hH : HP ([] : List HO) [] := trivial
  refine pcall_of chk14 rfl rfl (vc_sound _ _ _ ?_) rfl
  refine vc_seq ?_
  refine vc_reg (S := ⟨[(1, s_eI64 false a1_), (2, .loc 2 0)], [(2, (c_api_Topo a0_))], []⟩) (APath.fin (by kernel_rfl)) (by kernel_rfl) ?_
  refine vc_seq ?_
  obtain ⟨r1, hr1, h⟩ := bind_some h
  refine vc_reg (S := ⟨[(6, iv r1.2), (7, s_eI64 false r1.1)], [], []⟩) (APath.chunk 2 (by kernel_rfl) (APath.one (.call (some 11) 13 [.t 9, .t 10]) (by kernel_rfl) (st_call (by kernel_rfl) (route_Nodes_ok N a0_ a1_ r1 hr1)) (APath.fin (by kernel_rfl)))) (by kernel_rfl) ?_
  refine vc_seq ?_
  refine vc_seq ?_
  refine vc_reg (S := ⟨[(6, iv r1.2), (7, s_eI64 false r1.1), (15, bv (r1.2 != 0))], [], []⟩) (APath.fin (by kernel_rfl)) (by kernel_rfl) ?_
  refine vc_ite (by kernel_rfl) h (fun hc2 h => ?_) (fun hc2 h => ?_)
  · refine vc_seq ?_
    refine vc_reg (S := ⟨[(4, iv 0), (5, iv 0), (6, iv r1.2)], [], []⟩) (APath.fin (by kernel_rfl)) (by kernel_rfl) ?_
    refine vc_ret ?_
    obtain rfl := some_inj h
    exact ret_of (by kernel_rfl)
  · refine vc_skip ?_
    refine vc_kp ?_
    refine vc_seq ?_
    obtain ⟨e3, he3, h⟩ := bind_some h
    obtain ⟨e4, he4, h⟩ := bind_some h
    refine vc_regD (S := ⟨[(4, iv e3), (5, iv e4), (6, iv 0)], [], []⟩) (by kernel_rfl) (APath.chunk 1 (by kernel_rfl) (APath.one (.val 18 (.iaddrS 1) [.t 17, .k (.p (.int .i64 0))]) (by kernel_rfl) (st_val (ys := [s_eI64 false r1.1, iv 0]) (by kernel_rfl) (vexec_iaddrS eI64 he3)) (APath.one (.load 19 (.t 18) 1 false) (by kernel_rfl) (st_loadP (sz := 1) (off := 0) (cs := [.int .i64 e3]) (r := iv e3) eI64 he3 (by kernel_rfl) (by kernel_rfl) (by kernel_rfl)) (APath.chunk 2 (by kernel_rfl) (APath.one (.val 22 .len [.t 21]) (by kernel_rfl) (st_val (ys := [s_eI64 false r1.1]) (by kernel_rfl) (vexec_len eI64)) (APath.chunk 1 (by kernel_rfl) (APath.one (.val 24 (.iaddrS 1) [.t 20, .t 23]) (by kernel_rfl) (st_val (ys := [s_eI64 false r1.1, iv (w64 (((List.length r1.1 : Nat) : Int) - 1))]) (by kernel_rfl) (vexec_iaddrS eI64 he4)) (APath.one (.load 25 (.t 24) 1 false) (by kernel_rfl) (st_loadP (sz := 1) (off := 0) (cs := [.int .i64 e4]) (r := iv e4) eI64 he4 (by kernel_rfl) (by kernel_rfl) (by kernel_rfl)) (APath.fin (by kernel_rfl)))))))))) (by kernel_rfl) ?_
    refine vc_ret ?_
    obtain rfl := some_inj h
    exact ret_of (by kernel_rfl)
theorem route_Delay_ok (N : Nat) (a0_ : api_Topo) (a1_ : (List Int)) (r : Int × Int) (h : route_Delay N a0_ a1_ = some r) : PCall Try.prog 15 [.agg (c_api_Topo a0_), s_eI64 false a1_] (.tup [iv r.1, iv r.2]) := by
  unfold route_Delay at h
  have hH : HP ([] : List HO) [] := trivial
  refine pcall_of chk15 rfl rfl (vc_sound _ _ _ ?_) rfl
  refine vc_seq ?_
  obtain ⟨id1, H2, hid1, hH2, hH⟩ := HP.newCell hH [s_eI64 false a1_]
  replace hH : HP H2 [.cel id1 [s_eI64 false a1_]] := hH
  refine vc_reg (S := ⟨[(2, .loc 2 0), (3, .ptr id1 0)], [(2, (c_api_Topo a0_))], H2⟩) (APath.chunk 1 (by kernel_rfl) (APath.one (.boxH 3 (.t 1)) (by kernel_rfl) (st_boxH (H := []) (v := s_eI64 false a1_) (by kernel_rfl) (by kernel_rfl) (by kernel_rfl) hid1 hH2) (APath.fin (by kernel_rfl)))) (by kernel_rfl) ?_
  refine vc_seq ?_
  have hlc3 := HP.get hH 0 rfl
  obtain ⟨r4, hr4, h⟩ := bind_some h
  have hvr4 := (route_ask_int_ok N a0_ a1_ (fun x0 => route_Delay_1 N x0 a1_)   39 [] [.ptr id1 0] (by kernel_rfl) [.cel id1 [s_eI64 false a1_]] (fun H x0 r hH h => VCall.of (by kernel_rfl) (route_Delay_1_ok N  x0 a1_ id1 H hH r h)) H2 (HP.now (HP.pick hH [0] rfl)) r4 hr4)
  refine vc_reg (S := ⟨[(4, iv r4.1), (5, iv r4.2)], [], H2⟩) (APath.chunk 1 (by kernel_rfl) (APath.one (.load 7 (.t 3) 1 false) (by kernel_rfl) (st_loadC (H := H2) (id := id1) (off := 0) (cs := [s_eI64 false a1_]) (c := [s_eI64 false a1_]) (r := s_eI64 false a1_) (by kernel_rfl) (by kernel_rfl) hlc3 (by kernel_rfl) (by kernel_rfl) (by kernel_rfl)) (APath.chunk 1 (by kernel_rfl) (APath.one (.call (some 9) 38 [.t 6, .t 7, .t 8]) (by kernel_rfl) (st_callH (H := H2) (ys := [.agg (c_api_Topo a0_), s_eI64 false a1_, .fn 39 [] [.ptr id1 0]]) (by kernel_rfl) (by kernel_rfl) (by kernel_rfl) hvr4) (APath.fin (by kernel_rfl)))))) (by kernel_rfl) ?_
  replace hH : HP H2 [] := HP.pick hH [] rfl
  refine vc_ret ?_
  obtain rfl := some_inj h
  exact ret_of (by kernel_rfl)
theorem route_Time_ok (N : Nat) (a0_ : api_Topo) (a1_ : (List Int)) (a2_ : Int) (r : Int × Int) (h : route_Time N a0_ a1_ a2_ = some r) : PCall Try.prog 16 [.agg (c_api_Topo a0_), s_eI64 false a1_, iv a2_] (.tup [iv r.1, iv r.2]) := by
  unfold route_Time at h
  have hH : HP ([] : List HO) [] := trivial
  refine pcall_of chk16 rfl rfl (vc_sound _ _ _ ?_) rfl
  refine vc_seq ?_
  obtain ⟨id1, H2, hid1, hH2, hH⟩ := HP.newCell hH [s_eI64 false a1_]
  replace hH : HP H2 [.cel id1 [s_eI64 false a1_]] := hH
  obtain ⟨id3, H4, hid3, hH4, hH⟩ := HP.newCell hH [iv a2_]
  replace hH : HP H4 [.cel id3 [iv a2_], .cel id1 [s_eI64 false a1_]] := hH
  refine vc_reg (S := ⟨[(3, .loc 3 0), (4, .ptr id1 0), (5, .ptr id3 0)], [(3, (c_api_Topo a0_))], H4⟩) (APath.chunk 1 (by kernel_rfl) (APath.one (.boxH 4 (.t 1)) (by kernel_rfl) (st_boxH (H := []) (v := s_eI64 false a1_) (by kernel_rfl) (by kernel_rfl) (by kernel_rfl) hid1 hH2) (APath.one (.boxH 5 (.t 2)) (by kernel_rfl) (st_boxH (H := H2) (v := iv a2_) (by kernel_rfl) (by kernel_rfl) (by kernel_rfl) hid3 hH4) (APath.fin (by kernel_rfl))))) (by kernel_rfl) ?_
  refine vc_seq ?_
  have hlc5 := HP.get hH 1 rfl
  obtain ⟨r6, hr6, h⟩ := bind_some h
  have hvr6 := (route_ask_int_ok N a0_ a1_ (fun x0 => route_Time_1 N x0 a2_ a1_)   42 [] [.ptr id3 0, .ptr id1 0] (by kernel_rfl) [.cel id3 [iv a2_], .cel id1 [s_eI64 false a1_]] (fun H x0 r hH h => VCall.of (by kernel_rfl) (route_Time_1_ok N  x0 a2_ a1_ id3 id1 H hH r h)) H4 (HP.now (HP.pick hH [0, 1] rfl)) r6 hr6)
  refine vc_reg (S := ⟨[(6, iv r6.1), (7, iv r6.2)], [], H4⟩) (APath.chunk 1 (by kernel_rfl) (APath.one (.load 9 (.t 4) 1 false) (by kernel_rfl) (st_loadC (H := H4) (id := id1) (off := 0) (cs := [s_eI64 false a1_]) (c := [s_eI64 false a1_]) (r := s_eI64 false a1_) (by kernel_rfl) (by kernel_rfl) hlc5 (by kernel_rfl) (by kernel_rfl) (by kernel_rfl)) (APath.chunk 1 (by kernel_rfl) (APath.one (.call (some 11) 38 [.t 8, .t 9, .t 10]) (by kernel_rfl) (st_callH (H := H4) (ys := [.agg (c_api_Topo a0_), s_eI64 false a1_, .fn 42 [] [.ptr id3 0, .ptr id1 0]]) (by kernel_rfl) (by kernel_rfl) (by kernel_rfl) hvr6) (APath.fin (by kernel_rfl)))))) (by kernel_rfl) ?_
  replace hH : HP H4 [] := HP.pick hH [] rfl
  refine vc_ret ?_
  obtain rfl := some_inj h
  exact ret_of (by kernel_rfl)
theorem route_Apart_ok (N : Nat) (a0_ : api_Topo) (a1_ : (List Int)) (a2_ : (List Int)) (r : Bool × Int) (h : route_Apart N a0_ a1_ a2_ = some r) : PCall Try.prog 26 [.agg (c_api_Topo a0_), s_eI64 false a1_, s_eI64 false a2_] (.tup [bv r.1, iv r.2]) := by
  unfold route_Apart at h
  have hH : HP ([] : List HO) [] := trivial
  refine pcall_of chk26 rfl rfl (vc_sound _ _ _ ?_) rfl
  refine vc_seq ?_
  obtain ⟨id1, H2, hid1, hH2, hH⟩ := HP.newCell hH [s_eI64 false a1_]
  replace hH : HP H2 [.cel id1 [s_eI64 false a1_]] := hH
  obtain ⟨id3, H4, hid3, hH4, hH⟩ := HP.newCell hH [s_eI64 false a2_]
  replace hH : HP H4 [.cel id3 [s_eI64 false a2_], .cel id1 [s_eI64 false a1_]] := hH
  refine vc_reg (S := ⟨[(3, .loc 3 0), (4, .ptr id1 0), (5, .ptr id3 0)], [(3, (c_api_Topo a0_))], H4⟩) (APath.chunk 1 (by kernel_rfl) (APath.one (.boxH 4 (.t 1)) (by kernel_rfl) (st_boxH (H := []) (v := s_eI64 false a1_) (by kernel_rfl) (by kernel_rfl) (by kernel_rfl) hid1 hH2) (APath.one (.boxH 5 (.t 2)) (by kernel_rfl) (st_boxH (H := H2) (v := s_eI64 false a2_) (by kernel_rfl) (by kernel_rfl) (by kernel_rfl) hid3 hH4) (APath.fin (by kernel_rfl))))) (by kernel_rfl) ?_
  refine vc_seq ?_
  have hlc5 := HP.get hH 1 rfl
  obtain ⟨r6, hr6, h⟩ := bind_some h
  have hvr6 := (route_ask_bool_ok N a0_ a1_ (fun x0 => route_Apart_1 N x0 a2_ a1_)   58 [] [.ptr id3 0, .ptr id1 0] (by kernel_rfl) [.cel id3 [s_eI64 false a2_], .cel id1 [s_eI64 false a1_]] (fun H x0 r hH h => VCall.of (by kernel_rfl) (route_Apart_1_ok N  x0 a2_ a1_ id3 id1 H hH r h)) H4 (HP.now (HP.pick hH [0, 1] rfl)) r6 hr6)
  refine vc_reg (S := ⟨[(6, bv r6.1), (7, iv r6.2)], [], H4⟩) (APath.chunk 1 (by kernel_rfl) (APath.one (.load 9 (.t 4) 1 false) (by kernel_rfl) (st_loadC (H := H4) (id := id1) (off := 0) (cs := [s_eI64 false a1_]) (c := [s_eI64 false a1_]) (r := s_eI64 false a1_) (by kernel_rfl) (by kernel_rfl) hlc5 (by kernel_rfl) (by kernel_rfl) (by kernel_rfl)) (APath.chunk 1 (by kernel_rfl) (APath.one (.call (some 11) 57 [.t 8, .t 9, .t 10]) (by kernel_rfl) (st_callH (H := H4) (ys := [.agg (c_api_Topo a0_), s_eI64 false a1_, .fn 58 [] [.ptr id3 0, .ptr id1 0]]) (by kernel_rfl) (by kernel_rfl) (by kernel_rfl) hvr6) (APath.fin (by kernel_rfl)))))) (by kernel_rfl) ?_
  replace hH : HP H4 [] := HP.pick hH [] rfl
  refine vc_ret ?_
  obtain rfl := some_inj h
  exact ret_of (by kernel_rfl)
theorem route_walk_back_ok (N : Nat) (a0_ : route_walk) (a1_ : Int) (r : Int) (h : route_walk_back N a0_ a1_ = some r) : PCall Try.prog 47 [.agg (c_api_Topo a0_.Topo), iv a1_] (iv r) := by
  unfold route_walk_back at h
  have hH : HP ([] : List HO) [] := trivial
  refine pcall_of chk47 rfl rfl (vc_sound _ _ _ ?_) rfl
  refine vc_seq ?_
  refine vc_reg (S := ⟨[(1, iv a1_), (2, .loc 2 0)], [(2, (c_api_Topo a0_.Topo))], []⟩) (APath.fin (by kernel_rfl)) (by kernel_rfl) ?_
  refine vc_seq ?_
  obtain ⟨r1, hr1, h⟩ := bind_some h
  refine vc_reg (S := ⟨[(5, iv r1.1)], [], []⟩) (APath.chunk 3 (by kernel_rfl) (APath.one (.call (some 11) 69 [.t 9, .t 10]) (by kernel_rfl) (st_call (by kernel_rfl) (topo_Back_ok N a0_.Topo a1_ r1 hr1)) (APath.fin (by kernel_rfl)))) (by kernel_rfl) ?_
  refine vc_seq ?_
  refine vc_reg (S := ⟨[(4, iv r1.1)], [], []⟩) (APath.fin (by kernel_rfl)) (by kernel_rfl) ?_
  refine vc_ret ?_
  obtain rfl := some_inj h
  exact ret_of (by kernel_rfl)
theorem route_Back_1_ok (N : Nat) (a0_ : route_walk) (c0_ : (List Int)) (k0_ : Nat) (H : List HO) (hH : HP H [.cel k0_ [s_eI64 false c0_]]) (r : (List Int) × Int) (h : route_Back_1 N a0_ c0_ = some r) : ACall Try.prog 45 [.agg (c_api_Topo a0_.Topo), .ptr k0_ 0] H (.tup [s_eI64 false r.1, iv r.2]) H := by
  unfold route_Back_1 at h
  have hH0 := hH
  replace hH := Fp.refl hH
  refine acall_res chk45 rfl rfl rfl (vc_sound _ _ _ ?_)
  refine vc_seq ?_
  obtain ⟨id1, H2, hid1, hH2, hH⟩ := Fp.newCell hH (c_api_Topo a0_.Topo)
  replace hH : Fp H H2 [.cel k0_ [s_eI64 false c0_]] [.cel id1 (c_api_Topo a0_.Topo), .cel k0_ [s_eI64 false c0_]] := hH
  refine vc_reg (S := ⟨[(1, .ptr k0_ 0), (2, .ptr id1 0)], [], H2⟩) (APath.one (.boxH 2 (.t 0)) (by kernel_rfl) (st_boxH (H := H) (v := .agg (c_api_Topo a0_.Topo)) (by kernel_rfl) (by kernel_rfl) (by kernel_rfl) hid1 hH2) (APath.fin (by kernel_rfl))) (by kernel_rfl) ?_
  refine vc_seq ?_
  have hlc3 := Fp.get hH 1 rfl
  obtain ⟨l6, hl6, h⟩ := bind_some h
  obtain ⟨a4, H5, ha4, hH5, ha4b, hH⟩ := Fp.make eI64 hH hl6
  replace hH : Fp H H5 [.cel k0_ [s_eI64 false c0_]] [.arr a4 1 false (List.map eI64 l6), .cel id1 (c_api_Topo a0_.Topo), .cel k0_ [s_eI64 false c0_]] := hH
  have hfa4 := own_form (Fp.get hH 0 rfl)
  obtain ⟨id7, H8, hid7, hH8, hH⟩ := Fp.newCell hH [s_eI64 true []]
  replace hH : Fp H H8 [.cel k0_ [s_eI64 false c0_]] [.cel id7 [s_eI64 true []], .arr a4 1 false (List.map eI64 l6), .cel id1 (c_api_Topo a0_.Topo), .cel k0_ [s_eI64 false c0_]] := hH
  obtain ⟨H9, hH9, hH⟩ := Fp.setCell (k := 0) (off := 0) (cs := [s_eI64 true []]) (vs := [a4]) (cs' := [a4]) hH rfl (by kernel_rfl)
  replace hH : Fp H H9 [.cel k0_ [s_eI64 false c0_]] [.cel id7 [a4], .arr a4 1 false (List.map eI64 l6), .cel id1 (c_api_Topo a0_.Topo), .cel k0_ [s_eI64 false c0_]] := hH
  refine vc_reg (S := ⟨[(1, .ptr k0_ 0), (2, .ptr id1 0), (5, .ptr id7 0)], [], H9⟩) (APath.one (.load 8 (.t 1) 1 false) (by kernel_rfl) (st_loadC (H := H2) (id := k0_) (off := 0) (cs := [s_eI64 false c0_]) (c := [s_eI64 false c0_]) (r := s_eI64 false c0_) (by rcases hfa4 with ha4e | ⟨_, _, ha4e⟩ <;> subst ha4e <;> kernel_rfl) (by rcases hfa4 with ha4e | ⟨_, _, ha4e⟩ <;> subst ha4e <;> kernel_rfl) hlc3 (by rcases hfa4 with ha4e | ⟨_, _, ha4e⟩ <;> subst ha4e <;> kernel_rfl) (by rcases hfa4 with ha4e | ⟨_, _, ha4e⟩ <;> subst ha4e <;> kernel_rfl) (by rcases hfa4 with ha4e | ⟨_, _, ha4e⟩ <;> subst ha4e <;> kernel_rfl)) (APath.one (.val 9 .len [.t 8]) (by kernel_rfl) (st_val (ys := [s_eI64 false c0_]) (by rcases hfa4 with ha4e | ⟨_, _, ha4e⟩ <;> subst ha4e <;> kernel_rfl) (vexec_len eI64)) (APath.one (.mkSl 10 (.k (.p (.int .i64 0))) (.t 9) [.int .i64 0] 8) (by kernel_rfl) (st_make (H := H2) (zero := [.int .i64 0]) (bytes := 8) (by rcases hfa4 with ha4e | ⟨_, _, ha4e⟩ <;> subst ha4e <;> kernel_rfl) (by rcases hfa4 with ha4e | ⟨_, _, ha4e⟩ <;> subst ha4e <;> kernel_rfl) (by rcases hfa4 with ha4e | ⟨_, _, ha4e⟩ <;> subst ha4e <;> kernel_rfl) ha4 hH5 ha4b) (APath.one (.newH 5 [.p (.sl 1 true [])]) (by kernel_rfl) (st_newH (H := H5) (by rcases hfa4 with ha4e | ⟨_, _, ha4e⟩ <;> subst ha4e <;> kernel_rfl) hid7 hH8) (APath.one (.store (.t 5) (.t 10) 1) (by kernel_rfl) (st_storeC (H := H8) (v := a4) (cs := [a4]) (by rcases hfa4 with ha4e | ⟨_, _, ha4e⟩ <;> subst ha4e <;> kernel_rfl) (by rcases hfa4 with ha4e | ⟨_, _, ha4e⟩ <;> subst ha4e <;> kernel_rfl) (by rcases hfa4 with ha4e | ⟨_, _, ha4e⟩ <;> subst ha4e <;> kernel_rfl) (by rcases hfa4 with ha4e | ⟨_, _, ha4e⟩ <;> subst ha4e <;> kernel_rfl) (by rcases hfa4 with ha4e | ⟨_, _, ha4e⟩ <;> subst ha4e <;> kernel_rfl) hH9) APath.done))))) (by rcases hfa4 with ha4e | ⟨_, _, ha4e⟩ <;> subst ha4e <;> kernel_rfl) ?_
  refine vc_seq ?_
  refine vc_seq ?_
  have hlc10 := Fp.get hH 3 rfl
  obtain ⟨r11, hr11, h⟩ := bind_some h
  obtain ⟨id13, H12, hvr11, hpr11⟩ := slices_Backward_api_Route_int_ok N c0_ H9 r11 hr11
  replace hH : Fp H H12 [.cel k0_ [s_eI64 false c0_]] [.cel id13 [s_eI64 false r11], .cel id7 [a4], .arr a4 1 false (List.map eI64 l6), .cel id1 (c_api_Topo a0_.Topo), .cel k0_ [s_eI64 false c0_]] := Fp.callee (fp := []) (rest := [.cel id7 [a4], .arr a4 1 false (List.map eI64 l6), .cel id1 (c_api_Topo a0_.Topo), .cel k0_ [s_eI64 false c0_]]) hH hpr11
  refine vc_reg (S := ⟨[(2, .ptr id1 0), (5, .ptr id7 0), (12, .fn 68 [] [.ptr id13 0])], [], H12⟩) (APath.one (.load 11 (.t 1) 1 false) (by kernel_rfl) (st_loadC (H := H9) (id := k0_) (off := 0) (cs := [s_eI64 false c0_]) (c := [s_eI64 false c0_]) (r := s_eI64 false c0_) (by kernel_rfl) (by kernel_rfl) hlc10 (by kernel_rfl) (by kernel_rfl) (by kernel_rfl)) (APath.one (.call (some 12) 46 [.t 11]) (by kernel_rfl) (st_callH (H := H9) (ys := [s_eI64 false c0_]) (by kernel_rfl) (by kernel_rfl) (by kernel_rfl) hvr11) APath.done)) (by kernel_rfl) ?_
  refine vc_block ?_
  obtain ⟨o526, ho526, h⟩ := bind_some h
  have hyo526 : ∀ (x16 : Int) (x17 : Int) (s : (List Int)) (r : ((List Int)) × Bool) (H : List HO) (its : List Thing), (fun (s : (List Int)) (its : List Thing) => ∃ (a14 : AV), its = [.arr a14 1 false (List.map eI64 s), .cel id7 [a14], .cel id1 (c_api_Topo a0_.Topo), .cel k0_ [s_eI64 false c0_]] ++ [.lp (List.length H12) (lcOf Try.prog i45.nt [13, 14] ra45_1 rb45_1) [(2, .ptr id1 0), (5, .ptr id7 0)] .ready]) s its → HP H its → (fun (s : (List Int)) (x16 : Int) (x17 : Int) => yieldT (fun v : (List Int) => route_Back_1_R1 N a0_ v x16 x17) s) s x16 x17 = some r → ∃ H' its', YCall Try.prog (List.length H12) [iv x16, iv x17] H r.2 H' ∧ (fun (s : (List Int)) (its : List Thing) => ∃ (a14 : AV), its = [.arr a14 1 false (List.map eI64 s), .cel id7 [a14], .cel id1 (c_api_Topo a0_.Topo), .cel k0_ [s_eI64 false c0_]] ++ [.lp (List.length H12) (lcOf Try.prog i45.nt [13, 14] ra45_1 rb45_1) [(2, .ptr id1 0), (5, .ptr id7 0)] .ready]) r.1 its' ∧ Fp H H' its its' := by
    clear h
    intro x16 x17 s r H15 its hT hH h
    obtain ⟨q, hb, rfl⟩ := yieldT_some h
    clear h
    obtain ⟨vs, rfl⟩ : ∃ v, v = s := ⟨s, rfl⟩
    obtain ⟨l18, rfl⟩ : ∃ v, v = vs := ⟨vs, rfl⟩
    obtain ⟨a14, rfl⟩ := hT
    replace h : route_Back_1_R1 N a0_ l18 x16 x17 = some q := hb
    clear hb
    unfold route_Back_1_R1 at h
    replace hH : Fp H15 H15 [.arr a14 1 false (List.map eI64 l18), .cel id7 [a14], .cel id1 (c_api_Topo a0_.Topo), .cel k0_ [s_eI64 false c0_], .lp (List.length H12) (lcOf Try.prog i45.nt [13, 14] ra45_1 rb45_1) [(2, .ptr id1 0), (5, .ptr id7 0)] .ready] [.arr a14 1 false (List.map eI64 l18), .cel id7 [a14], .cel id1 (c_api_Topo a0_.Topo), .cel k0_ [s_eI64 false c0_], .lp (List.length H12) (lcOf Try.prog i45.nt [13, 14] ra45_1 rb45_1) [(2, .ptr id1 0), (5, .ptr id7 0)] .ready] := Fp.refl hH
    have hfa14 := own_form (Fp.get hH 0 rfl)
    suffices hs : ∃ H', YCall Try.prog (List.length H12) [iv x16, iv x17] H15 true H' ∧ ∃ its', (fun (s : (List Int)) (its : List Thing) => ∃ (a14 : AV), its = [.arr a14 1 false (List.map eI64 s), .cel id7 [a14], .cel id1 (c_api_Topo a0_.Topo), .cel k0_ [s_eI64 false c0_]] ++ [.lp (List.length H12) (lcOf Try.prog i45.nt [13, 14] ra45_1 rb45_1) [(2, .ptr id1 0), (5, .ptr id7 0)] .ready]) q its' ∧ Fp H15 H' [.arr a14 1 false (List.map eI64 l18), .cel id7 [a14], .cel id1 (c_api_Topo a0_.Topo), .cel k0_ [s_eI64 false c0_], .lp (List.length H12) (lcOf Try.prog i45.nt [13, 14] ra45_1 rb45_1) [(2, .ptr id1 0), (5, .ptr id7 0)] .ready] its' by
      obtain ⟨H', h1, its', h2, h3⟩ := hs
      exact ⟨H', its', h1, h2, h3⟩
    refine ycall_det (id := (List.length H12)) (args := [iv x16, iv x17]) (H := H15) (n := i45.nt) (ps := [13, 14]) (fr0 := [(2, .ptr id1 0), (5, .ptr id7 0)]) (ia := ra45_1) (ib := rb45_1) true (fun H' => ∃ its', (fun (s : (List Int)) (its : List Thing) => ∃ (a14 : AV), its = [.arr a14 1 false (List.map eI64 s), .cel id7 [a14], .cel id1 (c_api_Topo a0_.Topo), .cel k0_ [s_eI64 false c0_]] ++ [.lp (List.length H12) (lcOf Try.prog i45.nt [13, 14] ra45_1 rb45_1) [(2, .ptr id1 0), (5, .ptr id7 0)] .ready]) q its' ∧ Fp H15 H' [.arr a14 1 false (List.map eI64 l18), .cel id7 [a14], .cel id1 (c_api_Topo a0_.Topo), .cel k0_ [s_eI64 false c0_], .lp (List.length H12) (lcOf Try.prog i45.nt [13, 14] ra45_1 rb45_1) [(2, .ptr id1 0), (5, .ptr id7 0)] .ready] its') (Fp.get hH 4 rfl) rfl (by decide +kernel) rfl ?_
    show vc _ _ _ _ ⟨[(2, .ptr id1 0), (5, .ptr id7 0), (13, iv x16), (14, iv x17)], [], H15⟩
    refine vc_reg (S := ⟨[(2, .ptr id1 0), (5, .ptr id7 0), (7, iv x17)], [], H15⟩) (APath.fin (by kernel_rfl)) (by kernel_rfl) ?_
    refine ia_done (k := 4) hH rfl ?_
    intro H518 hH
    replace hH : Fp H15 H518 [.arr a14 1 false (List.map eI64 l18), .cel id7 [a14], .cel id1 (c_api_Topo a0_.Topo), .cel k0_ [s_eI64 false c0_], .lp (List.length H12) (lcOf Try.prog i45.nt [13, 14] ra45_1 rb45_1) [(2, .ptr id1 0), (5, .ptr id7 0)] .ready] [.arr a14 1 false (List.map eI64 l18), .cel id7 [a14], .cel id1 (c_api_Topo a0_.Topo), .cel k0_ [s_eI64 false c0_], .lp (List.length H12) (lcOf Try.prog i45.nt [13, 14] ra45_1 rb45_1) [(2, .ptr id1 0), (5, .ptr id7 0)] .busy] := hH
    show vc _ _ _ _ ⟨[(2, .ptr id1 0), (5, .ptr id7 0), (7, iv x17)], [], H518⟩
    refine vc_block ?_
    have hlc519 := Fp.get hH 1 rfl
    have hlc520 := Fp.get hH 2 rfl
    obtain ⟨r521, hr521, h⟩ := bind_some h
    obtain ⟨l524, hl524, h⟩ := bind_some h
    obtain ⟨a522, H523, ha522, hH⟩ := Fp.app (k := 0) (a := a14) (sz := 1) (frz := false) eI64 hH rfl hl524
    replace hH : Fp H15 H523 [.arr a14 1 false (List.map eI64 l18), .cel id7 [a14], .cel id1 (c_api_Topo a0_.Topo), .cel k0_ [s_eI64 false c0_], .lp (List.length H12) (lcOf Try.prog i45.nt [13, 14] ra45_1 rb45_1) [(2, .ptr id1 0), (5, .ptr id7 0)] .ready] [.arr a522 1 false (List.map eI64 l524), .cel id7 [a14], .cel id1 (c_api_Topo a0_.Topo), .cel k0_ [s_eI64 false c0_], .lp (List.length H12) (lcOf Try.prog i45.nt [13, 14] ra45_1 rb45_1) [(2, .ptr id1 0), (5, .ptr id7 0)] .busy] := hH
    have hfa522 := own_form (Fp.get hH 0 rfl)
    obtain ⟨H525, hH525, hH⟩ := Fp.setCell (k := 1) (off := 0) (cs := [a14]) (vs := [a522]) (cs' := [a522]) hH rfl (by kernel_rfl)
    replace hH : Fp H15 H525 [.arr a14 1 false (List.map eI64 l18), .cel id7 [a14], .cel id1 (c_api_Topo a0_.Topo), .cel k0_ [s_eI64 false c0_], .lp (List.length H12) (lcOf Try.prog i45.nt [13, 14] ra45_1 rb45_1) [(2, .ptr id1 0), (5, .ptr id7 0)] .ready] [.arr a522 1 false (List.map eI64 l524), .cel id7 [a522], .cel id1 (c_api_Topo a0_.Topo), .cel k0_ [s_eI64 false c0_], .lp (List.length H12) (lcOf Try.prog i45.nt [13, 14] ra45_1 rb45_1) [(2, .ptr id1 0), (5, .ptr id7 0)] .busy] := hH
    refine vc_regD (S := ⟨[], [], H525⟩) (by kernel_rfl) (APath.one (.load 15 (.t 5) 1 false) (by kernel_rfl) (st_loadC (H := H518) (id := id7) (off := 0) (cs := [a14]) (c := [a14]) (r := a14) (by rcases hfa14 with ha14e | ⟨_, _, ha14e⟩ <;> rcases hfa522 with ha522e | ⟨_, _, ha522e⟩ <;> subst ha14e ha522e <;> kernel_rfl) (by rcases hfa14 with ha14e | ⟨_, _, ha14e⟩ <;> rcases hfa522 with ha522e | ⟨_, _, ha522e⟩ <;> subst ha14e ha522e <;> kernel_rfl) hlc519 (by rcases hfa14 with ha14e | ⟨_, _, ha14e⟩ <;> rcases hfa522 with ha522e | ⟨_, _, ha522e⟩ <;> subst ha14e ha522e <;> kernel_rfl) (by rcases hfa14 with ha14e | ⟨_, _, ha14e⟩ <;> rcases hfa522 with ha522e | ⟨_, _, ha522e⟩ <;> subst ha14e ha522e <;> kernel_rfl) (by rcases hfa14 with ha14e | ⟨_, _, ha14e⟩ <;> rcases hfa522 with ha522e | ⟨_, _, ha522e⟩ <;> subst ha14e ha522e <;> kernel_rfl)) (APath.one (.load 16 (.t 2) 3 true) (by kernel_rfl) (st_loadC (H := H518) (id := id1) (off := 0) (cs := (c_api_Topo a0_.Topo)) (c := (c_api_Topo a0_.Topo)) (r := .agg (c_api_Topo a0_.Topo)) (by rcases hfa14 with ha14e | ⟨_, _, ha14e⟩ <;> rcases hfa522 with ha522e | ⟨_, _, ha522e⟩ <;> subst ha14e ha522e <;> kernel_rfl) (by rcases hfa14 with ha14e | ⟨_, _, ha14e⟩ <;> rcases hfa522 with ha522e | ⟨_, _, ha522e⟩ <;> subst ha14e ha522e <;> kernel_rfl) hlc520 (by rcases hfa14 with ha14e | ⟨_, _, ha14e⟩ <;> rcases hfa522 with ha522e | ⟨_, _, ha522e⟩ <;> subst ha14e ha522e <;> kernel_rfl) (by rcases hfa14 with ha14e | ⟨_, _, ha14e⟩ <;> rcases hfa522 with ha522e | ⟨_, _, ha522e⟩ <;> subst ha14e ha522e <;> kernel_rfl) (by rcases hfa14 with ha14e | ⟨_, _, ha14e⟩ <;> rcases hfa522 with ha522e | ⟨_, _, ha522e⟩ <;> subst ha14e ha522e <;> kernel_rfl)) (APath.chunk 1 (by rcases hfa14 with ha14e | ⟨_, _, ha14e⟩ <;> rcases hfa522 with ha522e | ⟨_, _, ha522e⟩ <;> subst ha14e ha522e <;> kernel_rfl) (APath.one (.callP 18 47 [.t 16, .t 17]) (by kernel_rfl) (st_callP (by rcases hfa14 with ha14e | ⟨_, _, ha14e⟩ <;> rcases hfa522 with ha522e | ⟨_, _, ha522e⟩ <;> subst ha14e ha522e <;> kernel_rfl) (route_walk_back_ok N a0_ x17 r521 hr521)) (APath.chunk 1 (by rcases hfa14 with ha14e | ⟨_, _, ha14e⟩ <;> rcases hfa522 with ha522e | ⟨_, _, ha522e⟩ <;> subst ha14e ha522e <;> kernel_rfl) (APath.one (.app 20 (.t 15) (.t 19) 1 8) (by kernel_rfl) (st_app (H := H518) (a := a14) (b := s_eI64 true [r521]) (by rcases hfa14 with ha14e | ⟨_, _, ha14e⟩ <;> rcases hfa522 with ha522e | ⟨_, _, ha522e⟩ <;> subst ha14e ha522e <;> kernel_rfl) (by rcases hfa14 with ha14e | ⟨_, _, ha14e⟩ <;> rcases hfa522 with ha522e | ⟨_, _, ha522e⟩ <;> subst ha14e ha522e <;> kernel_rfl) (by rcases hfa14 with ha14e | ⟨_, _, ha14e⟩ <;> rcases hfa522 with ha522e | ⟨_, _, ha522e⟩ <;> subst ha14e ha522e <;> kernel_rfl) (by rcases hfa14 with ha14e | ⟨_, _, ha14e⟩ <;> rcases hfa522 with ha522e | ⟨_, _, ha522e⟩ <;> subst ha14e ha522e <;> kernel_rfl) ha522) (APath.one (.storeH (.t 5) (.t 20) 1) (by kernel_rfl) (st_toH (st_storeC (H := H523) (v := a522) (cs := [a522]) (by rcases hfa14 with ha14e | ⟨_, _, ha14e⟩ <;> rcases hfa522 with ha522e | ⟨_, _, ha522e⟩ <;> subst ha14e ha522e <;> kernel_rfl) (by rcases hfa14 with ha14e | ⟨_, _, ha14e⟩ <;> rcases hfa522 with ha522e | ⟨_, _, ha522e⟩ <;> subst ha14e ha522e <;> kernel_rfl) (by rcases hfa14 with ha14e | ⟨_, _, ha14e⟩ <;> rcases hfa522 with ha522e | ⟨_, _, ha522e⟩ <;> subst ha14e ha522e <;> kernel_rfl) (by rcases hfa14 with ha14e | ⟨_, _, ha14e⟩ <;> rcases hfa522 with ha522e | ⟨_, _, ha522e⟩ <;> subst ha14e ha522e <;> kernel_rfl) (by rcases hfa14 with ha14e | ⟨_, _, ha14e⟩ <;> rcases hfa522 with ha522e | ⟨_, _, ha522e⟩ <;> subst ha14e ha522e <;> kernel_rfl) hH525) (by rcases hfa14 with ha14e | ⟨_, _, ha14e⟩ <;> rcases hfa522 with ha522e | ⟨_, _, ha522e⟩ <;> subst ha14e ha522e <;> kernel_rfl)) APath.done))))))) (by rcases hfa14 with ha14e | ⟨_, _, ha14e⟩ <;> rcases hfa522 with ha522e | ⟨_, _, ha522e⟩ <;> subst ha14e ha522e <;> kernel_rfl) ?_
    obtain rfl := some_inj h
    exact rb_done (k := 4) (.ready) hH rfl rfl (fun H6 hH => ⟨_, ⟨a522, Eq.refl _⟩, (Fp.pick hH [0, 1, 2, 3, 4] rfl)⟩)
  refine vc_range (s := ⟨[(2, .ptr id1 0), (5, .ptr id7 0), (12, .fn 68 [] [.ptr id13 0])], [], H12⟩) [(2, .ptr id1 0), (5, .ptr id7 0)] (FrOK.cons (by kernel_rfl) (by kernel_rfl) (FrOK.cons (by kernel_rfl) (by kernel_rfl) FrOK.nil)) (by kernel_rfl) (fun H => rfl) (capT := [.cel id13 [s_eI64 false r11]]) (cells0 := [.arr a4 1 false (List.map eI64 l6), .cel id7 [a4], .cel id1 (c_api_Topo a0_.Topo), .cel k0_ [s_eI64 false c0_]]) (rest := []) (Fp.now (Fp.pick hH [0, 2, 1, 3, 4] rfl)) (fun (s : (List Int)) (its : List Thing) => ∃ (a14 : AV), its = [.arr a14 1 false (List.map eI64 s), .cel id7 [a14], .cel id1 (c_api_Topo a0_.Topo), .cel k0_ [s_eI64 false c0_]] ++ [.lp (List.length H12) (lcOf Try.prog i45.nt [13, 14] ra45_1 rb45_1) [(2, .ptr id1 0), (5, .ptr id7 0)] .ready]) l6 o526 (by exact ⟨a4, Eq.refl _⟩) (fun H its hT hH => slices_Backward_api_Route_int_1_ok N (fun (s : (List Int)) (x16 : Int) (x17 : Int) => yieldT (fun v : (List Int) => route_Back_1_R1 N a0_ v x16 x17) s) r11 l6 id13 (List.length H12) (fun (s : (List Int)) (its : List Thing) => ∃ (a14 : AV), its = [.arr a14 1 false (List.map eI64 s), .cel id7 [a14], .cel id1 (c_api_Topo a0_.Topo), .cel k0_ [s_eI64 false c0_]] ++ [.lp (List.length H12) (lcOf Try.prog i45.nt [13, 14] ra45_1 rb45_1) [(2, .ptr id1 0), (5, .ptr id7 0)] .ready]) hyo526 H its hT hH o526 ho526) ?_
  rintro its hT
  obtain ⟨a14, rfl⟩ := hT
  refine ⟨_, _, rfl, ?_⟩
  intro H527 hF
  replace hH : Fp H H527 [.cel k0_ [s_eI64 false c0_]] [.cel id13 [s_eI64 false r11], .arr a14 1 false (List.map eI64 o526), .cel id7 [a14], .cel id1 (c_api_Topo a0_.Topo), .cel k0_ [s_eI64 false c0_]] := Fp.after (Fp.pick hH [0, 2, 1, 3, 4] rfl) hF
  have hfa14 := own_form (Fp.get hH 1 rfl)
  refine outQ_ready (S := ⟨[(2, .ptr id1 0), (5, .ptr id7 0), (12, .fn 68 [] [.ptr id13 0])], [], H527⟩) ?_
  try show vc _ _ _ _ _
  refine vc_kp ?_
  replace hH : Fp H H527 [.cel k0_ [s_eI64 false c0_]] [.arr a14 1 false (List.map eI64 o526), .cel id7 [a14], .cel k0_ [s_eI64 false c0_]] := Fp.pick hH [1, 2, 4] rfl
  refine vc_seq ?_
  have hlc528 := Fp.get hH 1 rfl
  refine vc_reg (S := ⟨[(3, a14), (4, iv 0)], [], H527⟩) (APath.one (.load 21 (.t 5) 1 false) (by kernel_rfl) (st_loadC (H := H527) (id := id7) (off := 0) (cs := [a14]) (c := [a14]) (r := a14) (by rcases hfa14 with ha14e | ⟨_, _, ha14e⟩ <;> subst ha14e <;> kernel_rfl) (by rcases hfa14 with ha14e | ⟨_, _, ha14e⟩ <;> subst ha14e <;> kernel_rfl) hlc528 (by rcases hfa14 with ha14e | ⟨_, _, ha14e⟩ <;> subst ha14e <;> kernel_rfl) (by rcases hfa14 with ha14e | ⟨_, _, ha14e⟩ <;> subst ha14e <;> kernel_rfl) (by rcases hfa14 with ha14e | ⟨_, _, ha14e⟩ <;> subst ha14e <;> kernel_rfl)) (APath.fin (by rcases hfa14 with ha14e | ⟨_, _, ha14e⟩ <;> subst ha14e <;> kernel_rfl))) (by rcases hfa14 with ha14e | ⟨_, _, ha14e⟩ <;> subst ha14e <;> kernel_rfl) ?_
  replace hH : Fp H H527 [.cel k0_ [s_eI64 false c0_]] [.arr a14 1 false (List.map eI64 o526), .cel k0_ [s_eI64 false c0_]] := Fp.pick hH [0, 2] rfl
  refine vc_ret ?_
  obtain rfl := some_inj h
  exact ret_res (xs := [.p (.sl 1 false (List.map eI64 o526)), iv 0]) (pureR_cons (r := .tmp 3) (y := a14) (by rcases hfa14 with ha14e | ⟨_, _, ha14e⟩ <;> subst ha14e <;> kernel_rfl) (newR_own (Fp.get hH 0 rfl) (Fp.newA (k := 0) hH rfl rfl (Fp.pick hH [1] rfl) [1] rfl)) (Fp.pure (k := 0) (frz := false) eI64 hH rfl).2 (pureR_cons (r := .tmp 4) (y := iv 0) (by rcases hfa14 with ha14e | ⟨_, _, ha14e⟩ <;> subst ha14e <;> kernel_rfl) (by kernel_rfl) (by kernel_rfl) pureR_nil)) (by kernel_rfl) (Fp.pick hH [1] rfl) rfl hH0
theorem route_Back_ok (N : Nat) (a0_ : api_Topo) (a1_ : (List Int)) (r : (List Int) × Int) (h : route_Back N a0_ a1_ = some r) : PCall Try.prog 17 [.agg (c_api_Topo a0_), s_eI64 false a1_] (.tup [s_eI64 false r.1, iv r.2]) := by
  unfold route_Back at h
  have hH : HP ([] : List HO) [] := trivial
  refine pcall_of chk17 rfl rfl (vc_sound _ _ _ ?_) rfl
  refine vc_seq ?_
  obtain ⟨id1, H2, hid1, hH2, hH⟩ := HP.newCell hH [s_eI64 false a1_]
  replace hH : HP H2 [.cel id1 [s_eI64 false a1_]] := hH
  refine vc_reg (S := ⟨[(2, .loc 2 0), (3, .ptr id1 0)], [(2, (c_api_Topo a0_))], H2⟩) (APath.chunk 1 (by kernel_rfl) (APath.one (.boxH 3 (.t 1)) (by kernel_rfl) (st_boxH (H := []) (v := s_eI64 false a1_) (by kernel_rfl) (by kernel_rfl) (by kernel_rfl) hid1 hH2) (APath.fin (by kernel_rfl)))) (by kernel_rfl) ?_
  refine vc_seq ?_
  have hlc3 := HP.get hH 0 rfl
  obtain ⟨r4, hr4, h⟩ := bind_some h
  have hvr4 := (route_ask_api_Route_ok N a0_ a1_ (fun x0 => route_Back_1 N x0 a1_)   45 [] [.ptr id1 0] (by kernel_rfl) [.cel id1 [s_eI64 false a1_]] (fun H x0 r hH h => VCall.of (by kernel_rfl) (route_Back_1_ok N  x0 a1_ id1 H hH r h)) H2 (HP.now (HP.pick hH [0] rfl)) r4 hr4)
  refine vc_reg (S := ⟨[(4, s_eI64 false r4.1), (5, iv r4.2)], [], H2⟩) (APath.chunk 1 (by kernel_rfl) (APath.one (.load 7 (.t 3) 1 false) (by kernel_rfl) (st_loadC (H := H2) (id := id1) (off := 0) (cs := [s_eI64 false a1_]) (c := [s_eI64 false a1_]) (r := s_eI64 false a1_) (by kernel_rfl) (by kernel_rfl) hlc3 (by kernel_rfl) (by kernel_rfl) (by kernel_rfl)) (APath.chunk 1 (by kernel_rfl) (APath.one (.call (some 9) 44 [.t 6, .t 7, .t 8]) (by kernel_rfl) (st_callH (H := H2) (ys := [.agg (c_api_Topo a0_), s_eI64 false a1_, .fn 45 [] [.ptr id1 0]]) (by kernel_rfl) (by kernel_rfl) (by kernel_rfl) hvr4) (APath.fin (by kernel_rfl)))))) (by kernel_rfl) ?_
  replace hH : HP H2 [] := HP.pick hH [] rfl
  refine vc_ret ?_
  obtain rfl := some_inj h
  exact ret_of (by kernel_rfl)
theorem law21_wakes_ok (N : Nat) (r : Bool) (h : law21_wakes N = some r) : PCall Try.prog 10 [] (bv r) := by
  unfold law21_wakes at h
  have hH : HP ([] : List HO) [] := trivial
  refine pcall_of chk10 rfl rfl (vc_sound _ _ _ ?_) rfl
  refine vc_seq ?_
  refine vc_reg (S := ⟨[], [], []⟩) (APath.fin (by kernel_rfl)) (by kernel_rfl) ?_
  refine vc_seq ?_
  obtain ⟨r1, hr1, h⟩ := bind_some h
  refine vc_reg (S := ⟨[(1, .loc 1 0)], [(1, (c_api_Topo r1))], []⟩) (APath.one (.call (some 19) 33 []) (by kernel_rfl) (st_call (by kernel_rfl) (law21_line_ok N  r1 hr1)) (APath.fin (by kernel_rfl))) (by kernel_rfl) ?_
  refine vc_seq ?_
  obtain ⟨r2, hr2, h⟩ := bind_some h
  refine vc_reg (S := ⟨[(1, .loc 1 0), (2, s_eI64 false r2.1), (3, iv r2.2)], [(1, (c_api_Topo r1))], []⟩) (APath.chunk 2 (by kernel_rfl) (APath.one (.call (some 23) 13 [.t 21, .t 22]) (by kernel_rfl) (st_call (by kernel_rfl) (route_Nodes_ok N r1 ([0, 2, 4]) r2 hr2)) (APath.fin (by kernel_rfl)))) (by kernel_rfl) ?_
  refine vc_seq ?_
  obtain ⟨r3, hr3, h⟩ := bind_some h
  refine vc_reg (S := ⟨[(1, .loc 1 0), (2, s_eI64 false r2.1), (3, iv r2.2), (4, iv r3.1), (5, iv r3.2.1), (6, iv r3.2.2)], [(1, (c_api_Topo r1))], []⟩) (APath.chunk 2 (by kernel_rfl) (APath.one (.call (some 29) 14 [.t 27, .t 28]) (by kernel_rfl) (st_call (by kernel_rfl) (route_Ends_ok N r1 ([2, 4]) r3 hr3)) (APath.fin (by kernel_rfl)))) (by kernel_rfl) ?_
  refine vc_seq ?_
  obtain ⟨r4, hr4, h⟩ := bind_some h
  refine vc_reg (S := ⟨[(1, .loc 1 0), (2, s_eI64 false r2.1), (3, iv r2.2), (4, iv r3.1), (5, iv r3.2.1), (6, iv r3.2.2), (7, iv r4.1), (8, iv r4.2)], [(1, (c_api_Topo r1))], []⟩) (APath.chunk 2 (by kernel_rfl) (APath.one (.call (some 36) 15 [.t 34, .t 35]) (by kernel_rfl) (st_call (by kernel_rfl) (route_Delay_ok N r1 ([0, 2, 4]) r4 hr4)) (APath.fin (by kernel_rfl)))) (by kernel_rfl) ?_
  refine vc_seq ?_
  obtain ⟨r5, hr5, h⟩ := bind_some h
  refine vc_reg (S := ⟨[(1, .loc 1 0), (2, s_eI64 false r2.1), (3, iv r2.2), (4, iv r3.1), (5, iv r3.2.1), (6, iv r3.2.2), (7, iv r4.1), (8, iv r4.2), (9, iv r5.1), (10, iv r5.2)], [(1, (c_api_Topo r1))], []⟩) (APath.chunk 2 (by kernel_rfl) (APath.one (.call (some 42) 16 [.t 40, .t 41, .k (.p (.int .i64 100))]) (by kernel_rfl) (st_call (by kernel_rfl) (route_Time_ok N r1 ([0, 2, 4]) 100 r5 hr5)) (APath.fin (by kernel_rfl)))) (by kernel_rfl) ?_
  refine vc_seq ?_
  obtain ⟨r6, hr6, h⟩ := bind_some h
  refine vc_reg (S := ⟨[(1, .loc 1 0), (2, s_eI64 false r2.1), (3, iv r2.2), (4, iv r3.1), (5, iv r3.2.1), (6, iv r3.2.2), (7, iv r4.1), (8, iv r4.2), (9, iv r5.1), (10, iv r5.2), (11, s_eI64 false r6.1), (12, iv r6.2)], [(1, (c_api_Topo r1))], []⟩) (APath.chunk 2 (by kernel_rfl) (APath.one (.call (some 48) 17 [.t 46, .t 47]) (by kernel_rfl) (st_call (by kernel_rfl) (route_Back_ok N r1 ([0, 2, 4]) r6 hr6)) (APath.fin (by kernel_rfl)))) (by kernel_rfl) ?_
  refine vc_seq ?_
  obtain ⟨r7, hr7, h⟩ := bind_some h
  refine vc_reg (S := ⟨[(1, .loc 1 0), (2, s_eI64 false r2.1), (3, iv r2.2), (4, iv r3.1), (5, iv r3.2.1), (6, iv r3.2.2), (7, iv r4.1), (8, iv r4.2), (9, iv r5.1), (10, iv r5.2), (11, s_eI64 false r6.1), (12, iv r6.2), (13, bv r7.1), (14, iv r7.2)], [(1, (c_api_Topo r1))], []⟩) (APath.chunk 3 (by kernel_rfl) (APath.one (.call (some 55) 26 [.t 52, .t 53, .t 54]) (by kernel_rfl) (st_call (by kernel_rfl) (route_Apart_ok N r1 ([0]) ([2, 4]) r7 hr7)) (APath.fin (by kernel_rfl)))) (by kernel_rfl) ?_
  refine vc_seq ?_
  obtain ⟨r8, hr8, h⟩ := bind_some h
  refine vc_reg (S := ⟨[(1, .loc 1 0), (2, s_eI64 false r2.1), (3, iv r2.2), (4, iv r3.1), (5, iv r3.2.1), (6, iv r3.2.2), (7, iv r4.1), (8, iv r4.2), (9, iv r5.1), (10, iv r5.2), (11, s_eI64 false r6.1), (12, iv r6.2), (13, bv r7.1), (14, iv r7.2), (15, s_eI64 false r8.1), (16, bv r8.2.1), (17, iv r8.2.2)], [(1, (c_api_Topo r1))], []⟩) (APath.chunk 4 (by kernel_rfl) (APath.one (.call (some 63) 28 [.t 59, .t 62]) (by kernel_rfl) (st_call (by kernel_rfl) (route_Tree_ok N r1 ([[0, 2], [0, 2, 4]]) r8 hr8)) (APath.fin (by kernel_rfl)))) (by kernel_rfl) ?_
  refine vc_seq ?_
  refine vc_regX ⟨[(1, .loc 1 0), (2, s_eI64 false r2.1), (4, iv r3.1), (5, iv r3.2.1), (7, iv r4.1), (9, iv r5.1), (11, s_eI64 false r6.1), (13, bv r7.1), (15, s_eI64 false r8.1), (16, bv r8.2.1), (18, bv ((r2.2 == 0) && ((r3.2.2 == 0) && ((r4.2 == 0) && ((r5.2 == 0) && ((r6.2 == 0) && ((r7.2 == 0) && (r8.2.2 == 0))))))))], [(1, (c_api_Topo r1))], []⟩ ?_ ?_
  · rcases Bool.eq_false_or_eq_true (r2.2 == 0) with hc9 | hc20
    · rcases Bool.eq_false_or_eq_true (r3.2.2 == 0) with hc10 | hc19
      · rcases Bool.eq_false_or_eq_true (r4.2 == 0) with hc11 | hc18
        · rcases Bool.eq_false_or_eq_true (r5.2 == 0) with hc12 | hc17
          · rcases Bool.eq_false_or_eq_true (r6.2 == 0) with hc13 | hc16
            · rcases Bool.eq_false_or_eq_true (r7.2 == 0) with hc14 | hc15
              · exact ⟨_, (APath.chunk 1 (by kernel_rfl) (APath.one (.val 68 (.bin .eql) [.t 67, .k (.p (.int .i64 0))]) (by kernel_rfl) (st_bool (c := (r2.2 == 0)) (by kernel_rfl) hc9) (APath.chunk 2 (by kernel_rfl) (APath.oneG (.val 71 (.bin .eql) [.t 70, .k (.p (.int .i64 0))]) 69 true (by kernel_rfl) (by kernel_rfl) (st_bool (c := (r3.2.2 == 0)) (by kernel_rfl) hc10) (APath.chunk 3 (by kernel_rfl) (APath.oneG (.val 75 (.bin .eql) [.t 74, .k (.p (.int .i64 0))]) 73 true (by kernel_rfl) (by kernel_rfl) (st_bool (c := (r4.2 == 0)) (by kernel_rfl) hc11) (APath.chunk 3 (by kernel_rfl) (APath.oneG (.val 79 (.bin .eql) [.t 78, .k (.p (.int .i64 0))]) 77 true (by kernel_rfl) (by kernel_rfl) (st_bool (c := (r5.2 == 0)) (by kernel_rfl) hc12) (APath.chunk 3 (by kernel_rfl) (APath.oneG (.val 83 (.bin .eql) [.t 82, .k (.p (.int .i64 0))]) 81 true (by kernel_rfl) (by kernel_rfl) (st_bool (c := (r6.2 == 0)) (by kernel_rfl) hc13) (APath.chunk 3 (by kernel_rfl) (APath.oneG (.val 87 (.bin .eql) [.t 86, .k (.p (.int .i64 0))]) 85 true (by kernel_rfl) (by kernel_rfl) (st_bool (c := (r7.2 == 0)) (by kernel_rfl) hc14) (APath.fin (by kernel_rfl)))))))))))))), by simp only [hc9, hc10, hc11, hc12, hc13, hc14]; kernel_rfl⟩
              · exact ⟨_, (APath.chunk 1 (by kernel_rfl) (APath.one (.val 68 (.bin .eql) [.t 67, .k (.p (.int .i64 0))]) (by kernel_rfl) (st_bool (c := (r2.2 == 0)) (by kernel_rfl) hc9) (APath.chunk 2 (by kernel_rfl) (APath.oneG (.val 71 (.bin .eql) [.t 70, .k (.p (.int .i64 0))]) 69 true (by kernel_rfl) (by kernel_rfl) (st_bool (c := (r3.2.2 == 0)) (by kernel_rfl) hc10) (APath.chunk 3 (by kernel_rfl) (APath.oneG (.val 75 (.bin .eql) [.t 74, .k (.p (.int .i64 0))]) 73 true (by kernel_rfl) (by kernel_rfl) (st_bool (c := (r4.2 == 0)) (by kernel_rfl) hc11) (APath.chunk 3 (by kernel_rfl) (APath.oneG (.val 79 (.bin .eql) [.t 78, .k (.p (.int .i64 0))]) 77 true (by kernel_rfl) (by kernel_rfl) (st_bool (c := (r5.2 == 0)) (by kernel_rfl) hc12) (APath.chunk 3 (by kernel_rfl) (APath.oneG (.val 83 (.bin .eql) [.t 82, .k (.p (.int .i64 0))]) 81 true (by kernel_rfl) (by kernel_rfl) (st_bool (c := (r6.2 == 0)) (by kernel_rfl) hc13) (APath.chunk 3 (by kernel_rfl) (APath.oneG (.val 87 (.bin .eql) [.t 86, .k (.p (.int .i64 0))]) 85 true (by kernel_rfl) (by kernel_rfl) (st_bool (c := (r7.2 == 0)) (by kernel_rfl) hc15) (APath.fin (by kernel_rfl)))))))))))))), by simp only [hc9, hc10, hc11, hc12, hc13, hc15]; kernel_rfl⟩
            · exact ⟨_, (APath.chunk 1 (by kernel_rfl) (APath.one (.val 68 (.bin .eql) [.t 67, .k (.p (.int .i64 0))]) (by kernel_rfl) (st_bool (c := (r2.2 == 0)) (by kernel_rfl) hc9) (APath.chunk 2 (by kernel_rfl) (APath.oneG (.val 71 (.bin .eql) [.t 70, .k (.p (.int .i64 0))]) 69 true (by kernel_rfl) (by kernel_rfl) (st_bool (c := (r3.2.2 == 0)) (by kernel_rfl) hc10) (APath.chunk 3 (by kernel_rfl) (APath.oneG (.val 75 (.bin .eql) [.t 74, .k (.p (.int .i64 0))]) 73 true (by kernel_rfl) (by kernel_rfl) (st_bool (c := (r4.2 == 0)) (by kernel_rfl) hc11) (APath.chunk 3 (by kernel_rfl) (APath.oneG (.val 79 (.bin .eql) [.t 78, .k (.p (.int .i64 0))]) 77 true (by kernel_rfl) (by kernel_rfl) (st_bool (c := (r5.2 == 0)) (by kernel_rfl) hc12) (APath.chunk 3 (by kernel_rfl) (APath.oneG (.val 83 (.bin .eql) [.t 82, .k (.p (.int .i64 0))]) 81 true (by kernel_rfl) (by kernel_rfl) (st_bool (c := (r6.2 == 0)) (by kernel_rfl) hc16) (APath.fin (by kernel_rfl)))))))))))), by simp only [hc9, hc10, hc11, hc12, hc16]; kernel_rfl⟩
          · exact ⟨_, (APath.chunk 1 (by kernel_rfl) (APath.one (.val 68 (.bin .eql) [.t 67, .k (.p (.int .i64 0))]) (by kernel_rfl) (st_bool (c := (r2.2 == 0)) (by kernel_rfl) hc9) (APath.chunk 2 (by kernel_rfl) (APath.oneG (.val 71 (.bin .eql) [.t 70, .k (.p (.int .i64 0))]) 69 true (by kernel_rfl) (by kernel_rfl) (st_bool (c := (r3.2.2 == 0)) (by kernel_rfl) hc10) (APath.chunk 3 (by kernel_rfl) (APath.oneG (.val 75 (.bin .eql) [.t 74, .k (.p (.int .i64 0))]) 73 true (by kernel_rfl) (by kernel_rfl) (st_bool (c := (r4.2 == 0)) (by kernel_rfl) hc11) (APath.chunk 3 (by kernel_rfl) (APath.oneG (.val 79 (.bin .eql) [.t 78, .k (.p (.int .i64 0))]) 77 true (by kernel_rfl) (by kernel_rfl) (st_bool (c := (r5.2 == 0)) (by kernel_rfl) hc17) (APath.fin (by kernel_rfl)))))))))), by simp only [hc9, hc10, hc11, hc17]; kernel_rfl⟩
        · exact ⟨_, (APath.chunk 1 (by kernel_rfl) (APath.one (.val 68 (.bin .eql) [.t 67, .k (.p (.int .i64 0))]) (by kernel_rfl) (st_bool (c := (r2.2 == 0)) (by kernel_rfl) hc9) (APath.chunk 2 (by kernel_rfl) (APath.oneG (.val 71 (.bin .eql) [.t 70, .k (.p (.int .i64 0))]) 69 true (by kernel_rfl) (by kernel_rfl) (st_bool (c := (r3.2.2 == 0)) (by kernel_rfl) hc10) (APath.chunk 3 (by kernel_rfl) (APath.oneG (.val 75 (.bin .eql) [.t 74, .k (.p (.int .i64 0))]) 73 true (by kernel_rfl) (by kernel_rfl) (st_bool (c := (r4.2 == 0)) (by kernel_rfl) hc18) (APath.fin (by kernel_rfl)))))))), by simp only [hc9, hc10, hc18]; kernel_rfl⟩
      · exact ⟨_, (APath.chunk 1 (by kernel_rfl) (APath.one (.val 68 (.bin .eql) [.t 67, .k (.p (.int .i64 0))]) (by kernel_rfl) (st_bool (c := (r2.2 == 0)) (by kernel_rfl) hc9) (APath.chunk 2 (by kernel_rfl) (APath.oneG (.val 71 (.bin .eql) [.t 70, .k (.p (.int .i64 0))]) 69 true (by kernel_rfl) (by kernel_rfl) (st_bool (c := (r3.2.2 == 0)) (by kernel_rfl) hc19) (APath.fin (by kernel_rfl)))))), by simp only [hc9, hc19]; kernel_rfl⟩
    · exact ⟨_, (APath.chunk 1 (by kernel_rfl) (APath.one (.val 68 (.bin .eql) [.t 67, .k (.p (.int .i64 0))]) (by kernel_rfl) (st_bool (c := (r2.2 == 0)) (by kernel_rfl) hc20) (APath.fin (by kernel_rfl)))), by simp only [hc20]; kernel_rfl⟩
  · refine vc_seq ?_
    obtain ⟨j45, hj, h⟩ := bind_some h
    refine vc_regXR (fun s => s = ⟨[(0, bv j45)], [], []⟩) ?_ ?_
    · clear h
      rcases ite_some hj with ⟨hc21, hj⟩ | ⟨hc44, hj⟩
      · obtain ⟨r22, hr22, hj⟩ := bind_some hj
        rcases ite_some hj with ⟨hc23, hj⟩ | ⟨hc43, hj⟩
        · rcases ite_some hj with ⟨hc24, hj⟩ | ⟨hc42, hj⟩
          · rcases ite_some hj with ⟨hc25, hj⟩ | ⟨hc41, hj⟩
            · rcases ite_some hj with ⟨hc26, hj⟩ | ⟨hc40, hj⟩
              · rcases ite_some hj with ⟨hc27, hj⟩ | ⟨hc39, hj⟩
                · obtain ⟨r28, hr28, hj⟩ := bind_some hj
                  rcases ite_some hj with ⟨hc29, hj⟩ | ⟨hc38, hj⟩
                  · rcases ite_some hj with ⟨hc30, hj⟩ | ⟨hc37, hj⟩
                    · obtain ⟨r31, hr31, hj⟩ := bind_some hj
                      rcases ite_some hj with ⟨hc32, hj⟩ | ⟨hc36, hj⟩
                      · rcases ite_some hj with ⟨hc33, hj⟩ | ⟨hc35, hj⟩
                        · obtain ⟨r34, hr34, hj⟩ := bind_some hj
                          obtain rfl := some_inj hj
                          exact ⟨_, (APath.one (.val 93 .mov [.t 18]) (by kernel_rfl) (st_bool (c := ((r2.2 == 0) && ((r3.2.2 == 0) && ((r4.2 == 0) && ((r5.2 == 0) && ((r6.2 == 0) && ((r7.2 == 0) && (r8.2.2 == 0)))))))) (by kernel_rfl) hc21) (APath.chunk 3 (by kernel_rfl) (APath.oneG (.call (some 97) 21 [.t 95, .t 96]) 94 true (by kernel_rfl) (by kernel_rfl) (st_callB (by kernel_rfl) (slices_Equal__int_int_ok N r2.1 ([0, 1, 2, 3]) r22 hr22) hc23) (APath.chunk 3 (by kernel_rfl) (APath.oneG (.val 101 (.bin .eql) [.t 100, .k (.p (.int .i64 1))]) 99 true (by kernel_rfl) (by kernel_rfl) (st_bool (c := (r3.1 == 1)) (by kernel_rfl) hc24) (APath.chunk 3 (by kernel_rfl) (APath.oneG (.val 105 (.bin .eql) [.t 104, .k (.p (.int .i64 3))]) 103 true (by kernel_rfl) (by kernel_rfl) (st_bool (c := (r3.2.1 == 3)) (by kernel_rfl) hc25) (APath.chunk 3 (by kernel_rfl) (APath.oneG (.val 109 (.bin .eql) [.t 108, .k (.p (.int .i64 57))]) 107 true (by kernel_rfl) (by kernel_rfl) (st_bool (c := (r4.1 == 57)) (by kernel_rfl) hc26) (APath.chunk 3 (by kernel_rfl) (APath.oneG (.val 113 (.bin .eql) [.t 112, .k (.p (.int .i64 9657))]) 111 true (by kernel_rfl) (by kernel_rfl) (st_bool (c := (r5.1 == 9657)) (by kernel_rfl) hc27) (APath.chunk 4 (by kernel_rfl) (APath.oneG (.call (some 118) 23 [.t 116, .t 117]) 115 true (by kernel_rfl) (by kernel_rfl) (st_callB (by kernel_rfl) (slices_Equal_api_Route_int_ok N r6.1 ([5, 3, 1]) r28 hr28) hc29) (APath.chunk 2 (by kernel_rfl) (APath.oneG (.val 121 .mov [.t 13]) 120 true (by kernel_rfl) (by kernel_rfl) (st_bool (c := r7.1) (by kernel_rfl) hc30) (APath.chunk 4 (by kernel_rfl) (APath.oneG (.call (some 126) 21 [.t 124, .t 125]) 123 true (by kernel_rfl) (by kernel_rfl) (st_callB (by kernel_rfl) (slices_Equal__int_int_ok N r8.1 ([0, 2, 4]) r31 hr31) hc32) (APath.chunk 2 (by kernel_rfl) (APath.oneG (.val 129 .mov [.t 16]) 128 true (by kernel_rfl) (by kernel_rfl) (st_bool (c := r8.2.1) (by kernel_rfl) hc33) (APath.chunk 4 (by kernel_rfl) (APath.oneG (.call (some 134) 19 [.t 132, .t 133]) 131 true (by kernel_rfl) (by kernel_rfl) (st_call (by kernel_rfl) (route_Check_ok N r1 ([0, 4]) r34 hr34)) (APath.fin (by kernel_rfl))))))))))))))))))))))), (by show _ = _; kernel_rfl)⟩
                        · obtain rfl := some_inj hj
                          exact ⟨_, (APath.one (.val 93 .mov [.t 18]) (by kernel_rfl) (st_bool (c := ((r2.2 == 0) && ((r3.2.2 == 0) && ((r4.2 == 0) && ((r5.2 == 0) && ((r6.2 == 0) && ((r7.2 == 0) && (r8.2.2 == 0)))))))) (by kernel_rfl) hc21) (APath.chunk 3 (by kernel_rfl) (APath.oneG (.call (some 97) 21 [.t 95, .t 96]) 94 true (by kernel_rfl) (by kernel_rfl) (st_callB (by kernel_rfl) (slices_Equal__int_int_ok N r2.1 ([0, 1, 2, 3]) r22 hr22) hc23) (APath.chunk 3 (by kernel_rfl) (APath.oneG (.val 101 (.bin .eql) [.t 100, .k (.p (.int .i64 1))]) 99 true (by kernel_rfl) (by kernel_rfl) (st_bool (c := (r3.1 == 1)) (by kernel_rfl) hc24) (APath.chunk 3 (by kernel_rfl) (APath.oneG (.val 105 (.bin .eql) [.t 104, .k (.p (.int .i64 3))]) 103 true (by kernel_rfl) (by kernel_rfl) (st_bool (c := (r3.2.1 == 3)) (by kernel_rfl) hc25) (APath.chunk 3 (by kernel_rfl) (APath.oneG (.val 109 (.bin .eql) [.t 108, .k (.p (.int .i64 57))]) 107 true (by kernel_rfl) (by kernel_rfl) (st_bool (c := (r4.1 == 57)) (by kernel_rfl) hc26) (APath.chunk 3 (by kernel_rfl) (APath.oneG (.val 113 (.bin .eql) [.t 112, .k (.p (.int .i64 9657))]) 111 true (by kernel_rfl) (by kernel_rfl) (st_bool (c := (r5.1 == 9657)) (by kernel_rfl) hc27) (APath.chunk 4 (by kernel_rfl) (APath.oneG (.call (some 118) 23 [.t 116, .t 117]) 115 true (by kernel_rfl) (by kernel_rfl) (st_callB (by kernel_rfl) (slices_Equal_api_Route_int_ok N r6.1 ([5, 3, 1]) r28 hr28) hc29) (APath.chunk 2 (by kernel_rfl) (APath.oneG (.val 121 .mov [.t 13]) 120 true (by kernel_rfl) (by kernel_rfl) (st_bool (c := r7.1) (by kernel_rfl) hc30) (APath.chunk 4 (by kernel_rfl) (APath.oneG (.call (some 126) 21 [.t 124, .t 125]) 123 true (by kernel_rfl) (by kernel_rfl) (st_callB (by kernel_rfl) (slices_Equal__int_int_ok N r8.1 ([0, 2, 4]) r31 hr31) hc32) (APath.chunk 2 (by kernel_rfl) (APath.oneG (.val 129 .mov [.t 16]) 128 true (by kernel_rfl) (by kernel_rfl) (st_bool (c := r8.2.1) (by kernel_rfl) hc35) (APath.fin (by kernel_rfl))))))))))))))))))))), (by show _ = _; kernel_rfl)⟩
                      · obtain rfl := some_inj hj
                        exact ⟨_, (APath.one (.val 93 .mov [.t 18]) (by kernel_rfl) (st_bool (c := ((r2.2 == 0) && ((r3.2.2 == 0) && ((r4.2 == 0) && ((r5.2 == 0) && ((r6.2 == 0) && ((r7.2 == 0) && (r8.2.2 == 0)))))))) (by kernel_rfl) hc21) (APath.chunk 3 (by kernel_rfl) (APath.oneG (.call (some 97) 21 [.t 95, .t 96]) 94 true (by kernel_rfl) (by kernel_rfl) (st_callB (by kernel_rfl) (slices_Equal__int_int_ok N r2.1 ([0, 1, 2, 3]) r22 hr22) hc23) (APath.chunk 3 (by kernel_rfl) (APath.oneG (.val 101 (.bin .eql) [.t 100, .k (.p (.int .i64 1))]) 99 true (by kernel_rfl) (by kernel_rfl) (st_bool (c := (r3.1 == 1)) (by kernel_rfl) hc24) (APath.chunk 3 (by kernel_rfl) (APath.oneG (.val 105 (.bin .eql) [.t 104, .k (.p (.int .i64 3))]) 103 true (by kernel_rfl) (by kernel_rfl) (st_bool (c := (r3.2.1 == 3)) (by kernel_rfl) hc25) (APath.chunk 3 (by kernel_rfl) (APath.oneG (.val 109 (.bin .eql) [.t 108, .k (.p (.int .i64 57))]) 107 true (by kernel_rfl) (by kernel_rfl) (st_bool (c := (r4.1 == 57)) (by kernel_rfl) hc26) (APath.chunk 3 (by kernel_rfl) (APath.oneG (.val 113 (.bin .eql) [.t 112, .k (.p (.int .i64 9657))]) 111 true (by kernel_rfl) (by kernel_rfl) (st_bool (c := (r5.1 == 9657)) (by kernel_rfl) hc27) (APath.chunk 4 (by kernel_rfl) (APath.oneG (.call (some 118) 23 [.t 116, .t 117]) 115 true (by kernel_rfl) (by kernel_rfl) (st_callB (by kernel_rfl) (slices_Equal_api_Route_int_ok N r6.1 ([5, 3, 1]) r28 hr28) hc29) (APath.chunk 2 (by kernel_rfl) (APath.oneG (.val 121 .mov [.t 13]) 120 true (by kernel_rfl) (by kernel_rfl) (st_bool (c := r7.1) (by kernel_rfl) hc30) (APath.chunk 4 (by kernel_rfl) (APath.oneG (.call (some 126) 21 [.t 124, .t 125]) 123 true (by kernel_rfl) (by kernel_rfl) (st_callB (by kernel_rfl) (slices_Equal__int_int_ok N r8.1 ([0, 2, 4]) r31 hr31) hc36) (APath.fin (by kernel_rfl))))))))))))))))))), (by show _ = _; kernel_rfl)⟩
                    · obtain rfl := some_inj hj
                      exact ⟨_, (APath.one (.val 93 .mov [.t 18]) (by kernel_rfl) (st_bool (c := ((r2.2 == 0) && ((r3.2.2 == 0) && ((r4.2 == 0) && ((r5.2 == 0) && ((r6.2 == 0) && ((r7.2 == 0) && (r8.2.2 == 0)))))))) (by kernel_rfl) hc21) (APath.chunk 3 (by kernel_rfl) (APath.oneG (.call (some 97) 21 [.t 95, .t 96]) 94 true (by kernel_rfl) (by kernel_rfl) (st_callB (by kernel_rfl) (slices_Equal__int_int_ok N r2.1 ([0, 1, 2, 3]) r22 hr22) hc23) (APath.chunk 3 (by kernel_rfl) (APath.oneG (.val 101 (.bin .eql) [.t 100, .k (.p (.int .i64 1))]) 99 true (by kernel_rfl) (by kernel_rfl) (st_bool (c := (r3.1 == 1)) (by kernel_rfl) hc24) (APath.chunk 3 (by kernel_rfl) (APath.oneG (.val 105 (.bin .eql) [.t 104, .k (.p (.int .i64 3))]) 103 true (by kernel_rfl) (by kernel_rfl) (st_bool (c := (r3.2.1 == 3)) (by kernel_rfl) hc25) (APath.chunk 3 (by kernel_rfl) (APath.oneG (.val 109 (.bin .eql) [.t 108, .k (.p (.int .i64 57))]) 107 true (by kernel_rfl) (by kernel_rfl) (st_bool (c := (r4.1 == 57)) (by kernel_rfl) hc26) (APath.chunk 3 (by kernel_rfl) (APath.oneG (.val 113 (.bin .eql) [.t 112, .k (.p (.int .i64 9657))]) 111 true (by kernel_rfl) (by kernel_rfl) (st_bool (c := (r5.1 == 9657)) (by kernel_rfl) hc27) (APath.chunk 4 (by kernel_rfl) (APath.oneG (.call (some 118) 23 [.t 116, .t 117]) 115 true (by kernel_rfl) (by kernel_rfl) (st_callB (by kernel_rfl) (slices_Equal_api_Route_int_ok N r6.1 ([5, 3, 1]) r28 hr28) hc29) (APath.chunk 2 (by kernel_rfl) (APath.oneG (.val 121 .mov [.t 13]) 120 true (by kernel_rfl) (by kernel_rfl) (st_bool (c := r7.1) (by kernel_rfl) hc37) (APath.fin (by kernel_rfl))))))))))))))))), (by show _ = _; kernel_rfl)⟩
                  · obtain rfl := some_inj hj
                    exact ⟨_, (APath.one (.val 93 .mov [.t 18]) (by kernel_rfl) (st_bool (c := ((r2.2 == 0) && ((r3.2.2 == 0) && ((r4.2 == 0) && ((r5.2 == 0) && ((r6.2 == 0) && ((r7.2 == 0) && (r8.2.2 == 0)))))))) (by kernel_rfl) hc21) (APath.chunk 3 (by kernel_rfl) (APath.oneG (.call (some 97) 21 [.t 95, .t 96]) 94 true (by kernel_rfl) (by kernel_rfl) (st_callB (by kernel_rfl) (slices_Equal__int_int_ok N r2.1 ([0, 1, 2, 3]) r22 hr22) hc23) (APath.chunk 3 (by kernel_rfl) (APath.oneG (.val 101 (.bin .eql) [.t 100, .k (.p (.int .i64 1))]) 99 true (by kernel_rfl) (by kernel_rfl) (st_bool (c := (r3.1 == 1)) (by kernel_rfl) hc24) (APath.chunk 3 (by kernel_rfl) (APath.oneG (.val 105 (.bin .eql) [.t 104, .k (.p (.int .i64 3))]) 103 true (by kernel_rfl) (by kernel_rfl) (st_bool (c := (r3.2.1 == 3)) (by kernel_rfl) hc25) (APath.chunk 3 (by kernel_rfl) (APath.oneG (.val 109 (.bin .eql) [.t 108, .k (.p (.int .i64 57))]) 107 true (by kernel_rfl) (by kernel_rfl) (st_bool (c := (r4.1 == 57)) (by kernel_rfl) hc26) (APath.chunk 3 (by kernel_rfl) (APath.oneG (.val 113 (.bin .eql) [.t 112, .k (.p (.int .i64 9657))]) 111 true (by kernel_rfl) (by kernel_rfl) (st_bool (c := (r5.1 == 9657)) (by kernel_rfl) hc27) (APath.chunk 4 (by kernel_rfl) (APath.oneG (.call (some 118) 23 [.t 116, .t 117]) 115 true (by kernel_rfl) (by kernel_rfl) (st_callB (by kernel_rfl) (slices_Equal_api_Route_int_ok N r6.1 ([5, 3, 1]) r28 hr28) hc38) (APath.fin (by kernel_rfl))))))))))))))), (by show _ = _; kernel_rfl)⟩
                · obtain rfl := some_inj hj
                  exact ⟨_, (APath.one (.val 93 .mov [.t 18]) (by kernel_rfl) (st_bool (c := ((r2.2 == 0) && ((r3.2.2 == 0) && ((r4.2 == 0) && ((r5.2 == 0) && ((r6.2 == 0) && ((r7.2 == 0) && (r8.2.2 == 0)))))))) (by kernel_rfl) hc21) (APath.chunk 3 (by kernel_rfl) (APath.oneG (.call (some 97) 21 [.t 95, .t 96]) 94 true (by kernel_rfl) (by kernel_rfl) (st_callB (by kernel_rfl) (slices_Equal__int_int_ok N r2.1 ([0, 1, 2, 3]) r22 hr22) hc23) (APath.chunk 3 (by kernel_rfl) (APath.oneG (.val 101 (.bin .eql) [.t 100, .k (.p (.int .i64 1))]) 99 true (by kernel_rfl) (by kernel_rfl) (st_bool (c := (r3.1 == 1)) (by kernel_rfl) hc24) (APath.chunk 3 (by kernel_rfl) (APath.oneG (.val 105 (.bin .eql) [.t 104, .k (.p (.int .i64 3))]) 103 true (by kernel_rfl) (by kernel_rfl) (st_bool (c := (r3.2.1 == 3)) (by kernel_rfl) hc25) (APath.chunk 3 (by kernel_rfl) (APath.oneG (.val 109 (.bin .eql) [.t 108, .k (.p (.int .i64 57))]) 107 true (by kernel_rfl) (by kernel_rfl) (st_bool (c := (r4.1 == 57)) (by kernel_rfl) hc26) (APath.chunk 3 (by kernel_rfl) (APath.oneG (.val 113 (.bin .eql) [.t 112, .k (.p (.int .i64 9657))]) 111 true (by kernel_rfl) (by kernel_rfl) (st_bool (c := (r5.1 == 9657)) (by kernel_rfl) hc39) (APath.fin (by kernel_rfl))))))))))))), (by show _ = _; kernel_rfl)⟩
              · obtain rfl := some_inj hj
                exact ⟨_, (APath.one (.val 93 .mov [.t 18]) (by kernel_rfl) (st_bool (c := ((r2.2 == 0) && ((r3.2.2 == 0) && ((r4.2 == 0) && ((r5.2 == 0) && ((r6.2 == 0) && ((r7.2 == 0) && (r8.2.2 == 0)))))))) (by kernel_rfl) hc21) (APath.chunk 3 (by kernel_rfl) (APath.oneG (.call (some 97) 21 [.t 95, .t 96]) 94 true (by kernel_rfl) (by kernel_rfl) (st_callB (by kernel_rfl) (slices_Equal__int_int_ok N r2.1 ([0, 1, 2, 3]) r22 hr22) hc23) (APath.chunk 3 (by kernel_rfl) (APath.oneG (.val 101 (.bin .eql) [.t 100, .k (.p (.int .i64 1))]) 99 true (by kernel_rfl) (by kernel_rfl) (st_bool (c := (r3.1 == 1)) (by kernel_rfl) hc24) (APath.chunk 3 (by kernel_rfl) (APath.oneG (.val 105 (.bin .eql) [.t 104, .k (.p (.int .i64 3))]) 103 true (by kernel_rfl) (by kernel_rfl) (st_bool (c := (r3.2.1 == 3)) (by kernel_rfl) hc25) (APath.chunk 3 (by kernel_rfl) (APath.oneG (.val 109 (.bin .eql) [.t 108, .k (.p (.int .i64 57))]) 107 true (by kernel_rfl) (by kernel_rfl) (st_bool (c := (r4.1 == 57)) (by kernel_rfl) hc40) (APath.fin (by kernel_rfl))))))))))), (by show _ = _; kernel_rfl)⟩
            · obtain rfl := some_inj hj
              exact ⟨_, (APath.one (.val 93 .mov [.t 18]) (by kernel_rfl) (st_bool (c := ((r2.2 == 0) && ((r3.2.2 == 0) && ((r4.2 == 0) && ((r5.2 == 0) && ((r6.2 == 0) && ((r7.2 == 0) && (r8.2.2 == 0)))))))) (by kernel_rfl) hc21) (APath.chunk 3 (by kernel_rfl) (APath.oneG (.call (some 97) 21 [.t 95, .t 96]) 94 true (by kernel_rfl) (by kernel_rfl) (st_callB (by kernel_rfl) (slices_Equal__int_int_ok N r2.1 ([0, 1, 2, 3]) r22 hr22) hc23) (APath.chunk 3 (by kernel_rfl) (APath.oneG (.val 101 (.bin .eql) [.t 100, .k (.p (.int .i64 1))]) 99 true (by kernel_rfl) (by kernel_rfl) (st_bool (c := (r3.1 == 1)) (by kernel_rfl) hc24) (APath.chunk 3 (by kernel_rfl) (APath.oneG (.val 105 (.bin .eql) [.t 104, .k (.p (.int .i64 3))]) 103 true (by kernel_rfl) (by kernel_rfl) (st_bool (c := (r3.2.1 == 3)) (by kernel_rfl) hc41) (APath.fin (by kernel_rfl))))))))), (by show _ = _; kernel_rfl)⟩
          · obtain rfl := some_inj hj
            exact ⟨_, (APath.one (.val 93 .mov [.t 18]) (by kernel_rfl) (st_bool (c := ((r2.2 == 0) && ((r3.2.2 == 0) && ((r4.2 == 0) && ((r5.2 == 0) && ((r6.2 == 0) && ((r7.2 == 0) && (r8.2.2 == 0)))))))) (by kernel_rfl) hc21) (APath.chunk 3 (by kernel_rfl) (APath.oneG (.call (some 97) 21 [.t 95, .t 96]) 94 true (by kernel_rfl) (by kernel_rfl) (st_callB (by kernel_rfl) (slices_Equal__int_int_ok N r2.1 ([0, 1, 2, 3]) r22 hr22) hc23) (APath.chunk 3 (by kernel_rfl) (APath.oneG (.val 101 (.bin .eql) [.t 100, .k (.p (.int .i64 1))]) 99 true (by kernel_rfl) (by kernel_rfl) (st_bool (c := (r3.1 == 1)) (by kernel_rfl) hc42) (APath.fin (by kernel_rfl))))))), (by show _ = _; kernel_rfl)⟩
        · obtain rfl := some_inj hj
          exact ⟨_, (APath.one (.val 93 .mov [.t 18]) (by kernel_rfl) (st_bool (c := ((r2.2 == 0) && ((r3.2.2 == 0) && ((r4.2 == 0) && ((r5.2 == 0) && ((r6.2 == 0) && ((r7.2 == 0) && (r8.2.2 == 0)))))))) (by kernel_rfl) hc21) (APath.chunk 3 (by kernel_rfl) (APath.oneG (.call (some 97) 21 [.t 95, .t 96]) 94 true (by kernel_rfl) (by kernel_rfl) (st_callB (by kernel_rfl) (slices_Equal__int_int_ok N r2.1 ([0, 1, 2, 3]) r22 hr22) hc43) (APath.fin (by kernel_rfl))))), (by show _ = _; kernel_rfl)⟩
      · obtain rfl := some_inj hj
        exact ⟨_, (APath.one (.val 93 .mov [.t 18]) (by kernel_rfl) (st_bool (c := ((r2.2 == 0) && ((r3.2.2 == 0) && ((r4.2 == 0) && ((r5.2 == 0) && ((r6.2 == 0) && ((r7.2 == 0) && (r8.2.2 == 0)))))))) (by kernel_rfl) hc44) (APath.fin (by kernel_rfl))), (by show _ = _; kernel_rfl)⟩
    · clear hj
      rintro s hR
      obtain rfl := hR
      refine vc_ret ?_
      obtain rfl := some_inj h
      exact ret_of (by kernel_rfl)
end Go.Sh

