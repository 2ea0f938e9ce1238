/- Part of the proof; written by a program out of the texts in wip/. -/
import Derived.Test.YtoboapnbbcedbaaRouteTreesOk3
namespace Go.Sh
open Go Go.Eng Go.Proofs
set_option linter.unusedVariables false
set_option linter.unusedSimpArgs false
set_option maxRecDepth 100000
theorem law21_RouteTrees_ok (N : Nat) (a0_ : api_Topo) (a1_ : (List (List Int))) (r : Bool) (h : law21_RouteTrees N a0_ a1_ = some r) : PCall Try.prog 5 [.agg (c_api_Topo a0_), s_eSl_1_eI64 false a1_] (bv r) := by
  unfold law21_RouteTrees at h
  have hH : HP ([] : List HO) [] := trivial
  refine pcall_of chk5 rfl rfl (vc_sound _ _ _ ?_) rfl
  refine vc_seq ?_
  refine vc_reg (S := ⟨[(1, s_eSl_1_eI64 false a1_), (2, .loc 2 0)], [(2, (c_api_Topo a0_))], []⟩) (APath.fin (by kernel_rfl)) (by kernel_rfl) ?_
  refine vc_seq ?_
  refine vc_seq ?_
  obtain ⟨r1, hr1, h⟩ := bind_some h
  refine vc_reg (S := ⟨[(1, s_eSl_1_eI64 false a1_), (2, .loc 2 0), (13, bv (!r1))], [(2, (c_api_Topo a0_))], []⟩) (APath.one (.call (some 12) 10 []) (by kernel_rfl) (st_call (by kernel_rfl) (law21_wakes_ok N  r1 hr1)) (APath.fin (by kernel_rfl))) (by kernel_rfl) ?_
  refine vc_ite (by kernel_rfl) h (fun hc2 h => ?_) (fun hc2 h => ?_)
  · refine vc_seq ?_
    refine vc_reg (S := ⟨[(4, bv false)], [], []⟩) (APath.fin (by kernel_rfl)) (by kernel_rfl) ?_
    refine vc_ret ?_
    obtain rfl := some_inj h
    exact ret_of (by kernel_rfl)
  · refine vc_skip ?_
    refine vc_kp ?_
    refine vc_seq ?_
    obtain ⟨r3, hr3, h⟩ := bind_some h
    refine vc_reg (S := ⟨[(1, s_eSl_1_eI64 false a1_), (2, .loc 2 0)], [(2, (c_api_Topo r3))], []⟩) (APath.chunk 1 (by kernel_rfl) (APath.one (.call (some 15) 11 [.t 14]) (by kernel_rfl) (st_call (by kernel_rfl) (law21_few_ok N a0_ r3 hr3)) (APath.fin (by kernel_rfl)))) (by kernel_rfl) ?_
    refine vc_seq ?_
    refine vc_reg (S := ⟨[(1, s_eSl_1_eI64 false a1_), (2, .loc 2 0), (5, s_eSl_1_eI64 true [])], [(2, (c_api_Topo r3))], []⟩) (APath.fin (by kernel_rfl)) (by kernel_rfl) ?_
    refine vc_seq ?_
    refine vc_seq ?_
    obtain ⟨l4, hl4, h⟩ := bind_some h
    refine vc_reg (S := ⟨[(2, .loc 2 0), (5, s_eSl_1_eI64 true []), (20, s_eSl_1_eI64 false l4), (21, iv ((List.length l4 : Nat) : Int)), (22, iv 0)], [(2, (c_api_Topo r3))], []⟩) (APath.chunk 2 (by kernel_rfl) (APath.one (.val 18 .len [.t 17]) (by kernel_rfl) (st_val (ys := [s_eSl_1_eI64 false a1_]) (by kernel_rfl) (vexec_len (eSl 1 eI64))) (APath.chunk 1 (by kernel_rfl) (APath.one (.val 20 (.slice 1 false true false) [.t 16, .t 19]) (by kernel_rfl) (st_val (ys := [s_eSl_1_eI64 false a1_, iv (if 8 < ((List.length a1_ : Nat) : Int) then 8 else ((List.length a1_ : Nat) : Int))]) (by kernel_rfl) (vexec_sliceHi (eSl 1 eI64) hl4)) (APath.one (.val 21 .len [.t 20]) (by kernel_rfl) (st_val (ys := [s_eSl_1_eI64 false l4]) (by kernel_rfl) (vexec_len (eSl 1 eI64))) (APath.fin (by kernel_rfl))))))) (by kernel_rfl) ?_
    refine vc_block ?_
    obtain ⟨o517, ho517, h⟩ := bind_some h
    refine vc_loop ((loop_sim (fun (x : Int × (List (List Int))) s => ∃ (a5 : AV) (H6 : List HO), s = ⟨[(2, .loc 2 0), (5, a5), (20, s_eSl_1_eI64 false l4), (21, iv ((List.length l4 : Nat) : Int)), (22, iv x.1)], [(2, (c_api_Topo r3))], H6⟩ ∧ HP H6 [.arr a5 1 false (List.map (eSl 1 eI64) x.2)]) (fun x : Int × (List (List Int)) => law21_RouteTrees_L1 N l4 x.1 x.2) (fun (p : (List (List Int))) e s => e = .exit 0 ∧ (∃ (a509 : AV) (H510 : List HO), s = ⟨[(2, .loc 2 0), (5, a509)], [(2, (c_api_Topo r3))], H510⟩ ∧ HP H510 [.arr a509 1 false (List.map (eSl 1 eI64) p)])) ?_ N _ o517 _ ho517 ⟨(.p (.sl 1 true [])), [], (by show _ = _; kernel_rfl), (HP.pick (HP.nilArr hH 1 false) [0] rfl)⟩).mono ?_)
    · clear h ho517
      rintro ⟨i7, l8⟩ o s h hR
      obtain ⟨a5, H6, rfl, hH⟩ := hR
      replace hH : HP H6 [.arr a5 1 false (List.map (eSl 1 eI64) l8)] := hH
      have hfa5 := own_form (HP.get hH 0 rfl)
      replace h : law21_RouteTrees_L1 N l4 i7 l8 = some o := h
      unfold law21_RouteTrees_L1 at h
      refine vc_seq ?_
      refine vc_reg (S := ⟨[(2, .loc 2 0), (5, a5), (20, s_eSl_1_eI64 false l4), (21, iv ((List.length l4 : Nat) : Int)), (22, iv i7), (23, bv (decide (i7 < ((List.length l4 : Nat) : Int))))], [(2, (c_api_Topo r3))], H6⟩) (APath.fin (by rcases hfa5 with ha5e | ⟨_, _, ha5e⟩ <;> subst ha5e <;> kernel_rfl)) (by rcases hfa5 with ha5e | ⟨_, _, ha5e⟩ <;> subst ha5e <;> kernel_rfl) ?_
      refine vc_seq ?_
      refine vc_ite (by kernel_rfl) h (fun hc511 h => ?_) (fun hc511 h => ?_)
      · refine vc_skip ?_
        refine vc_kp ?_
        refine vc_seq ?_
        refine vc_block ?_
        refine vc_seq ?_
        obtain ⟨e512, he512, h⟩ := bind_some h
        refine vc_reg (S := ⟨[(2, .loc 2 0), (5, a5), (7, s_eI64 false e512), (20, s_eSl_1_eI64 false l4), (21, iv ((List.length l4 : Nat) : Int)), (22, iv i7)], [(2, (c_api_Topo r3))], H6⟩) (APath.one (.val 24 (.iaddrS 1) [.t 20, .t 22]) (by kernel_rfl) (st_val (ys := [s_eSl_1_eI64 false l4, iv i7]) (by rcases hfa5 with ha5e | ⟨_, _, ha5e⟩ <;> subst ha5e <;> kernel_rfl) (vexec_iaddrS (eSl 1 eI64) he512)) (APath.one (.load 25 (.t 24) 1 false) (by kernel_rfl) (st_loadP (sz := 1) (off := 0) (cs := [.sl 1 false (List.map eI64 e512)]) (r := s_eI64 false e512) (eSl 1 eI64) he512 (by rcases hfa5 with ha5e | ⟨_, _, ha5e⟩ <;> subst ha5e <;> kernel_rfl) (by rcases hfa5 with ha5e | ⟨_, _, ha5e⟩ <;> subst ha5e <;> kernel_rfl) (by rcases hfa5 with ha5e | ⟨_, _, ha5e⟩ <;> subst ha5e <;> kernel_rfl)) (APath.fin (by rcases hfa5 with ha5e | ⟨_, _, ha5e⟩ <;> subst ha5e <;> kernel_rfl)))) (by rcases hfa5 with ha5e | ⟨_, _, ha5e⟩ <;> subst ha5e <;> kernel_rfl) ?_
        obtain ⟨r513, hr513, h⟩ := bind_some h
        obtain ⟨l516, hl516, h⟩ := bind_some h
        obtain ⟨a514, H515, ha514, hH⟩ := HP.app (k := 0) (a := a5) (sz := 1) (frz := false) (eSl 1 eI64) hH rfl hl516
        replace hH : HP H515 [.arr a514 1 false (List.map (eSl 1 eI64) l516)] := hH
        have hfa514 := own_form (HP.get hH 0 rfl)
        refine vc_reg (S := ⟨[(2, .loc 2 0), (5, a514), (20, s_eSl_1_eI64 false l4), (21, iv ((List.length l4 : Nat) : Int)), (22, iv i7)], [(2, (c_api_Topo r3))], H515⟩) (APath.chunk 2 (by rcases hfa5 with ha5e | ⟨_, _, ha5e⟩ <;> rcases hfa514 with ha514e | ⟨_, _, ha514e⟩ <;> subst ha5e ha514e <;> kernel_rfl) (APath.one (.call (some 28) 12 [.t 27]) (by kernel_rfl) (st_call (by rcases hfa5 with ha5e | ⟨_, _, ha5e⟩ <;> rcases hfa514 with ha514e | ⟨_, _, ha514e⟩ <;> subst ha5e ha514e <;> kernel_rfl) (law21_cut_ok N e512 r513 hr513)) (APath.chunk 1 (by rcases hfa5 with ha5e | ⟨_, _, ha5e⟩ <;> rcases hfa514 with ha514e | ⟨_, _, ha514e⟩ <;> subst ha5e ha514e <;> kernel_rfl) (APath.one (.app 30 (.t 26) (.t 29) 1 24) (by kernel_rfl) (st_app (H := H6) (a := a5) (b := s_eSl_1_eI64 true [r513]) (by rcases hfa5 with ha5e | ⟨_, _, ha5e⟩ <;> rcases hfa514 with ha514e | ⟨_, _, ha514e⟩ <;> subst ha5e ha514e <;> kernel_rfl) (by rcases hfa5 with ha5e | ⟨_, _, ha5e⟩ <;> rcases hfa514 with ha514e | ⟨_, _, ha514e⟩ <;> subst ha5e ha514e <;> kernel_rfl) (by rcases hfa5 with ha5e | ⟨_, _, ha5e⟩ <;> rcases hfa514 with ha514e | ⟨_, _, ha514e⟩ <;> subst ha5e ha514e <;> kernel_rfl) (by rcases hfa5 with ha5e | ⟨_, _, ha5e⟩ <;> rcases hfa514 with ha514e | ⟨_, _, ha514e⟩ <;> subst ha5e ha514e <;> kernel_rfl) ha514) (APath.fin (by rcases hfa5 with ha5e | ⟨_, _, ha5e⟩ <;> rcases hfa514 with ha514e | ⟨_, _, ha514e⟩ <;> subst ha5e ha514e <;> kernel_rfl)))))) (by rcases hfa5 with ha5e | ⟨_, _, ha5e⟩ <;> rcases hfa514 with ha514e | ⟨_, _, ha514e⟩ <;> subst ha5e ha514e <;> kernel_rfl) ?_
        refine vc_reg (S := ⟨[(2, .loc 2 0), (5, a514), (20, s_eSl_1_eI64 false l4), (21, iv ((List.length l4 : Nat) : Int)), (22, iv (w64 (i7 + 1)))], [(2, (c_api_Topo r3))], H515⟩) (APath.fin (by rcases hfa514 with ha514e | ⟨_, _, ha514e⟩ <;> subst ha514e <;> kernel_rfl)) (by rcases hfa514 with ha514e | ⟨_, _, ha514e⟩ <;> subst ha514e <;> kernel_rfl) ?_
        obtain rfl := some_inj h
        exact ⟨_, rfl, ⟨a514, H515, (by show _ = _; rcases hfa514 with ha514e | ⟨_, _, ha514e⟩ <;> subst ha514e <;> kernel_rfl), (HP.pick hH [0] rfl)⟩⟩
      · refine vc_kp ?_
        try show vc _ _ _ _ _
        refine vc_exit ?_
        try show vc _ _ _ _ _
        obtain rfl := some_inj h
        exact ⟨_, rfl, rfl, ⟨a5, H6, (by show _ = _; rcases hfa5 with ha5e | ⟨_, _, ha5e⟩ <;> subst ha5e <;> kernel_rfl), (HP.pick hH [0] rfl)⟩⟩
    · rintro e s hq
      obtain ⟨rfl, hR⟩ := hq
      obtain ⟨a509, H510, rfl, hH⟩ := hR
      replace hH : HP H510 [.arr a509 1 false (List.map (eSl 1 eI64) o517)] := hH
      have hfa509 := own_form (HP.get hH 0 rfl)
      try show vc _ _ _ _ _
      refine vc_seq ?_
      obtain ⟨r518, hr518, h⟩ := bind_some h
      obtain ⟨H519, hzH519, hzH519v, hH⟩ := HP.frz (k := 0) (a := a509) (sz := 1) (frz := false) (eSl 1 eI64) hH rfl
      replace hH : HP H519 [.arr a509 1 true (List.map (eSl 1 eI64) o517)] := hH
      refine vc_reg (S := ⟨[(2, .loc 2 0), (5, a509), (8, s_eI64 false r518.1), (9, bv r518.2.1), (10, iv r518.2.2)], [(2, (c_api_Topo r3))], H519⟩) (APath.chunk 2 (by rcases hfa509 with ha509e | ⟨_, _, ha509e⟩ <;> subst ha509e <;> kernel_rfl) (APath.one (.call (some 35) 28 [.t 33, .t 34]) (by kernel_rfl) (st_callF (H := H510) (ys := [.agg (c_api_Topo r3), a509]) (by rcases hfa509 with ha509e | ⟨_, _, ha509e⟩ <;> subst ha509e <;> kernel_rfl) (by rcases hfa509 with ha509e | ⟨_, _, ha509e⟩ <;> subst ha509e <;> kernel_rfl) (frzL_cons rfl (frzL_cons hzH519v frzL_nil)) (route_Tree_ok N r3 o517 r518 hr518)) (APath.fin (by rcases hfa509 with ha509e | ⟨_, _, ha509e⟩ <;> subst ha509e <;> kernel_rfl)))) (by rcases hfa509 with ha509e | ⟨_, _, ha509e⟩ <;> subst ha509e <;> kernel_rfl) ?_
      refine vc_seq ?_
      refine vc_seq ?_
      obtain ⟨r520, hr520, h⟩ := bind_some h
      obtain ⟨H521, hzH521, hzH521v, hH⟩ := HP.frz (k := 0) (a := a509) (sz := 1) (frz := true) (eSl 1 eI64) hH rfl
      replace hH : HP H521 [.arr a509 1 true (List.map (eSl 1 eI64) o517)] := hH
      refine vc_reg (S := ⟨[(2, .loc 2 0), (5, a509), (8, s_eI64 false r518.1), (9, bv r518.2.1), (10, iv r518.2.2), (11, iv r520)], [(2, (c_api_Topo r3))], H521⟩) (APath.chunk 2 (by rcases hfa509 with ha509e | ⟨_, _, ha509e⟩ <;> subst ha509e <;> kernel_rfl) (APath.one (.call (some 41) 18 [.t 39, .t 40]) (by kernel_rfl) (st_callF (H := H519) (ys := [.agg (c_api_Topo r3), a509]) (by rcases hfa509 with ha509e | ⟨_, _, ha509e⟩ <;> subst ha509e <;> kernel_rfl) (by rcases hfa509 with ha509e | ⟨_, _, ha509e⟩ <;> subst ha509e <;> kernel_rfl) (frzL_cons rfl (frzL_cons hzH521v frzL_nil)) (law21_want_ok N r3 o517 r520 hr520)) (APath.fin (by rcases hfa509 with ha509e | ⟨_, _, ha509e⟩ <;> subst ha509e <;> kernel_rfl)))) (by rcases hfa509 with ha509e | ⟨_, _, ha509e⟩ <;> subst ha509e <;> kernel_rfl) ?_
      refine vc_seq ?_
      refine vc_reg (S := ⟨[(2, .loc 2 0), (5, a509), (8, s_eI64 false r518.1), (9, bv r518.2.1), (10, iv r518.2.2), (11, iv r520), (43, bv (r520 != 0))], [(2, (c_api_Topo r3))], H521⟩) (APath.fin (by rcases hfa509 with ha509e | ⟨_, _, ha509e⟩ <;> subst ha509e <;> kernel_rfl)) (by rcases hfa509 with ha509e | ⟨_, _, ha509e⟩ <;> subst ha509e <;> kernel_rfl) ?_
      refine vc_ite (by kernel_rfl) h (fun hc522 h => ?_) (fun hc522 h => ?_)
      · refine vc_seq ?_
        refine vc_regX ⟨[(4, bv ((((List.length r518.1 : Nat) : Int) == 0) && ((!r518.2.1) && (r518.2.2 == r520))))], [], H521⟩ ?_ ?_
        · rcases Bool.eq_false_or_eq_true (((List.length r518.1 : Nat) : Int) == 0) with hc523 | hc526
          · rcases Bool.eq_false_or_eq_true (!r518.2.1) with hc524 | hc525
            · exact ⟨_, (APath.chunk 1 (by rcases hfa509 with ha509e | ⟨_, _, ha509e⟩ <;> subst ha509e <;> kernel_rfl) (APath.one (.val 45 .len [.t 44]) (by kernel_rfl) (st_val (ys := [s_eI64 false r518.1]) (by rcases hfa509 with ha509e | ⟨_, _, ha509e⟩ <;> subst ha509e <;> kernel_rfl) (vexec_len eI64)) (APath.one (.val 46 (.bin .eql) [.t 45, .k (.p (.int .i64 0))]) (by kernel_rfl) (st_bool (c := (((List.length r518.1 : Nat) : Int) == 0)) (by rcases hfa509 with ha509e | ⟨_, _, ha509e⟩ <;> subst ha509e <;> kernel_rfl) hc523) (APath.chunk 2 (by rcases hfa509 with ha509e | ⟨_, _, ha509e⟩ <;> subst ha509e <;> kernel_rfl) (APath.oneG (.val 49 .not [.t 48]) 47 true (by kernel_rfl) (by rcases hfa509 with ha509e | ⟨_, _, ha509e⟩ <;> subst ha509e <;> kernel_rfl) (st_bool (c := (!r518.2.1)) (by rcases hfa509 with ha509e | ⟨_, _, ha509e⟩ <;> subst ha509e <;> kernel_rfl) hc524) (APath.fin (by rcases hfa509 with ha509e | ⟨_, _, ha509e⟩ <;> subst ha509e <;> kernel_rfl))))))), by simp only [hc523, hc524]; rcases hfa509 with ha509e | ⟨_, _, ha509e⟩ <;> subst ha509e <;> kernel_rfl⟩
            · exact ⟨_, (APath.chunk 1 (by rcases hfa509 with ha509e | ⟨_, _, ha509e⟩ <;> subst ha509e <;> kernel_rfl) (APath.one (.val 45 .len [.t 44]) (by kernel_rfl) (st_val (ys := [s_eI64 false r518.1]) (by rcases hfa509 with ha509e | ⟨_, _, ha509e⟩ <;> subst ha509e <;> kernel_rfl) (vexec_len eI64)) (APath.one (.val 46 (.bin .eql) [.t 45, .k (.p (.int .i64 0))]) (by kernel_rfl) (st_bool (c := (((List.length r518.1 : Nat) : Int) == 0)) (by rcases hfa509 with ha509e | ⟨_, _, ha509e⟩ <;> subst ha509e <;> kernel_rfl) hc523) (APath.chunk 2 (by rcases hfa509 with ha509e | ⟨_, _, ha509e⟩ <;> subst ha509e <;> kernel_rfl) (APath.oneG (.val 49 .not [.t 48]) 47 true (by kernel_rfl) (by rcases hfa509 with ha509e | ⟨_, _, ha509e⟩ <;> subst ha509e <;> kernel_rfl) (st_bool (c := (!r518.2.1)) (by rcases hfa509 with ha509e | ⟨_, _, ha509e⟩ <;> subst ha509e <;> kernel_rfl) hc525) (APath.fin (by rcases hfa509 with ha509e | ⟨_, _, ha509e⟩ <;> subst ha509e <;> kernel_rfl))))))), by simp only [hc523, hc525]; rcases hfa509 with ha509e | ⟨_, _, ha509e⟩ <;> subst ha509e <;> kernel_rfl⟩
          · exact ⟨_, (APath.chunk 1 (by rcases hfa509 with ha509e | ⟨_, _, ha509e⟩ <;> subst ha509e <;> kernel_rfl) (APath.one (.val 45 .len [.t 44]) (by kernel_rfl) (st_val (ys := [s_eI64 false r518.1]) (by rcases hfa509 with ha509e | ⟨_, _, ha509e⟩ <;> subst ha509e <;> kernel_rfl) (vexec_len eI64)) (APath.one (.val 46 (.bin .eql) [.t 45, .k (.p (.int .i64 0))]) (by kernel_rfl) (st_bool (c := (((List.length r518.1 : Nat) : Int) == 0)) (by rcases hfa509 with ha509e | ⟨_, _, ha509e⟩ <;> subst ha509e <;> kernel_rfl) hc526) (APath.fin (by rcases hfa509 with ha509e | ⟨_, _, ha509e⟩ <;> subst ha509e <;> kernel_rfl))))), by simp only [hc526]; rcases hfa509 with ha509e | ⟨_, _, ha509e⟩ <;> subst ha509e <;> kernel_rfl⟩
        · refine vc_ret ?_
          obtain rfl := some_inj h
          exact ret_of (by kernel_rfl)
      · refine vc_skip ?_
        refine vc_kp ?_
        refine vc_seq ?_
        obtain ⟨j537, hj, h⟩ := bind_some h
        refine vc_regXR (fun s => ∃ (H536 : List HO), s = ⟨[(4, bv j537)], [], H536⟩ ∧ HP H536 []) ?_ ?_
        · clear h
          rcases ite_some hj with ⟨hc527, hj⟩ | ⟨hc535, hj⟩
          · obtain ⟨r528, hr528, hj⟩ := bind_some hj
            obtain ⟨H529, hzH529, hzH529v, hH⟩ := HP.frz (k := 0) (a := a509) (sz := 1) (frz := true) (eSl 1 eI64) hH rfl
            replace hH : HP H529 [.arr a509 1 true (List.map (eSl 1 eI64) o517)] := hH
            obtain ⟨r530, hr530, hj⟩ := bind_some hj
            rcases ite_some hj with ⟨hc531, hj⟩ | ⟨hc534, hj⟩
            · obtain ⟨r532, hr532, hj⟩ := bind_some hj
              obtain ⟨H533, hzH533, hzH533v, hH⟩ := HP.frz (k := 0) (a := a509) (sz := 1) (frz := true) (eSl 1 eI64) hH rfl
              replace hH : HP H533 [.arr a509 1 true (List.map (eSl 1 eI64) o517)] := hH
              obtain rfl := some_inj hj
              exact ⟨_, (APath.chunk 1 (by rcases hfa509 with ha509e | ⟨_, _, ha509e⟩ <;> subst ha509e <;> kernel_rfl) (APath.one (.val 57 (.bin .eql) [.t 56, .k (.p (.int .i64 0))]) (by kernel_rfl) (st_bool (c := (r518.2.2 == 0)) (by rcases hfa509 with ha509e | ⟨_, _, ha509e⟩ <;> subst ha509e <;> kernel_rfl) hc527) (APath.chunk 4 (by rcases hfa509 with ha509e | ⟨_, _, ha509e⟩ <;> subst ha509e <;> kernel_rfl) (APath.oneG (.call (some 62) 29 [.t 60, .t 61]) 58 true (by kernel_rfl) (by rcases hfa509 with ha509e | ⟨_, _, ha509e⟩ <;> subst ha509e <;> kernel_rfl) (st_callF (H := H521) (ys := [.agg (c_api_Topo r3), a509]) (by rcases hfa509 with ha509e | ⟨_, _, ha509e⟩ <;> subst ha509e <;> kernel_rfl) (by rcases hfa509 with ha509e | ⟨_, _, ha509e⟩ <;> subst ha509e <;> kernel_rfl) (frzL_cons rfl (frzL_cons hzH529v frzL_nil)) (ref21_Ports_ok N r3 o517 r528 hr528)) (APath.oneG (.call (some 63) 21 [.t 59, .t 62]) 58 true (by kernel_rfl) (by rcases hfa509 with ha509e | ⟨_, _, ha509e⟩ <;> subst ha509e <;> kernel_rfl) (st_callB (by rcases hfa509 with ha509e | ⟨_, _, ha509e⟩ <;> subst ha509e <;> kernel_rfl) (slices_Equal__int_int_ok N r518.1 r528 r530 hr530) hc531) (APath.chunk 5 (by rcases hfa509 with ha509e | ⟨_, _, ha509e⟩ <;> subst ha509e <;> kernel_rfl) (APath.oneG (.call (some 69) 30 [.t 67, .t 68]) 65 true (by kernel_rfl) (by rcases hfa509 with ha509e | ⟨_, _, ha509e⟩ <;> subst ha509e <;> kernel_rfl) (st_callF (H := H529) (ys := [.agg (c_api_Topo r3), a509]) (by rcases hfa509 with ha509e | ⟨_, _, ha509e⟩ <;> subst ha509e <;> kernel_rfl) (by rcases hfa509 with ha509e | ⟨_, _, ha509e⟩ <;> subst ha509e <;> kernel_rfl) (frzL_cons rfl (frzL_cons hzH533v frzL_nil)) (ref21_Tree_ok N r3 o517 r532 hr532)) (APath.fin (by rcases hfa509 with ha509e | ⟨_, _, ha509e⟩ <;> subst ha509e <;> kernel_rfl))))))))), ⟨H533, (by show _ = _; rcases hfa509 with ha509e | ⟨_, _, ha509e⟩ <;> subst ha509e <;> kernel_rfl), (HP.pick hH [] rfl)⟩⟩
            · obtain rfl := some_inj hj
              exact ⟨_, (APath.chunk 1 (by rcases hfa509 with ha509e | ⟨_, _, ha509e⟩ <;> subst ha509e <;> kernel_rfl) (APath.one (.val 57 (.bin .eql) [.t 56, .k (.p (.int .i64 0))]) (by kernel_rfl) (st_bool (c := (r518.2.2 == 0)) (by rcases hfa509 with ha509e | ⟨_, _, ha509e⟩ <;> subst ha509e <;> kernel_rfl) hc527) (APath.chunk 4 (by rcases hfa509 with ha509e | ⟨_, _, ha509e⟩ <;> subst ha509e <;> kernel_rfl) (APath.oneG (.call (some 62) 29 [.t 60, .t 61]) 58 true (by kernel_rfl) (by rcases hfa509 with ha509e | ⟨_, _, ha509e⟩ <;> subst ha509e <;> kernel_rfl) (st_callF (H := H521) (ys := [.agg (c_api_Topo r3), a509]) (by rcases hfa509 with ha509e | ⟨_, _, ha509e⟩ <;> subst ha509e <;> kernel_rfl) (by rcases hfa509 with ha509e | ⟨_, _, ha509e⟩ <;> subst ha509e <;> kernel_rfl) (frzL_cons rfl (frzL_cons hzH529v frzL_nil)) (ref21_Ports_ok N r3 o517 r528 hr528)) (APath.oneG (.call (some 63) 21 [.t 59, .t 62]) 58 true (by kernel_rfl) (by rcases hfa509 with ha509e | ⟨_, _, ha509e⟩ <;> subst ha509e <;> kernel_rfl) (st_callB (by rcases hfa509 with ha509e | ⟨_, _, ha509e⟩ <;> subst ha509e <;> kernel_rfl) (slices_Equal__int_int_ok N r518.1 r528 r530 hr530) hc534) (APath.fin (by rcases hfa509 with ha509e | ⟨_, _, ha509e⟩ <;> subst ha509e <;> kernel_rfl))))))), ⟨H529, (by show _ = _; rcases hfa509 with ha509e | ⟨_, _, ha509e⟩ <;> subst ha509e <;> kernel_rfl), (HP.pick hH [] rfl)⟩⟩
          · obtain rfl := some_inj hj
            exact ⟨_, (APath.chunk 1 (by rcases hfa509 with ha509e | ⟨_, _, ha509e⟩ <;> subst ha509e <;> kernel_rfl) (APath.one (.val 57 (.bin .eql) [.t 56, .k (.p (.int .i64 0))]) (by kernel_rfl) (st_bool (c := (r518.2.2 == 0)) (by rcases hfa509 with ha509e | ⟨_, _, ha509e⟩ <;> subst ha509e <;> kernel_rfl) hc535) (APath.fin (by rcases hfa509 with ha509e | ⟨_, _, ha509e⟩ <;> subst ha509e <;> kernel_rfl)))), ⟨H521, (by show _ = _; rcases hfa509 with ha509e | ⟨_, _, ha509e⟩ <;> subst ha509e <;> kernel_rfl), (HP.pick hH [] rfl)⟩⟩
        · clear hj
          rintro s hR
          obtain ⟨H536, rfl, hH⟩ := hR
          replace hH : HP H536 [] := hH
          refine vc_ret ?_
          obtain rfl := some_inj h
          exact ret_of (by kernel_rfl)
end Go.Sh

