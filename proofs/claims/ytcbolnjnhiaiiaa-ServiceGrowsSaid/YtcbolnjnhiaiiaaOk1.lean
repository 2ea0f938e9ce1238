/- The Go functions compute them; written by sym.py. -/
import Derived.Test.YtcbolnjnhiaiiaaSh
import Derived.Test.YtcbolnjnhiaiiaaChk
namespace Go.Sh
open Go Go.Eng Go.Proofs
set_option linter.unusedVariables false
set_option linter.unusedSimpArgs false
set_option maxRecDepth 100000
/- (isochronref30.Draft).Gates -/
theorem ref30_Draft_Gates_ok (N : Nat) (a0_ : ref30_Draft) (r : api_Gates) (h : ref30_Draft_Gates N a0_ = some r) : PCall Try.prog 10 [.agg (c_ref30_Draft a0_)] (.agg [s_e_api_Entry false r.Entries, iv r.Cycle]) := by
  unfold ref30_Draft_Gates at h
  have hH : HP ([] : List HO) [] := trivial
  refine pcall_of chk10 rfl rfl (vc_sound _ _ _ ?_) rfl
  refine vc_seq ?_
  refine vc_reg (S := ⟨[(1, .loc 1 0), (2, .loc 2 0)], [(1, (c_ref30_Draft a0_)), (2, [s_e_api_Entry true [], iv 0])], []⟩) (APath.fin (by kernel_rfl)) (by kernel_rfl) ?_
  refine vc_seq ?_
  refine vc_reg (S := ⟨[(1, .loc 1 0), (2, .loc 2 0), (3, .loc 3 0)], [(1, (c_ref30_Draft a0_)), (2, [s_e_api_Entry true [], iv 0]), (3, [s_e_api_Entry true [], iv 0])], []⟩) (APath.fin (by kernel_rfl)) (by kernel_rfl) ?_
  refine vc_seq ?_
  refine vc_seq ?_
  refine vc_reg (S := ⟨[(1, .loc 1 0), (2, .loc 2 0), (3, .loc 3 0), (4, iv 0)], [(1, (c_ref30_Draft a0_)), (2, [s_e_api_Entry true [], iv 0]), (3, [s_e_api_Entry true [], iv 0])], []⟩) (APath.fin (by kernel_rfl)) (by kernel_rfl) ?_
  refine vc_block ?_
  obtain ⟨o1519, ho1519, h⟩ := bind_some h
  refine vc_loop ((loop_sim (fun (x : Int × Int × (List api_Entry)) s => ∃ (a1 : AV) (H2 : List HO), s = ⟨[(1, .loc 1 0), (2, .loc 2 0), (3, .loc 3 0), (4, iv x.1)], [(1, (c_ref30_Draft a0_)), (2, [s_e_api_Entry true [], iv 0]), (3, [a1, iv x.2.1])], H2⟩ ∧ HP H2 [.arr a1 2 false (List.map e_api_Entry x.2.2)]) (fun x : Int × Int × (List api_Entry) => ref30_Draft_Gates_L1 N a0_ x.1 x.2.1 x.2.2) (fun (p : Int × Int × (List api_Entry)) e s => e = .exit 0 ∧ (∃ (a506 : AV) (H507 : List HO), s = ⟨[(1, .loc 1 0), (2, .loc 2 0), (3, .loc 3 0), (4, iv p.1)], [(1, (c_ref30_Draft a0_)), (2, [s_e_api_Entry true [], iv 0]), (3, [a506, iv p.2.1])], H507⟩ ∧ HP H507 [.arr a506 2 false (List.map e_api_Entry p.2.2)])) ?_ N _ o1519 _ ho1519 ⟨(.p (.sl 2 true [])), [], (by show _ = _; kernel_rfl), (HP.pick (HP.nilArr hH 2 false) [0] rfl)⟩).mono ?_)
  · clear h ho1519
    rintro ⟨i3, i4, l5⟩ o s h hR
    obtain ⟨a1, H2, rfl, hH⟩ := hR
    replace hH : HP H2 [.arr a1 2 false (List.map e_api_Entry l5)] := hH
    have hfa1 := own_form (HP.get hH 0 rfl)
    replace h : ref30_Draft_Gates_L1 N a0_ i3 i4 l5 = some o := h
    unfold ref30_Draft_Gates_L1 at h
    refine vc_seq ?_
    refine vc_seq ?_
    refine vc_reg (S := ⟨[(1, .loc 1 0), (2, .loc 2 0), (3, .loc 3 0), (4, iv i3), (12, bv (decide (i3 < (if (if 10 < ((List.length a0_.Masks : Nat) : Int) then 10 else ((List.length a0_.Masks : Nat) : Int)) > 1 then (if 10 < ((List.length a0_.Masks : Nat) : Int) then 10 else ((List.length a0_.Masks : Nat) : Int)) else 1))))], [(1, (c_ref30_Draft a0_)), (2, [s_e_api_Entry true [], iv 0]), (3, [a1, iv i4])], H2⟩) (APath.chunk 3 (by rcases hfa1 with ha1e | ⟨_, _, ha1e⟩ <;> subst ha1e <;> kernel_rfl) (APath.one (.val 9 .len [.t 8]) (by kernel_rfl) (st_val (ys := [s_eI_u8 false a0_.Masks]) (by rcases hfa1 with ha1e | ⟨_, _, ha1e⟩ <;> subst ha1e <;> kernel_rfl) (vexec_len (eI .u8))) (APath.fin (by rcases hfa1 with ha1e | ⟨_, _, ha1e⟩ <;> subst ha1e <;> kernel_rfl)))) (by rcases hfa1 with ha1e | ⟨_, _, ha1e⟩ <;> subst ha1e <;> kernel_rfl) ?_
    refine vc_ite (by kernel_rfl) h (fun hc508 h => ?_) (fun hc508 h => ?_)
    · refine vc_skip ?_
      refine vc_kp ?_
      refine vc_seq ?_
      refine vc_block ?_
      refine vc_seq ?_
      refine vc_reg (S := ⟨[(1, .loc 1 0), (2, .loc 2 0), (3, .loc 3 0), (4, iv i3), (5, .loc 5 0)], [(1, (c_ref30_Draft a0_)), (2, [s_e_api_Entry true [], iv 0]), (3, [a1, iv i4]), (5, [iv 127, iv 1])], H2⟩) (APath.fin (by rcases hfa1 with ha1e | ⟨_, _, ha1e⟩ <;> subst ha1e <;> kernel_rfl)) (by rcases hfa1 with ha1e | ⟨_, _, ha1e⟩ <;> subst ha1e <;> kernel_rfl) ?_
      obtain ⟨j1009, hj1009, h⟩ := bind_some h
      refine vc_joinK [1, 2, 3, 4, 5] (fun s => s = ⟨[(1, .loc 1 0), (2, .loc 2 0), (3, .loc 3 0), (4, iv i3), (5, .loc 5 0)], [(1, (c_ref30_Draft a0_)), (2, [s_e_api_Entry true [], iv 0]), (3, [a1, iv i4]), (5, [iv j1009, iv 1])], H2⟩) ?_ ?_
      · clear h
        have h := hj1009
        refine vc_seq ?_
        refine vc_reg (S := ⟨[(1, .loc 1 0), (2, .loc 2 0), (3, .loc 3 0), (4, iv i3), (5, .loc 5 0), (20, bv (decide (i3 < ((List.length a0_.Masks : Nat) : Int))))], [(1, (c_ref30_Draft a0_)), (2, [s_e_api_Entry true [], iv 0]), (3, [a1, iv i4]), (5, [iv 127, iv 1])], H2⟩) (APath.chunk 3 (by rcases hfa1 with ha1e | ⟨_, _, ha1e⟩ <;> subst ha1e <;> kernel_rfl) (APath.one (.val 19 .len [.t 18]) (by kernel_rfl) (st_val (ys := [s_eI_u8 false a0_.Masks]) (by rcases hfa1 with ha1e | ⟨_, _, ha1e⟩ <;> subst ha1e <;> kernel_rfl) (vexec_len (eI .u8))) (APath.fin (by rcases hfa1 with ha1e | ⟨_, _, ha1e⟩ <;> subst ha1e <;> kernel_rfl)))) (by rcases hfa1 with ha1e | ⟨_, _, ha1e⟩ <;> subst ha1e <;> kernel_rfl) ?_
        refine vc_ite (by kernel_rfl) h (fun hc1010 h => ?_) (fun hc1010 h => ?_)
        · obtain ⟨e1011, he1011, h⟩ := bind_some h
          obtain ⟨e1012, he1012, h⟩ := bind_some h
          refine vc_reg (S := ⟨[(1, .loc 1 0), (2, .loc 2 0), (3, .loc 3 0), (4, iv i3), (5, .loc 5 0)], [(1, (c_ref30_Draft a0_)), (2, [s_e_api_Entry true [], iv 0]), (3, [a1, iv i4]), (5, [iv e1012, iv 1])], H2⟩) (APath.chunk 4 (by rcases hfa1 with ha1e | ⟨_, _, ha1e⟩ <;> subst ha1e <;> kernel_rfl) (APath.one (.val 25 (.iaddrS 1) [.t 23, .t 24]) (by kernel_rfl) (st_val (ys := [s_eI_u8 false a0_.Masks, iv i3]) (by rcases hfa1 with ha1e | ⟨_, _, ha1e⟩ <;> subst ha1e <;> kernel_rfl) (vexec_iaddrS (eI .u8) he1011)) (APath.one (.load 26 (.t 25) 1 false) (by kernel_rfl) (st_loadP (sz := 1) (off := 0) (cs := [.int .u8 e1011]) (r := .p (.int .u8 e1011)) (eI .u8) he1011 (by rcases hfa1 with ha1e | ⟨_, _, ha1e⟩ <;> subst ha1e <;> kernel_rfl) (by rcases hfa1 with ha1e | ⟨_, _, ha1e⟩ <;> subst ha1e <;> kernel_rfl) (by rcases hfa1 with ha1e | ⟨_, _, ha1e⟩ <;> subst ha1e <;> kernel_rfl)) (APath.chunk 1 (by rcases hfa1 with ha1e | ⟨_, _, ha1e⟩ <;> subst ha1e <;> kernel_rfl) (APath.one (.val 28 (.iaddrS 1) [.t 21, .t 27]) (by kernel_rfl) (st_val (ys := [s_eI64 true [128, 127, 127, 64, 255, 63], .p (.int .u8 (Int.tmod e1011 6))]) (by rcases hfa1 with ha1e | ⟨_, _, ha1e⟩ <;> subst ha1e <;> kernel_rfl) (vexec_iaddrS eI64 he1012)) (APath.one (.load 29 (.t 28) 1 false) (by kernel_rfl) (st_loadP (sz := 1) (off := 0) (cs := [.int .i64 e1012]) (r := iv e1012) eI64 he1012 (by rcases hfa1 with ha1e | ⟨_, _, ha1e⟩ <;> subst ha1e <;> kernel_rfl) (by rcases hfa1 with ha1e | ⟨_, _, ha1e⟩ <;> subst ha1e <;> kernel_rfl) (by rcases hfa1 with ha1e | ⟨_, _, ha1e⟩ <;> subst ha1e <;> kernel_rfl)) (APath.fin (by rcases hfa1 with ha1e | ⟨_, _, ha1e⟩ <;> subst ha1e <;> kernel_rfl)))))))) (by rcases hfa1 with ha1e | ⟨_, _, ha1e⟩ <;> subst ha1e <;> kernel_rfl) ?_
          obtain rfl := some_inj h
          exact ⟨rfl, (by show _ = _; rcases hfa1 with ha1e | ⟨_, _, ha1e⟩ <;> subst ha1e <;> kernel_rfl)⟩
        · refine vc_skip ?_
          obtain rfl := some_inj h
          exact ⟨rfl, (by show _ = _; rcases hfa1 with ha1e | ⟨_, _, ha1e⟩ <;> subst ha1e <;> kernel_rfl)⟩
      · clear hj1009
        rintro s hR
        obtain rfl := hR
        obtain ⟨j1513, hj1513, h⟩ := bind_some h
        refine vc_joinK [1, 2, 3, 4, 5] (fun s => s = ⟨[(1, .loc 1 0), (2, .loc 2 0), (3, .loc 3 0), (4, iv i3), (5, .loc 5 0)], [(1, (c_ref30_Draft a0_)), (2, [s_e_api_Entry true [], iv 0]), (3, [a1, iv i4]), (5, [iv j1009, iv j1513])], H2⟩) ?_ ?_
        · clear h
          have h := hj1513
          refine vc_seq ?_
          refine vc_reg (S := ⟨[(1, .loc 1 0), (2, .loc 2 0), (3, .loc 3 0), (4, iv i3), (5, .loc 5 0), (35, bv (decide (i3 < ((List.length a0_.Longs : Nat) : Int))))], [(1, (c_ref30_Draft a0_)), (2, [s_e_api_Entry true [], iv 0]), (3, [a1, iv i4]), (5, [iv j1009, iv 1])], H2⟩) (APath.chunk 3 (by rcases hfa1 with ha1e | ⟨_, _, ha1e⟩ <;> subst ha1e <;> kernel_rfl) (APath.one (.val 34 .len [.t 33]) (by kernel_rfl) (st_val (ys := [s_eI_u8 false a0_.Longs]) (by rcases hfa1 with ha1e | ⟨_, _, ha1e⟩ <;> subst ha1e <;> kernel_rfl) (vexec_len (eI .u8))) (APath.fin (by rcases hfa1 with ha1e | ⟨_, _, ha1e⟩ <;> subst ha1e <;> kernel_rfl)))) (by rcases hfa1 with ha1e | ⟨_, _, ha1e⟩ <;> subst ha1e <;> kernel_rfl) ?_
          refine vc_ite (by kernel_rfl) h (fun hc1514 h => ?_) (fun hc1514 h => ?_)
          · obtain ⟨e1515, he1515, h⟩ := bind_some h
            refine vc_reg (S := ⟨[(1, .loc 1 0), (2, .loc 2 0), (3, .loc 3 0), (4, iv i3), (5, .loc 5 0)], [(1, (c_ref30_Draft a0_)), (2, [s_e_api_Entry true [], iv 0]), (3, [a1, iv i4]), (5, [iv j1009, iv (w64 (1 + (w64 (4 * (w64 (e1515))))))])], H2⟩) (APath.chunk 3 (by rcases hfa1 with ha1e | ⟨_, _, ha1e⟩ <;> subst ha1e <;> kernel_rfl) (APath.one (.val 39 (.iaddrS 1) [.t 37, .t 38]) (by kernel_rfl) (st_val (ys := [s_eI_u8 false a0_.Longs, iv i3]) (by rcases hfa1 with ha1e | ⟨_, _, ha1e⟩ <;> subst ha1e <;> kernel_rfl) (vexec_iaddrS (eI .u8) he1515)) (APath.one (.load 40 (.t 39) 1 false) (by kernel_rfl) (st_loadP (sz := 1) (off := 0) (cs := [.int .u8 e1515]) (r := .p (.int .u8 e1515)) (eI .u8) he1515 (by rcases hfa1 with ha1e | ⟨_, _, ha1e⟩ <;> subst ha1e <;> kernel_rfl) (by rcases hfa1 with ha1e | ⟨_, _, ha1e⟩ <;> subst ha1e <;> kernel_rfl) (by rcases hfa1 with ha1e | ⟨_, _, ha1e⟩ <;> subst ha1e <;> kernel_rfl)) (APath.fin (by rcases hfa1 with ha1e | ⟨_, _, ha1e⟩ <;> subst ha1e <;> kernel_rfl))))) (by rcases hfa1 with ha1e | ⟨_, _, ha1e⟩ <;> subst ha1e <;> kernel_rfl) ?_
            obtain rfl := some_inj h
            exact ⟨rfl, (by show _ = _; rcases hfa1 with ha1e | ⟨_, _, ha1e⟩ <;> subst ha1e <;> kernel_rfl)⟩
          · refine vc_skip ?_
            obtain rfl := some_inj h
            exact ⟨rfl, (by show _ = _; rcases hfa1 with ha1e | ⟨_, _, ha1e⟩ <;> subst ha1e <;> kernel_rfl)⟩
        · clear hj1513
          rintro s hR
          obtain rfl := hR
          refine vc_seq ?_
          obtain ⟨l1518, hl1518, h⟩ := bind_some h
          obtain ⟨a1516, H1517, ha1516, hH⟩ := HP.app (k := 0) (a := a1) (sz := 2) (frz := false) e_api_Entry hH rfl hl1518
          replace hH : HP H1517 [.arr a1516 2 false (List.map e_api_Entry l1518)] := hH
          have hfa1516 := own_form (HP.get hH 0 rfl)
          refine vc_reg (S := ⟨[(1, .loc 1 0), (2, .loc 2 0), (3, .loc 3 0), (4, iv i3), (5, .loc 5 0)], [(1, (c_ref30_Draft a0_)), (2, [s_e_api_Entry true [], iv 0]), (3, [a1516, iv i4]), (5, [iv j1009, iv j1513])], H1517⟩) (APath.chunk 4 (by rcases hfa1 with ha1e | ⟨_, _, ha1e⟩ <;> rcases hfa1516 with ha1516e | ⟨_, _, ha1516e⟩ <;> subst ha1e ha1516e <;> kernel_rfl) (APath.one (.app 49 (.t 46) (.t 48) 2 16) (by kernel_rfl) (st_app (H := H2) (a := a1) (b := s_e_api_Entry true [(api_Entry.mk j1009 j1513)]) (by rcases hfa1 with ha1e | ⟨_, _, ha1e⟩ <;> rcases hfa1516 with ha1516e | ⟨_, _, ha1516e⟩ <;> subst ha1e ha1516e <;> kernel_rfl) (by rcases hfa1 with ha1e | ⟨_, _, ha1e⟩ <;> rcases hfa1516 with ha1516e | ⟨_, _, ha1516e⟩ <;> subst ha1e ha1516e <;> kernel_rfl) (by rcases hfa1 with ha1e | ⟨_, _, ha1e⟩ <;> rcases hfa1516 with ha1516e | ⟨_, _, ha1516e⟩ <;> subst ha1e ha1516e <;> kernel_rfl) (by rcases hfa1 with ha1e | ⟨_, _, ha1e⟩ <;> rcases hfa1516 with ha1516e | ⟨_, _, ha1516e⟩ <;> subst ha1e ha1516e <;> kernel_rfl) ha1516) (APath.fin (by rcases hfa1 with ha1e | ⟨_, _, ha1e⟩ <;> rcases hfa1516 with ha1516e | ⟨_, _, ha1516e⟩ <;> subst ha1e ha1516e <;> kernel_rfl)))) (by rcases hfa1 with ha1e | ⟨_, _, ha1e⟩ <;> rcases hfa1516 with ha1516e | ⟨_, _, ha1516e⟩ <;> subst ha1e ha1516e <;> kernel_rfl) ?_
          refine vc_reg (S := ⟨[(1, .loc 1 0), (2, .loc 2 0), (3, .loc 3 0), (4, iv i3)], [(1, (c_ref30_Draft a0_)), (2, [s_e_api_Entry true [], iv 0]), (3, [a1516, iv (w64 (i4 + j1513))])], H1517⟩) (APath.fin (by rcases hfa1516 with ha1516e | ⟨_, _, ha1516e⟩ <;> subst ha1516e <;> kernel_rfl)) (by rcases hfa1516 with ha1516e | ⟨_, _, ha1516e⟩ <;> subst ha1516e <;> kernel_rfl) ?_
          refine vc_kp ?_
          refine vc_reg (S := ⟨[(1, .loc 1 0), (2, .loc 2 0), (3, .loc 3 0), (4, iv (w64 (i3 + 1)))], [(1, (c_ref30_Draft a0_)), (2, [s_e_api_Entry true [], iv 0]), (3, [a1516, iv (w64 (i4 + j1513))])], H1517⟩) (APath.fin (by rcases hfa1516 with ha1516e | ⟨_, _, ha1516e⟩ <;> subst ha1516e <;> kernel_rfl)) (by rcases hfa1516 with ha1516e | ⟨_, _, ha1516e⟩ <;> subst ha1516e <;> kernel_rfl) ?_
          obtain rfl := some_inj h
          exact ⟨_, rfl, ⟨a1516, H1517, (by show _ = _; rcases hfa1516 with ha1516e | ⟨_, _, ha1516e⟩ <;> subst ha1516e <;> kernel_rfl), (HP.pick hH [0] rfl)⟩⟩
    · refine vc_exit ?_
      try show vc _ _ _ _ _
      obtain rfl := some_inj h
      exact ⟨_, rfl, rfl, ⟨a1, H2, (by show _ = _; rcases hfa1 with ha1e | ⟨_, _, ha1e⟩ <;> subst ha1e <;> kernel_rfl), (HP.pick hH [0] rfl)⟩⟩
  · rintro e s hq
    obtain ⟨rfl, hR⟩ := hq
    obtain ⟨a506, H507, rfl, hH⟩ := hR
    replace hH : HP H507 [.arr a506 2 false (List.map e_api_Entry o1519.2.2)] := hH
    have hfa506 := own_form (HP.get hH 0 rfl)
    try show vc _ _ _ _ _
    refine vc_seq ?_
    refine vc_reg (S := ⟨[(2, .loc 2 0)], [(2, [a506, iv o1519.2.1])], H507⟩) (APath.fin (by rcases hfa506 with ha506e | ⟨_, _, ha506e⟩ <;> subst ha506e <;> kernel_rfl)) (by rcases hfa506 with ha506e | ⟨_, _, ha506e⟩ <;> subst ha506e <;> kernel_rfl) ?_
    refine vc_ret ?_
    obtain rfl := some_inj h
    exact ret_own (H := H507) (ys := [.agg [a506, iv o1519.2.1]]) (xs := [.agg [.p (.sl 2 false (List.map e_api_Entry o1519.2.2)), iv o1519.2.1]]) (by rcases hfa506 with ha506e | ⟨_, _, ha506e⟩ <;> subst ha506e <;> kernel_rfl) (by rcases hfa506 with ha506e | ⟨_, _, ha506e⟩ <;> subst ha506e <;> kernel_rfl) (pureVL_cons (pureV_agg (pureL_cons (HP.pure (k := 0) (frz := false) e_api_Entry hH rfl).1 (pureL_cons rfl pureL_nil))) pureVL_nil) (by kernel_rfl)
/- isochronlaw30.few -/
theorem law30_few_ok (N : Nat) (a0_ : api_Gates) (r : api_Gates) (h : law30_few N a0_ = some r) : PCall Try.prog 11 [.agg (c_api_Gates a0_)] (.agg [s_e_api_Entry false r.Entries, iv r.Cycle]) := by
  unfold law30_few at h
  have hH : HP ([] : List HO) [] := trivial
  refine pcall_of chk11 rfl rfl (vc_sound _ _ _ ?_) rfl
  refine vc_seq ?_
  refine vc_reg (S := ⟨[(1, .loc 1 0), (2, .loc 2 0)], [(1, (c_api_Gates a0_)), (2, [s_e_api_Entry true [], iv 0])], []⟩) (APath.fin (by kernel_rfl)) (by kernel_rfl) ?_
  refine vc_seq ?_
  obtain ⟨l1, hl1, h⟩ := bind_some h
  refine vc_reg (S := ⟨[(1, .loc 1 0), (2, .loc 2 0)], [(1, [s_e_api_Entry false l1, iv a0_.Cycle]), (2, [s_e_api_Entry true [], iv 0])], []⟩) (APath.chunk 4 (by kernel_rfl) (APath.one (.val 7 .len [.t 6]) (by kernel_rfl) (st_val (ys := [s_e_api_Entry false a0_.Entries]) (by kernel_rfl) (vexec_len e_api_Entry)) (APath.chunk 1 (by kernel_rfl) (APath.one (.val 9 (.slice 2 false true false) [.t 4, .t 8]) (by kernel_rfl) (st_val (ys := [s_e_api_Entry false a0_.Entries, iv (if 130 < ((List.length a0_.Entries : Nat) : Int) then 130 else ((List.length a0_.Entries : Nat) : Int))]) (by kernel_rfl) (vexec_sliceHi e_api_Entry hl1)) (APath.fin (by kernel_rfl)))))) (by kernel_rfl) ?_
  refine vc_seq ?_
  refine vc_reg (S := ⟨[(2, .loc 2 0)], [(2, [s_e_api_Entry false l1, iv a0_.Cycle])], []⟩) (APath.fin (by kernel_rfl)) (by kernel_rfl) ?_
  refine vc_ret ?_
  obtain rfl := some_inj h
  exact ret_of (by kernel_rfl)
/- isochronlaw30.list -/
theorem law30_list_ok (N : Nat) (a0_ : (List Int)) (r : api_Gates) (h : law30_list N a0_ = some r) : PCall Try.prog 19 [s_eI64 false a0_] (.agg [s_e_api_Entry false r.Entries, iv r.Cycle]) := by
  unfold law30_list at h
  have hH : HP ([] : List HO) [] := trivial
  refine pcall_of chk19 rfl rfl (vc_sound _ _ _ ?_) rfl
  refine vc_seq ?_
  refine vc_reg (S := ⟨[(0, s_eI64 false a0_), (2, .loc 2 0)], [(2, [s_e_api_Entry true [], iv 0])], []⟩) (APath.fin (by kernel_rfl)) (by kernel_rfl) ?_
  refine vc_seq ?_
  refine vc_reg (S := ⟨[(0, s_eI64 false a0_), (2, .loc 2 0), (3, .loc 3 0)], [(2, [s_e_api_Entry true [], iv 0]), (3, [s_e_api_Entry true [], iv 0])], []⟩) (APath.fin (by kernel_rfl)) (by kernel_rfl) ?_
  refine vc_seq ?_
  refine vc_seq ?_
  refine vc_reg (S := ⟨[(0, s_eI64 false a0_), (2, .loc 2 0), (3, .loc 3 0), (4, iv 0)], [(2, [s_e_api_Entry true [], iv 0]), (3, [s_e_api_Entry true [], iv 0])], []⟩) (APath.fin (by kernel_rfl)) (by kernel_rfl) ?_
  refine vc_block ?_
  obtain ⟨o515, ho515, h⟩ := bind_some h
  refine vc_loop ((loop_sim (fun (x : Int × Int × (List api_Entry)) s => ∃ (a1 : AV) (H2 : List HO), s = ⟨[(0, s_eI64 false a0_), (2, .loc 2 0), (3, .loc 3 0), (4, iv x.1)], [(2, [s_e_api_Entry true [], iv 0]), (3, [a1, iv x.2.1])], H2⟩ ∧ HP H2 [.arr a1 2 false (List.map e_api_Entry x.2.2)]) (fun x : Int × Int × (List api_Entry) => law30_list_L1 N a0_ x.1 x.2.1 x.2.2) (fun (p : Int × Int × (List api_Entry)) e s => e = .exit 0 ∧ (∃ (a506 : AV) (H507 : List HO), s = ⟨[(0, s_eI64 false a0_), (2, .loc 2 0), (3, .loc 3 0), (4, iv p.1)], [(2, [s_e_api_Entry true [], iv 0]), (3, [a506, iv p.2.1])], H507⟩ ∧ HP H507 [.arr a506 2 false (List.map e_api_Entry p.2.2)])) ?_ N _ o515 _ ho515 ⟨(.p (.sl 2 true [])), [], (by show _ = _; kernel_rfl), (HP.pick (HP.nilArr hH 2 false) [0] rfl)⟩).mono ?_)
  · clear h ho515
    rintro ⟨i3, i4, l5⟩ o s h hR
    obtain ⟨a1, H2, rfl, hH⟩ := hR
    replace hH : HP H2 [.arr a1 2 false (List.map e_api_Entry l5)] := hH
    have hfa1 := own_form (HP.get hH 0 rfl)
    replace h : law30_list_L1 N a0_ i3 i4 l5 = some o := h
    unfold law30_list_L1 at h
    refine vc_seq ?_
    refine vc_seq ?_
    refine vc_reg (S := ⟨[(0, s_eI64 false a0_), (2, .loc 2 0), (3, .loc 3 0), (4, iv i3), (9, bv (decide ((w64 (i3 + 1)) < ((List.length a0_ : Nat) : Int))))], [(2, [s_e_api_Entry true [], iv 0]), (3, [a1, iv i4])], H2⟩) (APath.chunk 3 (by rcases hfa1 with ha1e | ⟨_, _, ha1e⟩ <;> subst ha1e <;> kernel_rfl) (APath.one (.val 8 .len [.t 7]) (by kernel_rfl) (st_val (ys := [s_eI64 false a0_]) (by rcases hfa1 with ha1e | ⟨_, _, ha1e⟩ <;> subst ha1e <;> kernel_rfl) (vexec_len eI64)) (APath.fin (by rcases hfa1 with ha1e | ⟨_, _, ha1e⟩ <;> subst ha1e <;> kernel_rfl)))) (by rcases hfa1 with ha1e | ⟨_, _, ha1e⟩ <;> subst ha1e <;> kernel_rfl) ?_
    refine vc_ite (by kernel_rfl) h (fun hc508 h => ?_) (fun hc508 h => ?_)
    · refine vc_skip ?_
      refine vc_kp ?_
      refine vc_seq ?_
      refine vc_block ?_
      refine vc_seq ?_
      obtain ⟨e509, he509, h⟩ := bind_some h
      obtain ⟨e510, he510, h⟩ := bind_some h
      obtain ⟨l513, hl513, h⟩ := bind_some h
      obtain ⟨a511, H512, ha511, hH⟩ := HP.app (k := 0) (a := a1) (sz := 2) (frz := false) e_api_Entry hH rfl hl513
      replace hH : HP H512 [.arr a511 2 false (List.map e_api_Entry l513)] := hH
      have hfa511 := own_form (HP.get hH 0 rfl)
      refine vc_regD (S := ⟨[(0, s_eI64 false a0_), (2, .loc 2 0), (3, .loc 3 0), (4, iv i3)], [(2, [s_e_api_Entry true [], iv 0]), (3, [a511, iv i4])], H512⟩) (by rcases hfa1 with ha1e | ⟨_, _, ha1e⟩ <;> subst ha1e <;> kernel_rfl) (APath.chunk 4 (by rcases hfa1 with ha1e | ⟨_, _, ha1e⟩ <;> rcases hfa511 with ha511e | ⟨_, _, ha511e⟩ <;> subst ha1e ha511e <;> kernel_rfl) (APath.one (.val 16 (.iaddrS 1) [.t 14, .t 15]) (by kernel_rfl) (st_val (ys := [s_eI64 false a0_, iv i3]) (by rcases hfa1 with ha1e | ⟨_, _, ha1e⟩ <;> rcases hfa511 with ha511e | ⟨_, _, ha511e⟩ <;> subst ha1e ha511e <;> kernel_rfl) (vexec_iaddrS eI64 he509)) (APath.one (.load 17 (.t 16) 1 false) (by kernel_rfl) (st_loadP (sz := 1) (off := 0) (cs := [.int .i64 e509]) (r := iv e509) eI64 he509 (by rcases hfa1 with ha1e | ⟨_, _, ha1e⟩ <;> rcases hfa511 with ha511e | ⟨_, _, ha511e⟩ <;> subst ha1e ha511e <;> kernel_rfl) (by rcases hfa1 with ha1e | ⟨_, _, ha1e⟩ <;> rcases hfa511 with ha511e | ⟨_, _, ha511e⟩ <;> subst ha1e ha511e <;> kernel_rfl) (by rcases hfa1 with ha1e | ⟨_, _, ha1e⟩ <;> rcases hfa511 with ha511e | ⟨_, _, ha511e⟩ <;> subst ha1e ha511e <;> kernel_rfl)) (APath.chunk 3 (by rcases hfa1 with ha1e | ⟨_, _, ha1e⟩ <;> rcases hfa511 with ha511e | ⟨_, _, ha511e⟩ <;> subst ha1e ha511e <;> kernel_rfl) (APath.one (.val 21 (.iaddrS 1) [.t 18, .t 20]) (by kernel_rfl) (st_val (ys := [s_eI64 false a0_, iv (w64 (i3 + 1))]) (by rcases hfa1 with ha1e | ⟨_, _, ha1e⟩ <;> rcases hfa511 with ha511e | ⟨_, _, ha511e⟩ <;> subst ha1e ha511e <;> kernel_rfl) (vexec_iaddrS eI64 he510)) (APath.one (.load 22 (.t 21) 1 false) (by kernel_rfl) (st_loadP (sz := 1) (off := 0) (cs := [.int .i64 e510]) (r := iv e510) eI64 he510 (by rcases hfa1 with ha1e | ⟨_, _, ha1e⟩ <;> rcases hfa511 with ha511e | ⟨_, _, ha511e⟩ <;> subst ha1e ha511e <;> kernel_rfl) (by rcases hfa1 with ha1e | ⟨_, _, ha1e⟩ <;> rcases hfa511 with ha511e | ⟨_, _, ha511e⟩ <;> subst ha1e ha511e <;> kernel_rfl) (by rcases hfa1 with ha1e | ⟨_, _, ha1e⟩ <;> rcases hfa511 with ha511e | ⟨_, _, ha511e⟩ <;> subst ha1e ha511e <;> kernel_rfl)) (APath.chunk 2 (by rcases hfa1 with ha1e | ⟨_, _, ha1e⟩ <;> rcases hfa511 with ha511e | ⟨_, _, ha511e⟩ <;> subst ha1e ha511e <;> kernel_rfl) (APath.one (.app 25 (.t 13) (.t 24) 2 16) (by kernel_rfl) (st_app (H := H2) (a := a1) (b := s_e_api_Entry true [(api_Entry.mk e509 e510)]) (by rcases hfa1 with ha1e | ⟨_, _, ha1e⟩ <;> rcases hfa511 with ha511e | ⟨_, _, ha511e⟩ <;> subst ha1e ha511e <;> kernel_rfl) (by rcases hfa1 with ha1e | ⟨_, _, ha1e⟩ <;> rcases hfa511 with ha511e | ⟨_, _, ha511e⟩ <;> subst ha1e ha511e <;> kernel_rfl) (by rcases hfa1 with ha1e | ⟨_, _, ha1e⟩ <;> rcases hfa511 with ha511e | ⟨_, _, ha511e⟩ <;> subst ha1e ha511e <;> kernel_rfl) (by rcases hfa1 with ha1e | ⟨_, _, ha1e⟩ <;> rcases hfa511 with ha511e | ⟨_, _, ha511e⟩ <;> subst ha1e ha511e <;> kernel_rfl) ha511) (APath.fin (by rcases hfa1 with ha1e | ⟨_, _, ha1e⟩ <;> rcases hfa511 with ha511e | ⟨_, _, ha511e⟩ <;> subst ha1e ha511e <;> kernel_rfl)))))))))) (by rcases hfa1 with ha1e | ⟨_, _, ha1e⟩ <;> rcases hfa511 with ha511e | ⟨_, _, ha511e⟩ <;> subst ha1e ha511e <;> kernel_rfl) ?_
      obtain ⟨e514, he514, h⟩ := bind_some h
      refine vc_regD (S := ⟨[(0, s_eI64 false a0_), (2, .loc 2 0), (3, .loc 3 0), (4, iv i3)], [(2, [s_e_api_Entry true [], iv 0]), (3, [a511, iv (w64 (i4 + e514))])], H512⟩) (by rcases hfa511 with ha511e | ⟨_, _, ha511e⟩ <;> subst ha511e <;> kernel_rfl) (APath.chunk 5 (by rcases hfa511 with ha511e | ⟨_, _, ha511e⟩ <;> subst ha511e <;> kernel_rfl) (APath.one (.val 32 (.iaddrS 1) [.t 29, .t 31]) (by kernel_rfl) (st_val (ys := [s_eI64 false a0_, iv (w64 (i3 + 1))]) (by rcases hfa511 with ha511e | ⟨_, _, ha511e⟩ <;> subst ha511e <;> kernel_rfl) (vexec_iaddrS eI64 he514)) (APath.one (.load 33 (.t 32) 1 false) (by kernel_rfl) (st_loadP (sz := 1) (off := 0) (cs := [.int .i64 e514]) (r := iv e514) eI64 he514 (by rcases hfa511 with ha511e | ⟨_, _, ha511e⟩ <;> subst ha511e <;> kernel_rfl) (by rcases hfa511 with ha511e | ⟨_, _, ha511e⟩ <;> subst ha511e <;> kernel_rfl) (by rcases hfa511 with ha511e | ⟨_, _, ha511e⟩ <;> subst ha511e <;> kernel_rfl)) (APath.fin (by rcases hfa511 with ha511e | ⟨_, _, ha511e⟩ <;> subst ha511e <;> kernel_rfl))))) (by rcases hfa511 with ha511e | ⟨_, _, ha511e⟩ <;> subst ha511e <;> kernel_rfl) ?_
      refine vc_reg (S := ⟨[(0, s_eI64 false a0_), (2, .loc 2 0), (3, .loc 3 0), (4, iv (w64 (i3 + 2)))], [(2, [s_e_api_Entry true [], iv 0]), (3, [a511, iv (w64 (i4 + e514))])], H512⟩) (APath.fin (by rcases hfa511 with ha511e | ⟨_, _, ha511e⟩ <;> subst ha511e <;> kernel_rfl)) (by rcases hfa511 with ha511e | ⟨_, _, ha511e⟩ <;> subst ha511e <;> kernel_rfl) ?_
      obtain rfl := some_inj h
      exact ⟨_, rfl, ⟨a511, H512, (by show _ = _; rcases hfa511 with ha511e | ⟨_, _, ha511e⟩ <;> subst ha511e <;> kernel_rfl), (HP.pick hH [0] rfl)⟩⟩
    · refine vc_exit ?_
      try show vc _ _ _ _ _
      obtain rfl := some_inj h
      exact ⟨_, rfl, rfl, ⟨a1, H2, (by show _ = _; rcases hfa1 with ha1e | ⟨_, _, ha1e⟩ <;> subst ha1e <;> kernel_rfl), (HP.pick hH [0] rfl)⟩⟩
  · rintro e s hq
    obtain ⟨rfl, hR⟩ := hq
    obtain ⟨a506, H507, rfl, hH⟩ := hR
    replace hH : HP H507 [.arr a506 2 false (List.map e_api_Entry o515.2.2)] := hH
    have hfa506 := own_form (HP.get hH 0 rfl)
    try show vc _ _ _ _ _
    refine vc_seq ?_
    refine vc_reg (S := ⟨[(2, .loc 2 0)], [(2, [a506, iv o515.2.1])], H507⟩) (APath.fin (by rcases hfa506 with ha506e | ⟨_, _, ha506e⟩ <;> subst ha506e <;> kernel_rfl)) (by rcases hfa506 with ha506e | ⟨_, _, ha506e⟩ <;> subst ha506e <;> kernel_rfl) ?_
    refine vc_ret ?_
    obtain rfl := some_inj h
    exact ret_own (H := H507) (ys := [.agg [a506, iv o515.2.1]]) (xs := [.agg [.p (.sl 2 false (List.map e_api_Entry o515.2.2)), iv o515.2.1]]) (by rcases hfa506 with ha506e | ⟨_, _, ha506e⟩ <;> subst ha506e <;> kernel_rfl) (by rcases hfa506 with ha506e | ⟨_, _, ha506e⟩ <;> subst ha506e <;> kernel_rfl) (pureVL_cons (pureV_agg (pureL_cons (HP.pure (k := 0) (frz := false) e_api_Entry hH rfl).1 (pureL_cons rfl pureL_nil))) pureVL_nil) (by kernel_rfl)
/- curve.Check -/
theorem curve_Check_ok (N : Nat) (a0_ : api_Serve) (r : Int) (h : curve_Check N a0_ = some r) : PCall Try.prog 21 [.agg (c_api_Serve a0_)] (iv r) := by
  unfold curve_Check at h
  have hH : HP ([] : List HO) [] := trivial
  refine pcall_of chk21 rfl rfl (vc_sound _ _ _ ?_) rfl
  refine vc_seq ?_
  refine vc_reg (S := ⟨[(1, .loc 1 0)], [(1, (c_api_Serve a0_))], []⟩) (APath.fin (by kernel_rfl)) (by kernel_rfl) ?_
  refine vc_seq ?_
  refine vc_seq ?_
  refine vc_regX ⟨[(20, bv ((decide (a0_.Rate < 1)) || ((decide (a0_.Rate > 2097152)) || ((decide (a0_.Latency < 0)) || (decide (a0_.Latency > 268435456))))))], [], []⟩ ?_ ?_
  · rcases Bool.eq_false_or_eq_true (decide (a0_.Rate < 1)) with hc1 | hc2
    · exact ⟨_, (APath.chunk 2 (by kernel_rfl) (APath.one (.val 5 (.bin .lss) [.t 4, .k (.p (.int .i64 1))]) (by kernel_rfl) (st_bool (c := (decide (a0_.Rate < 1))) (by kernel_rfl) hc1) (APath.fin (by kernel_rfl)))), by simp only [hc1]; kernel_rfl⟩
    · rcases Bool.eq_false_or_eq_true (decide (a0_.Rate > 2097152)) with hc3 | hc4
      · exact ⟨_, (APath.chunk 2 (by kernel_rfl) (APath.one (.val 5 (.bin .lss) [.t 4, .k (.p (.int .i64 1))]) (by kernel_rfl) (st_bool (c := (decide (a0_.Rate < 1))) (by kernel_rfl) hc2) (APath.chunk 3 (by kernel_rfl) (APath.oneG (.val 9 (.bin .gtr) [.t 8, .k (.p (.int .i64 2097152))]) 6 false (by kernel_rfl) (by kernel_rfl) (st_bool (c := (decide (a0_.Rate > 2097152))) (by kernel_rfl) hc3) (APath.fin (by kernel_rfl)))))), by simp only [hc2, hc3]; kernel_rfl⟩
      · rcases Bool.eq_false_or_eq_true (decide (a0_.Latency < 0)) with hc5 | hc6
        · exact ⟨_, (APath.chunk 2 (by kernel_rfl) (APath.one (.val 5 (.bin .lss) [.t 4, .k (.p (.int .i64 1))]) (by kernel_rfl) (st_bool (c := (decide (a0_.Rate < 1))) (by kernel_rfl) hc2) (APath.chunk 3 (by kernel_rfl) (APath.oneG (.val 9 (.bin .gtr) [.t 8, .k (.p (.int .i64 2097152))]) 6 false (by kernel_rfl) (by kernel_rfl) (st_bool (c := (decide (a0_.Rate > 2097152))) (by kernel_rfl) hc4) (APath.chunk 4 (by kernel_rfl) (APath.oneG (.val 14 (.bin .lss) [.t 13, .k (.p (.int .i64 0))]) 11 false (by kernel_rfl) (by kernel_rfl) (st_bool (c := (decide (a0_.Latency < 0))) (by kernel_rfl) hc5) (APath.fin (by kernel_rfl)))))))), by simp only [hc2, hc4, hc5]; kernel_rfl⟩
        · exact ⟨_, (APath.chunk 2 (by kernel_rfl) (APath.one (.val 5 (.bin .lss) [.t 4, .k (.p (.int .i64 1))]) (by kernel_rfl) (st_bool (c := (decide (a0_.Rate < 1))) (by kernel_rfl) hc2) (APath.chunk 3 (by kernel_rfl) (APath.oneG (.val 9 (.bin .gtr) [.t 8, .k (.p (.int .i64 2097152))]) 6 false (by kernel_rfl) (by kernel_rfl) (st_bool (c := (decide (a0_.Rate > 2097152))) (by kernel_rfl) hc4) (APath.chunk 4 (by kernel_rfl) (APath.oneG (.val 14 (.bin .lss) [.t 13, .k (.p (.int .i64 0))]) 11 false (by kernel_rfl) (by kernel_rfl) (st_bool (c := (decide (a0_.Latency < 0))) (by kernel_rfl) hc6) (APath.fin (by kernel_rfl)))))))), by simp only [hc2, hc4, hc6]; kernel_rfl⟩
  · refine vc_ite (by kernel_rfl) h (fun hc7 h => ?_) (fun hc7 h => ?_)
    · refine vc_seq ?_
      refine vc_reg (S := ⟨[(2, iv 140)], [], []⟩) (APath.fin (by kernel_rfl)) (by kernel_rfl) ?_
      refine vc_ret ?_
      obtain rfl := some_inj h
      exact ret_of (by kernel_rfl)
    · refine vc_skip ?_
      refine vc_kp ?_
      refine vc_seq ?_
      refine vc_reg (S := ⟨[(2, iv 0)], [], []⟩) (APath.fin (by kernel_rfl)) (by kernel_rfl) ?_
      refine vc_ret ?_
      obtain rfl := some_inj h
      exact ret_of (by kernel_rfl)
/- service.openings -/
theorem service_openings_ok (N : Nat) (a0_ : api_Gates) (H : List HO) (r : api_Gates) (h : service_openings N a0_ = some r) : ∃ (id0_ : Nat) (H' : List HO), ACall Try.prog 31 [.agg (c_api_Gates a0_)] H (.fn 48 [] [.ptr id0_ 0]) H' ∧ Fp H H' [] [.cel id0_ [s_e_api_Entry false r.Entries, iv r.Cycle]] := by
  suffices hs : ∃ r' H', ACall Try.prog 31 [.agg (c_api_Gates a0_)] H r' H' ∧ ∃ (id0_ : Nat), r' = .fn 48 [] [.ptr id0_ 0] ∧ Fp H H' [] [.cel id0_ [s_e_api_Entry false r.Entries, iv r.Cycle]] by
    obtain ⟨_, H', h1, id0_, rfl, h2⟩ := hs
    exact ⟨id0_, H', h1, h2⟩
  unfold service_openings at h
  have hH : Fp H H [] [] := Fp.refl trivial
  refine acall_detR chk31 (fun r' H' => ∃ (id0_ : Nat), r' = .fn 48 [] [.ptr id0_ 0] ∧ Fp H H' [] [.cel id0_ [s_e_api_Entry false r.Entries, iv r.Cycle]]) (fun r' H' ⟨_, e, _⟩ => by rw [e]; rfl) rfl rfl ?_
  refine vc_seq ?_
  obtain ⟨id1, H2, hid1, hH2, hH⟩ := Fp.newCell hH [s_e_api_Entry false a0_.Entries, iv a0_.Cycle]
  replace hH : Fp H H2 [] [.cel id1 (c_api_Gates a0_)] := hH
  refine vc_reg (S := ⟨[(1, .ptr id1 0)], [], H2⟩) (APath.one (.boxH 1 (.t 0)) (by kernel_rfl) (st_boxH (H := H) (v := .agg (c_api_Gates a0_)) (by kernel_rfl) (by kernel_rfl) (by kernel_rfl) hid1 hH2) (APath.fin (by kernel_rfl))) (by kernel_rfl) ?_
  refine vc_seq ?_
  refine vc_reg (S := ⟨[(2, .fn 48 [] [.ptr id1 0])], [], H2⟩) (APath.fin (by kernel_rfl)) (by kernel_rfl) ?_
  refine vc_ret ?_
  obtain rfl := some_inj h
  exact ⟨[.fn 48 [] [.ptr id1 0]], (by kernel_rfl), id1, rfl, Fp.pick hH [0] rfl⟩
/- service.mod -/
theorem service_mod_ok (N : Nat) (a0_ : Int) (a1_ : Int) (r : Int) (h : service_mod N a0_ a1_ = some r) : PCall Try.prog 32 [iv a0_, iv a1_] (iv r) := by
  unfold service_mod at h
  have hH : HP ([] : List HO) [] := trivial
  refine pcall_of chk32 rfl rfl (vc_sound _ _ _ ?_) rfl
  refine vc_seq ?_
  refine vc_reg (S := ⟨[(0, iv a0_), (1, iv a1_)], [], []⟩) (APath.fin (by kernel_rfl)) (by kernel_rfl) ?_
  refine vc_seq ?_
  obtain ⟨m1, hm1, h⟩ := bind_some h
  obtain ⟨m2, hm2, h⟩ := bind_some h
  refine vc_reg (S := ⟨[(4, iv m2)], [], []⟩) (APath.chunk 2 (by kernel_rfl) (APath.one (.val 7 (.bin .rem) [.t 5, .t 6]) (by kernel_rfl) (st_val (ys := [iv a0_, iv a1_]) (by kernel_rfl) (vexec_rem hm1)) (APath.chunk 3 (by kernel_rfl) (APath.one (.val 11 (.bin .rem) [.t 9, .t 10]) (by kernel_rfl) (st_val (ys := [iv (w64 (m1 + a1_)), iv a1_]) (by kernel_rfl) (vexec_rem hm2)) (APath.fin (by kernel_rfl)))))) (by kernel_rfl) ?_
  refine vc_ret ?_
  obtain rfl := some_inj h
  exact ret_of (by kernel_rfl)
/- service.floorDiv -/
theorem service_floorDiv_ok (N : Nat) (a0_ : Int) (a1_ : Int) (r : Int) (h : service_floorDiv N a0_ a1_ = some r) : PCall Try.prog 35 [iv a0_, iv a1_] (iv r) := by
  unfold service_floorDiv at h
  have hH : HP ([] : List HO) [] := trivial
  refine pcall_of chk35 rfl rfl (vc_sound _ _ _ ?_) rfl
  refine vc_seq ?_
  refine vc_reg (S := ⟨[(0, iv a0_), (1, iv a1_)], [], []⟩) (APath.fin (by kernel_rfl)) (by kernel_rfl) ?_
  refine vc_seq ?_
  obtain ⟨r1, hr1, h⟩ := bind_some h
  obtain ⟨q2, hq2, h⟩ := bind_some h
  refine vc_reg (S := ⟨[(4, iv q2)], [], []⟩) (APath.chunk 3 (by kernel_rfl) (APath.one (.call (some 8) 32 [.t 6, .t 7]) (by kernel_rfl) (st_call (by kernel_rfl) (service_mod_ok N a0_ a1_ r1 hr1)) (APath.chunk 2 (by kernel_rfl) (APath.one (.val 11 (.bin .quo) [.t 9, .t 10]) (by kernel_rfl) (st_val (ys := [iv (w64 (a0_ - r1)), iv a1_]) (by kernel_rfl) (vexec_quo hq2)) (APath.fin (by kernel_rfl)))))) (by kernel_rfl) ?_
  refine vc_ret ?_
  obtain rfl := some_inj h
  exact ret_of (by kernel_rfl)
/- gates.find -/
theorem gates_find_ok (N : Nat) (a0_ : api_Gates) (a1_ : Int) (r : Int × Int) (h : gates_find N a0_ a1_ = some r) : PCall Try.prog 42 [.agg (c_api_Gates a0_), iv a1_] (.tup [iv r.1, iv r.2]) := by
  unfold gates_find at h
  have hH : HP ([] : List HO) [] := trivial
  refine pcall_of chk42 rfl rfl (vc_sound _ _ _ ?_) rfl
  refine vc_seq ?_
  refine vc_reg (S := ⟨[(1, iv a1_), (2, .loc 2 0), (4, iv 0)], [(2, (c_api_Gates a0_))], []⟩) (APath.fin (by kernel_rfl)) (by kernel_rfl) ?_
  refine vc_scope (scope_simX 0 (by kernel_rfl) ?_)
  obtain ⟨m1, hm1, h⟩ := bind_some h
  obtain ⟨m2, hm2, h⟩ := bind_some h
  refine vc_regD (S := ⟨[(1, iv m2), (2, .loc 2 0), (4, iv 0)], [(2, (c_api_Gates a0_))], []⟩) (by kernel_rfl) (APath.chunk 3 (by kernel_rfl) (APath.one (.val 9 (.bin .rem) [.t 6, .t 8]) (by kernel_rfl) (st_val (ys := [iv a1_, iv a0_.Cycle]) (by kernel_rfl) (vexec_rem hm1)) (APath.chunk 5 (by kernel_rfl) (APath.one (.val 15 (.bin .rem) [.t 12, .t 14]) (by kernel_rfl) (st_val (ys := [iv (w64 (m1 + a0_.Cycle)), iv a0_.Cycle]) (by kernel_rfl) (vexec_rem hm2)) (APath.fin (by kernel_rfl)))))) (by kernel_rfl) ?_
  refine ⟨rfl, ?_⟩
  obtain ⟨o509, ho509, h⟩ := bind_some h
  refine ScopeOK.mk (fun (x : Int × Int) s => s = ⟨[(1, iv x.1), (2, .loc 2 0), (4, iv x.2)], [(2, (c_api_Gates a0_))], []⟩) (fun x : Int × Int => gates_find_L1 N a0_ x.1 x.2) (fun (p : Int × Int) e s => e = .ret ∧ ∃ xs, resL s i42.res = some xs ∧ tupOf xs = .tup [iv p.1, iv p.2]) ho509 (by show _ = _; kernel_rfl) ?_ ?_
  · clear h ho509
    rintro ⟨i3, i4⟩ o s h hR
    obtain rfl := hR
    replace h : gates_find_L1 N a0_ i3 i4 = some o := h
    unfold gates_find_L1 at h
    refine vc_seq ?_
    refine vc_seq ?_
    obtain ⟨e505, he505, h⟩ := bind_some h
    refine vc_reg (S := ⟨[(1, iv i3), (2, .loc 2 0), (4, iv i4), (23, bv (decide (i3 ≥ e505.Long)))], [(2, (c_api_Gates a0_))], []⟩) (APath.chunk 4 (by kernel_rfl) (APath.one (.val 20 (.iaddrS 2) [.t 18, .t 19]) (by kernel_rfl) (st_val (ys := [s_e_api_Entry false a0_.Entries, iv i4]) (by kernel_rfl) (vexec_iaddrS e_api_Entry he505)) (APath.chunk 1 (by kernel_rfl) (APath.one (.load 22 (.t 21) 1 false) (by kernel_rfl) (st_loadP (sz := 2) (off := 1) (cs := [.int .i64 e505.Long]) (r := iv e505.Long) e_api_Entry he505 (by kernel_rfl) (by kernel_rfl) (by kernel_rfl)) (APath.fin (by kernel_rfl)))))) (by kernel_rfl) ?_
    refine vc_ite (by kernel_rfl) h (fun hc506 h => ?_) (fun hc506 h => ?_)
    · refine vc_seq ?_
      obtain ⟨e507, he507, h⟩ := bind_some h
      refine vc_reg (S := ⟨[(1, iv (w64 (i3 - e507.Long))), (2, .loc 2 0), (4, iv i4)], [(2, (c_api_Gates a0_))], []⟩) (APath.chunk 4 (by kernel_rfl) (APath.one (.val 28 (.iaddrS 2) [.t 26, .t 27]) (by kernel_rfl) (st_val (ys := [s_e_api_Entry false a0_.Entries, iv i4]) (by kernel_rfl) (vexec_iaddrS e_api_Entry he507)) (APath.chunk 1 (by kernel_rfl) (APath.one (.load 30 (.t 29) 1 false) (by kernel_rfl) (st_loadP (sz := 2) (off := 1) (cs := [.int .i64 e507.Long]) (r := iv e507.Long) e_api_Entry he507 (by kernel_rfl) (by kernel_rfl) (by kernel_rfl)) (APath.fin (by kernel_rfl)))))) (by kernel_rfl) ?_
      refine vc_seq ?_
      refine vc_reg (S := ⟨[(1, iv (w64 (i3 - e507.Long))), (2, .loc 2 0), (4, iv (w64 (i4 + 1)))], [(2, (c_api_Gates a0_))], []⟩) (APath.fin (by kernel_rfl)) (by kernel_rfl) ?_
      refine vc_goto ?_
      obtain rfl := some_inj h
      exact ⟨rfl, _, rfl, (by show _ = _; kernel_rfl)⟩
    · refine vc_skip ?_
      refine vc_kp ?_
      refine vc_seq ?_
      obtain ⟨e508, he508, h⟩ := bind_some h
      refine vc_regD (S := ⟨[(4, iv i4), (5, iv (w64 (e508.Long - i3)))], [], []⟩) (by kernel_rfl) (APath.chunk 4 (by kernel_rfl) (APath.one (.val 38 (.iaddrS 2) [.t 36, .t 37]) (by kernel_rfl) (st_val (ys := [s_e_api_Entry false a0_.Entries, iv i4]) (by kernel_rfl) (vexec_iaddrS e_api_Entry he508)) (APath.chunk 1 (by kernel_rfl) (APath.one (.load 40 (.t 39) 1 false) (by kernel_rfl) (st_loadP (sz := 2) (off := 1) (cs := [.int .i64 e508.Long]) (r := iv e508.Long) e_api_Entry he508 (by kernel_rfl) (by kernel_rfl) (by kernel_rfl)) (APath.fin (by kernel_rfl)))))) (by kernel_rfl) ?_
      refine vc_ret ?_
      obtain rfl := some_inj h
      exact ⟨_, rfl, rfl, ret_of (by kernel_rfl)⟩
  · rintro e s _ hq
    obtain ⟨rfl, hq⟩ := hq
    obtain rfl := some_inj h
    exact hq
/- gates.stretch -/
theorem gates_stretch_ok (N : Nat) (a0_ : api_Gates) (a1_ : Int) (a2_ : Int → Option (Bool)) (a2_f : Nat) (a2_p a2_c : List AV) (ha2_n : (noLocL a2_p && noLocL a2_c) = true) (its : List Thing) (ha2_ : ∀ (H : List HO) (x0 : Int) (r : Bool), HP H its → a2_ x0 = some r → VCall Try.prog (.fn a2_f a2_p a2_c) [iv x0] H (bv r) H) (H : List HO) (hH : HP H (its)) (r : Int) (h : gates_stretch N a0_ a1_ a2_ = some r) : ACall Try.prog 43 [.agg (c_api_Gates a0_), iv a1_, .fn a2_f a2_p a2_c] H (iv r) H := by
  unfold gates_stretch at h
  refine acall_of chk43 rfl (by simpa [noLocL, noLoc.noLocL, noLoc] using ha2_n) rfl (vc_sound _ _ _ ?_)
  refine vc_seq ?_
  refine vc_reg (S := ⟨[(1, iv a1_), (2, .fn a2_f a2_p a2_c), (3, .loc 3 0)], [(3, (c_api_Gates a0_))], H⟩) (APath.fin (by kernel_rfl)) (by kernel_rfl) ?_
  refine vc_seq ?_
  obtain ⟨r1, hr1, h⟩ := bind_some h
  refine vc_reg (S := ⟨[(2, .fn a2_f a2_p a2_c), (3, .loc 3 0), (7, iv r1.1), (8, iv r1.2)], [(3, (c_api_Gates a0_))], H⟩) (APath.chunk 2 (by kernel_rfl) (APath.one (.call (some 13) 42 [.t 11, .t 12]) (by kernel_rfl) (st_call (by kernel_rfl) (gates_find_ok N a0_ a1_ r1 hr1)) (APath.fin (by kernel_rfl)))) (by kernel_rfl) ?_
  refine vc_seq ?_
  refine vc_reg (S := ⟨[(2, .fn a2_f a2_p a2_c), (3, .loc 3 0), (7, iv r1.1), (8, iv r1.2), (9, iv 0)], [(3, (c_api_Gates a0_))], H⟩) (APath.fin (by kernel_rfl)) (by kernel_rfl) ?_
  refine vc_seq ?_
  refine vc_seq ?_
  refine vc_reg (S := ⟨[(2, .fn a2_f a2_p a2_c), (3, .loc 3 0), (7, iv r1.1), (8, iv r1.2), (9, iv 0), (19, iv (w64 (((List.length a0_.Entries : Nat) : Int) + 1))), (20, iv 0)], [(3, (c_api_Gates a0_))], H⟩) (APath.chunk 2 (by kernel_rfl) (APath.one (.val 18 .len [.t 17]) (by kernel_rfl) (st_val (ys := [s_e_api_Entry false a0_.Entries]) (by kernel_rfl) (vexec_len e_api_Entry)) (APath.fin (by kernel_rfl)))) (by kernel_rfl) ?_
  refine vc_block ?_
  obtain ⟨o512, ho512, h⟩ := bind_some h
  refine vc_loop ((loop_sim (fun (x : Int × Int × Int × Int) s => s = ⟨[(2, .fn a2_f a2_p a2_c), (3, .loc 3 0), (7, iv x.1), (8, iv x.2.1), (9, iv x.2.2.1), (19, iv (w64 (((List.length a0_.Entries : Nat) : Int) + 1))), (20, iv x.2.2.2)], [(3, (c_api_Gates a0_))], H⟩) (fun x : Int × Int × Int × Int => gates_stretch_L1 N a0_ a2_ x.1 x.2.1 x.2.2.1 x.2.2.2) (fun (p : (Int × Int × Int × Int) ⊕ (Int)) e s => match p with | (.inl p) => e = .exit 0 ∧ (s = ⟨[(2, .fn a2_f a2_p a2_c), (3, .loc 3 0), (7, iv p.1), (8, iv p.2.1), (9, iv p.2.2.1), (19, iv (w64 (((List.length a0_.Entries : Nat) : Int) + 1))), (20, iv p.2.2.2)], [(3, (c_api_Gates a0_))], H⟩) | (.inr p) => e = .ret ∧ ∃ xs, rawL s i43.res = some xs ∧ tupOf xs = iv p ∧ s.H = H) ?_ N _ o512 _ ho512 (by show _ = _; kernel_rfl)).mono ?_)
  · clear h ho512
    rintro ⟨i2, i3, i4, i5⟩ o s h hR
    obtain rfl := hR
    replace h : gates_stretch_L1 N a0_ a2_ i2 i3 i4 i5 = some o := h
    unfold gates_stretch_L1 at h
    refine vc_seq ?_
    refine vc_reg (S := ⟨[(2, .fn a2_f a2_p a2_c), (3, .loc 3 0), (7, iv i2), (8, iv i3), (9, iv i4), (19, iv (w64 (((List.length a0_.Entries : Nat) : Int) + 1))), (20, iv i5), (21, bv (decide (i5 < (w64 (((List.length a0_.Entries : Nat) : Int) + 1)))))], [(3, (c_api_Gates a0_))], H⟩) (APath.fin (by kernel_rfl)) (by kernel_rfl) ?_
    refine vc_seq ?_
    refine vc_ite (by kernel_rfl) h (fun hc506 h => ?_) (fun hc506 h => ?_)
    · refine vc_skip ?_
      refine vc_kp ?_
      refine vc_seq ?_
      refine vc_block ?_
      refine vc_seq ?_
      refine vc_seq ?_
      obtain ⟨e507, he507, h⟩ := bind_some h
      obtain ⟨r508, hr508, h⟩ := bind_some h
      have hvr508 := ha2_ _ e507.Mask _ hH hr508
      refine vc_reg (S := ⟨[(2, .fn a2_f a2_p a2_c), (3, .loc 3 0), (7, iv i2), (8, iv i3), (9, iv i4), (19, iv (w64 (((List.length a0_.Entries : Nat) : Int) + 1))), (20, iv i5), (30, bv (!r508))], [(3, (c_api_Gates a0_))], H⟩) (APath.chunk 4 (by kernel_rfl) (APath.one (.val 26 (.iaddrS 2) [.t 24, .t 25]) (by kernel_rfl) (st_val (ys := [s_e_api_Entry false a0_.Entries, iv i2]) (by kernel_rfl) (vexec_iaddrS e_api_Entry he507)) (APath.chunk 1 (by kernel_rfl) (APath.one (.load 28 (.t 27) 1 false) (by kernel_rfl) (st_loadP (sz := 2) (off := 0) (cs := [.int .i64 e507.Mask]) (r := iv e507.Mask) e_api_Entry he507 (by kernel_rfl) (by kernel_rfl) (by kernel_rfl)) (APath.one (.callV (some 29) (.t 22) [.t 28]) (by kernel_rfl) (st_callV (H := H) (ys := [iv e507.Mask]) (by kernel_rfl) (by kernel_rfl) (by kernel_rfl) hvr508) (APath.fin (by kernel_rfl))))))) (by kernel_rfl) ?_
      refine vc_ite (by kernel_rfl) h (fun hc509 h => ?_) (fun hc509 h => ?_)
      · refine vc_seq ?_
        refine vc_reg (S := ⟨[(6, iv i4)], [], H⟩) (APath.fin (by kernel_rfl)) (by kernel_rfl) ?_
        refine vc_ret ?_
        obtain rfl := some_inj h
        exact ⟨_, rfl, rfl, ret_ofA (by kernel_rfl) (by kernel_rfl)⟩
      · refine vc_skip ?_
        refine vc_kp ?_
        refine vc_seq ?_
        refine vc_reg (S := ⟨[(2, .fn a2_f a2_p a2_c), (3, .loc 3 0), (7, iv i2), (9, iv (w64 (i4 + i3))), (19, iv (w64 (((List.length a0_.Entries : Nat) : Int) + 1))), (20, iv i5)], [(3, (c_api_Gates a0_))], H⟩) (APath.fin (by kernel_rfl)) (by kernel_rfl) ?_
        refine vc_seq ?_
        obtain ⟨m510, hm510, h⟩ := bind_some h
        refine vc_reg (S := ⟨[(2, .fn a2_f a2_p a2_c), (3, .loc 3 0), (7, iv m510), (9, iv (w64 (i4 + i3))), (19, iv (w64 (((List.length a0_.Entries : Nat) : Int) + 1))), (20, iv i5)], [(3, (c_api_Gates a0_))], H⟩) (APath.chunk 4 (by kernel_rfl) (APath.one (.val 39 .len [.t 38]) (by kernel_rfl) (st_val (ys := [s_e_api_Entry false a0_.Entries]) (by kernel_rfl) (vexec_len e_api_Entry)) (APath.one (.val 40 (.bin .rem) [.t 36, .t 39]) (by kernel_rfl) (st_val (ys := [iv (w64 (i2 + 1)), iv ((List.length a0_.Entries : Nat) : Int)]) (by kernel_rfl) (vexec_rem hm510)) (APath.fin (by kernel_rfl))))) (by kernel_rfl) ?_
        obtain ⟨e511, he511, h⟩ := bind_some h
        refine vc_reg (S := ⟨[(2, .fn a2_f a2_p a2_c), (3, .loc 3 0), (7, iv m510), (8, iv e511.Long), (9, iv (w64 (i4 + i3))), (19, iv (w64 (((List.length a0_.Entries : Nat) : Int) + 1))), (20, iv i5)], [(3, (c_api_Gates a0_))], H⟩) (APath.chunk 3 (by kernel_rfl) (APath.one (.val 44 (.iaddrS 2) [.t 42, .t 43]) (by kernel_rfl) (st_val (ys := [s_e_api_Entry false a0_.Entries, iv m510]) (by kernel_rfl) (vexec_iaddrS e_api_Entry he511)) (APath.chunk 1 (by kernel_rfl) (APath.one (.load 46 (.t 45) 1 false) (by kernel_rfl) (st_loadP (sz := 2) (off := 1) (cs := [.int .i64 e511.Long]) (r := iv e511.Long) e_api_Entry he511 (by kernel_rfl) (by kernel_rfl) (by kernel_rfl)) (APath.fin (by kernel_rfl)))))) (by kernel_rfl) ?_
        refine vc_kp ?_
        refine vc_reg (S := ⟨[(2, .fn a2_f a2_p a2_c), (3, .loc 3 0), (7, iv m510), (8, iv e511.Long), (9, iv (w64 (i4 + i3))), (19, iv (w64 (((List.length a0_.Entries : Nat) : Int) + 1))), (20, iv (w64 (i5 + 1)))], [(3, (c_api_Gates a0_))], H⟩) (APath.fin (by kernel_rfl)) (by kernel_rfl) ?_
        obtain rfl := some_inj h
        exact ⟨_, rfl, (by show _ = _; kernel_rfl)⟩
    · refine vc_exit ?_
      try show vc _ _ _ _ _
      obtain rfl := some_inj h
      exact ⟨_, rfl, rfl, (by show _ = _; kernel_rfl)⟩
  · rintro e s hq
    rcases o512 with p513 | p514
    · dsimp only at h hq
      obtain ⟨rfl, hR⟩ := hq
      obtain rfl := hR
      try show vc _ _ _ _ _
      refine vc_seq ?_
      refine vc_reg (S := ⟨[(6, iv a0_.Cycle)], [], H⟩) (APath.fin (by kernel_rfl)) (by kernel_rfl) ?_
      refine vc_ret ?_
      obtain rfl := some_inj h
      exact ret_ofA (by kernel_rfl) (by kernel_rfl)
    · dsimp only at h hq
      obtain ⟨rfl, hq⟩ := hq
      obtain rfl := some_inj h
      exact hq
/- gates.Turn$1 -/
theorem gates_Turn_1_ok (N : Nat) (a0_ : Int) (c0_ : Int) (k0_ : Nat) (H : List HO) (hH : HP H [.cel k0_ [iv c0_]]) (r : Bool) (h : gates_Turn_1 N a0_ c0_ = some r) : ACall Try.prog 44 [iv a0_, .ptr k0_ 0] H (bv r) H := by
  unfold gates_Turn_1 at h
  refine acall_of chk44 rfl rfl rfl (vc_sound _ _ _ ?_)
  refine vc_seq ?_
  refine vc_reg (S := ⟨[(0, iv a0_), (1, .ptr k0_ 0)], [], H⟩) (APath.fin (by kernel_rfl)) (by kernel_rfl) ?_
  refine vc_seq ?_
  have hlc1 := HP.get hH 0 rfl
  refine vc_reg (S := ⟨[(3, bv (a0_ == c0_))], [], H⟩) (APath.chunk 1 (by kernel_rfl) (APath.one (.load 5 (.t 1) 1 false) (by kernel_rfl) (st_loadC (H := H) (id := k0_) (off := 0) (cs := [iv c0_]) (c := [iv c0_]) (r := iv c0_) (by kernel_rfl) (by kernel_rfl) hlc1 (by kernel_rfl) (by kernel_rfl) (by kernel_rfl)) (APath.fin (by kernel_rfl)))) (by kernel_rfl) ?_
  replace hH : HP H [] := HP.pick hH [] rfl
  refine vc_ret ?_
  obtain rfl := some_inj h
  exact ret_ofA (by kernel_rfl) (by kernel_rfl)
/- gates.Check -/
theorem gates_Check_ok (N : Nat) (a0_ : api_Gates) (r : Int) (h : gates_Check N a0_ = some r) : PCall Try.prog 45 [.agg (c_api_Gates a0_)] (iv r) := by
  unfold gates_Check at h
  have hH : HP ([] : List HO) [] := trivial
  refine pcall_of chk45 rfl rfl (vc_sound _ _ _ ?_) rfl
  refine vc_seq ?_
  refine vc_reg (S := ⟨[(1, .loc 1 0)], [(1, (c_api_Gates a0_))], []⟩) (APath.fin (by kernel_rfl)) (by kernel_rfl) ?_
  refine vc_seq ?_
  refine vc_seq ?_
  refine vc_regX ⟨[(1, .loc 1 0), (15, bv ((decide (((List.length a0_.Entries : Nat) : Int) < 1)) || (decide (((List.length a0_.Entries : Nat) : Int) > 128))))], [(1, (c_api_Gates a0_))], []⟩ ?_ ?_
  · rcases Bool.eq_false_or_eq_true (decide (((List.length a0_.Entries : Nat) : Int) < 1)) with hc1 | hc2
    · exact ⟨_, (APath.chunk 2 (by kernel_rfl) (APath.one (.val 8 .len [.t 7]) (by kernel_rfl) (st_val (ys := [s_e_api_Entry false a0_.Entries]) (by kernel_rfl) (vexec_len e_api_Entry)) (APath.one (.val 9 (.bin .lss) [.t 8, .k (.p (.int .i64 1))]) (by kernel_rfl) (st_bool (c := (decide (((List.length a0_.Entries : Nat) : Int) < 1))) (by kernel_rfl) hc1) (APath.fin (by kernel_rfl))))), by simp only [hc1]; kernel_rfl⟩
    · exact ⟨_, (APath.chunk 2 (by kernel_rfl) (APath.one (.val 8 .len [.t 7]) (by kernel_rfl) (st_val (ys := [s_e_api_Entry false a0_.Entries]) (by kernel_rfl) (vexec_len e_api_Entry)) (APath.one (.val 9 (.bin .lss) [.t 8, .k (.p (.int .i64 1))]) (by kernel_rfl) (st_bool (c := (decide (((List.length a0_.Entries : Nat) : Int) < 1))) (by kernel_rfl) hc2) (APath.chunk 3 (by kernel_rfl) (APath.oneG (.val 13 .len [.t 12]) 10 false (by kernel_rfl) (by kernel_rfl) (st_val (ys := [s_e_api_Entry false a0_.Entries]) (by kernel_rfl) (vexec_len e_api_Entry)) (APath.fin (by kernel_rfl))))))), by simp only [hc2]; kernel_rfl⟩
  · refine vc_ite (by kernel_rfl) h (fun hc3 h => ?_) (fun hc3 h => ?_)
    · refine vc_seq ?_
      refine vc_reg (S := ⟨[(2, iv 370)], [], []⟩) (APath.fin (by kernel_rfl)) (by kernel_rfl) ?_
      refine vc_ret ?_
      obtain rfl := some_inj h
      exact ret_of (by kernel_rfl)
    · refine vc_skip ?_
      refine vc_kp ?_
      refine vc_seq ?_
      refine vc_reg (S := ⟨[(1, .loc 1 0), (3, iv 0)], [(1, (c_api_Gates a0_))], []⟩) (APath.fin (by kernel_rfl)) (by kernel_rfl) ?_
      refine vc_seq ?_
      refine vc_seq ?_
      refine vc_reg (S := ⟨[(1, .loc 1 0), (3, iv 0), (17, s_e_api_Entry false a0_.Entries), (18, iv ((List.length a0_.Entries : Nat) : Int)), (19, iv 0)], [(1, (c_api_Gates a0_))], []⟩) (APath.chunk 2 (by kernel_rfl) (APath.one (.val 18 .len [.t 17]) (by kernel_rfl) (st_val (ys := [s_e_api_Entry false a0_.Entries]) (by kernel_rfl) (vexec_len e_api_Entry)) (APath.fin (by kernel_rfl)))) (by kernel_rfl) ?_
      refine vc_block ?_
      obtain ⟨o515, ho515, h⟩ := bind_some h
      refine vc_loop ((loop_sim (fun (x : Int × Int) s => s = ⟨[(1, .loc 1 0), (3, iv x.1), (17, s_e_api_Entry false a0_.Entries), (18, iv ((List.length a0_.Entries : Nat) : Int)), (19, iv x.2)], [(1, (c_api_Gates a0_))], []⟩) (fun x : Int × Int => gates_Check_L1 N a0_ x.1 x.2) (fun (p : (Int × Int) ⊕ (Int)) e s => match p with | (.inl p) => e = .exit 0 ∧ (s = ⟨[(1, .loc 1 0), (3, iv p.1), (17, s_e_api_Entry false a0_.Entries), (18, iv ((List.length a0_.Entries : Nat) : Int)), (19, iv p.2)], [(1, (c_api_Gates a0_))], []⟩) | (.inr p) => e = .ret ∧ ∃ xs, resL s i45.res = some xs ∧ tupOf xs = iv p) ?_ N _ o515 _ ho515 (by show _ = _; kernel_rfl)).mono ?_)
      · clear h ho515
        rintro ⟨i4, i5⟩ o s h hR
        obtain rfl := hR
        replace h : gates_Check_L1 N a0_ i4 i5 = some o := h
        unfold gates_Check_L1 at h
        refine vc_seq ?_
        refine vc_reg (S := ⟨[(1, .loc 1 0), (3, iv i4), (17, s_e_api_Entry false a0_.Entries), (18, iv ((List.length a0_.Entries : Nat) : Int)), (19, iv i5), (20, bv (decide (i5 < ((List.length a0_.Entries : Nat) : Int))))], [(1, (c_api_Gates a0_))], []⟩) (APath.fin (by kernel_rfl)) (by kernel_rfl) ?_
        refine vc_seq ?_
        refine vc_ite (by kernel_rfl) h (fun hc506 h => ?_) (fun hc506 h => ?_)
        · refine vc_skip ?_
          refine vc_kp ?_
          refine vc_seq ?_
          refine vc_block ?_
          refine vc_seq ?_
          obtain ⟨e507, he507, h⟩ := bind_some h
          refine vc_reg (S := ⟨[(1, .loc 1 0), (3, iv i4), (5, .loc 5 0), (17, s_e_api_Entry false a0_.Entries), (18, iv ((List.length a0_.Entries : Nat) : Int)), (19, iv i5)], [(1, (c_api_Gates a0_)), (5, (c_api_Entry e507))], []⟩) (APath.one (.val 21 (.iaddrS 2) [.t 17, .t 19]) (by kernel_rfl) (st_val (ys := [s_e_api_Entry false a0_.Entries, iv i5]) (by kernel_rfl) (vexec_iaddrS e_api_Entry he507)) (APath.one (.load 22 (.t 21) 2 true) (by kernel_rfl) (st_loadP (sz := 2) (off := 0) (cs := [.int .i64 e507.Mask, .int .i64 e507.Long]) (r := .agg (c_api_Entry e507)) e_api_Entry he507 (by kernel_rfl) (by kernel_rfl) (by kernel_rfl)) (APath.fin (by kernel_rfl)))) (by kernel_rfl) ?_
          refine vc_seq ?_
          refine vc_seq ?_
          refine vc_regX ⟨[(1, .loc 1 0), (3, iv i4), (5, .loc 5 0), (17, s_e_api_Entry false a0_.Entries), (18, iv ((List.length a0_.Entries : Nat) : Int)), (19, iv i5), (40, bv ((decide (e507.Mask < 0)) || ((decide (e507.Mask > 255)) || ((decide (e507.Long < 1)) || (decide (e507.Long > 9600000))))))], [(1, (c_api_Gates a0_)), (5, (c_api_Entry e507))], []⟩ ?_ ?_
          · rcases Bool.eq_false_or_eq_true (decide (e507.Mask < 0)) with hc508 | hc509
            · exact ⟨_, (APath.chunk 2 (by kernel_rfl) (APath.one (.val 25 (.bin .lss) [.t 24, .k (.p (.int .i64 0))]) (by kernel_rfl) (st_bool (c := (decide (e507.Mask < 0))) (by kernel_rfl) hc508) (APath.fin (by kernel_rfl)))), by simp only [hc508]; kernel_rfl⟩
            · rcases Bool.eq_false_or_eq_true (decide (e507.Mask > 255)) with hc510 | hc511
              · exact ⟨_, (APath.chunk 2 (by kernel_rfl) (APath.one (.val 25 (.bin .lss) [.t 24, .k (.p (.int .i64 0))]) (by kernel_rfl) (st_bool (c := (decide (e507.Mask < 0))) (by kernel_rfl) hc509) (APath.chunk 3 (by kernel_rfl) (APath.oneG (.val 29 (.bin .gtr) [.t 28, .k (.p (.int .i64 255))]) 26 false (by kernel_rfl) (by kernel_rfl) (st_bool (c := (decide (e507.Mask > 255))) (by kernel_rfl) hc510) (APath.fin (by kernel_rfl)))))), by simp only [hc509, hc510]; kernel_rfl⟩
              · rcases Bool.eq_false_or_eq_true (decide (e507.Long < 1)) with hc512 | hc513
                · exact ⟨_, (APath.chunk 2 (by kernel_rfl) (APath.one (.val 25 (.bin .lss) [.t 24, .k (.p (.int .i64 0))]) (by kernel_rfl) (st_bool (c := (decide (e507.Mask < 0))) (by kernel_rfl) hc509) (APath.chunk 3 (by kernel_rfl) (APath.oneG (.val 29 (.bin .gtr) [.t 28, .k (.p (.int .i64 255))]) 26 false (by kernel_rfl) (by kernel_rfl) (st_bool (c := (decide (e507.Mask > 255))) (by kernel_rfl) hc511) (APath.chunk 4 (by kernel_rfl) (APath.oneG (.val 34 (.bin .lss) [.t 33, .k (.p (.int .i64 1))]) 31 false (by kernel_rfl) (by kernel_rfl) (st_bool (c := (decide (e507.Long < 1))) (by kernel_rfl) hc512) (APath.fin (by kernel_rfl)))))))), by simp only [hc509, hc511, hc512]; kernel_rfl⟩
                · exact ⟨_, (APath.chunk 2 (by kernel_rfl) (APath.one (.val 25 (.bin .lss) [.t 24, .k (.p (.int .i64 0))]) (by kernel_rfl) (st_bool (c := (decide (e507.Mask < 0))) (by kernel_rfl) hc509) (APath.chunk 3 (by kernel_rfl) (APath.oneG (.val 29 (.bin .gtr) [.t 28, .k (.p (.int .i64 255))]) 26 false (by kernel_rfl) (by kernel_rfl) (st_bool (c := (decide (e507.Mask > 255))) (by kernel_rfl) hc511) (APath.chunk 4 (by kernel_rfl) (APath.oneG (.val 34 (.bin .lss) [.t 33, .k (.p (.int .i64 1))]) 31 false (by kernel_rfl) (by kernel_rfl) (st_bool (c := (decide (e507.Long < 1))) (by kernel_rfl) hc513) (APath.fin (by kernel_rfl)))))))), by simp only [hc509, hc511, hc513]; kernel_rfl⟩
          · refine vc_ite (by kernel_rfl) h (fun hc514 h => ?_) (fun hc514 h => ?_)
            · refine vc_seq ?_
              refine vc_reg (S := ⟨[(2, iv 370)], [], []⟩) (APath.fin (by kernel_rfl)) (by kernel_rfl) ?_
              refine vc_ret ?_
              obtain rfl := some_inj h
              exact ⟨_, rfl, rfl, ret_of (by kernel_rfl)⟩
            · refine vc_skip ?_
              refine vc_kp ?_
              refine vc_reg (S := ⟨[(1, .loc 1 0), (3, iv (w64 (i4 + e507.Long))), (17, s_e_api_Entry false a0_.Entries), (18, iv ((List.length a0_.Entries : Nat) : Int)), (19, iv i5)], [(1, (c_api_Gates a0_))], []⟩) (APath.fin (by kernel_rfl)) (by kernel_rfl) ?_
              refine vc_kp ?_
              refine vc_reg (S := ⟨[(1, .loc 1 0), (3, iv (w64 (i4 + e507.Long))), (17, s_e_api_Entry false a0_.Entries), (18, iv ((List.length a0_.Entries : Nat) : Int)), (19, iv (w64 (i5 + 1)))], [(1, (c_api_Gates a0_))], []⟩) (APath.fin (by kernel_rfl)) (by kernel_rfl) ?_
              obtain rfl := some_inj h
              exact ⟨_, rfl, (by show _ = _; kernel_rfl)⟩
        · refine vc_exit ?_
          try show vc _ _ _ _ _
          obtain rfl := some_inj h
          exact ⟨_, rfl, rfl, (by show _ = _; kernel_rfl)⟩
      · rintro e s hq
        rcases o515 with p516 | p520
        · dsimp only at h hq
          obtain ⟨rfl, hR⟩ := hq
          obtain rfl := hR
          try show vc _ _ _ _ _
          refine vc_seq ?_
          refine vc_seq ?_
          refine vc_regX ⟨[(53, bv ((p516.1 != a0_.Cycle) || (decide (p516.1 > 9600000))))], [], []⟩ ?_ ?_
          · rcases Bool.eq_false_or_eq_true (p516.1 != a0_.Cycle) with hc517 | hc518
            · exact ⟨_, (APath.chunk 3 (by kernel_rfl) (APath.one (.val 49 (.bin .neq) [.t 46, .t 48]) (by kernel_rfl) (st_bool (c := (p516.1 != a0_.Cycle)) (by kernel_rfl) hc517) (APath.fin (by kernel_rfl)))), by simp only [hc517]; kernel_rfl⟩
            · exact ⟨_, (APath.chunk 3 (by kernel_rfl) (APath.one (.val 49 (.bin .neq) [.t 46, .t 48]) (by kernel_rfl) (st_bool (c := (p516.1 != a0_.Cycle)) (by kernel_rfl) hc518) (APath.fin (by kernel_rfl)))), by simp only [hc518]; kernel_rfl⟩
          · refine vc_ite (by kernel_rfl) h (fun hc519 h => ?_) (fun hc519 h => ?_)
            · refine vc_seq ?_
              refine vc_reg (S := ⟨[(2, iv 370)], [], []⟩) (APath.fin (by kernel_rfl)) (by kernel_rfl) ?_
              refine vc_ret ?_
              obtain rfl := some_inj h
              exact ret_of (by kernel_rfl)
            · refine vc_skip ?_
              refine vc_kp ?_
              refine vc_seq ?_
              refine vc_reg (S := ⟨[(2, iv 0)], [], []⟩) (APath.fin (by kernel_rfl)) (by kernel_rfl) ?_
              refine vc_ret ?_
              obtain rfl := some_inj h
              exact ret_of (by kernel_rfl)
        · dsimp only at h hq
          obtain ⟨rfl, hq⟩ := hq
          obtain rfl := some_inj h
          exact hq
/- isochronref27.Right -/
theorem ref27_Right_ok (N : Nat) (a0_ : api_Gates) (r : Bool) (h : ref27_Right N a0_ = some r) : PCall Try.prog 46 [.agg (c_api_Gates a0_)] (bv r) := by
  unfold ref27_Right at h
  have hH : HP ([] : List HO) [] := trivial
  refine pcall_of chk46 rfl rfl (vc_sound _ _ _ ?_) rfl
  refine vc_seq ?_
  refine vc_reg (S := ⟨[(1, .loc 1 0)], [(1, (c_api_Gates a0_))], []⟩) (APath.fin (by kernel_rfl)) (by kernel_rfl) ?_
  refine vc_seq ?_
  refine vc_seq ?_
  refine vc_regX ⟨[(1, .loc 1 0), (15, bv ((decide (((List.length a0_.Entries : Nat) : Int) < 1)) || (decide (((List.length a0_.Entries : Nat) : Int) > 128))))], [(1, (c_api_Gates a0_))], []⟩ ?_ ?_
  · rcases Bool.eq_false_or_eq_true (decide (((List.length a0_.Entries : Nat) : Int) < 1)) with hc1 | hc2
    · exact ⟨_, (APath.chunk 2 (by kernel_rfl) (APath.one (.val 8 .len [.t 7]) (by kernel_rfl) (st_val (ys := [s_e_api_Entry false a0_.Entries]) (by kernel_rfl) (vexec_len e_api_Entry)) (APath.one (.val 9 (.bin .lss) [.t 8, .k (.p (.int .i64 1))]) (by kernel_rfl) (st_bool (c := (decide (((List.length a0_.Entries : Nat) : Int) < 1))) (by kernel_rfl) hc1) (APath.fin (by kernel_rfl))))), by simp only [hc1]; kernel_rfl⟩
    · exact ⟨_, (APath.chunk 2 (by kernel_rfl) (APath.one (.val 8 .len [.t 7]) (by kernel_rfl) (st_val (ys := [s_e_api_Entry false a0_.Entries]) (by kernel_rfl) (vexec_len e_api_Entry)) (APath.one (.val 9 (.bin .lss) [.t 8, .k (.p (.int .i64 1))]) (by kernel_rfl) (st_bool (c := (decide (((List.length a0_.Entries : Nat) : Int) < 1))) (by kernel_rfl) hc2) (APath.chunk 3 (by kernel_rfl) (APath.oneG (.val 13 .len [.t 12]) 10 false (by kernel_rfl) (by kernel_rfl) (st_val (ys := [s_e_api_Entry false a0_.Entries]) (by kernel_rfl) (vexec_len e_api_Entry)) (APath.fin (by kernel_rfl))))))), by simp only [hc2]; kernel_rfl⟩
  · refine vc_ite (by kernel_rfl) h (fun hc3 h => ?_) (fun hc3 h => ?_)
    · refine vc_seq ?_
      refine vc_reg (S := ⟨[(2, bv false)], [], []⟩) (APath.fin (by kernel_rfl)) (by kernel_rfl) ?_
      refine vc_ret ?_
      obtain rfl := some_inj h
      exact ret_of (by kernel_rfl)
    · refine vc_skip ?_
      refine vc_kp ?_
      refine vc_seq ?_
      refine vc_reg (S := ⟨[(1, .loc 1 0), (3, iv 0)], [(1, (c_api_Gates a0_))], []⟩) (APath.fin (by kernel_rfl)) (by kernel_rfl) ?_
      refine vc_seq ?_
      refine vc_seq ?_
      refine vc_reg (S := ⟨[(1, .loc 1 0), (3, iv 0), (4, iv 0)], [(1, (c_api_Gates a0_))], []⟩) (APath.fin (by kernel_rfl)) (by kernel_rfl) ?_
      refine vc_block ?_
      obtain ⟨o515, ho515, h⟩ := bind_some h
      refine vc_loop ((loop_sim (fun (x : Int × Int) s => s = ⟨[(1, .loc 1 0), (3, iv x.1), (4, iv x.2)], [(1, (c_api_Gates a0_))], []⟩) (fun x : Int × Int => ref27_Right_L1 N a0_ x.1 x.2) (fun (p : (Int × Int) ⊕ (Bool)) e s => match p with | (.inl p) => e = .exit 0 ∧ (s = ⟨[(1, .loc 1 0), (3, iv p.1), (4, iv p.2)], [(1, (c_api_Gates a0_))], []⟩) | (.inr p) => e = .ret ∧ ∃ xs, resL s i46.res = some xs ∧ tupOf xs = bv p) ?_ N _ o515 _ ho515 (by show _ = _; kernel_rfl)).mono ?_)
      · clear h ho515
        rintro ⟨i4, i5⟩ o s h hR
        obtain rfl := hR
        replace h : ref27_Right_L1 N a0_ i4 i5 = some o := h
        unfold ref27_Right_L1 at h
        refine vc_seq ?_
        refine vc_seq ?_
        refine vc_reg (S := ⟨[(1, .loc 1 0), (3, iv i4), (4, iv i5), (20, bv (decide (i5 < ((List.length a0_.Entries : Nat) : Int))))], [(1, (c_api_Gates a0_))], []⟩) (APath.chunk 3 (by kernel_rfl) (APath.one (.val 19 .len [.t 18]) (by kernel_rfl) (st_val (ys := [s_e_api_Entry false a0_.Entries]) (by kernel_rfl) (vexec_len e_api_Entry)) (APath.fin (by kernel_rfl)))) (by kernel_rfl) ?_
        refine vc_ite (by kernel_rfl) h (fun hc506 h => ?_) (fun hc506 h => ?_)
        · refine vc_skip ?_
          refine vc_kp ?_
          refine vc_seq ?_
          refine vc_block ?_
          refine vc_seq ?_
          obtain ⟨e507, he507, h⟩ := bind_some h
          refine vc_reg (S := ⟨[(1, .loc 1 0), (3, iv i4), (4, iv i5), (5, .loc 5 0)], [(1, (c_api_Gates a0_)), (5, (c_api_Entry e507))], []⟩) (APath.chunk 3 (by kernel_rfl) (APath.one (.val 26 (.iaddrS 2) [.t 24, .t 25]) (by kernel_rfl) (st_val (ys := [s_e_api_Entry false a0_.Entries, iv i5]) (by kernel_rfl) (vexec_iaddrS e_api_Entry he507)) (APath.one (.load 27 (.t 26) 2 true) (by kernel_rfl) (st_loadP (sz := 2) (off := 0) (cs := [.int .i64 e507.Mask, .int .i64 e507.Long]) (r := .agg (c_api_Entry e507)) e_api_Entry he507 (by kernel_rfl) (by kernel_rfl) (by kernel_rfl)) (APath.fin (by kernel_rfl))))) (by kernel_rfl) ?_
          refine vc_seq ?_
          refine vc_seq ?_
          refine vc_regX ⟨[(1, .loc 1 0), (3, iv i4), (4, iv i5), (5, .loc 5 0), (45, bv ((decide (e507.Mask < 0)) || ((decide (e507.Mask > 255)) || ((decide (e507.Long < 1)) || (decide (e507.Long > 9600000))))))], [(1, (c_api_Gates a0_)), (5, (c_api_Entry e507))], []⟩ ?_ ?_
          · rcases Bool.eq_false_or_eq_true (decide (e507.Mask < 0)) with hc508 | hc509
            · exact ⟨_, (APath.chunk 2 (by kernel_rfl) (APath.one (.val 30 (.bin .lss) [.t 29, .k (.p (.int .i64 0))]) (by kernel_rfl) (st_bool (c := (decide (e507.Mask < 0))) (by kernel_rfl) hc508) (APath.fin (by kernel_rfl)))), by simp only [hc508]; kernel_rfl⟩
            · rcases Bool.eq_false_or_eq_true (decide (e507.Mask > 255)) with hc510 | hc511
              · exact ⟨_, (APath.chunk 2 (by kernel_rfl) (APath.one (.val 30 (.bin .lss) [.t 29, .k (.p (.int .i64 0))]) (by kernel_rfl) (st_bool (c := (decide (e507.Mask < 0))) (by kernel_rfl) hc509) (APath.chunk 3 (by kernel_rfl) (APath.oneG (.val 34 (.bin .gtr) [.t 33, .k (.p (.int .i64 255))]) 31 false (by kernel_rfl) (by kernel_rfl) (st_bool (c := (decide (e507.Mask > 255))) (by kernel_rfl) hc510) (APath.fin (by kernel_rfl)))))), by simp only [hc509, hc510]; kernel_rfl⟩
              · rcases Bool.eq_false_or_eq_true (decide (e507.Long < 1)) with hc512 | hc513
                · exact ⟨_, (APath.chunk 2 (by kernel_rfl) (APath.one (.val 30 (.bin .lss) [.t 29, .k (.p (.int .i64 0))]) (by kernel_rfl) (st_bool (c := (decide (e507.Mask < 0))) (by kernel_rfl) hc509) (APath.chunk 3 (by kernel_rfl) (APath.oneG (.val 34 (.bin .gtr) [.t 33, .k (.p (.int .i64 255))]) 31 false (by kernel_rfl) (by kernel_rfl) (st_bool (c := (decide (e507.Mask > 255))) (by kernel_rfl) hc511) (APath.chunk 4 (by kernel_rfl) (APath.oneG (.val 39 (.bin .lss) [.t 38, .k (.p (.int .i64 1))]) 36 false (by kernel_rfl) (by kernel_rfl) (st_bool (c := (decide (e507.Long < 1))) (by kernel_rfl) hc512) (APath.fin (by kernel_rfl)))))))), by simp only [hc509, hc511, hc512]; kernel_rfl⟩
                · exact ⟨_, (APath.chunk 2 (by kernel_rfl) (APath.one (.val 30 (.bin .lss) [.t 29, .k (.p (.int .i64 0))]) (by kernel_rfl) (st_bool (c := (decide (e507.Mask < 0))) (by kernel_rfl) hc509) (APath.chunk 3 (by kernel_rfl) (APath.oneG (.val 34 (.bin .gtr) [.t 33, .k (.p (.int .i64 255))]) 31 false (by kernel_rfl) (by kernel_rfl) (st_bool (c := (decide (e507.Mask > 255))) (by kernel_rfl) hc511) (APath.chunk 4 (by kernel_rfl) (APath.oneG (.val 39 (.bin .lss) [.t 38, .k (.p (.int .i64 1))]) 36 false (by kernel_rfl) (by kernel_rfl) (st_bool (c := (decide (e507.Long < 1))) (by kernel_rfl) hc513) (APath.fin (by kernel_rfl)))))))), by simp only [hc509, hc511, hc513]; kernel_rfl⟩
          · refine vc_ite (by kernel_rfl) h (fun hc514 h => ?_) (fun hc514 h => ?_)
            · refine vc_seq ?_
              refine vc_reg (S := ⟨[(2, bv false)], [], []⟩) (APath.fin (by kernel_rfl)) (by kernel_rfl) ?_
              refine vc_ret ?_
              obtain rfl := some_inj h
              exact ⟨_, rfl, rfl, ret_of (by kernel_rfl)⟩
            · refine vc_skip ?_
              refine vc_kp ?_
              refine vc_reg (S := ⟨[(1, .loc 1 0), (3, iv (w64 (i4 + e507.Long))), (4, iv i5)], [(1, (c_api_Gates a0_))], []⟩) (APath.fin (by kernel_rfl)) (by kernel_rfl) ?_
              refine vc_kp ?_
              refine vc_reg (S := ⟨[(1, .loc 1 0), (3, iv (w64 (i4 + e507.Long))), (4, iv (w64 (i5 + 1)))], [(1, (c_api_Gates a0_))], []⟩) (APath.fin (by kernel_rfl)) (by kernel_rfl) ?_
              obtain rfl := some_inj h
              exact ⟨_, rfl, (by show _ = _; kernel_rfl)⟩
        · refine vc_exit ?_
          try show vc _ _ _ _ _
          obtain rfl := some_inj h
          exact ⟨_, rfl, rfl, (by show _ = _; kernel_rfl)⟩
      · rintro e s hq
        rcases o515 with p516 | p519
        · dsimp only at h hq
          obtain ⟨rfl, hR⟩ := hq
          obtain rfl := hR
          try show vc _ _ _ _ _
          refine vc_seq ?_
          refine vc_regX ⟨[(2, bv ((p516.1 == a0_.Cycle) && (decide (p516.1 ≤ 9600000))))], [], []⟩ ?_ ?_
          · rcases Bool.eq_false_or_eq_true (p516.1 == a0_.Cycle) with hc517 | hc518
            · exact ⟨_, (APath.chunk 3 (by kernel_rfl) (APath.one (.val 53 (.bin .eql) [.t 50, .t 52]) (by kernel_rfl) (st_bool (c := (p516.1 == a0_.Cycle)) (by kernel_rfl) hc517) (APath.fin (by kernel_rfl)))), by simp only [hc517]; kernel_rfl⟩
            · exact ⟨_, (APath.chunk 3 (by kernel_rfl) (APath.one (.val 53 (.bin .eql) [.t 50, .t 52]) (by kernel_rfl) (st_bool (c := (p516.1 == a0_.Cycle)) (by kernel_rfl) hc518) (APath.fin (by kernel_rfl)))), by simp only [hc518]; kernel_rfl⟩
          · refine vc_ret ?_
            obtain rfl := some_inj h
            exact ret_of (by kernel_rfl)
        · dsimp only at h hq
          obtain ⟨rfl, hq⟩ := hq
          obtain rfl := some_inj h
          exact hq
/- isochronref30.sum -/
theorem ref30_sum_ok (N : Nat) (a0_ : (List ref30_Opening)) (a1_ : Int) (r : Int) (h : ref30_sum N a0_ a1_ = some r) : PCall Try.prog 47 [s_e_ref30_Opening false a0_, iv a1_] (iv r) := by
  unfold ref30_sum at h
  have hH : HP ([] : List HO) [] := trivial
  refine pcall_of chk47 rfl rfl (vc_sound _ _ _ ?_) rfl
  refine vc_seq ?_
  refine vc_reg (S := ⟨[(0, s_e_ref30_Opening false a0_), (1, iv a1_)], [], []⟩) (APath.fin (by kernel_rfl)) (by kernel_rfl) ?_
  refine vc_seq ?_
  refine vc_reg (S := ⟨[(0, s_e_ref30_Opening false a0_), (1, iv a1_), (5, iv 0)], [], []⟩) (APath.fin (by kernel_rfl)) (by kernel_rfl) ?_
  refine vc_seq ?_
  refine vc_seq ?_
  refine vc_reg (S := ⟨[(0, s_e_ref30_Opening false a0_), (1, iv a1_), (5, iv 0), (6, iv 0)], [], []⟩) (APath.fin (by kernel_rfl)) (by kernel_rfl) ?_
  refine vc_block ?_
  obtain ⟨o506, ho506, h⟩ := bind_some h
  refine vc_loop ((loop_sim (fun (x : Int × Int) s => s = ⟨[(0, s_e_ref30_Opening false a0_), (1, iv a1_), (5, iv x.1), (6, iv x.2)], [], []⟩) (fun x : Int × Int => ref30_sum_L1 N a0_ a1_ x.1 x.2) (fun (p : Int × Int) e s => e = .exit 0 ∧ (s = ⟨[(0, s_e_ref30_Opening false a0_), (1, iv a1_), (5, iv p.1), (6, iv p.2)], [], []⟩)) ?_ N _ o506 _ ho506 (by show _ = _; kernel_rfl)).mono ?_)
  · clear h ho506
    rintro ⟨i1, i2⟩ o s h hR
    obtain rfl := hR
    replace h : ref30_sum_L1 N a0_ a1_ i1 i2 = some o := h
    unfold ref30_sum_L1 at h
    refine vc_seq ?_
    refine vc_seq ?_
    refine vc_reg (S := ⟨[(0, s_e_ref30_Opening false a0_), (1, iv a1_), (5, iv i1), (6, iv i2), (10, bv (decide (i2 < ((List.length a0_ : Nat) : Int))))], [], []⟩) (APath.chunk 2 (by kernel_rfl) (APath.one (.val 9 .len [.t 8]) (by kernel_rfl) (st_val (ys := [s_e_ref30_Opening false a0_]) (by kernel_rfl) (vexec_len e_ref30_Opening)) (APath.fin (by kernel_rfl)))) (by kernel_rfl) ?_
    refine vc_ite (by kernel_rfl) h (fun hc503 h => ?_) (fun hc503 h => ?_)
    · refine vc_skip ?_
      refine vc_kp ?_
      refine vc_seq ?_
      refine vc_block ?_
      obtain ⟨e504, he504, h⟩ := bind_some h
      obtain ⟨e505, he505, h⟩ := bind_some h
      refine vc_regD (S := ⟨[(0, s_e_ref30_Opening false a0_), (1, iv a1_), (5, iv (w64 (i1 + (if (w64 ((w64 (e504.End - e505.Begin)) - a1_)) > 0 then (w64 ((w64 (e504.End - e505.Begin)) - a1_)) else 0)))), (6, iv i2)], [], []⟩) (by kernel_rfl) (APath.chunk 3 (by kernel_rfl) (APath.one (.val 16 (.iaddrS 2) [.t 14, .t 15]) (by kernel_rfl) (st_val (ys := [s_e_ref30_Opening false a0_, iv i2]) (by kernel_rfl) (vexec_iaddrS e_ref30_Opening he504)) (APath.chunk 1 (by kernel_rfl) (APath.one (.load 18 (.t 17) 1 false) (by kernel_rfl) (st_loadP (sz := 2) (off := 1) (cs := [.int .i64 e504.End]) (r := iv e504.End) e_ref30_Opening he504 (by kernel_rfl) (by kernel_rfl) (by kernel_rfl)) (APath.chunk 2 (by kernel_rfl) (APath.one (.val 21 (.iaddrS 2) [.t 19, .t 20]) (by kernel_rfl) (st_val (ys := [s_e_ref30_Opening false a0_, iv i2]) (by kernel_rfl) (vexec_iaddrS e_ref30_Opening he505)) (APath.chunk 1 (by kernel_rfl) (APath.one (.load 23 (.t 22) 1 false) (by kernel_rfl) (st_loadP (sz := 2) (off := 0) (cs := [.int .i64 e505.Begin]) (r := iv e505.Begin) e_ref30_Opening he505 (by kernel_rfl) (by kernel_rfl) (by kernel_rfl)) (APath.fin (by kernel_rfl)))))))))) (by kernel_rfl) ?_
      refine vc_reg (S := ⟨[(0, s_e_ref30_Opening false a0_), (1, iv a1_), (5, iv (w64 (i1 + (if (w64 ((w64 (e504.End - e505.Begin)) - a1_)) > 0 then (w64 ((w64 (e504.End - e505.Begin)) - a1_)) else 0)))), (6, iv (w64 (i2 + 1)))], [], []⟩) (APath.fin (by kernel_rfl)) (by kernel_rfl) ?_
      obtain rfl := some_inj h
      exact ⟨_, rfl, (by show _ = _; kernel_rfl)⟩
    · refine vc_exit ?_
      try show vc _ _ _ _ _
      obtain rfl := some_inj h
      exact ⟨_, rfl, rfl, (by show _ = _; kernel_rfl)⟩
  · rintro e s hq
    obtain ⟨rfl, hR⟩ := hq
    obtain rfl := hR
    try show vc _ _ _ _ _
    refine vc_seq ?_
    refine vc_reg (S := ⟨[(4, iv o506.1)], [], []⟩) (APath.fin (by kernel_rfl)) (by kernel_rfl) ?_
    refine vc_ret ?_
    obtain rfl := some_inj h
    exact ret_of (by kernel_rfl)
/- service.isOpen -/
theorem service_isOpen_ok (N : Nat) (a0_ : api_Entry) (r : Bool) (h : service_isOpen N a0_ = some r) : PCall Try.prog 49 [.agg (c_api_Entry a0_)] (bv r) := by
  unfold service_isOpen at h
  have hH : HP ([] : List HO) [] := trivial
  refine pcall_of chk49 rfl rfl (vc_sound _ _ _ ?_) rfl
  refine vc_seq ?_
  refine vc_reg (S := ⟨[(1, .loc 1 0)], [(1, (c_api_Entry a0_))], []⟩) (APath.fin (by kernel_rfl)) (by kernel_rfl) ?_
  refine vc_seq ?_
  refine vc_reg (S := ⟨[(2, bv ((andI .i64 (shrT .i64 a0_.Mask 6) 1) == 1))], [], []⟩) (APath.fin (by kernel_rfl)) (by kernel_rfl) ?_
  refine vc_ret ?_
  obtain rfl := some_inj h
  exact ret_of (by kernel_rfl)
/- isochronref27.Bit -/
theorem ref27_Bit_ok (N : Nat) (a0_ : Int) (a1_ : Int) (r : Bool) (h : ref27_Bit N a0_ a1_ = some r) : PCall Try.prog 51 [iv a0_, iv a1_] (bv r) := by
  unfold ref27_Bit at h
  have hH : HP ([] : List HO) [] := trivial
  refine pcall_of chk51 rfl rfl (vc_sound _ _ _ ?_) rfl
  refine vc_seq ?_
  refine vc_reg (S := ⟨[(0, iv a0_), (1, iv a1_)], [], []⟩) (APath.fin (by kernel_rfl)) (by kernel_rfl) ?_
  refine vc_seq ?_
  obtain ⟨sh1, hsh1, h⟩ := bind_some h
  refine vc_reg (S := ⟨[(4, bv ((Int.tmod sh1 2) == 1))], [], []⟩) (APath.chunk 3 (by kernel_rfl) (APath.one (.val 8 (.sh .shr) [.t 5, .t 7]) (by kernel_rfl) (st_val (ys := [iv a0_, .p (.int .u64 (IntKind.u64.wrap (a1_)))]) (by kernel_rfl) (vexec_shr hsh1)) (APath.fin (by kernel_rfl)))) (by kernel_rfl) ?_
  refine vc_ret ?_
  obtain rfl := some_inj h
  exact ret_of (by kernel_rfl)
/- gates.open$1 -/
theorem gates_open_1_ok (N : Nat) (a0_ : Int) (c0_ : Int) (k0_ : Nat) (H : List HO) (hH : HP H [.cel k0_ [iv c0_]]) (r : Bool) (h : gates_open_1 N a0_ c0_ = some r) : ACall Try.prog 52 [iv a0_, .ptr k0_ 0] H (bv r) H := by
  unfold gates_open_1 at h
  refine acall_of chk52 rfl rfl rfl (vc_sound _ _ _ ?_)
  refine vc_seq ?_
  refine vc_reg (S := ⟨[(0, iv a0_), (1, .ptr k0_ 0)], [], H⟩) (APath.fin (by kernel_rfl)) (by kernel_rfl) ?_
  refine vc_seq ?_
  have hlc1 := HP.get hH 0 rfl
  obtain ⟨sh2, hsh2, h⟩ := bind_some h
  refine vc_reg (S := ⟨[(3, bv ((andI .i64 sh2 1) == 1))], [], H⟩) (APath.chunk 1 (by kernel_rfl) (APath.one (.load 5 (.t 1) 1 false) (by kernel_rfl) (st_loadC (H := H) (id := k0_) (off := 0) (cs := [iv c0_]) (c := [iv c0_]) (r := iv c0_) (by kernel_rfl) (by kernel_rfl) hlc1 (by kernel_rfl) (by kernel_rfl) (by kernel_rfl)) (APath.one (.val 6 (.sh .shr) [.t 4, .t 5]) (by kernel_rfl) (st_val (ys := [iv a0_, iv c0_]) (by kernel_rfl) (vexec_shr hsh2)) (APath.fin (by kernel_rfl))))) (by kernel_rfl) ?_
  replace hH : HP H [] := HP.pick hH [] rfl
  refine vc_ret ?_
  obtain rfl := some_inj h
  exact ret_ofA (by kernel_rfl) (by kernel_rfl)
/- isochronref27.At -/
theorem ref27_At_ok (N : Nat) (a0_ : api_Gates) (a1_ : Int) (r : Int × Int) (h : ref27_At N a0_ a1_ = some r) : PCall Try.prog 53 [.agg (c_api_Gates a0_), iv a1_] (.tup [iv r.1, iv r.2]) := by
  unfold ref27_At at h
  have hH : HP ([] : List HO) [] := trivial
  refine pcall_of chk53 rfl rfl (vc_sound _ _ _ ?_) rfl
  refine vc_seq ?_
  refine vc_reg (S := ⟨[(1, iv a1_), (2, .loc 2 0)], [(2, (c_api_Gates a0_))], []⟩) (APath.fin (by kernel_rfl)) (by kernel_rfl) ?_
  refine vc_seq ?_
  obtain ⟨m1, hm1, h⟩ := bind_some h
  refine vc_reg (S := ⟨[(2, .loc 2 0), (6, iv m1)], [(2, (c_api_Gates a0_))], []⟩) (APath.chunk 3 (by kernel_rfl) (APath.one (.val 11 (.bin .rem) [.t 8, .t 10]) (by kernel_rfl) (st_val (ys := [iv a1_, iv a0_.Cycle]) (by kernel_rfl) (vexec_rem hm1)) (APath.fin (by kernel_rfl)))) (by kernel_rfl) ?_
  obtain ⟨j502, hj502, h⟩ := bind_some h
  refine vc_joinK [2, 6] (fun s => s = ⟨[(2, .loc 2 0), (6, iv j502)], [(2, (c_api_Gates a0_))], []⟩) ?_ ?_
  · clear h
    have h := hj502
    refine vc_seq ?_
    refine vc_reg (S := ⟨[(2, .loc 2 0), (6, iv m1), (13, bv (decide (m1 < 0)))], [(2, (c_api_Gates a0_))], []⟩) (APath.fin (by kernel_rfl)) (by kernel_rfl) ?_
    refine vc_ite (by kernel_rfl) h (fun hc503 h => ?_) (fun hc503 h => ?_)
    · refine vc_reg (S := ⟨[(2, .loc 2 0), (6, iv (w64 (m1 + a0_.Cycle)))], [(2, (c_api_Gates a0_))], []⟩) (APath.fin (by kernel_rfl)) (by kernel_rfl) ?_
      obtain rfl := some_inj h
      exact ⟨rfl, (by show _ = _; kernel_rfl)⟩
    · refine vc_skip ?_
      obtain rfl := some_inj h
      exact ⟨rfl, (by show _ = _; kernel_rfl)⟩
  · clear hj502
    rintro s hR
    obtain rfl := hR
    refine vc_seq ?_
    refine vc_reg (S := ⟨[(2, .loc 2 0), (6, iv j502), (7, iv 0)], [(2, (c_api_Gates a0_))], []⟩) (APath.fin (by kernel_rfl)) (by kernel_rfl) ?_
    refine vc_seq ?_
    refine vc_block ?_
    obtain ⟨o1009, ho1009, h⟩ := bind_some h
    refine vc_loop ((loop_sim (fun (x : Int × Int) s => s = ⟨[(2, .loc 2 0), (6, iv x.1), (7, iv x.2)], [(2, (c_api_Gates a0_))], []⟩) (fun x : Int × Int => ref27_At_L1 N a0_ x.1 x.2) (fun (p : Int × Int) e s => e = .exit 0 ∧ (s = ⟨[(2, .loc 2 0), (6, iv p.1), (7, iv p.2)], [(2, (c_api_Gates a0_))], []⟩)) ?_ N _ o1009 _ ho1009 (by show _ = _; kernel_rfl)).mono ?_)
    · clear h ho1009
      rintro ⟨i504, i505⟩ o s h hR
      obtain rfl := hR
      replace h : ref27_At_L1 N a0_ i504 i505 = some o := h
      unfold ref27_At_L1 at h
      refine vc_seq ?_
      refine vc_seq ?_
      obtain ⟨e1006, he1006, h⟩ := bind_some h
      refine vc_reg (S := ⟨[(2, .loc 2 0), (6, iv i504), (7, iv i505), (25, bv (decide (i504 ≥ e1006.Long)))], [(2, (c_api_Gates a0_))], []⟩) (APath.chunk 4 (by kernel_rfl) (APath.one (.val 22 (.iaddrS 2) [.t 20, .t 21]) (by kernel_rfl) (st_val (ys := [s_e_api_Entry false a0_.Entries, iv i505]) (by kernel_rfl) (vexec_iaddrS e_api_Entry he1006)) (APath.chunk 1 (by kernel_rfl) (APath.one (.load 24 (.t 23) 1 false) (by kernel_rfl) (st_loadP (sz := 2) (off := 1) (cs := [.int .i64 e1006.Long]) (r := iv e1006.Long) e_api_Entry he1006 (by kernel_rfl) (by kernel_rfl) (by kernel_rfl)) (APath.fin (by kernel_rfl)))))) (by kernel_rfl) ?_
      refine vc_ite (by kernel_rfl) h (fun hc1007 h => ?_) (fun hc1007 h => ?_)
      · refine vc_skip ?_
        refine vc_kp ?_
        refine vc_block ?_
        refine vc_seq ?_
        obtain ⟨e1008, he1008, h⟩ := bind_some h
        refine vc_reg (S := ⟨[(2, .loc 2 0), (6, iv (w64 (i504 - e1008.Long))), (7, iv i505)], [(2, (c_api_Gates a0_))], []⟩) (APath.chunk 4 (by kernel_rfl) (APath.one (.val 30 (.iaddrS 2) [.t 28, .t 29]) (by kernel_rfl) (st_val (ys := [s_e_api_Entry false a0_.Entries, iv i505]) (by kernel_rfl) (vexec_iaddrS e_api_Entry he1008)) (APath.chunk 1 (by kernel_rfl) (APath.one (.load 32 (.t 31) 1 false) (by kernel_rfl) (st_loadP (sz := 2) (off := 1) (cs := [.int .i64 e1008.Long]) (r := iv e1008.Long) e_api_Entry he1008 (by kernel_rfl) (by kernel_rfl) (by kernel_rfl)) (APath.fin (by kernel_rfl)))))) (by kernel_rfl) ?_
        refine vc_reg (S := ⟨[(2, .loc 2 0), (6, iv (w64 (i504 - e1008.Long))), (7, iv (w64 (i505 + 1)))], [(2, (c_api_Gates a0_))], []⟩) (APath.fin (by kernel_rfl)) (by kernel_rfl) ?_
        obtain rfl := some_inj h
        exact ⟨_, rfl, (by show _ = _; kernel_rfl)⟩
      · refine vc_exit ?_
        try show vc _ _ _ _ _
        obtain rfl := some_inj h
        exact ⟨_, rfl, rfl, (by show _ = _; kernel_rfl)⟩
    · rintro e s hq
      obtain ⟨rfl, hR⟩ := hq
      obtain rfl := hR
      try show vc _ _ _ _ _
      refine vc_seq ?_
      refine vc_reg (S := ⟨[(4, iv o1009.2), (5, iv o1009.1)], [], []⟩) (APath.fin (by kernel_rfl)) (by kernel_rfl) ?_
      refine vc_ret ?_
      obtain rfl := some_inj h
      exact ret_of (by kernel_rfl)
/- service.check -/
theorem service_check_ok (N : Nat) (a0_ : api_Gates) (a1_ : Int) (a2_ : Int) (r : Int) (h : service_check N a0_ a1_ a2_ = some r) : PCall Try.prog 25 [.agg (c_api_Gates a0_), iv a1_, iv a2_] (iv r) := by
  unfold service_check at h
  have hH : HP ([] : List HO) [] := trivial
  refine pcall_of chk25 rfl rfl (vc_sound _ _ _ ?_) rfl
  refine vc_seq ?_
  refine vc_reg (S := ⟨[(1, iv a1_), (2, iv a2_), (3, .loc 3 0)], [(3, (c_api_Gates a0_))], []⟩) (APath.fin (by kernel_rfl)) (by kernel_rfl) ?_
  refine vc_seq ?_
  refine vc_seq ?_
  obtain ⟨r1, hr1, h⟩ := bind_some h
  refine vc_reg (S := ⟨[(1, iv a1_), (2, iv a2_), (7, iv r1)], [], []⟩) (APath.chunk 1 (by kernel_rfl) (APath.one (.call (some 9) 45 [.t 8]) (by kernel_rfl) (st_call (by kernel_rfl) (gates_Check_ok N a0_ r1 hr1)) (APath.fin (by kernel_rfl)))) (by kernel_rfl) ?_
  refine vc_seq ?_
  refine vc_reg (S := ⟨[(1, iv a1_), (2, iv a2_), (7, iv r1), (11, bv (r1 != 0))], [], []⟩) (APath.fin (by kernel_rfl)) (by kernel_rfl) ?_
  refine vc_ite (by kernel_rfl) h (fun hc2 h => ?_) (fun hc2 h => ?_)
  · refine vc_seq ?_
    refine vc_reg (S := ⟨[(6, iv r1)], [], []⟩) (APath.fin (by kernel_rfl)) (by kernel_rfl) ?_
    refine vc_ret ?_
    obtain rfl := some_inj h
    exact ret_of (by kernel_rfl)
  · refine vc_skip ?_
    refine vc_kp ?_
    refine vc_seq ?_
    refine vc_seq ?_
    refine vc_regX ⟨[(26, bv ((decide (a1_ < 1)) || ((decide (a1_ > 1000)) || ((decide (a2_ < 84)) || (decide (a2_ > 1542))))))], [], []⟩ ?_ ?_
    · rcases Bool.eq_false_or_eq_true (decide (a1_ < 1)) with hc3 | hc4
      · exact ⟨_, (APath.chunk 1 (by kernel_rfl) (APath.one (.val 14 (.bin .lss) [.t 13, .k (.p (.int .i64 1))]) (by kernel_rfl) (st_bool (c := (decide (a1_ < 1))) (by kernel_rfl) hc3) (APath.fin (by kernel_rfl)))), by simp only [hc3]; kernel_rfl⟩
      · rcases Bool.eq_false_or_eq_true (decide (a1_ > 1000)) with hc5 | hc6
        · exact ⟨_, (APath.chunk 1 (by kernel_rfl) (APath.one (.val 14 (.bin .lss) [.t 13, .k (.p (.int .i64 1))]) (by kernel_rfl) (st_bool (c := (decide (a1_ < 1))) (by kernel_rfl) hc4) (APath.chunk 2 (by kernel_rfl) (APath.oneG (.val 17 (.bin .gtr) [.t 16, .k (.p (.int .i64 1000))]) 15 false (by kernel_rfl) (by kernel_rfl) (st_bool (c := (decide (a1_ > 1000))) (by kernel_rfl) hc5) (APath.fin (by kernel_rfl)))))), by simp only [hc4, hc5]; kernel_rfl⟩
        · rcases Bool.eq_false_or_eq_true (decide (a2_ < 84)) with hc7 | hc8
          · exact ⟨_, (APath.chunk 1 (by kernel_rfl) (APath.one (.val 14 (.bin .lss) [.t 13, .k (.p (.int .i64 1))]) (by kernel_rfl) (st_bool (c := (decide (a1_ < 1))) (by kernel_rfl) hc4) (APath.chunk 2 (by kernel_rfl) (APath.oneG (.val 17 (.bin .gtr) [.t 16, .k (.p (.int .i64 1000))]) 15 false (by kernel_rfl) (by kernel_rfl) (st_bool (c := (decide (a1_ > 1000))) (by kernel_rfl) hc6) (APath.chunk 3 (by kernel_rfl) (APath.oneG (.val 21 (.bin .lss) [.t 20, .k (.p (.int .i64 84))]) 19 false (by kernel_rfl) (by kernel_rfl) (st_bool (c := (decide (a2_ < 84))) (by kernel_rfl) hc7) (APath.fin (by kernel_rfl)))))))), by simp only [hc4, hc6, hc7]; kernel_rfl⟩
          · exact ⟨_, (APath.chunk 1 (by kernel_rfl) (APath.one (.val 14 (.bin .lss) [.t 13, .k (.p (.int .i64 1))]) (by kernel_rfl) (st_bool (c := (decide (a1_ < 1))) (by kernel_rfl) hc4) (APath.chunk 2 (by kernel_rfl) (APath.oneG (.val 17 (.bin .gtr) [.t 16, .k (.p (.int .i64 1000))]) 15 false (by kernel_rfl) (by kernel_rfl) (st_bool (c := (decide (a1_ > 1000))) (by kernel_rfl) hc6) (APath.chunk 3 (by kernel_rfl) (APath.oneG (.val 21 (.bin .lss) [.t 20, .k (.p (.int .i64 84))]) 19 false (by kernel_rfl) (by kernel_rfl) (st_bool (c := (decide (a2_ < 84))) (by kernel_rfl) hc8) (APath.fin (by kernel_rfl)))))))), by simp only [hc4, hc6, hc8]; kernel_rfl⟩
    · refine vc_ite (by kernel_rfl) h (fun hc9 h => ?_) (fun hc9 h => ?_)
      · refine vc_seq ?_
        refine vc_reg (S := ⟨[(6, iv 2)], [], []⟩) (APath.fin (by kernel_rfl)) (by kernel_rfl) ?_
        refine vc_ret ?_
        obtain rfl := some_inj h
        exact ret_of (by kernel_rfl)
      · refine vc_skip ?_
        refine vc_kp ?_
        refine vc_seq ?_
        refine vc_reg (S := ⟨[(6, iv 0)], [], []⟩) (APath.fin (by kernel_rfl)) (by kernel_rfl) ?_
        refine vc_ret ?_
        obtain rfl := some_inj h
        exact ret_of (by kernel_rfl)
/- isochronref30.args -/
theorem ref30_args_ok (N : Nat) (a0_ : api_Gates) (a1_ : Int) (a2_ : Int) (r : Int) (h : ref30_args N a0_ a1_ a2_ = some r) : PCall Try.prog 27 [.agg (c_api_Gates a0_), iv a1_, iv a2_] (iv r) := by
  unfold ref30_args at h
  have hH : HP ([] : List HO) [] := trivial
  refine pcall_of chk27 rfl rfl (vc_sound _ _ _ ?_) rfl
  refine vc_seq ?_
  refine vc_reg (S := ⟨[(1, iv a1_), (2, iv a2_), (3, .loc 3 0)], [(3, (c_api_Gates a0_))], []⟩) (APath.fin (by kernel_rfl)) (by kernel_rfl) ?_
  refine vc_seq ?_
  refine vc_seq ?_
  obtain ⟨r1, hr1, h⟩ := bind_some h
  refine vc_reg (S := ⟨[(1, iv a1_), (2, iv a2_), (9, bv (!r1))], [], []⟩) (APath.chunk 1 (by kernel_rfl) (APath.one (.call (some 8) 46 [.t 7]) (by kernel_rfl) (st_call (by kernel_rfl) (ref27_Right_ok N a0_ r1 hr1)) (APath.fin (by kernel_rfl)))) (by kernel_rfl) ?_
  refine vc_ite (by kernel_rfl) h (fun hc2 h => ?_) (fun hc2 h => ?_)
  · refine vc_seq ?_
    refine vc_reg (S := ⟨[(6, iv 370)], [], []⟩) (APath.fin (by kernel_rfl)) (by kernel_rfl) ?_
    refine vc_ret ?_
    obtain rfl := some_inj h
    exact ret_of (by kernel_rfl)
  · refine vc_skip ?_
    refine vc_kp ?_
    refine vc_seq ?_
    refine vc_seq ?_
    refine vc_regX ⟨[(23, bv ((decide (a1_ < 1)) || ((decide (a1_ > 1000)) || ((decide (a2_ < 84)) || (decide (a2_ > 1542))))))], [], []⟩ ?_ ?_
    · rcases Bool.eq_false_or_eq_true (decide (a1_ < 1)) with hc3 | hc4
      · exact ⟨_, (APath.chunk 1 (by kernel_rfl) (APath.one (.val 11 (.bin .lss) [.t 10, .k (.p (.int .i64 1))]) (by kernel_rfl) (st_bool (c := (decide (a1_ < 1))) (by kernel_rfl) hc3) (APath.fin (by kernel_rfl)))), by simp only [hc3]; kernel_rfl⟩
      · rcases Bool.eq_false_or_eq_true (decide (a1_ > 1000)) with hc5 | hc6
        · exact ⟨_, (APath.chunk 1 (by kernel_rfl) (APath.one (.val 11 (.bin .lss) [.t 10, .k (.p (.int .i64 1))]) (by kernel_rfl) (st_bool (c := (decide (a1_ < 1))) (by kernel_rfl) hc4) (APath.chunk 2 (by kernel_rfl) (APath.oneG (.val 14 (.bin .gtr) [.t 13, .k (.p (.int .i64 1000))]) 12 false (by kernel_rfl) (by kernel_rfl) (st_bool (c := (decide (a1_ > 1000))) (by kernel_rfl) hc5) (APath.fin (by kernel_rfl)))))), by simp only [hc4, hc5]; kernel_rfl⟩
        · rcases Bool.eq_false_or_eq_true (decide (a2_ < 84)) with hc7 | hc8
          · exact ⟨_, (APath.chunk 1 (by kernel_rfl) (APath.one (.val 11 (.bin .lss) [.t 10, .k (.p (.int .i64 1))]) (by kernel_rfl) (st_bool (c := (decide (a1_ < 1))) (by kernel_rfl) hc4) (APath.chunk 2 (by kernel_rfl) (APath.oneG (.val 14 (.bin .gtr) [.t 13, .k (.p (.int .i64 1000))]) 12 false (by kernel_rfl) (by kernel_rfl) (st_bool (c := (decide (a1_ > 1000))) (by kernel_rfl) hc6) (APath.chunk 3 (by kernel_rfl) (APath.oneG (.val 18 (.bin .lss) [.t 17, .k (.p (.int .i64 84))]) 16 false (by kernel_rfl) (by kernel_rfl) (st_bool (c := (decide (a2_ < 84))) (by kernel_rfl) hc7) (APath.fin (by kernel_rfl)))))))), by simp only [hc4, hc6, hc7]; kernel_rfl⟩
          · exact ⟨_, (APath.chunk 1 (by kernel_rfl) (APath.one (.val 11 (.bin .lss) [.t 10, .k (.p (.int .i64 1))]) (by kernel_rfl) (st_bool (c := (decide (a1_ < 1))) (by kernel_rfl) hc4) (APath.chunk 2 (by kernel_rfl) (APath.oneG (.val 14 (.bin .gtr) [.t 13, .k (.p (.int .i64 1000))]) 12 false (by kernel_rfl) (by kernel_rfl) (st_bool (c := (decide (a1_ > 1000))) (by kernel_rfl) hc6) (APath.chunk 3 (by kernel_rfl) (APath.oneG (.val 18 (.bin .lss) [.t 17, .k (.p (.int .i64 84))]) 16 false (by kernel_rfl) (by kernel_rfl) (st_bool (c := (decide (a2_ < 84))) (by kernel_rfl) hc8) (APath.fin (by kernel_rfl)))))))), by simp only [hc4, hc6, hc8]; kernel_rfl⟩
    · refine vc_ite (by kernel_rfl) h (fun hc9 h => ?_) (fun hc9 h => ?_)
      · refine vc_seq ?_
        refine vc_reg (S := ⟨[(6, iv 2)], [], []⟩) (APath.fin (by kernel_rfl)) (by kernel_rfl) ?_
        refine vc_ret ?_
        obtain rfl := some_inj h
        exact ret_of (by kernel_rfl)
      · refine vc_skip ?_
        refine vc_kp ?_
        refine vc_seq ?_
        refine vc_reg (S := ⟨[(6, iv 0)], [], []⟩) (APath.fin (by kernel_rfl)) (by kernel_rfl) ?_
        refine vc_ret ?_
        obtain rfl := some_inj h
        exact ret_of (by kernel_rfl)
/- service.Of$1 -/
theorem service_Of_1_ok (N : Nat) (a0_ : Int) (a1_ : Int) (c0_ : Int) (c1_ : Int) (c2_ : Int) (k0_ : Nat) (k1_ : Nat) (k2_ : Nat) (H : List HO) (hH : HP H [.cel k0_ [iv c0_], .cel k1_ [iv c1_], .cel k2_ [iv c2_]]) (r : Int) (h : service_Of_1 N a0_ a1_ c0_ c1_ c2_ = some r) : ∃ H', ACall Try.prog 34 [iv a0_, iv a1_, .ptr k0_ 0, .ptr k1_ 0, .ptr k2_ 0] H (.tup []) H' ∧ Fp H H' [.cel k0_ [iv c0_], .cel k1_ [iv c1_], .cel k2_ [iv c2_]] [.cel k0_ [iv r], .cel k1_ [iv c1_], .cel k2_ [iv c2_]] := by
  unfold service_Of_1 at h
  replace hH := Fp.refl hH
  refine acall_detW chk34 [k0_, k1_, k2_] (fun H' => Fp H H' [.cel k0_ [iv c0_], .cel k1_ [iv c1_], .cel k2_ [iv c2_]] [.cel k0_ [iv r], .cel k1_ [iv c1_], .cel k2_ [iv c2_]]) rfl rfl rfl ?_
  have hlc1 := Fp.get hH 0 rfl
  have hlc2 := Fp.get hH 1 rfl
  have hlc3 := Fp.get hH 2 rfl
  obtain ⟨r4, hr4, h⟩ := bind_some h
  obtain ⟨H5, hH5, hH⟩ := Fp.setCell (k := 0) (off := 0) (cs := [iv c0_]) (vs := [iv (if (w64 (a0_ - r4)) > c0_ then (w64 (a0_ - r4)) else c0_)]) (cs' := [iv (if (w64 (a0_ - r4)) > c0_ then (w64 (a0_ - r4)) else c0_)]) hH rfl (by kernel_rfl)
  replace hH : Fp H H5 [.cel k0_ [iv c0_], .cel k1_ [iv c1_], .cel k2_ [iv c2_]] [.cel k0_ [iv (if (w64 (a0_ - r4)) > c0_ then (w64 (a0_ - r4)) else c0_)], .cel k1_ [iv c1_], .cel k2_ [iv c2_]] := hH
  refine vc_regD (S := ⟨[], [], H5⟩) (by kernel_rfl) (APath.one (.load 7 (.t 2) 1 false) (by kernel_rfl) (st_loadC (H := H) (id := k0_) (off := 0) (cs := [iv c0_]) (c := [iv c0_]) (r := iv c0_) (by kernel_rfl) (by kernel_rfl) hlc1 (by kernel_rfl) (by kernel_rfl) (by kernel_rfl)) (APath.chunk 3 (by kernel_rfl) (APath.one (.load 11 (.t 3) 1 false) (by kernel_rfl) (st_loadC (H := H) (id := k1_) (off := 0) (cs := [iv c1_]) (c := [iv c1_]) (r := iv c1_) (by kernel_rfl) (by kernel_rfl) hlc2 (by kernel_rfl) (by kernel_rfl) (by kernel_rfl)) (APath.one (.load 12 (.t 4) 1 false) (by kernel_rfl) (st_loadC (H := H) (id := k2_) (off := 0) (cs := [iv c2_]) (c := [iv c2_]) (r := iv c2_) (by kernel_rfl) (by kernel_rfl) hlc3 (by kernel_rfl) (by kernel_rfl) (by kernel_rfl)) (APath.chunk 1 (by kernel_rfl) (APath.one (.callP 14 35 [.t 10, .t 13]) (by kernel_rfl) (st_callP (by kernel_rfl) (service_floorDiv_ok N (w64 (a1_ * 1048576)) (w64 (c1_ * c2_)) r4 hr4)) (APath.chunk 2 (by kernel_rfl) (APath.one (.store (.t 2) (.t 16) 1) (by kernel_rfl) (st_storeH (H := H) (v := iv (if (w64 (a0_ - r4)) > c0_ then (w64 (a0_ - r4)) else c0_)) (by kernel_rfl) (by kernel_rfl) (by kernel_rfl) (by kernel_rfl) hH5) APath.done)))))))) (by kernel_rfl) ?_
  obtain rfl := some_inj h
  exact ret_ofW (by kernel_rfl) (Fp.pick (Fp.weak1 (k := 2) (Fp.weak1 (k := 1) (Fp.weak1 (k := 0) hH rfl) rfl) rfl) [0, 1, 2] rfl)
/- isochronref30.Always -/
theorem ref30_Always_ok (N : Nat) (a0_ : api_Gates) (r : Bool) (h : ref30_Always N a0_ = some r) : PCall Try.prog 38 [.agg (c_api_Gates a0_)] (bv r) := by
  unfold ref30_Always at h
  have hH : HP ([] : List HO) [] := trivial
  refine pcall_of chk38 rfl rfl (vc_sound _ _ _ ?_) rfl
  refine vc_seq ?_
  refine vc_reg (S := ⟨[(1, .loc 1 0)], [(1, (c_api_Gates a0_))], []⟩) (APath.fin (by kernel_rfl)) (by kernel_rfl) ?_
  refine vc_seq ?_
  refine vc_seq ?_
  refine vc_reg (S := ⟨[(1, .loc 1 0), (3, iv 0)], [(1, (c_api_Gates a0_))], []⟩) (APath.fin (by kernel_rfl)) (by kernel_rfl) ?_
  refine vc_block ?_
  obtain ⟨o506, ho506, h⟩ := bind_some h
  refine vc_loop ((loop_sim (fun (x : Int) s => s = ⟨[(1, .loc 1 0), (3, iv x)], [(1, (c_api_Gates a0_))], []⟩) (fun x : Int => ref30_Always_L1 N a0_ x) (fun (p : (Int) ⊕ (Bool)) e s => match p with | (.inl p) => e = .exit 0 ∧ (s = ⟨[(1, .loc 1 0), (3, iv p)], [(1, (c_api_Gates a0_))], []⟩) | (.inr p) => e = .ret ∧ ∃ xs, resL s i38.res = some xs ∧ tupOf xs = bv p) ?_ N _ o506 _ ho506 (by show _ = _; kernel_rfl)).mono ?_)
  · clear h ho506
    rintro i1 o s h hR
    obtain rfl := hR
    replace h : ref30_Always_L1 N a0_ i1 = some o := h
    unfold ref30_Always_L1 at h
    refine vc_seq ?_
    refine vc_seq ?_
    refine vc_reg (S := ⟨[(1, .loc 1 0), (3, iv i1), (8, bv (decide (i1 < ((List.length a0_.Entries : Nat) : Int))))], [(1, (c_api_Gates a0_))], []⟩) (APath.chunk 3 (by kernel_rfl) (APath.one (.val 7 .len [.t 6]) (by kernel_rfl) (st_val (ys := [s_e_api_Entry false a0_.Entries]) (by kernel_rfl) (vexec_len e_api_Entry)) (APath.fin (by kernel_rfl)))) (by kernel_rfl) ?_
    refine vc_ite (by kernel_rfl) h (fun hc502 h => ?_) (fun hc502 h => ?_)
    · refine vc_skip ?_
      refine vc_kp ?_
      refine vc_seq ?_
      refine vc_block ?_
      refine vc_seq ?_
      obtain ⟨e503, he503, h⟩ := bind_some h
      obtain ⟨r504, hr504, h⟩ := bind_some h
      refine vc_reg (S := ⟨[(1, .loc 1 0), (3, iv i1), (18, bv (!r504))], [(1, (c_api_Gates a0_))], []⟩) (APath.chunk 3 (by kernel_rfl) (APath.one (.val 14 (.iaddrS 2) [.t 12, .t 13]) (by kernel_rfl) (st_val (ys := [s_e_api_Entry false a0_.Entries, iv i1]) (by kernel_rfl) (vexec_iaddrS e_api_Entry he503)) (APath.chunk 1 (by kernel_rfl) (APath.one (.load 16 (.t 15) 1 false) (by kernel_rfl) (st_loadP (sz := 2) (off := 0) (cs := [.int .i64 e503.Mask]) (r := iv e503.Mask) e_api_Entry he503 (by kernel_rfl) (by kernel_rfl) (by kernel_rfl)) (APath.one (.call (some 17) 51 [.t 16, .k (.p (.int .i64 6))]) (by kernel_rfl) (st_call (by kernel_rfl) (ref27_Bit_ok N e503.Mask 6 r504 hr504)) (APath.fin (by kernel_rfl))))))) (by kernel_rfl) ?_
      refine vc_ite (by kernel_rfl) h (fun hc505 h => ?_) (fun hc505 h => ?_)
      · refine vc_seq ?_
        refine vc_reg (S := ⟨[(2, bv false)], [], []⟩) (APath.fin (by kernel_rfl)) (by kernel_rfl) ?_
        refine vc_ret ?_
        obtain rfl := some_inj h
        exact ⟨_, rfl, rfl, ret_of (by kernel_rfl)⟩
      · refine vc_skip ?_
        refine vc_kp ?_
        refine vc_reg (S := ⟨[(1, .loc 1 0), (3, iv (w64 (i1 + 1)))], [(1, (c_api_Gates a0_))], []⟩) (APath.fin (by kernel_rfl)) (by kernel_rfl) ?_
        obtain rfl := some_inj h
        exact ⟨_, rfl, (by show _ = _; kernel_rfl)⟩
    · refine vc_exit ?_
      try show vc _ _ _ _ _
      obtain rfl := some_inj h
      exact ⟨_, rfl, rfl, (by show _ = _; kernel_rfl)⟩
  · rintro e s hq
    rcases o506 with p507 | p508
    · dsimp only at h hq
      obtain ⟨rfl, hR⟩ := hq
      obtain rfl := hR
      try show vc _ _ _ _ _
      refine vc_seq ?_
      refine vc_reg (S := ⟨[(2, bv true)], [], []⟩) (APath.fin (by kernel_rfl)) (by kernel_rfl) ?_
      refine vc_ret ?_
      obtain rfl := some_inj h
      exact ret_of (by kernel_rfl)
    · dsimp only at h hq
      obtain ⟨rfl, hq⟩ := hq
      obtain rfl := some_inj h
      exact hq
/- gates.check -/
theorem gates_check_ok (N : Nat) (a0_ : api_Gates) (a1_ : Int) (a2_ : Int) (a3_ : Int) (r : Int) (h : gates_check N a0_ a1_ a2_ a3_ = some r) : PCall Try.prog 40 [.agg (c_api_Gates a0_), iv a1_, iv a2_, iv a3_] (iv r) := by
  unfold gates_check at h
  have hH : HP ([] : List HO) [] := trivial
  refine pcall_of chk40 rfl rfl (vc_sound _ _ _ ?_) rfl
  refine vc_seq ?_
  refine vc_reg (S := ⟨[(1, iv a1_), (2, iv a2_), (3, iv a3_), (4, .loc 4 0)], [(4, (c_api_Gates a0_))], []⟩) (APath.fin (by kernel_rfl)) (by kernel_rfl) ?_
  refine vc_seq ?_
  refine vc_seq ?_
  obtain ⟨r1, hr1, h⟩ := bind_some h
  refine vc_reg (S := ⟨[(1, iv a1_), (2, iv a2_), (3, iv a3_), (9, iv r1)], [], []⟩) (APath.chunk 1 (by kernel_rfl) (APath.one (.call (some 11) 45 [.t 10]) (by kernel_rfl) (st_call (by kernel_rfl) (gates_Check_ok N a0_ r1 hr1)) (APath.fin (by kernel_rfl)))) (by kernel_rfl) ?_
  refine vc_seq ?_
  refine vc_reg (S := ⟨[(1, iv a1_), (2, iv a2_), (3, iv a3_), (9, iv r1), (13, bv (r1 != 0))], [], []⟩) (APath.fin (by kernel_rfl)) (by kernel_rfl) ?_
  refine vc_ite (by kernel_rfl) h (fun hc2 h => ?_) (fun hc2 h => ?_)
  · refine vc_seq ?_
    refine vc_reg (S := ⟨[(8, iv r1)], [], []⟩) (APath.fin (by kernel_rfl)) (by kernel_rfl) ?_
    refine vc_ret ?_
    obtain rfl := some_inj h
    exact ret_of (by kernel_rfl)
  · refine vc_skip ?_
    refine vc_kp ?_
    refine vc_seq ?_
    refine vc_seq ?_
    refine vc_regX ⟨[(36, bv ((decide (a1_ < 0)) || ((decide (a1_ ≥ 8)) || ((decide (a2_ < (-1099511627776))) || ((decide (a2_ > 1099511627776)) || ((decide (a3_ < 0)) || (decide (a3_ > 1099511627776))))))))], [], []⟩ ?_ ?_
    · rcases Bool.eq_false_or_eq_true (decide (a1_ < 0)) with hc3 | hc4
      · exact ⟨_, (APath.chunk 1 (by kernel_rfl) (APath.one (.val 16 (.bin .lss) [.t 15, .k (.p (.int .i64 0))]) (by kernel_rfl) (st_bool (c := (decide (a1_ < 0))) (by kernel_rfl) hc3) (APath.fin (by kernel_rfl)))), by simp only [hc3]; kernel_rfl⟩
      · rcases Bool.eq_false_or_eq_true (decide (a1_ ≥ 8)) with hc5 | hc6
        · exact ⟨_, (APath.chunk 1 (by kernel_rfl) (APath.one (.val 16 (.bin .lss) [.t 15, .k (.p (.int .i64 0))]) (by kernel_rfl) (st_bool (c := (decide (a1_ < 0))) (by kernel_rfl) hc4) (APath.chunk 2 (by kernel_rfl) (APath.oneG (.val 19 (.bin .geq) [.t 18, .k (.p (.int .i64 8))]) 17 false (by kernel_rfl) (by kernel_rfl) (st_bool (c := (decide (a1_ ≥ 8))) (by kernel_rfl) hc5) (APath.fin (by kernel_rfl)))))), by simp only [hc4, hc5]; kernel_rfl⟩
        · rcases Bool.eq_false_or_eq_true (decide (a2_ < (-1099511627776))) with hc7 | hc8
          · exact ⟨_, (APath.chunk 1 (by kernel_rfl) (APath.one (.val 16 (.bin .lss) [.t 15, .k (.p (.int .i64 0))]) (by kernel_rfl) (st_bool (c := (decide (a1_ < 0))) (by kernel_rfl) hc4) (APath.chunk 2 (by kernel_rfl) (APath.oneG (.val 19 (.bin .geq) [.t 18, .k (.p (.int .i64 8))]) 17 false (by kernel_rfl) (by kernel_rfl) (st_bool (c := (decide (a1_ ≥ 8))) (by kernel_rfl) hc6) (APath.chunk 3 (by kernel_rfl) (APath.oneG (.val 23 (.bin .lss) [.t 22, .k (.p (.int .i64 (-1099511627776)))]) 21 false (by kernel_rfl) (by kernel_rfl) (st_bool (c := (decide (a2_ < (-1099511627776)))) (by kernel_rfl) hc7) (APath.fin (by kernel_rfl)))))))), by simp only [hc4, hc6, hc7]; kernel_rfl⟩
          · rcases Bool.eq_false_or_eq_true (decide (a2_ > 1099511627776)) with hc9 | hc10
            · exact ⟨_, (APath.chunk 1 (by kernel_rfl) (APath.one (.val 16 (.bin .lss) [.t 15, .k (.p (.int .i64 0))]) (by kernel_rfl) (st_bool (c := (decide (a1_ < 0))) (by kernel_rfl) hc4) (APath.chunk 2 (by kernel_rfl) (APath.oneG (.val 19 (.bin .geq) [.t 18, .k (.p (.int .i64 8))]) 17 false (by kernel_rfl) (by kernel_rfl) (st_bool (c := (decide (a1_ ≥ 8))) (by kernel_rfl) hc6) (APath.chunk 3 (by kernel_rfl) (APath.oneG (.val 23 (.bin .lss) [.t 22, .k (.p (.int .i64 (-1099511627776)))]) 21 false (by kernel_rfl) (by kernel_rfl) (st_bool (c := (decide (a2_ < (-1099511627776)))) (by kernel_rfl) hc8) (APath.chunk 3 (by kernel_rfl) (APath.oneG (.val 27 (.bin .gtr) [.t 26, .k (.p (.int .i64 1099511627776))]) 25 false (by kernel_rfl) (by kernel_rfl) (st_bool (c := (decide (a2_ > 1099511627776))) (by kernel_rfl) hc9) (APath.fin (by kernel_rfl)))))))))), by simp only [hc4, hc6, hc8, hc9]; kernel_rfl⟩
            · rcases Bool.eq_false_or_eq_true (decide (a3_ < 0)) with hc11 | hc12
              · exact ⟨_, (APath.chunk 1 (by kernel_rfl) (APath.one (.val 16 (.bin .lss) [.t 15, .k (.p (.int .i64 0))]) (by kernel_rfl) (st_bool (c := (decide (a1_ < 0))) (by kernel_rfl) hc4) (APath.chunk 2 (by kernel_rfl) (APath.oneG (.val 19 (.bin .geq) [.t 18, .k (.p (.int .i64 8))]) 17 false (by kernel_rfl) (by kernel_rfl) (st_bool (c := (decide (a1_ ≥ 8))) (by kernel_rfl) hc6) (APath.chunk 3 (by kernel_rfl) (APath.oneG (.val 23 (.bin .lss) [.t 22, .k (.p (.int .i64 (-1099511627776)))]) 21 false (by kernel_rfl) (by kernel_rfl) (st_bool (c := (decide (a2_ < (-1099511627776)))) (by kernel_rfl) hc8) (APath.chunk 3 (by kernel_rfl) (APath.oneG (.val 27 (.bin .gtr) [.t 26, .k (.p (.int .i64 1099511627776))]) 25 false (by kernel_rfl) (by kernel_rfl) (st_bool (c := (decide (a2_ > 1099511627776))) (by kernel_rfl) hc10) (APath.chunk 3 (by kernel_rfl) (APath.oneG (.val 31 (.bin .lss) [.t 30, .k (.p (.int .i64 0))]) 29 false (by kernel_rfl) (by kernel_rfl) (st_bool (c := (decide (a3_ < 0))) (by kernel_rfl) hc11) (APath.fin (by kernel_rfl)))))))))))), by simp only [hc4, hc6, hc8, hc10, hc11]; kernel_rfl⟩
              · exact ⟨_, (APath.chunk 1 (by kernel_rfl) (APath.one (.val 16 (.bin .lss) [.t 15, .k (.p (.int .i64 0))]) (by kernel_rfl) (st_bool (c := (decide (a1_ < 0))) (by kernel_rfl) hc4) (APath.chunk 2 (by kernel_rfl) (APath.oneG (.val 19 (.bin .geq) [.t 18, .k (.p (.int .i64 8))]) 17 false (by kernel_rfl) (by kernel_rfl) (st_bool (c := (decide (a1_ ≥ 8))) (by kernel_rfl) hc6) (APath.chunk 3 (by kernel_rfl) (APath.oneG (.val 23 (.bin .lss) [.t 22, .k (.p (.int .i64 (-1099511627776)))]) 21 false (by kernel_rfl) (by kernel_rfl) (st_bool (c := (decide (a2_ < (-1099511627776)))) (by kernel_rfl) hc8) (APath.chunk 3 (by kernel_rfl) (APath.oneG (.val 27 (.bin .gtr) [.t 26, .k (.p (.int .i64 1099511627776))]) 25 false (by kernel_rfl) (by kernel_rfl) (st_bool (c := (decide (a2_ > 1099511627776))) (by kernel_rfl) hc10) (APath.chunk 3 (by kernel_rfl) (APath.oneG (.val 31 (.bin .lss) [.t 30, .k (.p (.int .i64 0))]) 29 false (by kernel_rfl) (by kernel_rfl) (st_bool (c := (decide (a3_ < 0))) (by kernel_rfl) hc12) (APath.fin (by kernel_rfl)))))))))))), by simp only [hc4, hc6, hc8, hc10, hc12]; kernel_rfl⟩
    · refine vc_ite (by kernel_rfl) h (fun hc13 h => ?_) (fun hc13 h => ?_)
      · refine vc_seq ?_
        refine vc_reg (S := ⟨[(8, iv 2)], [], []⟩) (APath.fin (by kernel_rfl)) (by kernel_rfl) ?_
        refine vc_ret ?_
        obtain rfl := some_inj h
        exact ret_of (by kernel_rfl)
      · refine vc_skip ?_
        refine vc_kp ?_
        refine vc_seq ?_
        refine vc_reg (S := ⟨[(8, iv 0)], [], []⟩) (APath.fin (by kernel_rfl)) (by kernel_rfl) ?_
        refine vc_ret ?_
        obtain rfl := some_inj h
        exact ret_of (by kernel_rfl)
/- gates.open -/
theorem gates_open_ok (N : Nat) (a0_ : api_Gates) (a1_ : Int) (a2_ : Int) (r : Int) (h : gates_open N a0_ a1_ a2_ = some r) : PCall Try.prog 41 [.agg (c_api_Gates a0_), iv a1_, iv a2_] (iv r) := by
  unfold gates_open at h
  have hH : HP ([] : List HO) [] := trivial
  refine pcall_of chk41 rfl rfl (vc_sound _ _ _ ?_) rfl
  refine vc_seq ?_
  obtain ⟨id1, H2, hid1, hH2, hH⟩ := HP.newCell hH [iv a1_]
  replace hH : HP H2 [.cel id1 [iv a1_]] := hH
  refine vc_reg (S := ⟨[(2, iv a2_), (3, .loc 3 0), (4, .ptr id1 0)], [(3, (c_api_Gates a0_))], H2⟩) (APath.chunk 1 (by kernel_rfl) (APath.one (.boxH 4 (.t 1)) (by kernel_rfl) (st_boxH (H := []) (v := iv a1_) (by kernel_rfl) (by kernel_rfl) (by kernel_rfl) hid1 hH2) (APath.fin (by kernel_rfl)))) (by kernel_rfl) ?_
  refine vc_seq ?_
  obtain ⟨r3, hr3, h⟩ := bind_some h
  have hvr3 := (gates_stretch_ok N a0_ a2_ (fun x0 => gates_open_1 N x0 a1_)   52 [] [.ptr id1 0] (by kernel_rfl) [.cel id1 [iv a1_]] (fun H x0 r hH h => VCall.of (by kernel_rfl) (gates_open_1_ok N x0 a1_ id1 H hH r h)) H2 (HP.now (HP.pick hH [0] rfl)) r3 hr3)
  refine vc_reg (S := ⟨[(3, .loc 3 0), (7, iv r3)], [(3, (c_api_Gates a0_))], H2⟩) (APath.chunk 3 (by kernel_rfl) (APath.one (.call (some 11) 43 [.t 8, .t 9, .t 10]) (by kernel_rfl) (st_callH (H := H2) (ys := [.agg (c_api_Gates a0_), iv a2_, .fn 52 [] [.ptr id1 0]]) (by kernel_rfl) (by kernel_rfl) (by kernel_rfl) hvr3) (APath.fin (by kernel_rfl)))) (by kernel_rfl) ?_
  replace hH : HP H2 [] := HP.pick hH [] rfl
  refine vc_seq ?_
  refine vc_seq ?_
  refine vc_reg (S := ⟨[(7, iv r3), (15, bv (r3 == a0_.Cycle))], [], H2⟩) (APath.fin (by kernel_rfl)) (by kernel_rfl) ?_
  refine vc_ite (by kernel_rfl) h (fun hc4 h => ?_) (fun hc4 h => ?_)
  · refine vc_seq ?_
    refine vc_reg (S := ⟨[(6, iv 1099511627776)], [], H2⟩) (APath.fin (by kernel_rfl)) (by kernel_rfl) ?_
    refine vc_ret ?_
    obtain rfl := some_inj h
    exact ret_of (by kernel_rfl)
  · refine vc_skip ?_
    refine vc_kp ?_
    refine vc_seq ?_
    refine vc_reg (S := ⟨[(6, iv r3)], [], H2⟩) (APath.fin (by kernel_rfl)) (by kernel_rfl) ?_
    refine vc_ret ?_
    obtain rfl := some_inj h
    exact ret_of (by kernel_rfl)
/- service.openings$1 -/
theorem service_openings_1_ok {σ : Type} (N : Nat) (y_ : σ → service_opening → Option (σ × Bool)) (c0_ : api_Gates) (s_ : σ) (k0_ : Nat) (yid_ : Nat) (T_ : σ → List Thing → Prop) (hy_ : ∀ (x0 : service_opening) (s : σ) (r : σ × Bool) (H : List HO) (its : List Thing), T_ s its → HP H its → y_ s x0 = some r → ∃ H' its', YCall Try.prog yid_ [.agg [iv x0.from_, iv x0.long]] H r.2 H' ∧ T_ r.1 its' ∧ Fp H H' its its') (H : List HO) (its : List Thing) (hT : T_ s_ its) (hH : HP H (.cel k0_ (c_api_Gates c0_) :: its)) (r : σ) (h : service_openings_1 N y_ c0_ s_ = some r) : ∃ H' its', ACall Try.prog 48 [.yl yid_, .ptr k0_ 0] H (.tup []) H' ∧ T_ r its' ∧ Fp H H' (.cel k0_ (c_api_Gates c0_) :: its) (.cel k0_ (c_api_Gates c0_) :: its') := by
  suffices hs : ∃ H', ACall Try.prog 48 [.yl yid_, .ptr k0_ 0] H (.tup []) H' ∧ ∃ its', T_ r its' ∧ Fp H H' (.cel k0_ (c_api_Gates c0_) :: its) (.cel k0_ (c_api_Gates c0_) :: its') by
    obtain ⟨H', h1, its', h2, h3⟩ := hs
    exact ⟨H', its', h1, h2, h3⟩
  unfold service_openings_1 at h
  replace hH : Fp H H (.cel k0_ (c_api_Gates c0_) :: its) (.cel k0_ (c_api_Gates c0_) :: its) := Fp.refl hH
  refine acall_det chk48 (fun H' => ∃ its', T_ r its' ∧ Fp H H' (.cel k0_ (c_api_Gates c0_) :: its) (.cel k0_ (c_api_Gates c0_) :: its')) rfl rfl rfl ?_
  refine vc_scope (EvI.scope ?_)
  refine vc_seq ?_
  have hlc1 := Fp.get hH 0 rfl
  refine vc_reg (S := ⟨[(0, .yl yid_), (1, .ptr k0_ 0), (3, iv ((List.length c0_.Entries : Nat) : Int))], [], H⟩) (APath.chunk 1 (by kernel_rfl) (APath.one (.load 10 (.t 9) 1 false) (by kernel_rfl) (st_loadC (H := H) (id := k0_) (off := 0) (cs := [s_e_api_Entry false c0_.Entries, iv c0_.Cycle]) (c := [s_e_api_Entry false c0_.Entries]) (r := s_e_api_Entry false c0_.Entries) (by kernel_rfl) (by kernel_rfl) hlc1 (by kernel_rfl) (by kernel_rfl) (by kernel_rfl)) (APath.one (.val 11 .len [.t 10]) (by kernel_rfl) (st_val (ys := [s_e_api_Entry false c0_.Entries]) (by kernel_rfl) (vexec_len e_api_Entry)) (APath.fin (by kernel_rfl))))) (by kernel_rfl) ?_
  refine vc_seq ?_
  refine vc_reg (S := ⟨[(0, .yl yid_), (1, .ptr k0_ 0), (3, iv ((List.length c0_.Entries : Nat) : Int)), (4, iv 0), (5, iv 0)], [], H⟩) (APath.fin (by kernel_rfl)) (by kernel_rfl) ?_
  refine vc_seq ?_
  refine vc_block ?_
  obtain ⟨o513, ho513, h⟩ := bind_some h
  refine vc_loop ((loop_sim (fun (x : Int × Int) s => s = ⟨[(0, .yl yid_), (1, .ptr k0_ 0), (3, iv ((List.length c0_.Entries : Nat) : Int)), (4, iv x.1), (5, iv x.2)], [], H⟩) (fun x : Int × Int => service_openings_1_L1 N c0_ x.1 x.2) (fun (p : Int × Int) e s => e = .exit 0 ∧ (s = ⟨[(0, .yl yid_), (1, .ptr k0_ 0), (3, iv ((List.length c0_.Entries : Nat) : Int)), (4, iv p.1), (5, iv p.2)], [], H⟩)) ?_ N _ o513 _ ho513 (by show _ = _; kernel_rfl)).mono ?_)
  · clear h ho513
    rintro ⟨i2, i3⟩ o s h hR
    obtain rfl := hR
    replace h : service_openings_1_L1 N c0_ i2 i3 = some o := h
    unfold service_openings_1_L1 at h
    refine vc_seq ?_
    refine vc_seq ?_
    obtain ⟨j509, hj, h⟩ := bind_some h
    refine vc_regXR (fun s => s = ⟨[(0, .yl yid_), (1, .ptr k0_ 0), (3, iv ((List.length c0_.Entries : Nat) : Int)), (4, iv i2), (5, iv i3), (22, bv j509)], [], H⟩) ?_ ?_
    · clear h
      rcases ite_some hj with ⟨hc504, hj⟩ | ⟨hc508, hj⟩
      · have hlc505 := Fp.get hH 0 rfl
        obtain ⟨e506, he506, hj⟩ := bind_some hj
        obtain ⟨r507, hr507, hj⟩ := bind_some hj
        obtain rfl := some_inj hj
        exact ⟨_, (APath.chunk 2 (by kernel_rfl) (APath.one (.val 14 (.bin .lss) [.t 12, .t 13]) (by kernel_rfl) (st_bool (c := (decide (i2 < ((List.length c0_.Entries : Nat) : Int)))) (by kernel_rfl) hc504) (APath.chunk 2 (by kernel_rfl) (APath.oneG (.load 17 (.t 16) 1 false) 15 true (by kernel_rfl) (by kernel_rfl) (st_loadC (H := H) (id := k0_) (off := 0) (cs := [s_e_api_Entry false c0_.Entries, iv c0_.Cycle]) (c := [s_e_api_Entry false c0_.Entries]) (r := s_e_api_Entry false c0_.Entries) (by kernel_rfl) (by kernel_rfl) hlc505 (by kernel_rfl) (by kernel_rfl) (by kernel_rfl)) (APath.chunk 1 (by kernel_rfl) (APath.oneG (.val 19 (.iaddrS 2) [.t 17, .t 18]) 15 true (by kernel_rfl) (by kernel_rfl) (st_val (ys := [s_e_api_Entry false c0_.Entries, iv i2]) (by kernel_rfl) (vexec_iaddrS e_api_Entry he506)) (APath.oneG (.load 20 (.t 19) 2 true) 15 true (by kernel_rfl) (by kernel_rfl) (st_loadP (sz := 2) (off := 0) (cs := [.int .i64 e506.Mask, .int .i64 e506.Long]) (r := .agg (c_api_Entry e506)) e_api_Entry he506 (by kernel_rfl) (by kernel_rfl) (by kernel_rfl)) (APath.oneG (.call (some 21) 49 [.t 20]) 15 true (by kernel_rfl) (by kernel_rfl) (st_call (by kernel_rfl) (service_isOpen_ok N e506 r507 hr507)) (APath.fin (by kernel_rfl)))))))))), (by show _ = _; kernel_rfl)⟩
      · obtain rfl := some_inj hj
        exact ⟨_, (APath.chunk 2 (by kernel_rfl) (APath.one (.val 14 (.bin .lss) [.t 12, .t 13]) (by kernel_rfl) (st_bool (c := (decide (i2 < ((List.length c0_.Entries : Nat) : Int)))) (by kernel_rfl) hc508) (APath.fin (by kernel_rfl)))), (by show _ = _; kernel_rfl)⟩
    · clear hj
      rintro s hR
      obtain rfl := hR
      refine vc_ite (by kernel_rfl) h (fun hc510 h => ?_) (fun hc510 h => ?_)
      · refine vc_skip ?_
        refine vc_kp ?_
        refine vc_block ?_
        refine vc_seq ?_
        have hlc511 := Fp.get hH 0 rfl
        obtain ⟨e512, he512, h⟩ := bind_some h
        refine vc_reg (S := ⟨[(0, .yl yid_), (1, .ptr k0_ 0), (3, iv ((List.length c0_.Entries : Nat) : Int)), (4, iv i2), (5, iv (w64 (i3 + e512.Long)))], [], H⟩) (APath.chunk 2 (by kernel_rfl) (APath.one (.load 25 (.t 24) 1 false) (by kernel_rfl) (st_loadC (H := H) (id := k0_) (off := 0) (cs := [s_e_api_Entry false c0_.Entries, iv c0_.Cycle]) (c := [s_e_api_Entry false c0_.Entries]) (r := s_e_api_Entry false c0_.Entries) (by kernel_rfl) (by kernel_rfl) hlc511 (by kernel_rfl) (by kernel_rfl) (by kernel_rfl)) (APath.chunk 1 (by kernel_rfl) (APath.one (.val 27 (.iaddrS 2) [.t 25, .t 26]) (by kernel_rfl) (st_val (ys := [s_e_api_Entry false c0_.Entries, iv i2]) (by kernel_rfl) (vexec_iaddrS e_api_Entry he512)) (APath.chunk 1 (by kernel_rfl) (APath.one (.load 29 (.t 28) 1 false) (by kernel_rfl) (st_loadP (sz := 2) (off := 1) (cs := [.int .i64 e512.Long]) (r := iv e512.Long) e_api_Entry he512 (by kernel_rfl) (by kernel_rfl) (by kernel_rfl)) (APath.fin (by kernel_rfl)))))))) (by kernel_rfl) ?_
        refine vc_reg (S := ⟨[(0, .yl yid_), (1, .ptr k0_ 0), (3, iv ((List.length c0_.Entries : Nat) : Int)), (4, iv (w64 (i2 + 1))), (5, iv (w64 (i3 + e512.Long)))], [], H⟩) (APath.fin (by kernel_rfl)) (by kernel_rfl) ?_
        obtain rfl := some_inj h
        exact ⟨_, rfl, (by show _ = _; kernel_rfl)⟩
      · refine vc_exit ?_
        try show vc _ _ _ _ _
        obtain rfl := some_inj h
        exact ⟨_, rfl, rfl, (by show _ = _; kernel_rfl)⟩
  · rintro e s hq
    obtain ⟨rfl, hR⟩ := hq
    obtain rfl := hR
    try show vc _ _ _ _ _
    refine vc_seq ?_
    refine vc_seq ?_
    refine vc_reg (S := ⟨[(0, .yl yid_), (1, .ptr k0_ 0), (3, iv ((List.length c0_.Entries : Nat) : Int)), (4, iv o513.1), (5, iv o513.2), (35, bv (o513.1 == ((List.length c0_.Entries : Nat) : Int)))], [], H⟩) (APath.fin (by kernel_rfl)) (by kernel_rfl) ?_
    refine vc_ite (by kernel_rfl) h (fun hc514 h => ?_) (fun hc514 h => ?_)
    · refine vc_ret ?_
      obtain rfl := some_inj h
      exact ⟨[], (by kernel_rfl), (by kernel_rfl), its, hT, hH⟩
    · refine vc_skip ?_
      refine vc_kp ?_
      refine vc_seq ?_
      have hlc515 := Fp.get hH 0 rfl
      obtain ⟨e516, he516, h⟩ := bind_some h
      refine vc_reg (S := ⟨[(0, .yl yid_), (1, .ptr k0_ 0), (3, iv ((List.length c0_.Entries : Nat) : Int)), (4, iv o513.1), (5, iv (w64 (o513.2 + e516.Long)))], [], H⟩) (APath.chunk 2 (by kernel_rfl) (APath.one (.load 38 (.t 37) 1 false) (by kernel_rfl) (st_loadC (H := H) (id := k0_) (off := 0) (cs := [s_e_api_Entry false c0_.Entries, iv c0_.Cycle]) (c := [s_e_api_Entry false c0_.Entries]) (r := s_e_api_Entry false c0_.Entries) (by kernel_rfl) (by kernel_rfl) hlc515 (by kernel_rfl) (by kernel_rfl) (by kernel_rfl)) (APath.chunk 1 (by kernel_rfl) (APath.one (.val 40 (.iaddrS 2) [.t 38, .t 39]) (by kernel_rfl) (st_val (ys := [s_e_api_Entry false c0_.Entries, iv o513.1]) (by kernel_rfl) (vexec_iaddrS e_api_Entry he516)) (APath.chunk 1 (by kernel_rfl) (APath.one (.load 42 (.t 41) 1 false) (by kernel_rfl) (st_loadP (sz := 2) (off := 1) (cs := [.int .i64 e516.Long]) (r := iv e516.Long) e_api_Entry he516 (by kernel_rfl) (by kernel_rfl) (by kernel_rfl)) (APath.fin (by kernel_rfl)))))))) (by kernel_rfl) ?_
      refine vc_seq ?_
      refine vc_reg (S := ⟨[(0, .yl yid_), (1, .ptr k0_ 0), (3, iv ((List.length c0_.Entries : Nat) : Int)), (4, iv o513.1), (5, iv (w64 (o513.2 + e516.Long))), (6, .loc 6 0)], [(6, [iv 0, iv 0])], H⟩) (APath.fin (by kernel_rfl)) (by kernel_rfl) ?_
      refine vc_seq ?_
      refine vc_label ?_
      refine vc_seq ?_
      refine vc_reg (S := ⟨[(0, .yl yid_), (1, .ptr k0_ 0), (3, iv ((List.length c0_.Entries : Nat) : Int)), (4, iv o513.1), (5, iv (w64 (o513.2 + e516.Long))), (6, .loc 6 0), (44, iv ((List.length c0_.Entries : Nat) : Int)), (45, iv 0)], [(6, [iv 0, iv 0])], H⟩) (APath.fin (by kernel_rfl)) (by kernel_rfl) ?_
      refine vc_block ?_
      obtain ⟨o1543, ho1543, h⟩ := bind_some h
      refine vc_loop ((loop_sim (fun (x : Int × Int × Int × Int × σ) s => ∃ (its521 : List Thing) (H522 : List HO), s = ⟨[(0, .yl yid_), (1, .ptr k0_ 0), (3, iv ((List.length c0_.Entries : Nat) : Int)), (4, iv o513.1), (5, iv x.1), (6, .loc 6 0), (44, iv ((List.length c0_.Entries : Nat) : Int)), (45, iv x.2.1)], [(6, [iv x.2.2.1, iv x.2.2.2.1])], H522⟩ ∧ T_ x.2.2.2.2 its521 ∧ Fp H H522 (.cel k0_ (c_api_Gates c0_) :: its) (.cel k0_ (c_api_Gates c0_) :: its521)) (fun x : Int × Int × Int × Int × σ => service_openings_1_L2 N y_ c0_ o513 x.1 x.2.1 x.2.2.1 x.2.2.2.1 x.2.2.2.2) (fun (p : (Int × Int × Int × Int × σ) ⊕ (σ)) e s => match p with | (.inl p) => e = .exit 2 ∧ (∃ (its1024 : List Thing) (H1025 : List HO), s = ⟨[(0, .yl yid_), (1, .ptr k0_ 0), (3, iv ((List.length c0_.Entries : Nat) : Int)), (4, iv o513.1), (5, iv p.1), (6, .loc 6 0), (44, iv ((List.length c0_.Entries : Nat) : Int)), (45, iv p.2.1)], [(6, [iv p.2.2.1, iv p.2.2.2.1])], H1025⟩ ∧ T_ p.2.2.2.2 its1024 ∧ Fp H H1025 (.cel k0_ (c_api_Gates c0_) :: its) (.cel k0_ (c_api_Gates c0_) :: its1024)) | (.inr p) => e = .ret ∧ ∃ xs, rawL s i48.res = some xs ∧ tupOf xs = .tup [] ∧ ∃ its', T_ p its' ∧ Fp H s.H (.cel k0_ (c_api_Gates c0_) :: its) (.cel k0_ (c_api_Gates c0_) :: its')) ?_ N _ o1543 _ ho1543 ⟨its, H, (by show _ = _; kernel_rfl), hT, hH⟩).mono ?_)
      · clear h ho1543
        rintro ⟨i517, i518, i519, i520, g523⟩ o s h hR
        obtain ⟨its521, H522, rfl, hT, hH⟩ := hR
        replace hH : Fp H H522 (.cel k0_ (c_api_Gates c0_) :: its) (.cel k0_ (c_api_Gates c0_) :: its521) := hH
        replace h : service_openings_1_L2 N y_ c0_ o513 i517 i518 i519 i520 g523 = some o := h
        unfold service_openings_1_L2 at h
        refine vc_seq ?_
        refine vc_reg (S := ⟨[(0, .yl yid_), (1, .ptr k0_ 0), (3, iv ((List.length c0_.Entries : Nat) : Int)), (4, iv o513.1), (5, iv i517), (6, .loc 6 0), (44, iv ((List.length c0_.Entries : Nat) : Int)), (45, iv i518), (46, bv (decide (i518 < ((List.length c0_.Entries : Nat) : Int))))], [(6, [iv i519, iv i520])], H522⟩) (APath.fin (by kernel_rfl)) (by kernel_rfl) ?_
        refine vc_seq ?_
        refine vc_ite (by kernel_rfl) h (fun hc1026 h => ?_) (fun hc1026 h => ?_)
        · refine vc_skip ?_
          refine vc_kp ?_
          refine vc_seq ?_
          refine vc_block ?_
          refine vc_seq ?_
          refine vc_reg (S := ⟨[(0, .yl yid_), (1, .ptr k0_ 0), (3, iv ((List.length c0_.Entries : Nat) : Int)), (4, iv o513.1), (5, iv i517), (6, .loc 6 0), (7, iv i518), (44, iv ((List.length c0_.Entries : Nat) : Int)), (45, iv i518)], [(6, [iv i519, iv i520])], H522⟩) (APath.fin (by kernel_rfl)) (by kernel_rfl) ?_
          refine vc_seq ?_
          have hlc1027 := Fp.get hH 0 rfl
          obtain ⟨m1028, hm1028, h⟩ := bind_some h
          obtain ⟨e1029, he1029, h⟩ := bind_some h
          refine vc_regD (S := ⟨[(0, .yl yid_), (1, .ptr k0_ 0), (3, iv ((List.length c0_.Entries : Nat) : Int)), (4, iv o513.1), (5, iv i517), (6, .loc 6 0), (8, .loc 8 0), (44, iv ((List.length c0_.Entries : Nat) : Int)), (45, iv i518)], [(6, [iv i519, iv i520]), (8, (c_api_Entry e1029))], H522⟩) (by kernel_rfl) (APath.chunk 1 (by kernel_rfl) (APath.one (.load 49 (.t 48) 1 false) (by kernel_rfl) (st_loadC (H := H522) (id := k0_) (off := 0) (cs := [s_e_api_Entry false c0_.Entries, iv c0_.Cycle]) (c := [s_e_api_Entry false c0_.Entries]) (r := s_e_api_Entry false c0_.Entries) (by kernel_rfl) (by kernel_rfl) hlc1027 (by kernel_rfl) (by kernel_rfl) (by kernel_rfl)) (APath.chunk 5 (by kernel_rfl) (APath.one (.val 55 (.bin .rem) [.t 53, .t 54]) (by kernel_rfl) (st_val (ys := [iv (w64 ((w64 (o513.1 + 1)) + i518)), iv ((List.length c0_.Entries : Nat) : Int)]) (by kernel_rfl) (vexec_rem hm1028)) (APath.one (.val 56 (.iaddrS 2) [.t 49, .t 55]) (by kernel_rfl) (st_val (ys := [s_e_api_Entry false c0_.Entries, iv m1028]) (by kernel_rfl) (vexec_iaddrS e_api_Entry he1029)) (APath.one (.load 57 (.t 56) 2 true) (by kernel_rfl) (st_loadP (sz := 2) (off := 0) (cs := [.int .i64 e1029.Mask, .int .i64 e1029.Long]) (r := .agg (c_api_Entry e1029)) e_api_Entry he1029 (by kernel_rfl) (by kernel_rfl) (by kernel_rfl)) (APath.fin (by kernel_rfl)))))))) (by kernel_rfl) ?_
          refine vc_seq ?_
          refine vc_seq ?_
          obtain ⟨r1030, hr1030, h⟩ := bind_some h
          refine vc_reg (S := ⟨[(0, .yl yid_), (1, .ptr k0_ 0), (3, iv ((List.length c0_.Entries : Nat) : Int)), (4, iv o513.1), (5, iv i517), (6, .loc 6 0), (8, .loc 8 0), (44, iv ((List.length c0_.Entries : Nat) : Int)), (45, iv i518), (59, bv r1030)], [(6, [iv i519, iv i520]), (8, (c_api_Entry e1029))], H522⟩) (APath.chunk 1 (by kernel_rfl) (APath.one (.call (some 59) 49 [.t 58]) (by kernel_rfl) (st_call (by kernel_rfl) (service_isOpen_ok N e1029 r1030 hr1030)) APath.done)) (by kernel_rfl) ?_
          refine vc_ite (by kernel_rfl) h (fun hc1031 h => ?_) (fun hc1031 h => ?_)
          · obtain ⟨j1532, hj1532, h⟩ := bind_some h
            refine vc_joinK [0, 1, 3, 4, 5, 6, 8, 44, 45] (fun s => s = ⟨[(0, .yl yid_), (1, .ptr k0_ 0), (3, iv ((List.length c0_.Entries : Nat) : Int)), (4, iv o513.1), (5, iv i517), (6, .loc 6 0), (8, .loc 8 0), (44, iv ((List.length c0_.Entries : Nat) : Int)), (45, iv i518)], [(6, [iv j1532, iv i520]), (8, (c_api_Entry e1029))], H522⟩) ?_ ?_
            · clear h
              have h := hj1532
              refine vc_seq ?_
              refine vc_reg (S := ⟨[(0, .yl yid_), (1, .ptr k0_ 0), (3, iv ((List.length c0_.Entries : Nat) : Int)), (4, iv o513.1), (5, iv i517), (6, .loc 6 0), (8, .loc 8 0), (44, iv ((List.length c0_.Entries : Nat) : Int)), (45, iv i518), (62, bv (i520 == 0))], [(6, [iv i519, iv i520]), (8, (c_api_Entry e1029))], H522⟩) (APath.fin (by kernel_rfl)) (by kernel_rfl) ?_
              refine vc_ite (by kernel_rfl) h (fun hc1533 h => ?_) (fun hc1533 h => ?_)
              · refine vc_reg (S := ⟨[(0, .yl yid_), (1, .ptr k0_ 0), (3, iv ((List.length c0_.Entries : Nat) : Int)), (4, iv o513.1), (5, iv i517), (6, .loc 6 0), (8, .loc 8 0), (44, iv ((List.length c0_.Entries : Nat) : Int)), (45, iv i518)], [(6, [iv i517, iv i520]), (8, (c_api_Entry e1029))], H522⟩) (APath.fin (by kernel_rfl)) (by kernel_rfl) ?_
                obtain rfl := some_inj h
                exact ⟨rfl, (by show _ = _; kernel_rfl)⟩
              · refine vc_skip ?_
                obtain rfl := some_inj h
                exact ⟨rfl, (by show _ = _; kernel_rfl)⟩
            · clear hj1532
              rintro s hR
              obtain rfl := hR
              refine vc_seq ?_
              refine vc_reg (S := ⟨[(0, .yl yid_), (1, .ptr k0_ 0), (3, iv ((List.length c0_.Entries : Nat) : Int)), (4, iv o513.1), (5, iv i517), (6, .loc 6 0), (8, .loc 8 0), (44, iv ((List.length c0_.Entries : Nat) : Int)), (45, iv i518)], [(6, [iv j1532, iv (w64 (i520 + e1029.Long))]), (8, (c_api_Entry e1029))], H522⟩) (APath.fin (by kernel_rfl)) (by kernel_rfl) ?_
              refine vc_seq ?_
              refine vc_reg (S := ⟨[(0, .yl yid_), (1, .ptr k0_ 0), (3, iv ((List.length c0_.Entries : Nat) : Int)), (4, iv o513.1), (5, iv (w64 (i517 + e1029.Long))), (6, .loc 6 0), (44, iv ((List.length c0_.Entries : Nat) : Int)), (45, iv i518)], [(6, [iv j1532, iv (w64 (i520 + e1029.Long))])], H522⟩) (APath.fin (by kernel_rfl)) (by kernel_rfl) ?_
              refine vc_exit ?_
              try show vc _ _ _ _ _
              refine vc_kp ?_
              refine vc_reg (S := ⟨[(0, .yl yid_), (1, .ptr k0_ 0), (3, iv ((List.length c0_.Entries : Nat) : Int)), (4, iv o513.1), (5, iv (w64 (i517 + e1029.Long))), (6, .loc 6 0), (44, iv ((List.length c0_.Entries : Nat) : Int)), (45, iv (w64 (i518 + 1)))], [(6, [iv j1532, iv (w64 (i520 + e1029.Long))])], H522⟩) (APath.fin (by kernel_rfl)) (by kernel_rfl) ?_
              obtain rfl := some_inj h
              exact ⟨_, rfl, ⟨its521, H522, (by show _ = _; kernel_rfl), hT, hH⟩⟩
          · refine vc_skip ?_
            refine vc_kp ?_
            refine vc_seq ?_
            refine vc_reg (S := ⟨[(0, .yl yid_), (1, .ptr k0_ 0), (3, iv ((List.length c0_.Entries : Nat) : Int)), (4, iv o513.1), (5, iv (w64 (i517 + e1029.Long))), (6, .loc 6 0), (44, iv ((List.length c0_.Entries : Nat) : Int)), (45, iv i518)], [(6, [iv i519, iv i520])], H522⟩) (APath.fin (by kernel_rfl)) (by kernel_rfl) ?_
            refine vc_seq ?_
            refine vc_seq ?_
            obtain ⟨j1541, hj, h⟩ := bind_some h
            refine vc_regXR (fun s => ∃ (its1539 : List Thing) (H1540 : List HO), s = ⟨[(0, .yl yid_), (1, .ptr k0_ 0), (3, iv ((List.length c0_.Entries : Nat) : Int)), (4, iv o513.1), (5, iv (w64 (i517 + e1029.Long))), (6, .loc 6 0), (44, iv ((List.length c0_.Entries : Nat) : Int)), (45, iv i518), (87, bv j1541.1)], [(6, [iv i519, iv i520])], H1540⟩ ∧ T_ j1541.2 its1539 ∧ Fp H H1540 (.cel k0_ (c_api_Gates c0_) :: its) (.cel k0_ (c_api_Gates c0_) :: its1539)) ?_ ?_
            · clear h
              rcases ite_some hj with ⟨hc1534, hj⟩ | ⟨hc1538, hj⟩
              · obtain ⟨r1535, hr1535, hj⟩ := bind_some hj
                obtain ⟨H1536, its1537, hvr1535, hT, hFr1535⟩ := hy_ (service_opening.mk i519 i520) g523 r1535 H522 its521 hT (Fp.tail (own := [.cel k0_ (c_api_Gates c0_)]) (its := its521) hH) hr1535
                replace hH : Fp H H1536 (.cel k0_ (c_api_Gates c0_) :: its) (.cel k0_ (c_api_Gates c0_) :: its1537) := Fp.callT (own := [.cel k0_ (c_api_Gates c0_)]) (its := its521) hH hFr1535
                obtain rfl := some_inj hj
                exact ⟨_, (APath.chunk 2 (by kernel_rfl) (APath.one (.val 81 (.bin .gtr) [.t 80, .k (.p (.int .i64 0))]) (by kernel_rfl) (st_bool (c := (decide (i520 > 0))) (by kernel_rfl) hc1534) (APath.chunk 3 (by kernel_rfl) (APath.oneG (.callY (some 85) (.t 83) [.t 84]) 82 true (by kernel_rfl) (by kernel_rfl) (st_callY (H := H522) (id := yid_) (ys := [.agg [iv i519, iv i520]]) (by kernel_rfl) (by kernel_rfl) (by kernel_rfl) (by kernel_rfl) hvr1535) (APath.fin (by kernel_rfl)))))), ⟨its1537, H1536, (by show _ = _; kernel_rfl), hT, hH⟩⟩
              · obtain rfl := some_inj hj
                exact ⟨_, (APath.chunk 2 (by kernel_rfl) (APath.one (.val 81 (.bin .gtr) [.t 80, .k (.p (.int .i64 0))]) (by kernel_rfl) (st_bool (c := (decide (i520 > 0))) (by kernel_rfl) hc1538) (APath.fin (by kernel_rfl)))), ⟨its521, H522, (by show _ = _; kernel_rfl), hT, hH⟩⟩
            · clear hj
              rintro s hR
              obtain ⟨its1539, H1540, rfl, hT, hH⟩ := hR
              replace hH : Fp H H1540 (.cel k0_ (c_api_Gates c0_) :: its) (.cel k0_ (c_api_Gates c0_) :: its1539) := hH
              refine vc_ite (by kernel_rfl) h (fun hc1542 h => ?_) (fun hc1542 h => ?_)
              · refine vc_ret ?_
                obtain rfl := some_inj h
                exact ⟨_, rfl, rfl, ⟨[], (by kernel_rfl), (by kernel_rfl), its1539, hT, hH⟩⟩
              · refine vc_skip ?_
                refine vc_kp ?_
                refine vc_reg (S := ⟨[(0, .yl yid_), (1, .ptr k0_ 0), (3, iv ((List.length c0_.Entries : Nat) : Int)), (4, iv o513.1), (5, iv (w64 (i517 + e1029.Long))), (6, .loc 6 0), (44, iv ((List.length c0_.Entries : Nat) : Int)), (45, iv i518)], [(6, [iv 0, iv 0])], H1540⟩) (APath.fin (by kernel_rfl)) (by kernel_rfl) ?_
                refine vc_kp ?_
                refine vc_reg (S := ⟨[(0, .yl yid_), (1, .ptr k0_ 0), (3, iv ((List.length c0_.Entries : Nat) : Int)), (4, iv o513.1), (5, iv (w64 (i517 + e1029.Long))), (6, .loc 6 0), (44, iv ((List.length c0_.Entries : Nat) : Int)), (45, iv (w64 (i518 + 1)))], [(6, [iv 0, iv 0])], H1540⟩) (APath.fin (by kernel_rfl)) (by kernel_rfl) ?_
                obtain rfl := some_inj h
                exact ⟨_, rfl, ⟨its1539, H1540, (by show _ = _; kernel_rfl), hT, hH⟩⟩
        · refine vc_exit ?_
          try show vc _ _ _ _ _
          obtain rfl := some_inj h
          exact ⟨_, rfl, rfl, ⟨its521, H522, (by show _ = _; kernel_rfl), hT, hH⟩⟩
      · rintro e s hq
        rcases o1543 with p1544 | p1545
        · dsimp only at h hq
          obtain ⟨rfl, hR⟩ := hq
          obtain ⟨its1024, H1025, rfl, hT, hH⟩ := hR
          replace hH : Fp H H1025 (.cel k0_ (c_api_Gates c0_) :: its) (.cel k0_ (c_api_Gates c0_) :: its1024) := hH
          try show vc _ _ _ _ _
          obtain rfl := some_inj h
          exact ⟨[], (by kernel_rfl), (by kernel_rfl), its1024, hT, hH⟩
        · dsimp only at h hq
          obtain ⟨rfl, hq⟩ := hq
          obtain rfl := some_inj h
          exact hq
/- isochronref30.Openings -/
theorem ref30_Openings_ok (N : Nat) (a0_ : api_Gates) (a1_ : Int) (a2_ : Int) (r : (List ref30_Opening)) (h : ref30_Openings N a0_ a1_ a2_ = some r) : PCall Try.prog 50 [.agg (c_api_Gates a0_), iv a1_, iv a2_] (s_e_ref30_Opening false r) := by
  unfold ref30_Openings at h
  have hH : HP ([] : List HO) [] := trivial
  refine pcall_of chk50 rfl rfl (vc_sound _ _ _ ?_) rfl
  refine vc_seq ?_
  refine vc_reg (S := ⟨[(1, iv a1_), (2, iv a2_), (3, .loc 3 0)], [(3, (c_api_Gates a0_))], []⟩) (APath.fin (by kernel_rfl)) (by kernel_rfl) ?_
  refine vc_seq ?_
  refine vc_reg (S := ⟨[(1, iv a1_), (2, iv a2_), (3, .loc 3 0), (7, s_e_ref30_Opening true [])], [(3, (c_api_Gates a0_))], []⟩) (APath.fin (by kernel_rfl)) (by kernel_rfl) ?_
  refine vc_seq ?_
  refine vc_reg (S := ⟨[(1, iv a1_), (2, iv a2_), (3, .loc 3 0), (7, s_e_ref30_Opening true []), (8, bv false)], [(3, (c_api_Gates a0_))], []⟩) (APath.fin (by kernel_rfl)) (by kernel_rfl) ?_
  refine vc_seq ?_
  refine vc_seq ?_
  refine vc_reg (S := ⟨[(2, iv a2_), (3, .loc 3 0), (7, s_e_ref30_Opening true []), (8, bv false), (9, iv a1_)], [(3, (c_api_Gates a0_))], []⟩) (APath.fin (by kernel_rfl)) (by kernel_rfl) ?_
  refine vc_block ?_
  obtain ⟨o1533, ho1533, h⟩ := bind_some h
  refine vc_loop ((loop_sim (fun (x : Bool × Int × (List ref30_Opening)) s => ∃ (a1 : AV) (H2 : List HO), s = ⟨[(2, iv a2_), (3, .loc 3 0), (7, a1), (8, bv x.1), (9, iv x.2.1)], [(3, (c_api_Gates a0_))], H2⟩ ∧ HP H2 [.arr a1 2 false (List.map e_ref30_Opening x.2.2)]) (fun x : Bool × Int × (List ref30_Opening) => ref30_Openings_L1 N a0_ a2_ x.1 x.2.1 x.2.2) (fun (p : Bool × Int × (List ref30_Opening)) e s => e = .exit 0 ∧ (∃ (a506 : AV) (H507 : List HO), s = ⟨[(2, iv a2_), (3, .loc 3 0), (7, a506), (8, bv p.1), (9, iv p.2.1)], [(3, (c_api_Gates a0_))], H507⟩ ∧ HP H507 [.arr a506 2 false (List.map e_ref30_Opening p.2.2)])) ?_ N _ o1533 _ ho1533 ⟨(.p (.sl 2 true [])), [], (by show _ = _; kernel_rfl), (HP.pick (HP.nilArr hH 2 false) [0] rfl)⟩).mono ?_)
  · clear h ho1533
    rintro ⟨b3, i4, l5⟩ o s h hR
    obtain ⟨a1, H2, rfl, hH⟩ := hR
    replace hH : HP H2 [.arr a1 2 false (List.map e_ref30_Opening l5)] := hH
    have hfa1 := own_form (HP.get hH 0 rfl)
    replace h : ref30_Openings_L1 N a0_ a2_ b3 i4 l5 = some o := h
    unfold ref30_Openings_L1 at h
    refine vc_seq ?_
    refine vc_seq ?_
    refine vc_reg (S := ⟨[(2, iv a2_), (3, .loc 3 0), (7, a1), (8, bv b3), (9, iv i4), (17, bv (decide (i4 < a2_)))], [(3, (c_api_Gates a0_))], H2⟩) (APath.fin (by rcases hfa1 with ha1e | ⟨_, _, ha1e⟩ <;> subst ha1e <;> kernel_rfl)) (by rcases hfa1 with ha1e | ⟨_, _, ha1e⟩ <;> subst ha1e <;> kernel_rfl) ?_
    refine vc_ite (by kernel_rfl) h (fun hc508 h => ?_) (fun hc508 h => ?_)
    · refine vc_skip ?_
      refine vc_kp ?_
      refine vc_block ?_
      refine vc_seq ?_
      obtain ⟨r509, hr509, h⟩ := bind_some h
      refine vc_reg (S := ⟨[(2, iv a2_), (3, .loc 3 0), (7, a1), (8, bv b3), (9, iv i4), (10, iv r509.1), (11, iv r509.2)], [(3, (c_api_Gates a0_))], H2⟩) (APath.chunk 2 (by rcases hfa1 with ha1e | ⟨_, _, ha1e⟩ <;> subst ha1e <;> kernel_rfl) (APath.one (.call (some 21) 53 [.t 19, .t 20]) (by kernel_rfl) (st_call (by rcases hfa1 with ha1e | ⟨_, _, ha1e⟩ <;> subst ha1e <;> kernel_rfl) (ref27_At_ok N a0_ i4 r509 hr509)) (APath.fin (by rcases hfa1 with ha1e | ⟨_, _, ha1e⟩ <;> subst ha1e <;> kernel_rfl)))) (by rcases hfa1 with ha1e | ⟨_, _, ha1e⟩ <;> subst ha1e <;> kernel_rfl) ?_
      refine vc_seq ?_
      obtain ⟨e510, he510, h⟩ := bind_some h
      refine vc_reg (S := ⟨[(2, iv a2_), (3, .loc 3 0), (7, a1), (8, bv b3), (9, iv i4), (10, iv r509.1), (12, iv (if a2_ < (w64 ((w64 (i4 - r509.2)) + e510.Long)) then a2_ else (w64 ((w64 (i4 - r509.2)) + e510.Long))))], [(3, (c_api_Gates a0_))], H2⟩) (APath.chunk 6 (by rcases hfa1 with ha1e | ⟨_, _, ha1e⟩ <;> subst ha1e <;> kernel_rfl) (APath.one (.val 30 (.iaddrS 2) [.t 28, .t 29]) (by kernel_rfl) (st_val (ys := [s_e_api_Entry false a0_.Entries, iv r509.1]) (by rcases hfa1 with ha1e | ⟨_, _, ha1e⟩ <;> subst ha1e <;> kernel_rfl) (vexec_iaddrS e_api_Entry he510)) (APath.chunk 1 (by rcases hfa1 with ha1e | ⟨_, _, ha1e⟩ <;> subst ha1e <;> kernel_rfl) (APath.one (.load 32 (.t 31) 1 false) (by kernel_rfl) (st_loadP (sz := 2) (off := 1) (cs := [.int .i64 e510.Long]) (r := iv e510.Long) e_api_Entry he510 (by rcases hfa1 with ha1e | ⟨_, _, ha1e⟩ <;> subst ha1e <;> kernel_rfl) (by rcases hfa1 with ha1e | ⟨_, _, ha1e⟩ <;> subst ha1e <;> kernel_rfl) (by rcases hfa1 with ha1e | ⟨_, _, ha1e⟩ <;> subst ha1e <;> kernel_rfl)) (APath.fin (by rcases hfa1 with ha1e | ⟨_, _, ha1e⟩ <;> subst ha1e <;> kernel_rfl)))))) (by rcases hfa1 with ha1e | ⟨_, _, ha1e⟩ <;> subst ha1e <;> kernel_rfl) ?_
      refine vc_seq ?_
      obtain ⟨e511, he511, h⟩ := bind_some h
      obtain ⟨r512, hr512, h⟩ := bind_some h
      refine vc_reg (S := ⟨[(2, iv a2_), (3, .loc 3 0), (7, a1), (8, bv b3), (9, iv i4), (12, iv (if a2_ < (w64 ((w64 (i4 - r509.2)) + e510.Long)) then a2_ else (w64 ((w64 (i4 - r509.2)) + e510.Long)))), (13, bv r512)], [(3, (c_api_Gates a0_))], H2⟩) (APath.chunk 3 (by rcases hfa1 with ha1e | ⟨_, _, ha1e⟩ <;> subst ha1e <;> kernel_rfl) (APath.one (.val 39 (.iaddrS 2) [.t 37, .t 38]) (by kernel_rfl) (st_val (ys := [s_e_api_Entry false a0_.Entries, iv r509.1]) (by rcases hfa1 with ha1e | ⟨_, _, ha1e⟩ <;> subst ha1e <;> kernel_rfl) (vexec_iaddrS e_api_Entry he511)) (APath.chunk 1 (by rcases hfa1 with ha1e | ⟨_, _, ha1e⟩ <;> subst ha1e <;> kernel_rfl) (APath.one (.load 41 (.t 40) 1 false) (by kernel_rfl) (st_loadP (sz := 2) (off := 0) (cs := [.int .i64 e511.Mask]) (r := iv e511.Mask) e_api_Entry he511 (by rcases hfa1 with ha1e | ⟨_, _, ha1e⟩ <;> subst ha1e <;> kernel_rfl) (by rcases hfa1 with ha1e | ⟨_, _, ha1e⟩ <;> subst ha1e <;> kernel_rfl) (by rcases hfa1 with ha1e | ⟨_, _, ha1e⟩ <;> subst ha1e <;> kernel_rfl)) (APath.one (.call (some 42) 51 [.t 41, .k (.p (.int .i64 6))]) (by kernel_rfl) (st_call (by rcases hfa1 with ha1e | ⟨_, _, ha1e⟩ <;> subst ha1e <;> kernel_rfl) (ref27_Bit_ok N e511.Mask 6 r512 hr512)) (APath.fin (by rcases hfa1 with ha1e | ⟨_, _, ha1e⟩ <;> subst ha1e <;> kernel_rfl))))))) (by rcases hfa1 with ha1e | ⟨_, _, ha1e⟩ <;> subst ha1e <;> kernel_rfl) ?_
      obtain ⟨j1015, hj1015, h⟩ := bind_some h
      refine vc_joinK [2, 3, 7, 8, 9, 12, 13] (fun s => ∃ (a1013 : AV) (H1014 : List HO), s = ⟨[(2, iv a2_), (3, .loc 3 0), (7, a1013), (8, bv b3), (9, iv i4), (12, iv (if a2_ < (w64 ((w64 (i4 - r509.2)) + e510.Long)) then a2_ else (w64 ((w64 (i4 - r509.2)) + e510.Long)))), (13, bv r512)], [(3, (c_api_Gates a0_))], H1014⟩ ∧ HP H1014 [.arr a1013 2 false (List.map e_ref30_Opening j1015)]) ?_ ?_
      · clear h
        have h := hj1015
        refine vc_seq ?_
        refine vc_regX ⟨[(2, iv a2_), (3, .loc 3 0), (7, a1), (8, bv b3), (9, iv i4), (12, iv (if a2_ < (w64 ((w64 (i4 - r509.2)) + e510.Long)) then a2_ else (w64 ((w64 (i4 - r509.2)) + e510.Long)))), (13, bv r512), (46, bv (r512 && b3))], [(3, (c_api_Gates a0_))], H2⟩ ?_ ?_
        · rcases Bool.eq_false_or_eq_true r512 with hc1016 | hc1017
          · exact ⟨_, (APath.one (.val 43 .mov [.t 13]) (by kernel_rfl) (st_bool (c := r512) (by rcases hfa1 with ha1e | ⟨_, _, ha1e⟩ <;> subst ha1e <;> kernel_rfl) hc1016) (APath.fin (by rcases hfa1 with ha1e | ⟨_, _, ha1e⟩ <;> subst ha1e <;> kernel_rfl))), by simp only [hc1016]; rcases hfa1 with ha1e | ⟨_, _, ha1e⟩ <;> subst ha1e <;> kernel_rfl⟩
          · exact ⟨_, (APath.one (.val 43 .mov [.t 13]) (by kernel_rfl) (st_bool (c := r512) (by rcases hfa1 with ha1e | ⟨_, _, ha1e⟩ <;> subst ha1e <;> kernel_rfl) hc1017) (APath.fin (by rcases hfa1 with ha1e | ⟨_, _, ha1e⟩ <;> subst ha1e <;> kernel_rfl))), by simp only [hc1017]; rcases hfa1 with ha1e | ⟨_, _, ha1e⟩ <;> subst ha1e <;> kernel_rfl⟩
        · refine vc_ite (by kernel_rfl) h (fun hc1018 h => ?_) (fun hc1018 h => ?_)
          · have hln1019 := HP.len (k := 0) (a := a1) (sz := 2) (frz := false) (l := l5) e_ref30_Opening hH rfl
            obtain ⟨e1020, he1020, h⟩ := bind_some h
            obtain ⟨id1021, ver1022, _, hid1021f, hid1021, hid1021a, hid1021v⟩ := HP.elem (k := 0) (a := a1) (sz := 2) (frz := false) e_ref30_Opening hH rfl he1020
            obtain ⟨H1023, hH1023, hH⟩ := HP.setRow (k := 0) (off := 1) (cs := [iv (if a2_ < (w64 ((w64 (i4 - r509.2)) + e510.Long)) then a2_ else (w64 ((w64 (i4 - r509.2)) + e510.Long)))]) (ps := [.int .i64 (if a2_ < (w64 ((w64 (i4 - r509.2)) + e510.Long)) then a2_ else (w64 ((w64 (i4 - r509.2)) + e510.Long)))]) (e' := (ref30_Opening.mk e1020.Begin (if a2_ < (w64 ((w64 (i4 - r509.2)) + e510.Long)) then a2_ else (w64 ((w64 (i4 - r509.2)) + e510.Long))))) e_ref30_Opening hH rfl hid1021a hid1021 (hid1021f rfl) he1020 (by kernel_rfl) (by kernel_rfl)
            replace hH : HP H1023 [.arr a1 2 false (List.map e_ref30_Opening (List.set l5 (Int.toNat (w64 (((List.length l5 : Nat) : Int) - 1))) (ref30_Opening.mk e1020.Begin (if a2_ < (w64 ((w64 (i4 - r509.2)) + e510.Long)) then a2_ else (w64 ((w64 (i4 - r509.2)) + e510.Long))))))] := hH
            refine vc_reg (S := ⟨[(2, iv a2_), (3, .loc 3 0), (7, a1), (8, bv b3), (9, iv i4), (12, iv (if a2_ < (w64 ((w64 (i4 - r509.2)) + e510.Long)) then a2_ else (w64 ((w64 (i4 - r509.2)) + e510.Long)))), (13, bv r512)], [(3, (c_api_Gates a0_))], H1023⟩) (APath.chunk 2 (by rcases hfa1 with ha1e | ⟨_, _, ha1e⟩ <;> subst ha1e <;> kernel_rfl) (APath.one (.val 49 .len [.t 48]) (by kernel_rfl) (st_val (ys := [a1]) (by rcases hfa1 with ha1e | ⟨_, _, ha1e⟩ <;> subst ha1e <;> kernel_rfl) hln1019) (APath.chunk 2 (by rcases hfa1 with ha1e | ⟨_, _, ha1e⟩ <;> subst ha1e <;> kernel_rfl) (APath.one (.val 52 (.iaddrS 2) [.t 47, .t 50]) (by kernel_rfl) (st_val (ys := [a1, iv (w64 (((List.length l5 : Nat) : Int) - 1))]) (by rcases hfa1 with ha1e | ⟨_, _, ha1e⟩ <;> subst ha1e <;> kernel_rfl) (hid1021v .i64)) (APath.chunk 1 (by rcases hfa1 with ha1e | ⟨_, _, ha1e⟩ <;> subst ha1e <;> kernel_rfl) (APath.one (.store (.t 53) (.t 51) 1) (by kernel_rfl) (st_storeH (H := H2) (v := iv (if a2_ < (w64 ((w64 (i4 - r509.2)) + e510.Long)) then a2_ else (w64 ((w64 (i4 - r509.2)) + e510.Long)))) (by rcases hfa1 with ha1e | ⟨_, _, ha1e⟩ <;> subst ha1e <;> kernel_rfl) (by rcases hfa1 with ha1e | ⟨_, _, ha1e⟩ <;> subst ha1e <;> kernel_rfl) (by rcases hfa1 with ha1e | ⟨_, _, ha1e⟩ <;> subst ha1e <;> kernel_rfl) (by rcases hfa1 with ha1e | ⟨_, _, ha1e⟩ <;> subst ha1e <;> kernel_rfl) hH1023) APath.done)))))) (by rcases hfa1 with ha1e | ⟨_, _, ha1e⟩ <;> subst ha1e <;> kernel_rfl) ?_
            obtain rfl := some_inj h
            exact ⟨rfl, ⟨a1, H1023, (by show _ = _; rcases hfa1 with ha1e | ⟨_, _, ha1e⟩ <;> subst ha1e <;> kernel_rfl), (HP.pick hH [0] rfl)⟩⟩
          · refine vc_skip ?_
            obtain rfl := some_inj h
            exact ⟨rfl, ⟨a1, H2, (by show _ = _; rcases hfa1 with ha1e | ⟨_, _, ha1e⟩ <;> subst ha1e <;> kernel_rfl), (HP.pick hH [0] rfl)⟩⟩
      · clear hj1015
        rintro s hR
        obtain ⟨a1013, H1014, rfl, hH⟩ := hR
        replace hH : HP H1014 [.arr a1013 2 false (List.map e_ref30_Opening j1015)] := hH
        have hfa1013 := own_form (HP.get hH 0 rfl)
        obtain ⟨j1526, hj1526, h⟩ := bind_some h
        refine vc_joinK [2, 3, 7, 12, 13] (fun s => ∃ (a1524 : AV) (H1525 : List HO), s = ⟨[(2, iv a2_), (3, .loc 3 0), (7, a1524), (12, iv (if a2_ < (w64 ((w64 (i4 - r509.2)) + e510.Long)) then a2_ else (w64 ((w64 (i4 - r509.2)) + e510.Long)))), (13, bv r512)], [(3, (c_api_Gates a0_))], H1525⟩ ∧ HP H1525 [.arr a1524 2 false (List.map e_ref30_Opening j1526)]) ?_ ?_
        · clear h
          have h := hj1526
          refine vc_seq ?_
          refine vc_regX ⟨[(2, iv a2_), (3, .loc 3 0), (7, a1013), (9, iv i4), (12, iv (if a2_ < (w64 ((w64 (i4 - r509.2)) + e510.Long)) then a2_ else (w64 ((w64 (i4 - r509.2)) + e510.Long)))), (13, bv r512), (58, bv (r512 && (!b3)))], [(3, (c_api_Gates a0_))], H1014⟩ ?_ ?_
          · rcases Bool.eq_false_or_eq_true r512 with hc1527 | hc1528
            · exact ⟨_, (APath.one (.val 54 .mov [.t 13]) (by kernel_rfl) (st_bool (c := r512) (by rcases hfa1013 with ha1013e | ⟨_, _, ha1013e⟩ <;> subst ha1013e <;> kernel_rfl) hc1527) (APath.fin (by rcases hfa1013 with ha1013e | ⟨_, _, ha1013e⟩ <;> subst ha1013e <;> kernel_rfl))), by simp only [hc1527]; rcases hfa1013 with ha1013e | ⟨_, _, ha1013e⟩ <;> subst ha1013e <;> kernel_rfl⟩
            · exact ⟨_, (APath.one (.val 54 .mov [.t 13]) (by kernel_rfl) (st_bool (c := r512) (by rcases hfa1013 with ha1013e | ⟨_, _, ha1013e⟩ <;> subst ha1013e <;> kernel_rfl) hc1528) (APath.fin (by rcases hfa1013 with ha1013e | ⟨_, _, ha1013e⟩ <;> subst ha1013e <;> kernel_rfl))), by simp only [hc1528]; rcases hfa1013 with ha1013e | ⟨_, _, ha1013e⟩ <;> subst ha1013e <;> kernel_rfl⟩
          · refine vc_ite (by kernel_rfl) h (fun hc1529 h => ?_) (fun hc1529 h => ?_)
            · obtain ⟨l1532, hl1532, h⟩ := bind_some h
              obtain ⟨a1530, H1531, ha1530, hH⟩ := HP.app (k := 0) (a := a1013) (sz := 2) (frz := false) e_ref30_Opening hH rfl hl1532
              replace hH : HP H1531 [.arr a1530 2 false (List.map e_ref30_Opening l1532)] := hH
              have hfa1530 := own_form (HP.get hH 0 rfl)
              refine vc_reg (S := ⟨[(2, iv a2_), (3, .loc 3 0), (7, a1530), (12, iv (if a2_ < (w64 ((w64 (i4 - r509.2)) + e510.Long)) then a2_ else (w64 ((w64 (i4 - r509.2)) + e510.Long)))), (13, bv r512)], [(3, (c_api_Gates a0_))], H1531⟩) (APath.chunk 5 (by rcases hfa1013 with ha1013e | ⟨_, _, ha1013e⟩ <;> rcases hfa1530 with ha1530e | ⟨_, _, ha1530e⟩ <;> subst ha1013e ha1530e <;> kernel_rfl) (APath.one (.app 64 (.t 59) (.t 63) 2 16) (by kernel_rfl) (st_app (H := H1014) (a := a1013) (b := s_e_ref30_Opening true [(ref30_Opening.mk i4 (if a2_ < (w64 ((w64 (i4 - r509.2)) + e510.Long)) then a2_ else (w64 ((w64 (i4 - r509.2)) + e510.Long))))]) (by rcases hfa1013 with ha1013e | ⟨_, _, ha1013e⟩ <;> rcases hfa1530 with ha1530e | ⟨_, _, ha1530e⟩ <;> subst ha1013e ha1530e <;> kernel_rfl) (by rcases hfa1013 with ha1013e | ⟨_, _, ha1013e⟩ <;> rcases hfa1530 with ha1530e | ⟨_, _, ha1530e⟩ <;> subst ha1013e ha1530e <;> kernel_rfl) (by rcases hfa1013 with ha1013e | ⟨_, _, ha1013e⟩ <;> rcases hfa1530 with ha1530e | ⟨_, _, ha1530e⟩ <;> subst ha1013e ha1530e <;> kernel_rfl) (by rcases hfa1013 with ha1013e | ⟨_, _, ha1013e⟩ <;> rcases hfa1530 with ha1530e | ⟨_, _, ha1530e⟩ <;> subst ha1013e ha1530e <;> kernel_rfl) ha1530) (APath.fin (by rcases hfa1013 with ha1013e | ⟨_, _, ha1013e⟩ <;> rcases hfa1530 with ha1530e | ⟨_, _, ha1530e⟩ <;> subst ha1013e ha1530e <;> kernel_rfl)))) (by rcases hfa1013 with ha1013e | ⟨_, _, ha1013e⟩ <;> rcases hfa1530 with ha1530e | ⟨_, _, ha1530e⟩ <;> subst ha1013e ha1530e <;> kernel_rfl) ?_
              obtain rfl := some_inj h
              exact ⟨rfl, ⟨a1530, H1531, (by show _ = _; rcases hfa1530 with ha1530e | ⟨_, _, ha1530e⟩ <;> subst ha1530e <;> kernel_rfl), (HP.pick hH [0] rfl)⟩⟩
            · refine vc_skip ?_
              obtain rfl := some_inj h
              exact ⟨rfl, ⟨a1013, H1014, (by show _ = _; rcases hfa1013 with ha1013e | ⟨_, _, ha1013e⟩ <;> subst ha1013e <;> kernel_rfl), (HP.pick hH [0] rfl)⟩⟩
        · clear hj1526
          rintro s hR
          obtain ⟨a1524, H1525, rfl, hH⟩ := hR
          replace hH : HP H1525 [.arr a1524 2 false (List.map e_ref30_Opening j1526)] := hH
          have hfa1524 := own_form (HP.get hH 0 rfl)
          refine vc_seq ?_
          refine vc_reg (S := ⟨[(2, iv a2_), (3, .loc 3 0), (7, a1524), (8, bv r512), (12, iv (if a2_ < (w64 ((w64 (i4 - r509.2)) + e510.Long)) then a2_ else (w64 ((w64 (i4 - r509.2)) + e510.Long))))], [(3, (c_api_Gates a0_))], H1525⟩) (APath.fin (by rcases hfa1524 with ha1524e | ⟨_, _, ha1524e⟩ <;> subst ha1524e <;> kernel_rfl)) (by rcases hfa1524 with ha1524e | ⟨_, _, ha1524e⟩ <;> subst ha1524e <;> kernel_rfl) ?_
          refine vc_reg (S := ⟨[(2, iv a2_), (3, .loc 3 0), (7, a1524), (8, bv r512), (9, iv (if a2_ < (w64 ((w64 (i4 - r509.2)) + e510.Long)) then a2_ else (w64 ((w64 (i4 - r509.2)) + e510.Long))))], [(3, (c_api_Gates a0_))], H1525⟩) (APath.fin (by rcases hfa1524 with ha1524e | ⟨_, _, ha1524e⟩ <;> subst ha1524e <;> kernel_rfl)) (by rcases hfa1524 with ha1524e | ⟨_, _, ha1524e⟩ <;> subst ha1524e <;> kernel_rfl) ?_
          obtain rfl := some_inj h
          exact ⟨_, rfl, ⟨a1524, H1525, (by show _ = _; rcases hfa1524 with ha1524e | ⟨_, _, ha1524e⟩ <;> subst ha1524e <;> kernel_rfl), (HP.pick hH [0] rfl)⟩⟩
    · refine vc_exit ?_
      try show vc _ _ _ _ _
      obtain rfl := some_inj h
      exact ⟨_, rfl, rfl, ⟨a1, H2, (by show _ = _; rcases hfa1 with ha1e | ⟨_, _, ha1e⟩ <;> subst ha1e <;> kernel_rfl), (HP.pick hH [0] rfl)⟩⟩
  · rintro e s hq
    obtain ⟨rfl, hR⟩ := hq
    obtain ⟨a506, H507, rfl, hH⟩ := hR
    replace hH : HP H507 [.arr a506 2 false (List.map e_ref30_Opening o1533.2.2)] := hH
    have hfa506 := own_form (HP.get hH 0 rfl)
    try show vc _ _ _ _ _
    refine vc_seq ?_
    refine vc_reg (S := ⟨[(6, a506)], [], H507⟩) (APath.fin (by rcases hfa506 with ha506e | ⟨_, _, ha506e⟩ <;> subst ha506e <;> kernel_rfl)) (by rcases hfa506 with ha506e | ⟨_, _, ha506e⟩ <;> subst ha506e <;> kernel_rfl) ?_
    refine vc_ret ?_
    obtain rfl := some_inj h
    exact ret_own (H := H507) (ys := [a506]) (xs := [.p (.sl 2 false (List.map e_ref30_Opening o1533.2.2))]) (by rcases hfa506 with ha506e | ⟨_, _, ha506e⟩ <;> subst ha506e <;> kernel_rfl) (by rcases hfa506 with ha506e | ⟨_, _, ha506e⟩ <;> subst ha506e <;> kernel_rfl) (pureVL_cons (HP.pure (k := 0) (frz := false) e_ref30_Opening hH rfl).2 pureVL_nil) (by kernel_rfl)
/- gates.Open -/
theorem gates_Open_ok (N : Nat) (a0_ : api_Gates) (a1_ : Int) (a2_ : Int) (r : Int × Int) (h : gates_Open N a0_ a1_ a2_ = some r) : PCall Try.prog 22 [.agg (c_api_Gates a0_), iv a1_, iv a2_] (.tup [iv r.1, iv r.2]) := by
  unfold gates_Open at h
  have hH : HP ([] : List HO) [] := trivial
  refine pcall_of chk22 rfl rfl (vc_sound _ _ _ ?_) rfl
  refine vc_seq ?_
  refine vc_reg (S := ⟨[(1, iv a1_), (2, iv a2_), (3, .loc 3 0)], [(3, (c_api_Gates a0_))], []⟩) (APath.fin (by kernel_rfl)) (by kernel_rfl) ?_
  refine vc_seq ?_
  refine vc_seq ?_
  obtain ⟨r1, hr1, h⟩ := bind_some h
  refine vc_reg (S := ⟨[(1, iv a1_), (2, iv a2_), (3, .loc 3 0), (8, iv r1)], [(3, (c_api_Gates a0_))], []⟩) (APath.chunk 3 (by kernel_rfl) (APath.one (.call (some 12) 40 [.t 9, .t 10, .t 11, .k (.p (.int .i64 0))]) (by kernel_rfl) (st_call (by kernel_rfl) (gates_check_ok N a0_ a1_ a2_ 0 r1 hr1)) (APath.fin (by kernel_rfl)))) (by kernel_rfl) ?_
  refine vc_seq ?_
  refine vc_reg (S := ⟨[(1, iv a1_), (2, iv a2_), (3, .loc 3 0), (8, iv r1), (14, bv (r1 != 0))], [(3, (c_api_Gates a0_))], []⟩) (APath.fin (by kernel_rfl)) (by kernel_rfl) ?_
  refine vc_ite (by kernel_rfl) h (fun hc2 h => ?_) (fun hc2 h => ?_)
  · refine vc_seq ?_
    refine vc_reg (S := ⟨[(6, iv 0), (7, iv r1)], [], []⟩) (APath.fin (by kernel_rfl)) (by kernel_rfl) ?_
    refine vc_ret ?_
    obtain rfl := some_inj h
    exact ret_of (by kernel_rfl)
  · refine vc_skip ?_
    refine vc_kp ?_
    refine vc_seq ?_
    obtain ⟨r3, hr3, h⟩ := bind_some h
    refine vc_reg (S := ⟨[(6, iv r3), (7, iv 0)], [], []⟩) (APath.chunk 3 (by kernel_rfl) (APath.one (.call (some 19) 41 [.t 16, .t 17, .t 18]) (by kernel_rfl) (st_call (by kernel_rfl) (gates_open_ok N a0_ a1_ a2_ r3 hr3)) (APath.fin (by kernel_rfl)))) (by kernel_rfl) ?_
    refine vc_ret ?_
    obtain rfl := some_inj h
    exact ret_of (by kernel_rfl)
/- gates.Turn -/
theorem gates_Turn_ok (N : Nat) (a0_ : api_Gates) (a1_ : Int) (r : Int × Int) (h : gates_Turn N a0_ a1_ = some r) : PCall Try.prog 23 [.agg (c_api_Gates a0_), iv a1_] (.tup [iv r.1, iv r.2]) := by
  unfold gates_Turn at h
  have hH : HP ([] : List HO) [] := trivial
  refine pcall_of chk23 rfl rfl (vc_sound _ _ _ ?_) rfl
  refine vc_seq ?_
  refine vc_reg (S := ⟨[(1, iv a1_), (2, .loc 2 0)], [(2, (c_api_Gates a0_))], []⟩) (APath.fin (by kernel_rfl)) (by kernel_rfl) ?_
  refine vc_seq ?_
  refine vc_seq ?_
  obtain ⟨r1, hr1, h⟩ := bind_some h
  refine vc_reg (S := ⟨[(1, iv a1_), (2, .loc 2 0), (6, iv r1)], [(2, (c_api_Gates a0_))], []⟩) (APath.chunk 2 (by kernel_rfl) (APath.one (.call (some 13) 40 [.t 11, .k (.p (.int .i64 0)), .t 12, .k (.p (.int .i64 0))]) (by kernel_rfl) (st_call (by kernel_rfl) (gates_check_ok N a0_ 0 a1_ 0 r1 hr1)) (APath.fin (by kernel_rfl)))) (by kernel_rfl) ?_
  refine vc_seq ?_
  refine vc_reg (S := ⟨[(1, iv a1_), (2, .loc 2 0), (6, iv r1), (15, bv (r1 != 0))], [(2, (c_api_Gates a0_))], []⟩) (APath.fin (by kernel_rfl)) (by kernel_rfl) ?_
  refine vc_ite (by kernel_rfl) h (fun hc2 h => ?_) (fun hc2 h => ?_)
  · refine vc_seq ?_
    refine vc_reg (S := ⟨[(4, iv 0), (5, iv r1)], [], []⟩) (APath.fin (by kernel_rfl)) (by kernel_rfl) ?_
    refine vc_ret ?_
    obtain rfl := some_inj h
    exact ret_of (by kernel_rfl)
  · refine vc_skip ?_
    refine vc_kp ?_
    refine vc_seq ?_
    obtain ⟨r3, hr3, h⟩ := bind_some h
    refine vc_reg (S := ⟨[(1, iv a1_), (2, .loc 2 0), (7, iv r3.1)], [(2, (c_api_Gates a0_))], []⟩) (APath.chunk 2 (by kernel_rfl) (APath.one (.call (some 20) 42 [.t 18, .t 19]) (by kernel_rfl) (st_call (by kernel_rfl) (gates_find_ok N a0_ a1_ r3 hr3)) (APath.fin (by kernel_rfl)))) (by kernel_rfl) ?_
    refine vc_seq ?_
    obtain ⟨e4, he4, h⟩ := bind_some h
    obtain ⟨id5, H6, hid5, hH6, hH⟩ := HP.newCell hH [iv 0]
    replace hH : HP H6 [.cel id5 [iv 0]] := hH
    obtain ⟨H7, hH7, hH⟩ := HP.setCell (k := 0) (off := 0) (cs := [iv 0]) (vs := [iv e4.Mask]) (cs' := [iv e4.Mask]) hH rfl (by kernel_rfl)
    replace hH : HP H7 [.cel id5 [iv e4.Mask]] := hH
    refine vc_reg (S := ⟨[(1, iv a1_), (2, .loc 2 0), (9, .ptr id5 0)], [(2, (c_api_Gates a0_))], H7⟩) (APath.chunk 3 (by kernel_rfl) (APath.one (.val 26 (.iaddrS 2) [.t 24, .t 25]) (by kernel_rfl) (st_val (ys := [s_e_api_Entry false a0_.Entries, iv r3.1]) (by kernel_rfl) (vexec_iaddrS e_api_Entry he4)) (APath.chunk 1 (by kernel_rfl) (APath.one (.load 28 (.t 27) 1 false) (by kernel_rfl) (st_loadP (sz := 2) (off := 0) (cs := [.int .i64 e4.Mask]) (r := iv e4.Mask) e_api_Entry he4 (by kernel_rfl) (by kernel_rfl) (by kernel_rfl)) (APath.one (.newH 9 [.p (.int .i64 0)]) (by kernel_rfl) (st_newH (H := []) (by kernel_rfl) hid5 hH6) (APath.one (.store (.t 9) (.t 28) 1) (by kernel_rfl) (st_storeH (H := H6) (v := iv e4.Mask) (by kernel_rfl) (by kernel_rfl) (by kernel_rfl) (by kernel_rfl) hH7) APath.done)))))) (by kernel_rfl) ?_
    refine vc_seq ?_
    obtain ⟨r8, hr8, h⟩ := bind_some h
    have hvr8 := (gates_stretch_ok N a0_ a1_ (fun x0 => gates_Turn_1 N x0 e4.Mask)   44 [] [.ptr id5 0] (by kernel_rfl) [.cel id5 [iv e4.Mask]] (fun H x0 r hH h => VCall.of (by kernel_rfl) (gates_Turn_1_ok N x0 e4.Mask id5 H hH r h)) H7 (HP.now (HP.pick hH [0] rfl)) r8 hr8)
    refine vc_reg (S := ⟨[(1, iv a1_), (2, .loc 2 0), (10, iv r8)], [(2, (c_api_Gates a0_))], H7⟩) (APath.chunk 3 (by kernel_rfl) (APath.one (.call (some 32) 43 [.t 29, .t 30, .t 31]) (by kernel_rfl) (st_callH (H := H7) (ys := [.agg (c_api_Gates a0_), iv a1_, .fn 44 [] [.ptr id5 0]]) (by kernel_rfl) (by kernel_rfl) (by kernel_rfl) hvr8) (APath.fin (by kernel_rfl)))) (by kernel_rfl) ?_
    replace hH : HP H7 [] := HP.pick hH [] rfl
    refine vc_seq ?_
    refine vc_seq ?_
    refine vc_reg (S := ⟨[(1, iv a1_), (10, iv r8), (36, bv (r8 == a0_.Cycle))], [], H7⟩) (APath.fin (by kernel_rfl)) (by kernel_rfl) ?_
    refine vc_ite (by kernel_rfl) h (fun hc9 h => ?_) (fun hc9 h => ?_)
    · refine vc_seq ?_
      refine vc_reg (S := ⟨[(4, iv 0), (5, iv 4)], [], H7⟩) (APath.fin (by kernel_rfl)) (by kernel_rfl) ?_
      refine vc_ret ?_
      obtain rfl := some_inj h
      exact ret_of (by kernel_rfl)
    · refine vc_skip ?_
      refine vc_kp ?_
      refine vc_seq ?_
      refine vc_reg (S := ⟨[(4, iv (w64 (a1_ + r8))), (5, iv 0)], [], H7⟩) (APath.fin (by kernel_rfl)) (by kernel_rfl) ?_
      refine vc_ret ?_
      obtain rfl := some_inj h
      exact ret_of (by kernel_rfl)
/- service.always -/
theorem service_always_ok (N : Nat) (a0_ : api_Gates) (r : Bool) (h : service_always N a0_ = some r) : PCall Try.prog 30 [.agg (c_api_Gates a0_)] (bv r) := by
  unfold service_always at h
  have hH : HP ([] : List HO) [] := trivial
  refine pcall_of chk30 rfl rfl (vc_sound _ _ _ ?_) rfl
  refine vc_seq ?_
  refine vc_reg (S := ⟨[(1, .loc 1 0)], [(1, (c_api_Gates a0_))], []⟩) (APath.fin (by kernel_rfl)) (by kernel_rfl) ?_
  refine vc_seq ?_
  obtain ⟨r1, hr1, h⟩ := bind_some h
  refine vc_reg (S := ⟨[(3, iv r1.1), (4, iv r1.2)], [], []⟩) (APath.chunk 1 (by kernel_rfl) (APath.one (.call (some 7) 22 [.t 6, .k (.p (.int .i64 6)), .k (.p (.int .i64 0))]) (by kernel_rfl) (st_call (by kernel_rfl) (gates_Open_ok N a0_ 6 0 r1 hr1)) (APath.fin (by kernel_rfl)))) (by kernel_rfl) ?_
  refine vc_seq ?_
  refine vc_regX ⟨[(2, bv ((r1.2 == 0) && (r1.1 == 1099511627776)))], [], []⟩ ?_ ?_
  · rcases Bool.eq_false_or_eq_true (r1.2 == 0) with hc2 | hc3
    · exact ⟨_, (APath.chunk 1 (by kernel_rfl) (APath.one (.val 11 (.bin .eql) [.t 10, .k (.p (.int .i64 0))]) (by kernel_rfl) (st_bool (c := (r1.2 == 0)) (by kernel_rfl) hc2) (APath.fin (by kernel_rfl)))), by simp only [hc2]; kernel_rfl⟩
    · exact ⟨_, (APath.chunk 1 (by kernel_rfl) (APath.one (.val 11 (.bin .eql) [.t 10, .k (.p (.int .i64 0))]) (by kernel_rfl) (st_bool (c := (r1.2 == 0)) (by kernel_rfl) hc3) (APath.fin (by kernel_rfl)))), by simp only [hc3]; kernel_rfl⟩
  · refine vc_ret ?_
    obtain rfl := some_inj h
    exact ret_of (by kernel_rfl)
/- isochronref30.Least -/
theorem ref30_Least_ok (N : Nat) (a0_ : api_Gates) (a1_ : Int) (a2_ : Int) (a3_ : Int) (a4_ : Int) (r : Int) (h : ref30_Least N a0_ a1_ a2_ a3_ a4_ = some r) : PCall Try.prog 33 [.agg (c_api_Gates a0_), iv a1_, iv a2_, iv a3_, iv a4_] (iv r) := by
  unfold ref30_Least at h
  have hH : HP ([] : List HO) [] := trivial
  refine pcall_of chk33 rfl rfl (vc_sound _ _ _ ?_) rfl
  refine vc_seq ?_
  refine vc_reg (S := ⟨[(1, iv a1_), (2, iv a2_), (3, iv a3_), (4, iv a4_), (5, .loc 5 0)], [(5, (c_api_Gates a0_))], []⟩) (APath.fin (by kernel_rfl)) (by kernel_rfl) ?_
  refine vc_seq ?_
  refine vc_seq ?_
  obtain ⟨r1, hr1, h⟩ := bind_some h
  refine vc_reg (S := ⟨[(1, iv a1_), (2, iv a2_), (3, iv a3_), (4, iv a4_), (5, .loc 5 0), (12, bv r1)], [(5, (c_api_Gates a0_))], []⟩) (APath.chunk 1 (by kernel_rfl) (APath.one (.call (some 12) 38 [.t 11]) (by kernel_rfl) (st_call (by kernel_rfl) (ref30_Always_ok N a0_ r1 hr1)) APath.done)) (by kernel_rfl) ?_
  refine vc_ite (by kernel_rfl) h (fun hc2 h => ?_) (fun hc2 h => ?_)
  · refine vc_seq ?_
    refine vc_reg (S := ⟨[(10, iv (w64 (a4_ - (w64 (127 * a1_)))))], [], []⟩) (APath.fin (by kernel_rfl)) (by kernel_rfl) ?_
    refine vc_ret ?_
    obtain rfl := some_inj h
    exact ret_of (by kernel_rfl)
  · refine vc_skip ?_
    refine vc_kp ?_
    refine vc_seq ?_
    obtain ⟨r3, hr3, h⟩ := bind_some h
    obtain ⟨r4, hr4, h⟩ := bind_some h
    refine vc_reg (S := ⟨[(10, iv (w64 (r4 - (w64 (127 * a1_)))))], [], []⟩) (APath.chunk 5 (by kernel_rfl) (APath.one (.call (some 22) 50 [.t 17, .t 18, .t 21]) (by kernel_rfl) (st_call (by kernel_rfl) (ref30_Openings_ok N a0_ a3_ (w64 (a3_ + a4_)) r3 hr3)) (APath.chunk 3 (by kernel_rfl) (APath.one (.call (some 26) 47 [.t 22, .t 25]) (by kernel_rfl) (st_call (by kernel_rfl) (ref30_sum_ok N r3 (w64 (a2_ * a1_)) r4 hr4)) (APath.fin (by kernel_rfl)))))) (by kernel_rfl) ?_
    refine vc_ret ?_
    obtain rfl := some_inj h
    exact ret_of (by kernel_rfl)
/- service.gaps -/
theorem service_gaps_ok {σ : Type} (N : Nat) (a0_ : api_Gates) (a1_ : Int) (y_ : σ → Int → Int → Option (σ)) (s_ : σ) (y_f : Nat) (y_p y_c : List AV) (hy_n : (noLocL y_p && noLocL y_c) = true) (T_ : σ → List Thing → Prop) (hy_ : ∀ (x0 : Int) (x1 : Int) (s : σ) (r : σ) (H : List HO) (its : List Thing), T_ s its → HP H its → y_ s x0 x1 = some r → ∃ H' its', VCall Try.prog (.fn y_f y_p y_c) [iv x0, iv x1] H (.tup []) H' ∧ T_ r its' ∧ Fp H H' its its') (H : List HO) (its : List Thing) (hT : T_ s_ its) (hH : HP H (its)) (r : σ) (h : service_gaps N a0_ a1_ y_ s_ = some r) : ∃ H' its', ACall Try.prog 36 [.agg (c_api_Gates a0_), iv a1_, .fn y_f y_p y_c] H (.tup []) H' ∧ T_ r its' ∧ Fp H H' (its) (its') := by
  suffices hs : ∃ H', ACall Try.prog 36 [.agg (c_api_Gates a0_), iv a1_, .fn y_f y_p y_c] H (.tup []) H' ∧ ∃ its', T_ r its' ∧ Fp H H' (its) (its') by
    obtain ⟨H', h1, its', h2, h3⟩ := hs
    exact ⟨H', its', h1, h2, h3⟩
  unfold service_gaps at h
  replace hH : Fp H H (its) (its) := Fp.refl hH
  refine acall_det chk36 (fun H' => ∃ its', T_ r its' ∧ Fp H H' (its) (its')) rfl (by simpa [noLocL, noLoc.noLocL, noLoc] using hy_n) rfl ?_
  refine vc_seq ?_
  refine vc_reg (S := ⟨[(1, iv a1_), (2, .fn y_f y_p y_c), (3, .loc 3 0)], [(3, (c_api_Gates a0_))], H⟩) (APath.fin (by kernel_rfl)) (by kernel_rfl) ?_
  refine vc_seq ?_
  obtain ⟨id1, H2, hid1, hH2, hH⟩ := Fp.newCell hH [s_e_service_opening true []]
  replace hH : Fp H H2 (its) (.cel id1 [s_e_service_opening true []] :: its) := hH
  refine vc_reg (S := ⟨[(1, iv a1_), (2, .fn y_f y_p y_c), (3, .loc 3 0), (6, .ptr id1 0)], [(3, (c_api_Gates a0_))], H2⟩) (APath.one (.newH 6 [.p (.sl 2 true [])]) (by kernel_rfl) (st_newH (H := H) (by kernel_rfl) hid1 hH2) APath.done) (by kernel_rfl) ?_
  refine vc_seq ?_
  refine vc_seq ?_
  obtain ⟨r3, hr3, h⟩ := bind_some h
  obtain ⟨id5, H4, hvr3, hpr3⟩ := service_openings_ok N a0_ H2 r3 hr3
  replace hH : Fp H H4 (its) (.cel id5 (c_api_Gates r3) :: .cel id1 [s_e_service_opening true []] :: its) := Fp.callee (fp := []) (rest := (.cel id1 [s_e_service_opening true []] :: its)) hH hpr3
  refine vc_reg (S := ⟨[(1, iv a1_), (2, .fn y_f y_p y_c), (3, .loc 3 0), (6, .ptr id1 0), (17, .fn 48 [] [.ptr id5 0])], [(3, (c_api_Gates a0_))], H4⟩) (APath.chunk 1 (by kernel_rfl) (APath.one (.call (some 17) 31 [.t 16]) (by kernel_rfl) (st_callH (H := H2) (ys := [.agg (c_api_Gates a0_)]) (by kernel_rfl) (by kernel_rfl) (by kernel_rfl) hvr3) APath.done)) (by kernel_rfl) ?_
  refine vc_block ?_
  obtain ⟨o515, ho515, h⟩ := bind_some h
  have hyo515 : ∀ (x7 : service_opening) (s : (List service_opening)) (r : ((List service_opening)) × Bool) (H : List HO) (its : List Thing), (fun (s : (List service_opening)) (its : List Thing) => ∃ (a8 : AV), its = [.arr a8 2 false (List.map e_service_opening s), .cel id1 [a8]] ++ [.lp (List.length H4) (lcOf Try.prog i36.nt [18] ra36_1 rb36_1) [(6, .ptr id1 0)] .ready]) s its → HP H its → (fun (s : (List service_opening)) (x7 : service_opening) => yieldT (fun v : (List service_opening) => service_gaps_R1 N v x7) s) s x7 = some r → ∃ H' its', YCall Try.prog (List.length H4) [.agg (c_service_opening x7)] H r.2 H' ∧ (fun (s : (List service_opening)) (its : List Thing) => ∃ (a8 : AV), its = [.arr a8 2 false (List.map e_service_opening s), .cel id1 [a8]] ++ [.lp (List.length H4) (lcOf Try.prog i36.nt [18] ra36_1 rb36_1) [(6, .ptr id1 0)] .ready]) r.1 its' ∧ Fp H H' its its' := by
    clear h
    intro x7 s r H6 its hT hH h
    obtain ⟨q, hb, rfl⟩ := yieldT_some h
    clear h
    obtain ⟨vs, rfl⟩ : ∃ v, v = s := ⟨s, rfl⟩
    obtain ⟨l9, rfl⟩ : ∃ v, v = vs := ⟨vs, rfl⟩
    obtain ⟨a8, rfl⟩ := hT
    replace h : service_gaps_R1 N l9 x7 = some q := hb
    clear hb
    unfold service_gaps_R1 at h
    replace hH : Fp H6 H6 [.arr a8 2 false (List.map e_service_opening l9), .cel id1 [a8], .lp (List.length H4) (lcOf Try.prog i36.nt [18] ra36_1 rb36_1) [(6, .ptr id1 0)] .ready] [.arr a8 2 false (List.map e_service_opening l9), .cel id1 [a8], .lp (List.length H4) (lcOf Try.prog i36.nt [18] ra36_1 rb36_1) [(6, .ptr id1 0)] .ready] := Fp.refl hH
    have hfa8 := own_form (Fp.get hH 0 rfl)
    suffices hs : ∃ H', YCall Try.prog (List.length H4) [.agg (c_service_opening x7)] H6 true H' ∧ ∃ its', (fun (s : (List service_opening)) (its : List Thing) => ∃ (a8 : AV), its = [.arr a8 2 false (List.map e_service_opening s), .cel id1 [a8]] ++ [.lp (List.length H4) (lcOf Try.prog i36.nt [18] ra36_1 rb36_1) [(6, .ptr id1 0)] .ready]) q its' ∧ Fp H6 H' [.arr a8 2 false (List.map e_service_opening l9), .cel id1 [a8], .lp (List.length H4) (lcOf Try.prog i36.nt [18] ra36_1 rb36_1) [(6, .ptr id1 0)] .ready] its' by
      obtain ⟨H', h1, its', h2, h3⟩ := hs
      exact ⟨H', its', h1, h2, h3⟩
    refine ycall_det (id := (List.length H4)) (args := [.agg (c_service_opening x7)]) (H := H6) (n := i36.nt) (ps := [18]) (fr0 := [(6, .ptr id1 0)]) (ia := ra36_1) (ib := rb36_1) true (fun H' => ∃ its', (fun (s : (List service_opening)) (its : List Thing) => ∃ (a8 : AV), its = [.arr a8 2 false (List.map e_service_opening s), .cel id1 [a8]] ++ [.lp (List.length H4) (lcOf Try.prog i36.nt [18] ra36_1 rb36_1) [(6, .ptr id1 0)] .ready]) q its' ∧ Fp H6 H' [.arr a8 2 false (List.map e_service_opening l9), .cel id1 [a8], .lp (List.length H4) (lcOf Try.prog i36.nt [18] ra36_1 rb36_1) [(6, .ptr id1 0)] .ready] its') (Fp.get hH 2 rfl) rfl (by decide +kernel) rfl ?_
    show vc _ _ _ _ ⟨[(6, .ptr id1 0), (18, .agg (c_service_opening x7))], [], H6⟩
    refine vc_reg (S := ⟨[(6, .ptr id1 0), (7, .loc 7 0)], [(7, (c_service_opening x7))], H6⟩) (APath.fin (by kernel_rfl)) (by kernel_rfl) ?_
    refine ia_done (k := 2) hH rfl ?_
    intro H509 hH
    replace hH : Fp H6 H509 [.arr a8 2 false (List.map e_service_opening l9), .cel id1 [a8], .lp (List.length H4) (lcOf Try.prog i36.nt [18] ra36_1 rb36_1) [(6, .ptr id1 0)] .ready] [.arr a8 2 false (List.map e_service_opening l9), .cel id1 [a8], .lp (List.length H4) (lcOf Try.prog i36.nt [18] ra36_1 rb36_1) [(6, .ptr id1 0)] .busy] := hH
    show vc _ _ _ _ ⟨[(6, .ptr id1 0), (7, .loc 7 0)], [(7, (c_service_opening x7))], H509⟩
    refine vc_block ?_
    have hlc510 := Fp.get hH 1 rfl
    obtain ⟨l513, hl513, h⟩ := bind_some h
    obtain ⟨a511, H512, ha511, hH⟩ := Fp.app (k := 0) (a := a8) (sz := 2) (frz := false) e_service_opening hH rfl hl513
    replace hH : Fp H6 H512 [.arr a8 2 false (List.map e_service_opening l9), .cel id1 [a8], .lp (List.length H4) (lcOf Try.prog i36.nt [18] ra36_1 rb36_1) [(6, .ptr id1 0)] .ready] [.arr a511 2 false (List.map e_service_opening l513), .cel id1 [a8], .lp (List.length H4) (lcOf Try.prog i36.nt [18] ra36_1 rb36_1) [(6, .ptr id1 0)] .busy] := hH
    have hfa511 := own_form (Fp.get hH 0 rfl)
    obtain ⟨H514, hH514, hH⟩ := Fp.setCell (k := 1) (off := 0) (cs := [a8]) (vs := [a511]) (cs' := [a511]) hH rfl (by kernel_rfl)
    replace hH : Fp H6 H514 [.arr a8 2 false (List.map e_service_opening l9), .cel id1 [a8], .lp (List.length H4) (lcOf Try.prog i36.nt [18] ra36_1 rb36_1) [(6, .ptr id1 0)] .ready] [.arr a511 2 false (List.map e_service_opening l513), .cel id1 [a511], .lp (List.length H4) (lcOf Try.prog i36.nt [18] ra36_1 rb36_1) [(6, .ptr id1 0)] .busy] := hH
    refine vc_reg (S := ⟨[], [], H514⟩) (APath.one (.load 19 (.t 6) 1 false) (by kernel_rfl) (st_loadC (H := H509) (id := id1) (off := 0) (cs := [a8]) (c := [a8]) (r := a8) (by rcases hfa511 with ha511e | ⟨_, _, ha511e⟩ <;> rcases hfa8 with ha8e | ⟨_, _, ha8e⟩ <;> subst ha511e ha8e <;> kernel_rfl) (by rcases hfa511 with ha511e | ⟨_, _, ha511e⟩ <;> rcases hfa8 with ha8e | ⟨_, _, ha8e⟩ <;> subst ha511e ha8e <;> kernel_rfl) hlc510 (by rcases hfa511 with ha511e | ⟨_, _, ha511e⟩ <;> rcases hfa8 with ha8e | ⟨_, _, ha8e⟩ <;> subst ha511e ha8e <;> kernel_rfl) (by rcases hfa511 with ha511e | ⟨_, _, ha511e⟩ <;> rcases hfa8 with ha8e | ⟨_, _, ha8e⟩ <;> subst ha511e ha8e <;> kernel_rfl) (by rcases hfa511 with ha511e | ⟨_, _, ha511e⟩ <;> rcases hfa8 with ha8e | ⟨_, _, ha8e⟩ <;> subst ha511e ha8e <;> kernel_rfl)) (APath.chunk 2 (by rcases hfa511 with ha511e | ⟨_, _, ha511e⟩ <;> rcases hfa8 with ha8e | ⟨_, _, ha8e⟩ <;> subst ha511e ha8e <;> kernel_rfl) (APath.one (.app 22 (.t 19) (.t 21) 2 16) (by kernel_rfl) (st_app (H := H509) (a := a8) (b := s_e_service_opening true [x7]) (by rcases hfa511 with ha511e | ⟨_, _, ha511e⟩ <;> rcases hfa8 with ha8e | ⟨_, _, ha8e⟩ <;> subst ha511e ha8e <;> kernel_rfl) (by rcases hfa511 with ha511e | ⟨_, _, ha511e⟩ <;> rcases hfa8 with ha8e | ⟨_, _, ha8e⟩ <;> subst ha511e ha8e <;> kernel_rfl) (by rcases hfa511 with ha511e | ⟨_, _, ha511e⟩ <;> rcases hfa8 with ha8e | ⟨_, _, ha8e⟩ <;> subst ha511e ha8e <;> kernel_rfl) (by rcases hfa511 with ha511e | ⟨_, _, ha511e⟩ <;> rcases hfa8 with ha8e | ⟨_, _, ha8e⟩ <;> subst ha511e ha8e <;> kernel_rfl) ha511) (APath.one (.store (.t 6) (.t 22) 1) (by kernel_rfl) (st_storeC (H := H512) (v := a511) (cs := [a511]) (by rcases hfa511 with ha511e | ⟨_, _, ha511e⟩ <;> rcases hfa8 with ha8e | ⟨_, _, ha8e⟩ <;> subst ha511e ha8e <;> kernel_rfl) (by rcases hfa511 with ha511e | ⟨_, _, ha511e⟩ <;> rcases hfa8 with ha8e | ⟨_, _, ha8e⟩ <;> subst ha511e ha8e <;> kernel_rfl) (by rcases hfa511 with ha511e | ⟨_, _, ha511e⟩ <;> rcases hfa8 with ha8e | ⟨_, _, ha8e⟩ <;> subst ha511e ha8e <;> kernel_rfl) (by rcases hfa511 with ha511e | ⟨_, _, ha511e⟩ <;> rcases hfa8 with ha8e | ⟨_, _, ha8e⟩ <;> subst ha511e ha8e <;> kernel_rfl) (by rcases hfa511 with ha511e | ⟨_, _, ha511e⟩ <;> rcases hfa8 with ha8e | ⟨_, _, ha8e⟩ <;> subst ha511e ha8e <;> kernel_rfl) hH514) APath.done)))) (by rcases hfa511 with ha511e | ⟨_, _, ha511e⟩ <;> rcases hfa8 with ha8e | ⟨_, _, ha8e⟩ <;> subst ha511e ha8e <;> kernel_rfl) ?_
    obtain rfl := some_inj h
    exact rb_done (k := 2) (.ready) hH rfl rfl (fun H6 hH => ⟨_, ⟨a511, Eq.refl _⟩, (Fp.pick hH [0, 1, 2] rfl)⟩)
  refine vc_range (s := ⟨[(1, iv a1_), (2, .fn y_f y_p y_c), (3, .loc 3 0), (6, .ptr id1 0), (17, .fn 48 [] [.ptr id5 0])], [(3, (c_api_Gates a0_))], H4⟩) [(6, .ptr id1 0)] (FrOK.cons (by kernel_rfl) (by kernel_rfl) FrOK.nil) (by kernel_rfl) (fun H => rfl) (capT := [.cel id5 (c_api_Gates r3)]) (cells0 := [.arr (.p (.sl 2 true [])) 2 false (List.map e_service_opening []), .cel id1 [s_e_service_opening true []]]) (rest := (its)) (Fp.now (Fp.pickT (items := [.arr (.p (.sl 2 true [])) 2 false (List.map e_service_opening []), .cel id5 (c_api_Gates r3), .cel id1 [s_e_service_opening true []]]) (its := its) (Fp.nilArr hH 2 false) [1, 0, 2] rfl)) (fun (s : (List service_opening)) (its : List Thing) => ∃ (a8 : AV), its = [.arr a8 2 false (List.map e_service_opening s), .cel id1 [a8]] ++ [.lp (List.length H4) (lcOf Try.prog i36.nt [18] ra36_1 rb36_1) [(6, .ptr id1 0)] .ready]) [] o515 (by exact ⟨(.p (.sl 2 true [])), Eq.refl _⟩) (fun H its hT hH => service_openings_1_ok N (fun (s : (List service_opening)) (x7 : service_opening) => yieldT (fun v : (List service_opening) => service_gaps_R1 N v x7) s) r3 [] id5 (List.length H4) (fun (s : (List service_opening)) (its : List Thing) => ∃ (a8 : AV), its = [.arr a8 2 false (List.map e_service_opening s), .cel id1 [a8]] ++ [.lp (List.length H4) (lcOf Try.prog i36.nt [18] ra36_1 rb36_1) [(6, .ptr id1 0)] .ready]) hyo515 H its hT hH o515 ho515) ?_
  rintro its hT
  obtain ⟨a8, rfl⟩ := hT
  refine ⟨_, _, rfl, ?_⟩
  intro H516 hF
  replace hH : Fp H H516 (its) (.cel id5 (c_api_Gates r3) :: .arr a8 2 false (List.map e_service_opening o515) :: .cel id1 [a8] :: its) := Fp.after (Fp.pickT (items := [.arr (.p (.sl 2 true [])) 2 false (List.map e_service_opening []), .cel id5 (c_api_Gates r3), .cel id1 [s_e_service_opening true []]]) (its := its) (Fp.nilArr hH 2 false) [1, 0, 2] rfl) hF
  have hfa8 := own_form (Fp.get hH 1 rfl)
  refine outQ_ready (S := ⟨[(1, iv a1_), (2, .fn y_f y_p y_c), (3, .loc 3 0), (6, .ptr id1 0), (17, .fn 48 [] [.ptr id5 0])], [(3, (c_api_Gates a0_))], H516⟩) ?_
  try show vc _ _ _ _ _
  refine vc_seq ?_
  have hlc517 := Fp.get hH 2 rfl
  have hln518 := Fp.len (k := 1) (a := a8) (sz := 2) (frz := false) (l := o515) e_service_opening hH rfl
  refine vc_reg (S := ⟨[(1, iv a1_), (2, .fn y_f y_p y_c), (3, .loc 3 0), (6, .ptr id1 0), (8, iv ((List.length o515 : Nat) : Int))], [(3, (c_api_Gates a0_))], H516⟩) (APath.one (.load 23 (.t 6) 1 false) (by kernel_rfl) (st_loadC (H := H516) (id := id1) (off := 0) (cs := [a8]) (c := [a8]) (r := a8) (by rcases hfa8 with ha8e | ⟨_, _, ha8e⟩ <;> subst ha8e <;> kernel_rfl) (by rcases hfa8 with ha8e | ⟨_, _, ha8e⟩ <;> subst ha8e <;> kernel_rfl) hlc517 (by rcases hfa8 with ha8e | ⟨_, _, ha8e⟩ <;> subst ha8e <;> kernel_rfl) (by rcases hfa8 with ha8e | ⟨_, _, ha8e⟩ <;> subst ha8e <;> kernel_rfl) (by rcases hfa8 with ha8e | ⟨_, _, ha8e⟩ <;> subst ha8e <;> kernel_rfl)) (APath.one (.val 24 .len [.t 23]) (by kernel_rfl) (st_val (ys := [a8]) (by rcases hfa8 with ha8e | ⟨_, _, ha8e⟩ <;> subst ha8e <;> kernel_rfl) hln518) (APath.fin (by rcases hfa8 with ha8e | ⟨_, _, ha8e⟩ <;> subst ha8e <;> kernel_rfl)))) (by rcases hfa8 with ha8e | ⟨_, _, ha8e⟩ <;> subst ha8e <;> kernel_rfl) ?_
  refine vc_seq ?_
  have hlc519 := Fp.get hH 2 rfl
  have hln520 := Fp.len (k := 1) (a := a8) (sz := 2) (frz := false) (l := o515) e_service_opening hH rfl
  refine vc_reg (S := ⟨[(1, iv a1_), (2, .fn y_f y_p y_c), (3, .loc 3 0), (6, .ptr id1 0), (8, iv ((List.length o515 : Nat) : Int)), (25, a8), (26, iv ((List.length o515 : Nat) : Int)), (27, iv 0)], [(3, (c_api_Gates a0_))], H516⟩) (APath.one (.load 25 (.t 6) 1 false) (by kernel_rfl) (st_loadC (H := H516) (id := id1) (off := 0) (cs := [a8]) (c := [a8]) (r := a8) (by rcases hfa8 with ha8e | ⟨_, _, ha8e⟩ <;> subst ha8e <;> kernel_rfl) (by rcases hfa8 with ha8e | ⟨_, _, ha8e⟩ <;> subst ha8e <;> kernel_rfl) hlc519 (by rcases hfa8 with ha8e | ⟨_, _, ha8e⟩ <;> subst ha8e <;> kernel_rfl) (by rcases hfa8 with ha8e | ⟨_, _, ha8e⟩ <;> subst ha8e <;> kernel_rfl) (by rcases hfa8 with ha8e | ⟨_, _, ha8e⟩ <;> subst ha8e <;> kernel_rfl)) (APath.one (.val 26 .len [.t 25]) (by kernel_rfl) (st_val (ys := [a8]) (by rcases hfa8 with ha8e | ⟨_, _, ha8e⟩ <;> subst ha8e <;> kernel_rfl) hln520) (APath.fin (by rcases hfa8 with ha8e | ⟨_, _, ha8e⟩ <;> subst ha8e <;> kernel_rfl)))) (by rcases hfa8 with ha8e | ⟨_, _, ha8e⟩ <;> subst ha8e <;> kernel_rfl) ?_
  refine vc_block ?_
  obtain ⟨o1549, ho1549, h⟩ := bind_some h
  refine vc_loop ((loop_sim (fun (x : Int × σ) s => ∃ (its521 : List Thing) (H522 : List HO), s = ⟨[(1, iv a1_), (2, .fn y_f y_p y_c), (3, .loc 3 0), (6, .ptr id1 0), (8, iv ((List.length o515 : Nat) : Int)), (25, a8), (26, iv ((List.length o515 : Nat) : Int)), (27, iv x.1)], [(3, (c_api_Gates a0_))], H522⟩ ∧ T_ x.2 its521 ∧ Fp H H522 (its) (.cel id5 (c_api_Gates r3) :: .arr a8 2 false (List.map e_service_opening o515) :: .cel id1 [a8] :: its521)) (fun x : Int × σ => service_gaps_L2 N a0_ a1_ y_ o515 x.1 x.2) (fun (p : Int × σ) e s => e = .exit 2 ∧ (∃ (its1025 : List Thing) (H1026 : List HO), s = ⟨[(1, iv a1_), (2, .fn y_f y_p y_c), (3, .loc 3 0), (6, .ptr id1 0), (8, iv ((List.length o515 : Nat) : Int)), (25, a8), (26, iv ((List.length o515 : Nat) : Int)), (27, iv p.1)], [(3, (c_api_Gates a0_))], H1026⟩ ∧ T_ p.2 its1025 ∧ Fp H H1026 (its) (.cel id5 (c_api_Gates r3) :: .arr a8 2 false (List.map e_service_opening o515) :: .cel id1 [a8] :: its1025))) ?_ N _ o1549 _ ho1549 ⟨its, H516, (by show _ = _; rcases hfa8 with ha8e | ⟨_, _, ha8e⟩ <;> subst ha8e <;> kernel_rfl), hT, hH⟩).mono ?_)
  · clear h ho1549
    rintro ⟨i523, g524⟩ o s h hR
    obtain ⟨its521, H522, rfl, hT, hH⟩ := hR
    replace hH : Fp H H522 (its) (.cel id5 (c_api_Gates r3) :: .arr a8 2 false (List.map e_service_opening o515) :: .cel id1 [a8] :: its521) := hH
    replace h : service_gaps_L2 N a0_ a1_ y_ o515 i523 g524 = some o := h
    unfold service_gaps_L2 at h
    refine vc_seq ?_
    refine vc_reg (S := ⟨[(1, iv a1_), (2, .fn y_f y_p y_c), (3, .loc 3 0), (6, .ptr id1 0), (8, iv ((List.length o515 : Nat) : Int)), (25, a8), (26, iv ((List.length o515 : Nat) : Int)), (27, iv i523), (28, bv (decide (i523 < ((List.length o515 : Nat) : Int))))], [(3, (c_api_Gates a0_))], H522⟩) (APath.fin (by rcases hfa8 with ha8e | ⟨_, _, ha8e⟩ <;> subst ha8e <;> kernel_rfl)) (by rcases hfa8 with ha8e | ⟨_, _, ha8e⟩ <;> subst ha8e <;> kernel_rfl) ?_
    refine vc_seq ?_
    refine vc_ite (by kernel_rfl) h (fun hc1027 h => ?_) (fun hc1027 h => ?_)
    · refine vc_skip ?_
      refine vc_kp ?_
      refine vc_seq ?_
      refine vc_block ?_
      refine vc_seq ?_
      obtain ⟨e1028, he1028, h⟩ := bind_some h
      obtain ⟨id1029, ver1030, _, hid1029f, hid1029, hid1029a, hid1029v⟩ := Fp.elem (k := 1) (a := a8) (sz := 2) (frz := false) e_service_opening hH rfl he1028
      refine vc_reg (S := ⟨[(1, iv a1_), (2, .fn y_f y_p y_c), (3, .loc 3 0), (6, .ptr id1 0), (8, iv ((List.length o515 : Nat) : Int)), (9, iv i523), (10, .loc 10 0), (25, a8), (26, iv ((List.length o515 : Nat) : Int)), (27, iv i523)], [(3, (c_api_Gates a0_)), (10, (c_service_opening e1028))], H522⟩) (APath.chunk 1 (by rcases hfa8 with ha8e | ⟨_, _, ha8e⟩ <;> subst ha8e <;> kernel_rfl) (APath.one (.val 30 (.iaddrS 2) [.t 25, .t 27]) (by kernel_rfl) (st_val (ys := [a8, iv i523]) (by rcases hfa8 with ha8e | ⟨_, _, ha8e⟩ <;> subst ha8e <;> kernel_rfl) (hid1029v .i64)) (APath.one (.load 31 (.t 30) 2 true) (by kernel_rfl) (st_loadO (H := H522) (off := 0) (cs := [.int .i64 e1028.from_, .int .i64 e1028.long]) (r := .agg (c_service_opening e1028)) e_service_opening he1028 hid1029 (by rcases hfa8 with ha8e | ⟨_, _, ha8e⟩ <;> subst ha8e <;> kernel_rfl) (by rcases hfa8 with ha8e | ⟨_, _, ha8e⟩ <;> subst ha8e <;> kernel_rfl) (by rcases hfa8 with ha8e | ⟨_, _, ha8e⟩ <;> subst ha8e <;> kernel_rfl) (by rcases hfa8 with ha8e | ⟨_, _, ha8e⟩ <;> subst ha8e <;> kernel_rfl)) (APath.fin (by rcases hfa8 with ha8e | ⟨_, _, ha8e⟩ <;> subst ha8e <;> kernel_rfl))))) (by rcases hfa8 with ha8e | ⟨_, _, ha8e⟩ <;> subst ha8e <;> kernel_rfl) ?_
      refine vc_seq ?_
      refine vc_reg (S := ⟨[(1, iv a1_), (2, .fn y_f y_p y_c), (3, .loc 3 0), (6, .ptr id1 0), (8, iv ((List.length o515 : Nat) : Int)), (9, iv i523), (11, iv (w64 ((w64 (e1028.from_ + e1028.long)) - (if e1028.long < a1_ then e1028.long else a1_)))), (25, a8), (26, iv ((List.length o515 : Nat) : Int)), (27, iv i523)], [(3, (c_api_Gates a0_))], H522⟩) (APath.fin (by rcases hfa8 with ha8e | ⟨_, _, ha8e⟩ <;> subst ha8e <;> kernel_rfl)) (by rcases hfa8 with ha8e | ⟨_, _, ha8e⟩ <;> subst ha8e <;> kernel_rfl) ?_
      refine vc_seq ?_
      refine vc_reg (S := ⟨[(1, iv a1_), (2, .fn y_f y_p y_c), (3, .loc 3 0), (6, .ptr id1 0), (8, iv ((List.length o515 : Nat) : Int)), (9, iv i523), (11, iv (w64 ((w64 (e1028.from_ + e1028.long)) - (if e1028.long < a1_ then e1028.long else a1_)))), (12, iv 0), (25, a8), (26, iv ((List.length o515 : Nat) : Int)), (27, iv i523)], [(3, (c_api_Gates a0_))], H522⟩) (APath.fin (by rcases hfa8 with ha8e | ⟨_, _, ha8e⟩ <;> subst ha8e <;> kernel_rfl)) (by rcases hfa8 with ha8e | ⟨_, _, ha8e⟩ <;> subst ha8e <;> kernel_rfl) ?_
      refine vc_seq ?_
      refine vc_reg (S := ⟨[(1, iv a1_), (2, .fn y_f y_p y_c), (3, .loc 3 0), (6, .ptr id1 0), (8, iv ((List.length o515 : Nat) : Int)), (9, iv i523), (11, iv (w64 ((w64 (e1028.from_ + e1028.long)) - (if e1028.long < a1_ then e1028.long else a1_)))), (12, iv 0), (25, a8), (26, iv ((List.length o515 : Nat) : Int)), (27, iv i523), (42, iv ((List.length o515 : Nat) : Int)), (43, iv 0)], [(3, (c_api_Gates a0_))], H522⟩) (APath.fin (by rcases hfa8 with ha8e | ⟨_, _, ha8e⟩ <;> subst ha8e <;> kernel_rfl)) (by rcases hfa8 with ha8e | ⟨_, _, ha8e⟩ <;> subst ha8e <;> kernel_rfl) ?_
      refine vc_block ?_
      obtain ⟨o1548, ho1548, h⟩ := bind_some h
      refine vc_loop ((loop_sim (fun (x : Int × Int × σ) s => ∃ (its1031 : List Thing) (H1032 : List HO), s = ⟨[(1, iv a1_), (2, .fn y_f y_p y_c), (3, .loc 3 0), (6, .ptr id1 0), (8, iv ((List.length o515 : Nat) : Int)), (9, iv i523), (11, iv (w64 ((w64 (e1028.from_ + e1028.long)) - (if e1028.long < a1_ then e1028.long else a1_)))), (12, iv x.1), (25, a8), (26, iv ((List.length o515 : Nat) : Int)), (27, iv i523), (42, iv ((List.length o515 : Nat) : Int)), (43, iv x.2.1)], [(3, (c_api_Gates a0_))], H1032⟩ ∧ T_ x.2.2 its1031 ∧ Fp H H1032 (its) (.cel id5 (c_api_Gates r3) :: .arr a8 2 false (List.map e_service_opening o515) :: .cel id1 [a8] :: its1031)) (fun x : Int × Int × σ => service_gaps_L3 N a0_ a1_ y_ o515 i523 e1028 x.1 x.2.1 x.2.2) (fun (p : Int × Int × σ) e s => e = .exit 4 ∧ (∃ (its1536 : List Thing) (H1537 : List HO), s = ⟨[(1, iv a1_), (2, .fn y_f y_p y_c), (3, .loc 3 0), (6, .ptr id1 0), (8, iv ((List.length o515 : Nat) : Int)), (9, iv i523), (11, iv (w64 ((w64 (e1028.from_ + e1028.long)) - (if e1028.long < a1_ then e1028.long else a1_)))), (12, iv p.1), (25, a8), (26, iv ((List.length o515 : Nat) : Int)), (27, iv i523), (42, iv ((List.length o515 : Nat) : Int)), (43, iv p.2.1)], [(3, (c_api_Gates a0_))], H1537⟩ ∧ T_ p.2.2 its1536 ∧ Fp H H1537 (its) (.cel id5 (c_api_Gates r3) :: .arr a8 2 false (List.map e_service_opening o515) :: .cel id1 [a8] :: its1536))) ?_ N _ o1548 _ ho1548 ⟨its521, H522, (by show _ = _; rcases hfa8 with ha8e | ⟨_, _, ha8e⟩ <;> subst ha8e <;> kernel_rfl), hT, hH⟩).mono ?_)
      · clear h ho1548
        rintro ⟨i1033, i1034, g1035⟩ o s h hR
        obtain ⟨its1031, H1032, rfl, hT, hH⟩ := hR
        replace hH : Fp H H1032 (its) (.cel id5 (c_api_Gates r3) :: .arr a8 2 false (List.map e_service_opening o515) :: .cel id1 [a8] :: its1031) := hH
        replace h : service_gaps_L3 N a0_ a1_ y_ o515 i523 e1028 i1033 i1034 g1035 = some o := h
        unfold service_gaps_L3 at h
        refine vc_seq ?_
        refine vc_reg (S := ⟨[(1, iv a1_), (2, .fn y_f y_p y_c), (3, .loc 3 0), (6, .ptr id1 0), (8, iv ((List.length o515 : Nat) : Int)), (9, iv i523), (11, iv (w64 ((w64 (e1028.from_ + e1028.long)) - (if e1028.long < a1_ then e1028.long else a1_)))), (12, iv i1033), (25, a8), (26, iv ((List.length o515 : Nat) : Int)), (27, iv i523), (42, iv ((List.length o515 : Nat) : Int)), (43, iv i1034), (44, bv (decide (i1034 < ((List.length o515 : Nat) : Int))))], [(3, (c_api_Gates a0_))], H1032⟩) (APath.fin (by rcases hfa8 with ha8e | ⟨_, _, ha8e⟩ <;> subst ha8e <;> kernel_rfl)) (by rcases hfa8 with ha8e | ⟨_, _, ha8e⟩ <;> subst ha8e <;> kernel_rfl) ?_
        refine vc_seq ?_
        refine vc_ite (by kernel_rfl) h (fun hc1538 h => ?_) (fun hc1538 h => ?_)
        · refine vc_skip ?_
          refine vc_kp ?_
          refine vc_seq ?_
          refine vc_block ?_
          refine vc_seq ?_
          refine vc_reg (S := ⟨[(1, iv a1_), (2, .fn y_f y_p y_c), (3, .loc 3 0), (6, .ptr id1 0), (8, iv ((List.length o515 : Nat) : Int)), (9, iv i523), (11, iv (w64 ((w64 (e1028.from_ + e1028.long)) - (if e1028.long < a1_ then e1028.long else a1_)))), (12, iv i1033), (13, iv i1034), (25, a8), (26, iv ((List.length o515 : Nat) : Int)), (27, iv i523), (42, iv ((List.length o515 : Nat) : Int)), (43, iv i1034)], [(3, (c_api_Gates a0_))], H1032⟩) (APath.fin (by rcases hfa8 with ha8e | ⟨_, _, ha8e⟩ <;> subst ha8e <;> kernel_rfl)) (by rcases hfa8 with ha8e | ⟨_, _, ha8e⟩ <;> subst ha8e <;> kernel_rfl) ?_
          refine vc_seq ?_
          refine vc_reg (S := ⟨[(1, iv a1_), (2, .fn y_f y_p y_c), (3, .loc 3 0), (6, .ptr id1 0), (8, iv ((List.length o515 : Nat) : Int)), (9, iv i523), (11, iv (w64 ((w64 (e1028.from_ + e1028.long)) - (if e1028.long < a1_ then e1028.long else a1_)))), (12, iv i1033), (14, iv (w64 ((w64 (i523 + 1)) + i1034))), (25, a8), (26, iv ((List.length o515 : Nat) : Int)), (27, iv i523), (42, iv ((List.length o515 : Nat) : Int)), (43, iv i1034)], [(3, (c_api_Gates a0_))], H1032⟩) (APath.fin (by rcases hfa8 with ha8e | ⟨_, _, ha8e⟩ <;> subst ha8e <;> kernel_rfl)) (by rcases hfa8 with ha8e | ⟨_, _, ha8e⟩ <;> subst ha8e <;> kernel_rfl) ?_
          refine vc_seq ?_
          have hlc1539 := Fp.get hH 2 rfl
          obtain ⟨m1540, hm1540, h⟩ := bind_some h
          obtain ⟨e1541, he1541, h⟩ := bind_some h
          obtain ⟨id1542, ver1543, _, hid1542f, hid1542, hid1542a, hid1542v⟩ := Fp.elem (k := 1) (a := a8) (sz := 2) (frz := false) e_service_opening hH rfl he1541
          refine vc_regD (S := ⟨[(1, iv a1_), (2, .fn y_f y_p y_c), (3, .loc 3 0), (6, .ptr id1 0), (8, iv ((List.length o515 : Nat) : Int)), (9, iv i523), (11, iv (w64 ((w64 (e1028.from_ + e1028.long)) - (if e1028.long < a1_ then e1028.long else a1_)))), (12, iv i1033), (14, iv (w64 ((w64 (i523 + 1)) + i1034))), (15, .loc 15 0), (25, a8), (26, iv ((List.length o515 : Nat) : Int)), (27, iv i523), (42, iv ((List.length o515 : Nat) : Int)), (43, iv i1034)], [(3, (c_api_Gates a0_)), (15, (c_service_opening e1541))], H1032⟩) (by rcases hfa8 with ha8e | ⟨_, _, ha8e⟩ <;> subst ha8e <;> kernel_rfl) (APath.one (.load 50 (.t 6) 1 false) (by kernel_rfl) (st_loadC (H := H1032) (id := id1) (off := 0) (cs := [a8]) (c := [a8]) (r := a8) (by rcases hfa8 with ha8e | ⟨_, _, ha8e⟩ <;> subst ha8e <;> kernel_rfl) (by rcases hfa8 with ha8e | ⟨_, _, ha8e⟩ <;> subst ha8e <;> kernel_rfl) hlc1539 (by rcases hfa8 with ha8e | ⟨_, _, ha8e⟩ <;> subst ha8e <;> kernel_rfl) (by rcases hfa8 with ha8e | ⟨_, _, ha8e⟩ <;> subst ha8e <;> kernel_rfl) (by rcases hfa8 with ha8e | ⟨_, _, ha8e⟩ <;> subst ha8e <;> kernel_rfl)) (APath.chunk 2 (by rcases hfa8 with ha8e | ⟨_, _, ha8e⟩ <;> subst ha8e <;> kernel_rfl) (APath.one (.val 53 (.bin .rem) [.t 51, .t 52]) (by kernel_rfl) (st_val (ys := [iv (w64 ((w64 (i523 + 1)) + i1034)), iv ((List.length o515 : Nat) : Int)]) (by rcases hfa8 with ha8e | ⟨_, _, ha8e⟩ <;> subst ha8e <;> kernel_rfl) (vexec_rem hm1540)) (APath.one (.val 54 (.iaddrS 2) [.t 50, .t 53]) (by kernel_rfl) (st_val (ys := [a8, iv m1540]) (by rcases hfa8 with ha8e | ⟨_, _, ha8e⟩ <;> subst ha8e <;> kernel_rfl) (hid1542v .i64)) (APath.one (.load 55 (.t 54) 2 true) (by kernel_rfl) (st_loadO (H := H1032) (off := 0) (cs := [.int .i64 e1541.from_, .int .i64 e1541.long]) (r := .agg (c_service_opening e1541)) e_service_opening he1541 hid1542 (by rcases hfa8 with ha8e | ⟨_, _, ha8e⟩ <;> subst ha8e <;> kernel_rfl) (by rcases hfa8 with ha8e | ⟨_, _, ha8e⟩ <;> subst ha8e <;> kernel_rfl) (by rcases hfa8 with ha8e | ⟨_, _, ha8e⟩ <;> subst ha8e <;> kernel_rfl) (by rcases hfa8 with ha8e | ⟨_, _, ha8e⟩ <;> subst ha8e <;> kernel_rfl)) (APath.fin (by rcases hfa8 with ha8e | ⟨_, _, ha8e⟩ <;> subst ha8e <;> kernel_rfl))))))) (by rcases hfa8 with ha8e | ⟨_, _, ha8e⟩ <;> subst ha8e <;> kernel_rfl) ?_
          refine vc_seq ?_
          obtain ⟨q1544, hq1544, h⟩ := bind_some h
          refine vc_regD (S := ⟨[(1, iv a1_), (2, .fn y_f y_p y_c), (3, .loc 3 0), (6, .ptr id1 0), (8, iv ((List.length o515 : Nat) : Int)), (9, iv i523), (11, iv (w64 ((w64 (e1028.from_ + e1028.long)) - (if e1028.long < a1_ then e1028.long else a1_)))), (12, iv i1033), (15, .loc 15 0), (25, a8), (26, iv ((List.length o515 : Nat) : Int)), (27, iv i523), (42, iv ((List.length o515 : Nat) : Int)), (43, iv i1034)], [(3, (c_api_Gates a0_)), (15, [iv (w64 (e1541.from_ + (w64 (q1544 * a0_.Cycle)))), iv e1541.long])], H1032⟩) (by rcases hfa8 with ha8e | ⟨_, _, ha8e⟩ <;> subst ha8e <;> kernel_rfl) (APath.chunk 4 (by rcases hfa8 with ha8e | ⟨_, _, ha8e⟩ <;> subst ha8e <;> kernel_rfl) (APath.one (.val 60 (.bin .quo) [.t 58, .t 59]) (by kernel_rfl) (st_val (ys := [iv (w64 ((w64 (i523 + 1)) + i1034)), iv ((List.length o515 : Nat) : Int)]) (by rcases hfa8 with ha8e | ⟨_, _, ha8e⟩ <;> subst ha8e <;> kernel_rfl) (vexec_quo hq1544)) (APath.fin (by rcases hfa8 with ha8e | ⟨_, _, ha8e⟩ <;> subst ha8e <;> kernel_rfl)))) (by rcases hfa8 with ha8e | ⟨_, _, ha8e⟩ <;> subst ha8e <;> kernel_rfl) ?_
          refine vc_seq ?_
          obtain ⟨r1545, hr1545, h⟩ := bind_some h
          obtain ⟨H1546, its1547, hvr1545, hT, hFr1545⟩ := hy_ (w64 ((w64 ((w64 (e1541.from_ + (w64 (q1544 * a0_.Cycle)))) + (if e1541.long < a1_ then e1541.long else a1_))) - (w64 ((w64 (e1028.from_ + e1028.long)) - (if e1028.long < a1_ then e1028.long else a1_))))) i1033 g1035 r1545 H1032 its1031 hT (Fp.tail (own := [.cel id5 (c_api_Gates r3), .arr a8 2 false (List.map e_service_opening o515), .cel id1 [a8]]) (its := its1031) hH) hr1545
          replace hH : Fp H H1546 (its) (.cel id5 (c_api_Gates r3) :: .arr a8 2 false (List.map e_service_opening o515) :: .cel id1 [a8] :: its1547) := Fp.callT (own := [.cel id5 (c_api_Gates r3), .arr a8 2 false (List.map e_service_opening o515), .cel id1 [a8]]) (its := its1031) hH hFr1545
          refine vc_reg (S := ⟨[(1, iv a1_), (2, .fn y_f y_p y_c), (3, .loc 3 0), (6, .ptr id1 0), (8, iv ((List.length o515 : Nat) : Int)), (9, iv i523), (11, iv (w64 ((w64 (e1028.from_ + e1028.long)) - (if e1028.long < a1_ then e1028.long else a1_)))), (12, iv i1033), (15, .loc 15 0), (25, a8), (26, iv ((List.length o515 : Nat) : Int)), (27, iv i523), (42, iv ((List.length o515 : Nat) : Int)), (43, iv i1034)], [(3, (c_api_Gates a0_)), (15, [iv (w64 (e1541.from_ + (w64 (q1544 * a0_.Cycle)))), iv e1541.long])], H1546⟩) (APath.chunk 11 (by rcases hfa8 with ha8e | ⟨_, _, ha8e⟩ <;> subst ha8e <;> kernel_rfl) (APath.one (.callV (some 77) (.t 66) [.t 75, .t 76]) (by kernel_rfl) (st_callV (H := H1032) (ys := [iv (w64 ((w64 ((w64 (e1541.from_ + (w64 (q1544 * a0_.Cycle)))) + (if e1541.long < a1_ then e1541.long else a1_))) - (w64 ((w64 (e1028.from_ + e1028.long)) - (if e1028.long < a1_ then e1028.long else a1_))))), iv i1033]) (by rcases hfa8 with ha8e | ⟨_, _, ha8e⟩ <;> subst ha8e <;> kernel_rfl) (by rcases hfa8 with ha8e | ⟨_, _, ha8e⟩ <;> subst ha8e <;> kernel_rfl) (by rcases hfa8 with ha8e | ⟨_, _, ha8e⟩ <;> subst ha8e <;> kernel_rfl) hvr1545) APath.done)) (by rcases hfa8 with ha8e | ⟨_, _, ha8e⟩ <;> subst ha8e <;> kernel_rfl) ?_
          refine vc_reg (S := ⟨[(1, iv a1_), (2, .fn y_f y_p y_c), (3, .loc 3 0), (6, .ptr id1 0), (8, iv ((List.length o515 : Nat) : Int)), (9, iv i523), (11, iv (w64 ((w64 (e1028.from_ + e1028.long)) - (if e1028.long < a1_ then e1028.long else a1_)))), (12, iv (w64 (i1033 + (if (w64 (e1541.long - a1_)) > 0 then (w64 (e1541.long - a1_)) else 0)))), (25, a8), (26, iv ((List.length o515 : Nat) : Int)), (27, iv i523), (42, iv ((List.length o515 : Nat) : Int)), (43, iv i1034)], [(3, (c_api_Gates a0_))], H1546⟩) (APath.fin (by rcases hfa8 with ha8e | ⟨_, _, ha8e⟩ <;> subst ha8e <;> kernel_rfl)) (by rcases hfa8 with ha8e | ⟨_, _, ha8e⟩ <;> subst ha8e <;> kernel_rfl) ?_
          refine vc_reg (S := ⟨[(1, iv a1_), (2, .fn y_f y_p y_c), (3, .loc 3 0), (6, .ptr id1 0), (8, iv ((List.length o515 : Nat) : Int)), (9, iv i523), (11, iv (w64 ((w64 (e1028.from_ + e1028.long)) - (if e1028.long < a1_ then e1028.long else a1_)))), (12, iv (w64 (i1033 + (if (w64 (e1541.long - a1_)) > 0 then (w64 (e1541.long - a1_)) else 0)))), (25, a8), (26, iv ((List.length o515 : Nat) : Int)), (27, iv i523), (42, iv ((List.length o515 : Nat) : Int)), (43, iv (w64 (i1034 + 1)))], [(3, (c_api_Gates a0_))], H1546⟩) (APath.fin (by rcases hfa8 with ha8e | ⟨_, _, ha8e⟩ <;> subst ha8e <;> kernel_rfl)) (by rcases hfa8 with ha8e | ⟨_, _, ha8e⟩ <;> subst ha8e <;> kernel_rfl) ?_
          obtain rfl := some_inj h
          exact ⟨_, rfl, ⟨its1547, H1546, (by show _ = _; rcases hfa8 with ha8e | ⟨_, _, ha8e⟩ <;> subst ha8e <;> kernel_rfl), hT, hH⟩⟩
        · refine vc_exit ?_
          try show vc _ _ _ _ _
          obtain rfl := some_inj h
          exact ⟨_, rfl, rfl, ⟨its1031, H1032, (by show _ = _; rcases hfa8 with ha8e | ⟨_, _, ha8e⟩ <;> subst ha8e <;> kernel_rfl), hT, hH⟩⟩
      · rintro e s hq
        obtain ⟨rfl, hR⟩ := hq
        obtain ⟨its1536, H1537, rfl, hT, hH⟩ := hR
        replace hH : Fp H H1537 (its) (.cel id5 (c_api_Gates r3) :: .arr a8 2 false (List.map e_service_opening o515) :: .cel id1 [a8] :: its1536) := hH
        try show vc _ _ _ _ _
        refine vc_reg (S := ⟨[(1, iv a1_), (2, .fn y_f y_p y_c), (3, .loc 3 0), (6, .ptr id1 0), (8, iv ((List.length o515 : Nat) : Int)), (25, a8), (26, iv ((List.length o515 : Nat) : Int)), (27, iv (w64 (i523 + 1)))], [(3, (c_api_Gates a0_))], H1537⟩) (APath.fin (by rcases hfa8 with ha8e | ⟨_, _, ha8e⟩ <;> subst ha8e <;> kernel_rfl)) (by rcases hfa8 with ha8e | ⟨_, _, ha8e⟩ <;> subst ha8e <;> kernel_rfl) ?_
        obtain rfl := some_inj h
        exact ⟨_, rfl, ⟨its1536, H1537, (by show _ = _; rcases hfa8 with ha8e | ⟨_, _, ha8e⟩ <;> subst ha8e <;> kernel_rfl), hT, hH⟩⟩
    · refine vc_exit ?_
      try show vc _ _ _ _ _
      obtain rfl := some_inj h
      exact ⟨_, rfl, rfl, ⟨its521, H522, (by show _ = _; rcases hfa8 with ha8e | ⟨_, _, ha8e⟩ <;> subst ha8e <;> kernel_rfl), hT, hH⟩⟩
  · rintro e s hq
    obtain ⟨rfl, hR⟩ := hq
    obtain ⟨its1025, H1026, rfl, hT, hH⟩ := hR
    replace hH : Fp H H1026 (its) (.cel id5 (c_api_Gates r3) :: .arr a8 2 false (List.map e_service_opening o515) :: .cel id1 [a8] :: its1025) := hH
    try show vc _ _ _ _ _
    obtain rfl := some_inj h
    exact ⟨[], (by rcases hfa8 with ha8e | ⟨_, _, ha8e⟩ <;> subst ha8e <;> kernel_rfl), (by rcases hfa8 with ha8e | ⟨_, _, ha8e⟩ <;> subst ha8e <;> kernel_rfl), its1025, hT, (Fp.pickT (items := [.cel id5 (c_api_Gates r3), .arr a8 2 false (List.map e_service_opening o515), .cel id1 [a8]]) (its := its1025) hH [] rfl)⟩
/- isochronref30.Round -/
theorem ref30_Round_ok (N : Nat) (a0_ : api_Gates) (r : (List ref30_Opening)) (h : ref30_Round N a0_ = some r) : PCall Try.prog 39 [.agg (c_api_Gates a0_)] (s_e_ref30_Opening false r) := by
  unfold ref30_Round at h
  have hH : HP ([] : List HO) [] := trivial
  refine pcall_of chk39 rfl rfl (vc_sound _ _ _ ?_) rfl
  refine vc_seq ?_
  refine vc_reg (S := ⟨[(1, .loc 1 0)], [(1, (c_api_Gates a0_))], []⟩) (APath.fin (by kernel_rfl)) (by kernel_rfl) ?_
  refine vc_seq ?_
  refine vc_reg (S := ⟨[(1, .loc 1 0), (3, iv 0)], [(1, (c_api_Gates a0_))], []⟩) (APath.fin (by kernel_rfl)) (by kernel_rfl) ?_
  refine vc_seq ?_
  refine vc_seq ?_
  refine vc_reg (S := ⟨[(1, .loc 1 0), (3, iv 0), (4, iv 0)], [(1, (c_api_Gates a0_))], []⟩) (APath.fin (by kernel_rfl)) (by kernel_rfl) ?_
  refine vc_block ?_
  obtain ⟨o510, ho510, h⟩ := bind_some h
  refine vc_loop ((loop_sim (fun (x : Int × Int) s => s = ⟨[(1, .loc 1 0), (3, iv x.1), (4, iv x.2)], [(1, (c_api_Gates a0_))], []⟩) (fun x : Int × Int => ref30_Round_L1 N a0_ x.1 x.2) (fun (p : Int × Int) e s => e = .exit 0 ∧ (s = ⟨[(1, .loc 1 0), (3, iv p.1), (4, iv p.2)], [(1, (c_api_Gates a0_))], []⟩)) ?_ N _ o510 _ ho510 (by show _ = _; kernel_rfl)).mono ?_)
  · clear h ho510
    rintro ⟨i1, i2⟩ o s h hR
    obtain rfl := hR
    replace h : ref30_Round_L1 N a0_ i1 i2 = some o := h
    unfold ref30_Round_L1 at h
    refine vc_seq ?_
    refine vc_seq ?_
    obtain ⟨j507, hj, h⟩ := bind_some h
    refine vc_regXR (fun s => s = ⟨[(1, .loc 1 0), (3, iv i1), (4, iv i2), (18, bv j507)], [(1, (c_api_Gates a0_))], []⟩) ?_ ?_
    · clear h
      rcases ite_some hj with ⟨hc503, hj⟩ | ⟨hc506, hj⟩
      · obtain ⟨e504, he504, hj⟩ := bind_some hj
        obtain ⟨r505, hr505, hj⟩ := bind_some hj
        obtain rfl := some_inj hj
        exact ⟨_, (APath.chunk 3 (by kernel_rfl) (APath.one (.val 8 .len [.t 7]) (by kernel_rfl) (st_val (ys := [s_e_api_Entry false a0_.Entries]) (by kernel_rfl) (vexec_len e_api_Entry)) (APath.one (.val 9 (.bin .lss) [.t 5, .t 8]) (by kernel_rfl) (st_bool (c := (decide (i2 < ((List.length a0_.Entries : Nat) : Int)))) (by kernel_rfl) hc503) (APath.chunk 4 (by kernel_rfl) (APath.oneG (.val 14 (.iaddrS 2) [.t 12, .t 13]) 10 true (by kernel_rfl) (by kernel_rfl) (st_val (ys := [s_e_api_Entry false a0_.Entries, iv i2]) (by kernel_rfl) (vexec_iaddrS e_api_Entry he504)) (APath.chunk 1 (by kernel_rfl) (APath.oneG (.load 16 (.t 15) 1 false) 10 true (by kernel_rfl) (by kernel_rfl) (st_loadP (sz := 2) (off := 0) (cs := [.int .i64 e504.Mask]) (r := iv e504.Mask) e_api_Entry he504 (by kernel_rfl) (by kernel_rfl) (by kernel_rfl)) (APath.oneG (.call (some 17) 51 [.t 16, .k (.p (.int .i64 6))]) 10 true (by kernel_rfl) (by kernel_rfl) (st_call (by kernel_rfl) (ref27_Bit_ok N e504.Mask 6 r505 hr505)) (APath.fin (by kernel_rfl)))))))))), (by show _ = _; kernel_rfl)⟩
      · obtain rfl := some_inj hj
        exact ⟨_, (APath.chunk 3 (by kernel_rfl) (APath.one (.val 8 .len [.t 7]) (by kernel_rfl) (st_val (ys := [s_e_api_Entry false a0_.Entries]) (by kernel_rfl) (vexec_len e_api_Entry)) (APath.one (.val 9 (.bin .lss) [.t 5, .t 8]) (by kernel_rfl) (st_bool (c := (decide (i2 < ((List.length a0_.Entries : Nat) : Int)))) (by kernel_rfl) hc506) (APath.fin (by kernel_rfl))))), (by show _ = _; kernel_rfl)⟩
    · clear hj
      rintro s hR
      obtain rfl := hR
      refine vc_ite (by kernel_rfl) h (fun hc508 h => ?_) (fun hc508 h => ?_)
      · refine vc_skip ?_
        refine vc_kp ?_
        refine vc_seq ?_
        refine vc_block ?_
        obtain ⟨e509, he509, h⟩ := bind_some h
        refine vc_reg (S := ⟨[(1, .loc 1 0), (3, iv (w64 (i1 + e509.Long))), (4, iv i2)], [(1, (c_api_Gates a0_))], []⟩) (APath.chunk 4 (by kernel_rfl) (APath.one (.val 25 (.iaddrS 2) [.t 23, .t 24]) (by kernel_rfl) (st_val (ys := [s_e_api_Entry false a0_.Entries, iv i2]) (by kernel_rfl) (vexec_iaddrS e_api_Entry he509)) (APath.chunk 1 (by kernel_rfl) (APath.one (.load 27 (.t 26) 1 false) (by kernel_rfl) (st_loadP (sz := 2) (off := 1) (cs := [.int .i64 e509.Long]) (r := iv e509.Long) e_api_Entry he509 (by kernel_rfl) (by kernel_rfl) (by kernel_rfl)) (APath.fin (by kernel_rfl)))))) (by kernel_rfl) ?_
        refine vc_reg (S := ⟨[(1, .loc 1 0), (3, iv (w64 (i1 + e509.Long))), (4, iv (w64 (i2 + 1)))], [(1, (c_api_Gates a0_))], []⟩) (APath.fin (by kernel_rfl)) (by kernel_rfl) ?_
        obtain rfl := some_inj h
        exact ⟨_, rfl, (by show _ = _; kernel_rfl)⟩
      · refine vc_exit ?_
        try show vc _ _ _ _ _
        obtain rfl := some_inj h
        exact ⟨_, rfl, rfl, (by show _ = _; kernel_rfl)⟩
  · rintro e s hq
    obtain ⟨rfl, hR⟩ := hq
    obtain rfl := hR
    try show vc _ _ _ _ _
    refine vc_seq ?_
    obtain ⟨r511, hr511, h⟩ := bind_some h
    refine vc_reg (S := ⟨[(2, s_e_ref30_Opening false r511)], [], []⟩) (APath.chunk 6 (by kernel_rfl) (APath.one (.call (some 35) 50 [.t 29, .t 30, .t 34]) (by kernel_rfl) (st_call (by kernel_rfl) (ref30_Openings_ok N a0_ o510.1 (w64 (o510.1 + a0_.Cycle)) r511 hr511)) (APath.fin (by kernel_rfl)))) (by kernel_rfl) ?_
    refine vc_ret ?_
    obtain rfl := some_inj h
    exact ret_of (by kernel_rfl)
/- service.Sends -/
theorem service_Sends_ok (N : Nat) (a0_ : api_Gates) (a1_ : Int) (a2_ : Int) (a3_ : Int) (a4_ : Int) (r : Int × Int) (h : service_Sends N a0_ a1_ a2_ a3_ a4_ = some r) : PCall Try.prog 15 [.agg (c_api_Gates a0_), iv a1_, iv a2_, iv a3_, iv a4_] (.tup [iv r.1, iv r.2]) := by
  unfold service_Sends at h
  have hH : HP ([] : List HO) [] := trivial
  refine pcall_of chk15 rfl rfl (vc_sound _ _ _ ?_) rfl
  refine vc_seq ?_
  obtain ⟨id1, H2, hid1, hH2, hH⟩ := HP.newCell hH [s_e_api_Entry false a0_.Entries, iv a0_.Cycle]
  replace hH : HP H2 [.cel id1 (c_api_Gates a0_)] := hH
  obtain ⟨id3, H4, hid3, hH4, hH⟩ := HP.newCell hH [iv a1_]
  replace hH : HP H4 [.cel id3 [iv a1_], .cel id1 (c_api_Gates a0_)] := hH
  obtain ⟨id5, H6, hid5, hH6, hH⟩ := HP.newCell hH [iv a2_]
  replace hH : HP H6 [.cel id5 [iv a2_], .cel id3 [iv a1_], .cel id1 (c_api_Gates a0_)] := hH
  obtain ⟨id7, H8, hid7, hH8, hH⟩ := HP.newCell hH [iv a3_]
  replace hH : HP H8 [.cel id7 [iv a3_], .cel id5 [iv a2_], .cel id3 [iv a1_], .cel id1 (c_api_Gates a0_)] := hH
  obtain ⟨id9, H10, hid9, hH10, hH⟩ := HP.newCell hH [iv a4_]
  replace hH : HP H10 [.cel id9 [iv a4_], .cel id7 [iv a3_], .cel id5 [iv a2_], .cel id3 [iv a1_], .cel id1 (c_api_Gates a0_)] := hH
  refine vc_reg (S := ⟨[(5, .ptr id1 0), (6, .ptr id3 0), (7, .ptr id5 0), (8, .ptr id7 0), (9, .ptr id9 0)], [], H10⟩) (APath.one (.boxH 5 (.t 0)) (by kernel_rfl) (st_boxH (H := []) (v := .agg (c_api_Gates a0_)) (by kernel_rfl) (by kernel_rfl) (by kernel_rfl) hid1 hH2) (APath.one (.boxH 6 (.t 1)) (by kernel_rfl) (st_boxH (H := H2) (v := iv a1_) (by kernel_rfl) (by kernel_rfl) (by kernel_rfl) hid3 hH4) (APath.one (.boxH 7 (.t 2)) (by kernel_rfl) (st_boxH (H := H4) (v := iv a2_) (by kernel_rfl) (by kernel_rfl) (by kernel_rfl) hid5 hH6) (APath.one (.boxH 8 (.t 3)) (by kernel_rfl) (st_boxH (H := H6) (v := iv a3_) (by kernel_rfl) (by kernel_rfl) (by kernel_rfl) hid7 hH8) (APath.one (.boxH 9 (.t 4)) (by kernel_rfl) (st_boxH (H := H8) (v := iv a4_) (by kernel_rfl) (by kernel_rfl) (by kernel_rfl) hid9 hH10) (APath.fin (by kernel_rfl))))))) (by kernel_rfl) ?_
  refine vc_seq ?_
  refine vc_seq ?_
  have hlc11 := HP.get hH 4 rfl
  have hlc12 := HP.get hH 3 rfl
  have hlc13 := HP.get hH 2 rfl
  obtain ⟨r14, hr14, h⟩ := bind_some h
  refine vc_reg (S := ⟨[(5, .ptr id1 0), (6, .ptr id3 0), (7, .ptr id5 0), (8, .ptr id7 0), (9, .ptr id9 0), (12, iv r14)], [], H10⟩) (APath.one (.load 18 (.t 5) 2 true) (by kernel_rfl) (st_loadC (H := H10) (id := id1) (off := 0) (cs := [s_e_api_Entry false a0_.Entries, iv a0_.Cycle]) (c := [s_e_api_Entry false a0_.Entries, iv a0_.Cycle]) (r := .agg (c_api_Gates a0_)) (by kernel_rfl) (by kernel_rfl) hlc11 (by kernel_rfl) (by kernel_rfl) (by kernel_rfl)) (APath.one (.load 19 (.t 6) 1 false) (by kernel_rfl) (st_loadC (H := H10) (id := id3) (off := 0) (cs := [iv a1_]) (c := [iv a1_]) (r := iv a1_) (by kernel_rfl) (by kernel_rfl) hlc12 (by kernel_rfl) (by kernel_rfl) (by kernel_rfl)) (APath.one (.load 20 (.t 7) 1 false) (by kernel_rfl) (st_loadC (H := H10) (id := id5) (off := 0) (cs := [iv a2_]) (c := [iv a2_]) (r := iv a2_) (by kernel_rfl) (by kernel_rfl) hlc13 (by kernel_rfl) (by kernel_rfl) (by kernel_rfl)) (APath.one (.call (some 21) 25 [.t 18, .t 19, .t 20]) (by kernel_rfl) (st_call (by kernel_rfl) (service_check_ok N a0_ a1_ a2_ r14 hr14)) (APath.fin (by kernel_rfl)))))) (by kernel_rfl) ?_
  refine vc_seq ?_
  refine vc_reg (S := ⟨[(5, .ptr id1 0), (6, .ptr id3 0), (7, .ptr id5 0), (8, .ptr id7 0), (9, .ptr id9 0), (12, iv r14), (23, bv (r14 != 0))], [], H10⟩) (APath.fin (by kernel_rfl)) (by kernel_rfl) ?_
  refine vc_ite (by kernel_rfl) h (fun hc15 h => ?_) (fun hc15 h => ?_)
  · refine vc_seq ?_
    refine vc_reg (S := ⟨[(10, iv 0), (11, iv r14)], [], H10⟩) (APath.fin (by kernel_rfl)) (by kernel_rfl) ?_
    replace hH : HP H10 [] := HP.pick hH [] rfl
    refine vc_ret ?_
    obtain rfl := some_inj h
    exact ret_of (by kernel_rfl)
  · refine vc_skip ?_
    refine vc_kp ?_
    refine vc_seq ?_
    refine vc_seq ?_
    obtain ⟨j27, hj, h⟩ := bind_some h
    refine vc_regXR (fun s => s = ⟨[(5, .ptr id1 0), (6, .ptr id3 0), (7, .ptr id5 0), (8, .ptr id7 0), (9, .ptr id9 0), (41, bv j27)], [], H10⟩) ?_ ?_
    · clear h
      have hlc16 := HP.get hH 1 rfl
      rcases ite_some hj with ⟨hc17, hj⟩ | ⟨hc18, hj⟩
      · obtain rfl := some_inj hj
        exact ⟨_, (APath.one (.load 25 (.t 8) 1 false) (by kernel_rfl) (st_loadC (H := H10) (id := id7) (off := 0) (cs := [iv a3_]) (c := [iv a3_]) (r := iv a3_) (by kernel_rfl) (by kernel_rfl) hlc16 (by kernel_rfl) (by kernel_rfl) (by kernel_rfl)) (APath.one (.val 26 (.bin .lss) [.t 25, .k (.p (.int .i64 (-1099511627776)))]) (by kernel_rfl) (st_bool (c := (decide (a3_ < (-1099511627776)))) (by kernel_rfl) hc17) (APath.fin (by kernel_rfl)))), (by show _ = _; kernel_rfl)⟩
      · have hlc19 := HP.get hH 1 rfl
        rcases ite_some hj with ⟨hc20, hj⟩ | ⟨hc21, hj⟩
        · obtain rfl := some_inj hj
          exact ⟨_, (APath.one (.load 25 (.t 8) 1 false) (by kernel_rfl) (st_loadC (H := H10) (id := id7) (off := 0) (cs := [iv a3_]) (c := [iv a3_]) (r := iv a3_) (by kernel_rfl) (by kernel_rfl) hlc16 (by kernel_rfl) (by kernel_rfl) (by kernel_rfl)) (APath.one (.val 26 (.bin .lss) [.t 25, .k (.p (.int .i64 (-1099511627776)))]) (by kernel_rfl) (st_bool (c := (decide (a3_ < (-1099511627776)))) (by kernel_rfl) hc18) (APath.chunk 1 (by kernel_rfl) (APath.oneG (.load 28 (.t 8) 1 false) 27 false (by kernel_rfl) (by kernel_rfl) (st_loadC (H := H10) (id := id7) (off := 0) (cs := [iv a3_]) (c := [iv a3_]) (r := iv a3_) (by kernel_rfl) (by kernel_rfl) hlc19 (by kernel_rfl) (by kernel_rfl) (by kernel_rfl)) (APath.oneG (.val 29 (.bin .gtr) [.t 28, .k (.p (.int .i64 1099511627776))]) 27 false (by kernel_rfl) (by kernel_rfl) (st_bool (c := (decide (a3_ > 1099511627776))) (by kernel_rfl) hc20) (APath.fin (by kernel_rfl))))))), (by show _ = _; kernel_rfl)⟩
        · have hlc22 := HP.get hH 0 rfl
          rcases ite_some hj with ⟨hc23, hj⟩ | ⟨hc24, hj⟩
          · obtain rfl := some_inj hj
            exact ⟨_, (APath.one (.load 25 (.t 8) 1 false) (by kernel_rfl) (st_loadC (H := H10) (id := id7) (off := 0) (cs := [iv a3_]) (c := [iv a3_]) (r := iv a3_) (by kernel_rfl) (by kernel_rfl) hlc16 (by kernel_rfl) (by kernel_rfl) (by kernel_rfl)) (APath.one (.val 26 (.bin .lss) [.t 25, .k (.p (.int .i64 (-1099511627776)))]) (by kernel_rfl) (st_bool (c := (decide (a3_ < (-1099511627776)))) (by kernel_rfl) hc18) (APath.chunk 1 (by kernel_rfl) (APath.oneG (.load 28 (.t 8) 1 false) 27 false (by kernel_rfl) (by kernel_rfl) (st_loadC (H := H10) (id := id7) (off := 0) (cs := [iv a3_]) (c := [iv a3_]) (r := iv a3_) (by kernel_rfl) (by kernel_rfl) hlc19 (by kernel_rfl) (by kernel_rfl) (by kernel_rfl)) (APath.oneG (.val 29 (.bin .gtr) [.t 28, .k (.p (.int .i64 1099511627776))]) 27 false (by kernel_rfl) (by kernel_rfl) (st_bool (c := (decide (a3_ > 1099511627776))) (by kernel_rfl) hc21) (APath.chunk 2 (by kernel_rfl) (APath.oneG (.load 32 (.t 9) 1 false) 31 false (by kernel_rfl) (by kernel_rfl) (st_loadC (H := H10) (id := id9) (off := 0) (cs := [iv a4_]) (c := [iv a4_]) (r := iv a4_) (by kernel_rfl) (by kernel_rfl) hlc22 (by kernel_rfl) (by kernel_rfl) (by kernel_rfl)) (APath.oneG (.val 33 (.bin .lss) [.t 32, .k (.p (.int .i64 0))]) 31 false (by kernel_rfl) (by kernel_rfl) (st_bool (c := (decide (a4_ < 0))) (by kernel_rfl) hc23) (APath.fin (by kernel_rfl)))))))))), (by show _ = _; kernel_rfl)⟩
          · have hlc25 := HP.get hH 0 rfl
            have hlc26 := HP.get hH 4 rfl
            obtain rfl := some_inj hj
            exact ⟨_, (APath.one (.load 25 (.t 8) 1 false) (by kernel_rfl) (st_loadC (H := H10) (id := id7) (off := 0) (cs := [iv a3_]) (c := [iv a3_]) (r := iv a3_) (by kernel_rfl) (by kernel_rfl) hlc16 (by kernel_rfl) (by kernel_rfl) (by kernel_rfl)) (APath.one (.val 26 (.bin .lss) [.t 25, .k (.p (.int .i64 (-1099511627776)))]) (by kernel_rfl) (st_bool (c := (decide (a3_ < (-1099511627776)))) (by kernel_rfl) hc18) (APath.chunk 1 (by kernel_rfl) (APath.oneG (.load 28 (.t 8) 1 false) 27 false (by kernel_rfl) (by kernel_rfl) (st_loadC (H := H10) (id := id7) (off := 0) (cs := [iv a3_]) (c := [iv a3_]) (r := iv a3_) (by kernel_rfl) (by kernel_rfl) hlc19 (by kernel_rfl) (by kernel_rfl) (by kernel_rfl)) (APath.oneG (.val 29 (.bin .gtr) [.t 28, .k (.p (.int .i64 1099511627776))]) 27 false (by kernel_rfl) (by kernel_rfl) (st_bool (c := (decide (a3_ > 1099511627776))) (by kernel_rfl) hc21) (APath.chunk 2 (by kernel_rfl) (APath.oneG (.load 32 (.t 9) 1 false) 31 false (by kernel_rfl) (by kernel_rfl) (st_loadC (H := H10) (id := id9) (off := 0) (cs := [iv a4_]) (c := [iv a4_]) (r := iv a4_) (by kernel_rfl) (by kernel_rfl) hlc22 (by kernel_rfl) (by kernel_rfl) (by kernel_rfl)) (APath.oneG (.val 33 (.bin .lss) [.t 32, .k (.p (.int .i64 0))]) 31 false (by kernel_rfl) (by kernel_rfl) (st_bool (c := (decide (a4_ < 0))) (by kernel_rfl) hc24) (APath.chunk 2 (by kernel_rfl) (APath.oneG (.load 36 (.t 9) 1 false) 35 false (by kernel_rfl) (by kernel_rfl) (st_loadC (H := H10) (id := id9) (off := 0) (cs := [iv a4_]) (c := [iv a4_]) (r := iv a4_) (by kernel_rfl) (by kernel_rfl) hlc25 (by kernel_rfl) (by kernel_rfl) (by kernel_rfl)) (APath.chunk 1 (by kernel_rfl) (APath.oneG (.load 38 (.t 37) 1 false) 35 false (by kernel_rfl) (by kernel_rfl) (st_loadC (H := H10) (id := id1) (off := 1) (cs := [s_e_api_Entry false a0_.Entries, iv a0_.Cycle]) (c := [iv a0_.Cycle]) (r := iv a0_.Cycle) (by kernel_rfl) (by kernel_rfl) hlc26 (by kernel_rfl) (by kernel_rfl) (by kernel_rfl)) (APath.fin (by kernel_rfl)))))))))))))), (by show _ = _; kernel_rfl)⟩
    · clear hj
      rintro s hR
      obtain rfl := hR
      refine vc_ite (by kernel_rfl) h (fun hc28 h => ?_) (fun hc28 h => ?_)
      · refine vc_seq ?_
        refine vc_reg (S := ⟨[(10, iv 0), (11, iv 2)], [], H10⟩) (APath.fin (by kernel_rfl)) (by kernel_rfl) ?_
        replace hH : HP H10 [] := HP.pick hH [] rfl
        refine vc_ret ?_
        obtain rfl := some_inj h
        exact ret_of (by kernel_rfl)
      · refine vc_skip ?_
        refine vc_kp ?_
        refine vc_seq ?_
        refine vc_seq ?_
        have hlc29 := HP.get hH 4 rfl
        obtain ⟨r30, hr30, h⟩ := bind_some h
        refine vc_reg (S := ⟨[(5, .ptr id1 0), (6, .ptr id3 0), (7, .ptr id5 0), (8, .ptr id7 0), (9, .ptr id9 0), (43, bv r30)], [], H10⟩) (APath.one (.load 42 (.t 5) 2 true) (by kernel_rfl) (st_loadC (H := H10) (id := id1) (off := 0) (cs := [s_e_api_Entry false a0_.Entries, iv a0_.Cycle]) (c := [s_e_api_Entry false a0_.Entries, iv a0_.Cycle]) (r := .agg (c_api_Gates a0_)) (by kernel_rfl) (by kernel_rfl) hlc29 (by kernel_rfl) (by kernel_rfl) (by kernel_rfl)) (APath.one (.call (some 43) 30 [.t 42]) (by kernel_rfl) (st_call (by kernel_rfl) (service_always_ok N a0_ r30 hr30)) APath.done)) (by kernel_rfl) ?_
        refine vc_ite (by kernel_rfl) h (fun hc31 h => ?_) (fun hc31 h => ?_)
        · refine vc_seq ?_
          have hlc32 := HP.get hH 0 rfl
          have hlc33 := HP.get hH 3 rfl
          refine vc_reg (S := ⟨[(10, iv (if (w64 (a4_ - (w64 (127 * a1_)))) > 0 then (w64 (a4_ - (w64 (127 * a1_)))) else 0)), (11, iv 0)], [], H10⟩) (APath.one (.load 44 (.t 9) 1 false) (by kernel_rfl) (st_loadC (H := H10) (id := id9) (off := 0) (cs := [iv a4_]) (c := [iv a4_]) (r := iv a4_) (by kernel_rfl) (by kernel_rfl) hlc32 (by kernel_rfl) (by kernel_rfl) (by kernel_rfl)) (APath.one (.load 45 (.t 6) 1 false) (by kernel_rfl) (st_loadC (H := H10) (id := id3) (off := 0) (cs := [iv a1_]) (c := [iv a1_]) (r := iv a1_) (by kernel_rfl) (by kernel_rfl) hlc33 (by kernel_rfl) (by kernel_rfl) (by kernel_rfl)) (APath.fin (by kernel_rfl)))) (by kernel_rfl) ?_
          replace hH : HP H10 [] := HP.pick hH [] rfl
          refine vc_ret ?_
          obtain rfl := some_inj h
          exact ret_of (by kernel_rfl)
        · refine vc_skip ?_
          refine vc_kp ?_
          refine vc_seq ?_
          have hlc34 := HP.get hH 3 rfl
          obtain ⟨id35, H36, hid35, hH36, hH⟩ := HP.newCell hH [iv 0]
          replace hH : HP H36 [.cel id35 [iv 0], .cel id9 [iv a4_], .cel id7 [iv a3_], .cel id5 [iv a2_], .cel id3 [iv a1_], .cel id1 (c_api_Gates a0_)] := hH
          obtain ⟨H37, hH37, hH⟩ := HP.setCell (k := 0) (off := 0) (cs := [iv 0]) (vs := [iv (w64 ((-127) * a1_))]) (cs' := [iv (w64 ((-127) * a1_))]) hH rfl (by kernel_rfl)
          replace hH : HP H37 [.cel id35 [iv (w64 ((-127) * a1_))], .cel id9 [iv a4_], .cel id7 [iv a3_], .cel id5 [iv a2_], .cel id3 [iv a1_], .cel id1 (c_api_Gates a0_)] := hH
          refine vc_reg (S := ⟨[(5, .ptr id1 0), (6, .ptr id3 0), (7, .ptr id5 0), (8, .ptr id7 0), (9, .ptr id9 0), (13, .ptr id35 0)], [], H37⟩) (APath.one (.load 49 (.t 6) 1 false) (by kernel_rfl) (st_loadC (H := H10) (id := id3) (off := 0) (cs := [iv a1_]) (c := [iv a1_]) (r := iv a1_) (by kernel_rfl) (by kernel_rfl) hlc34 (by kernel_rfl) (by kernel_rfl) (by kernel_rfl)) (APath.chunk 1 (by kernel_rfl) (APath.one (.newH 13 [.p (.int .i64 0)]) (by kernel_rfl) (st_newH (H := H10) (by kernel_rfl) hid35 hH36) (APath.one (.store (.t 13) (.t 50) 1) (by kernel_rfl) (st_storeH (H := H36) (v := iv (w64 ((-127) * a1_))) (by kernel_rfl) (by kernel_rfl) (by kernel_rfl) (by kernel_rfl) hH37) APath.done)))) (by kernel_rfl) ?_
          refine vc_seq ?_
          refine vc_seq ?_
          have hlc38 := HP.get hH 5 rfl
          obtain ⟨r39, hr39, h⟩ := bind_some h
          obtain ⟨id41, H40, hvr39, hpr39⟩ := service_openings_ok N a0_ H37 r39 hr39
          replace hH : HP H40 [.cel id41 (c_api_Gates r39), .cel id35 [iv (w64 ((-127) * a1_))], .cel id9 [iv a4_], .cel id7 [iv a3_], .cel id5 [iv a2_], .cel id3 [iv a1_], .cel id1 (c_api_Gates a0_)] := HP.callee (fp := []) (rest := [.cel id35 [iv (w64 ((-127) * a1_))], .cel id9 [iv a4_], .cel id7 [iv a3_], .cel id5 [iv a2_], .cel id3 [iv a1_], .cel id1 (c_api_Gates a0_)]) hH hpr39
          refine vc_reg (S := ⟨[(5, .ptr id1 0), (6, .ptr id3 0), (7, .ptr id5 0), (8, .ptr id7 0), (9, .ptr id9 0), (13, .ptr id35 0), (52, .fn 48 [] [.ptr id41 0])], [], H40⟩) (APath.one (.load 51 (.t 5) 2 true) (by kernel_rfl) (st_loadC (H := H37) (id := id1) (off := 0) (cs := [s_e_api_Entry false a0_.Entries, iv a0_.Cycle]) (c := [s_e_api_Entry false a0_.Entries, iv a0_.Cycle]) (r := .agg (c_api_Gates a0_)) (by kernel_rfl) (by kernel_rfl) hlc38 (by kernel_rfl) (by kernel_rfl) (by kernel_rfl)) (APath.one (.call (some 52) 31 [.t 51]) (by kernel_rfl) (st_callH (H := H37) (ys := [.agg (c_api_Gates a0_)]) (by kernel_rfl) (by kernel_rfl) (by kernel_rfl) hvr39) APath.done)) (by kernel_rfl) ?_
          refine vc_block ?_
          obtain ⟨o1065, ho1065, h⟩ := bind_some h
          have hyo1065 : ∀ (x43 : service_opening) (s : Int) (r : (Int) × Bool) (H : List HO) (its : List Thing), (fun (s : Int) (its : List Thing) => its = [.cel id35 [iv s], .cel id9 [iv a4_], .cel id7 [iv a3_], .cel id5 [iv a2_], .cel id3 [iv a1_], .cel id1 (c_api_Gates a0_)] ++ [.lp (List.length H40) (lcOf Try.prog i15.nt [53] ra15_1 rb15_1) [(5, .ptr id1 0), (6, .ptr id3 0), (7, .ptr id5 0), (8, .ptr id7 0), (9, .ptr id9 0), (13, .ptr id35 0)] .ready]) s its → HP H its → (fun (s : Int) (x43 : service_opening) => yieldT (fun v : Int => service_Sends_R1 N a0_ a1_ a2_ a3_ a4_ v x43) s) s x43 = some r → ∃ H' its', YCall Try.prog (List.length H40) [.agg (c_service_opening x43)] H r.2 H' ∧ (fun (s : Int) (its : List Thing) => its = [.cel id35 [iv s], .cel id9 [iv a4_], .cel id7 [iv a3_], .cel id5 [iv a2_], .cel id3 [iv a1_], .cel id1 (c_api_Gates a0_)] ++ [.lp (List.length H40) (lcOf Try.prog i15.nt [53] ra15_1 rb15_1) [(5, .ptr id1 0), (6, .ptr id3 0), (7, .ptr id5 0), (8, .ptr id7 0), (9, .ptr id9 0), (13, .ptr id35 0)] .ready]) r.1 its' ∧ Fp H H' its its' := by
            clear h
            intro x43 s r H42 its hT hH h
            obtain ⟨q, hb, rfl⟩ := yieldT_some h
            clear h
            obtain ⟨vs, rfl⟩ : ∃ v, v = s := ⟨s, rfl⟩
            obtain ⟨i44, rfl⟩ : ∃ v, v = vs := ⟨vs, rfl⟩
            obtain rfl := hT
            replace h : service_Sends_R1 N a0_ a1_ a2_ a3_ a4_ i44 x43 = some q := hb
            clear hb
            unfold service_Sends_R1 at h
            replace hH : Fp H42 H42 [.cel id35 [iv i44], .cel id9 [iv a4_], .cel id7 [iv a3_], .cel id5 [iv a2_], .cel id3 [iv a1_], .cel id1 (c_api_Gates a0_), .lp (List.length H40) (lcOf Try.prog i15.nt [53] ra15_1 rb15_1) [(5, .ptr id1 0), (6, .ptr id3 0), (7, .ptr id5 0), (8, .ptr id7 0), (9, .ptr id9 0), (13, .ptr id35 0)] .ready] [.cel id35 [iv i44], .cel id9 [iv a4_], .cel id7 [iv a3_], .cel id5 [iv a2_], .cel id3 [iv a1_], .cel id1 (c_api_Gates a0_), .lp (List.length H40) (lcOf Try.prog i15.nt [53] ra15_1 rb15_1) [(5, .ptr id1 0), (6, .ptr id3 0), (7, .ptr id5 0), (8, .ptr id7 0), (9, .ptr id9 0), (13, .ptr id35 0)] .ready] := Fp.refl hH
            suffices hs : ∃ H', YCall Try.prog (List.length H40) [.agg (c_service_opening x43)] H42 true H' ∧ ∃ its', (fun (s : Int) (its : List Thing) => its = [.cel id35 [iv s], .cel id9 [iv a4_], .cel id7 [iv a3_], .cel id5 [iv a2_], .cel id3 [iv a1_], .cel id1 (c_api_Gates a0_)] ++ [.lp (List.length H40) (lcOf Try.prog i15.nt [53] ra15_1 rb15_1) [(5, .ptr id1 0), (6, .ptr id3 0), (7, .ptr id5 0), (8, .ptr id7 0), (9, .ptr id9 0), (13, .ptr id35 0)] .ready]) q its' ∧ Fp H42 H' [.cel id35 [iv i44], .cel id9 [iv a4_], .cel id7 [iv a3_], .cel id5 [iv a2_], .cel id3 [iv a1_], .cel id1 (c_api_Gates a0_), .lp (List.length H40) (lcOf Try.prog i15.nt [53] ra15_1 rb15_1) [(5, .ptr id1 0), (6, .ptr id3 0), (7, .ptr id5 0), (8, .ptr id7 0), (9, .ptr id9 0), (13, .ptr id35 0)] .ready] its' by
              obtain ⟨H', h1, its', h2, h3⟩ := hs
              exact ⟨H', its', h1, h2, h3⟩
            refine ycall_det (id := (List.length H40)) (args := [.agg (c_service_opening x43)]) (H := H42) (n := i15.nt) (ps := [53]) (fr0 := [(5, .ptr id1 0), (6, .ptr id3 0), (7, .ptr id5 0), (8, .ptr id7 0), (9, .ptr id9 0), (13, .ptr id35 0)]) (ia := ra15_1) (ib := rb15_1) true (fun H' => ∃ its', (fun (s : Int) (its : List Thing) => its = [.cel id35 [iv s], .cel id9 [iv a4_], .cel id7 [iv a3_], .cel id5 [iv a2_], .cel id3 [iv a1_], .cel id1 (c_api_Gates a0_)] ++ [.lp (List.length H40) (lcOf Try.prog i15.nt [53] ra15_1 rb15_1) [(5, .ptr id1 0), (6, .ptr id3 0), (7, .ptr id5 0), (8, .ptr id7 0), (9, .ptr id9 0), (13, .ptr id35 0)] .ready]) q its' ∧ Fp H42 H' [.cel id35 [iv i44], .cel id9 [iv a4_], .cel id7 [iv a3_], .cel id5 [iv a2_], .cel id3 [iv a1_], .cel id1 (c_api_Gates a0_), .lp (List.length H40) (lcOf Try.prog i15.nt [53] ra15_1 rb15_1) [(5, .ptr id1 0), (6, .ptr id3 0), (7, .ptr id5 0), (8, .ptr id7 0), (9, .ptr id9 0), (13, .ptr id35 0)] .ready] its') (Fp.get hH 6 rfl) rfl (by decide +kernel) rfl ?_
            show vc _ _ _ _ ⟨[(5, .ptr id1 0), (6, .ptr id3 0), (7, .ptr id5 0), (8, .ptr id7 0), (9, .ptr id9 0), (13, .ptr id35 0), (53, .agg (c_service_opening x43))], [], H42⟩
            refine vc_reg (S := ⟨[(5, .ptr id1 0), (6, .ptr id3 0), (7, .ptr id5 0), (8, .ptr id7 0), (9, .ptr id9 0), (13, .ptr id35 0), (14, .loc 14 0)], [(14, (c_service_opening x43))], H42⟩) (APath.fin (by kernel_rfl)) (by kernel_rfl) ?_
            refine ia_done (k := 6) hH rfl ?_
            intro H544 hH
            replace hH : Fp H42 H544 [.cel id35 [iv i44], .cel id9 [iv a4_], .cel id7 [iv a3_], .cel id5 [iv a2_], .cel id3 [iv a1_], .cel id1 (c_api_Gates a0_), .lp (List.length H40) (lcOf Try.prog i15.nt [53] ra15_1 rb15_1) [(5, .ptr id1 0), (6, .ptr id3 0), (7, .ptr id5 0), (8, .ptr id7 0), (9, .ptr id9 0), (13, .ptr id35 0)] .ready] [.cel id35 [iv i44], .cel id9 [iv a4_], .cel id7 [iv a3_], .cel id5 [iv a2_], .cel id3 [iv a1_], .cel id1 (c_api_Gates a0_), .lp (List.length H40) (lcOf Try.prog i15.nt [53] ra15_1 rb15_1) [(5, .ptr id1 0), (6, .ptr id3 0), (7, .ptr id5 0), (8, .ptr id7 0), (9, .ptr id9 0), (13, .ptr id35 0)] .busy] := hH
            show vc _ _ _ _ ⟨[(5, .ptr id1 0), (6, .ptr id3 0), (7, .ptr id5 0), (8, .ptr id7 0), (9, .ptr id9 0), (13, .ptr id35 0), (14, .loc 14 0)], [(14, (c_service_opening x43))], H544⟩
            refine vc_block ?_
            refine vc_seq ?_
            have hlc545 := Fp.get hH 2 rfl
            have hlc546 := Fp.get hH 2 rfl
            have hlc547 := Fp.get hH 5 rfl
            obtain ⟨r548, hr548, h⟩ := bind_some h
            refine vc_regD (S := ⟨[(5, .ptr id1 0), (6, .ptr id3 0), (7, .ptr id5 0), (8, .ptr id7 0), (9, .ptr id9 0), (13, .ptr id35 0), (14, .loc 14 0), (15, iv (w64 (a3_ - r548)))], [(14, (c_service_opening x43))], H544⟩) (by kernel_rfl) (APath.one (.load 54 (.t 8) 1 false) (by kernel_rfl) (st_loadC (H := H544) (id := id7) (off := 0) (cs := [iv a3_]) (c := [iv a3_]) (r := iv a3_) (by kernel_rfl) (by kernel_rfl) hlc545 (by kernel_rfl) (by kernel_rfl) (by kernel_rfl)) (APath.one (.load 55 (.t 8) 1 false) (by kernel_rfl) (st_loadC (H := H544) (id := id7) (off := 0) (cs := [iv a3_]) (c := [iv a3_]) (r := iv a3_) (by kernel_rfl) (by kernel_rfl) hlc546 (by kernel_rfl) (by kernel_rfl) (by kernel_rfl)) (APath.chunk 4 (by kernel_rfl) (APath.one (.load 60 (.t 59) 1 false) (by kernel_rfl) (st_loadC (H := H544) (id := id1) (off := 1) (cs := [s_e_api_Entry false a0_.Entries, iv a0_.Cycle]) (c := [iv a0_.Cycle]) (r := iv a0_.Cycle) (by kernel_rfl) (by kernel_rfl) hlc547 (by kernel_rfl) (by kernel_rfl) (by kernel_rfl)) (APath.one (.callP 61 32 [.t 58, .t 60]) (by kernel_rfl) (st_callP (by kernel_rfl) (service_mod_ok N (w64 (a3_ - x43.from_)) a0_.Cycle r548 hr548)) (APath.fin (by kernel_rfl))))))) (by kernel_rfl) ?_
            refine vc_seq ?_
            refine vc_reg (S := ⟨[(5, .ptr id1 0), (6, .ptr id3 0), (7, .ptr id5 0), (8, .ptr id7 0), (9, .ptr id9 0), (13, .ptr id35 0), (14, .loc 14 0), (16, iv (w64 (a3_ - r548)))], [(14, (c_service_opening x43))], H544⟩) (APath.fin (by kernel_rfl)) (by kernel_rfl) ?_
            refine vc_block ?_
            obtain ⟨o1064, ho1064, h⟩ := bind_some h
            refine vc_loop ((loop_sim (fun (x : Int × Int) s => ∃ (H549 : List HO), s = ⟨[(5, .ptr id1 0), (6, .ptr id3 0), (7, .ptr id5 0), (8, .ptr id7 0), (9, .ptr id9 0), (13, .ptr id35 0), (14, .loc 14 0), (16, iv x.1)], [(14, (c_service_opening x43))], H549⟩ ∧ Fp H42 H549 [.cel id35 [iv i44], .cel id9 [iv a4_], .cel id7 [iv a3_], .cel id5 [iv a2_], .cel id3 [iv a1_], .cel id1 (c_api_Gates a0_), .lp (List.length H40) (lcOf Try.prog i15.nt [53] ra15_1 rb15_1) [(5, .ptr id1 0), (6, .ptr id3 0), (7, .ptr id5 0), (8, .ptr id7 0), (9, .ptr id9 0), (13, .ptr id35 0)] .ready] [.cel id35 [iv x.2], .cel id9 [iv a4_], .cel id7 [iv a3_], .cel id5 [iv a2_], .cel id3 [iv a1_], .cel id1 (c_api_Gates a0_), .lp (List.length H40) (lcOf Try.prog i15.nt [53] ra15_1 rb15_1) [(5, .ptr id1 0), (6, .ptr id3 0), (7, .ptr id5 0), (8, .ptr id7 0), (9, .ptr id9 0), (13, .ptr id35 0)] .busy]) (fun x : Int × Int => service_Sends_L2 N a0_ a1_ a2_ a3_ a4_ x43 x.1 x.2) (fun (p : Int × Int) e s => e = .exit 2 ∧ (∃ (H1052 : List HO), s = ⟨[(5, .ptr id1 0), (6, .ptr id3 0), (7, .ptr id5 0), (8, .ptr id7 0), (9, .ptr id9 0), (13, .ptr id35 0), (14, .loc 14 0), (16, iv p.1)], [(14, (c_service_opening x43))], H1052⟩ ∧ Fp H42 H1052 [.cel id35 [iv i44], .cel id9 [iv a4_], .cel id7 [iv a3_], .cel id5 [iv a2_], .cel id3 [iv a1_], .cel id1 (c_api_Gates a0_), .lp (List.length H40) (lcOf Try.prog i15.nt [53] ra15_1 rb15_1) [(5, .ptr id1 0), (6, .ptr id3 0), (7, .ptr id5 0), (8, .ptr id7 0), (9, .ptr id9 0), (13, .ptr id35 0)] .ready] [.cel id35 [iv p.2], .cel id9 [iv a4_], .cel id7 [iv a3_], .cel id5 [iv a2_], .cel id3 [iv a1_], .cel id1 (c_api_Gates a0_), .lp (List.length H40) (lcOf Try.prog i15.nt [53] ra15_1 rb15_1) [(5, .ptr id1 0), (6, .ptr id3 0), (7, .ptr id5 0), (8, .ptr id7 0), (9, .ptr id9 0), (13, .ptr id35 0)] .busy])) ?_ N _ o1064 _ ho1064 ⟨H544, (by show _ = _; kernel_rfl), (Fp.pick hH [0, 1, 2, 3, 4, 5, 6] rfl)⟩).mono ?_)
            · clear h ho1064
              rintro ⟨i550, i551⟩ o s h hR
              obtain ⟨H549, rfl, hH⟩ := hR
              replace hH : Fp H42 H549 [.cel id35 [iv i44], .cel id9 [iv a4_], .cel id7 [iv a3_], .cel id5 [iv a2_], .cel id3 [iv a1_], .cel id1 (c_api_Gates a0_), .lp (List.length H40) (lcOf Try.prog i15.nt [53] ra15_1 rb15_1) [(5, .ptr id1 0), (6, .ptr id3 0), (7, .ptr id5 0), (8, .ptr id7 0), (9, .ptr id9 0), (13, .ptr id35 0)] .ready] [.cel id35 [iv i551], .cel id9 [iv a4_], .cel id7 [iv a3_], .cel id5 [iv a2_], .cel id3 [iv a1_], .cel id1 (c_api_Gates a0_), .lp (List.length H40) (lcOf Try.prog i15.nt [53] ra15_1 rb15_1) [(5, .ptr id1 0), (6, .ptr id3 0), (7, .ptr id5 0), (8, .ptr id7 0), (9, .ptr id9 0), (13, .ptr id35 0)] .busy] := hH
              replace h : service_Sends_L2 N a0_ a1_ a2_ a3_ a4_ x43 i550 i551 = some o := h
              unfold service_Sends_L2 at h
              refine vc_seq ?_
              refine vc_seq ?_
              have hlc1053 := Fp.get hH 2 rfl
              have hlc1054 := Fp.get hH 1 rfl
              refine vc_reg (S := ⟨[(5, .ptr id1 0), (6, .ptr id3 0), (7, .ptr id5 0), (8, .ptr id7 0), (9, .ptr id9 0), (13, .ptr id35 0), (14, .loc 14 0), (16, iv i550), (68, bv (decide (i550 < (w64 (a3_ + a4_)))))], [(14, (c_service_opening x43))], H549⟩) (APath.chunk 1 (by kernel_rfl) (APath.one (.load 65 (.t 8) 1 false) (by kernel_rfl) (st_loadC (H := H549) (id := id7) (off := 0) (cs := [iv a3_]) (c := [iv a3_]) (r := iv a3_) (by kernel_rfl) (by kernel_rfl) hlc1053 (by kernel_rfl) (by kernel_rfl) (by kernel_rfl)) (APath.one (.load 66 (.t 9) 1 false) (by kernel_rfl) (st_loadC (H := H549) (id := id9) (off := 0) (cs := [iv a4_]) (c := [iv a4_]) (r := iv a4_) (by kernel_rfl) (by kernel_rfl) hlc1054 (by kernel_rfl) (by kernel_rfl) (by kernel_rfl)) (APath.fin (by kernel_rfl))))) (by kernel_rfl) ?_
              refine vc_ite (by kernel_rfl) h (fun hc1055 h => ?_) (fun hc1055 h => ?_)
              · refine vc_skip ?_
                refine vc_kp ?_
                refine vc_seq ?_
                refine vc_block ?_
                refine vc_seq ?_
                have hlc1056 := Fp.get hH 2 rfl
                have hlc1057 := Fp.get hH 1 rfl
                have hlc1058 := Fp.get hH 2 rfl
                refine vc_reg (S := ⟨[(5, .ptr id1 0), (6, .ptr id3 0), (7, .ptr id5 0), (8, .ptr id7 0), (9, .ptr id9 0), (13, .ptr id35 0), (14, .loc 14 0), (16, iv i550), (17, iv (w64 ((if (w64 (a3_ + a4_)) < (w64 (i550 + x43.long)) then (w64 (a3_ + a4_)) else (w64 (i550 + x43.long))) - (if a3_ > i550 then a3_ else i550))))], [(14, (c_service_opening x43))], H549⟩) (APath.chunk 4 (by kernel_rfl) (APath.one (.load 77 (.t 8) 1 false) (by kernel_rfl) (st_loadC (H := H549) (id := id7) (off := 0) (cs := [iv a3_]) (c := [iv a3_]) (r := iv a3_) (by kernel_rfl) (by kernel_rfl) hlc1056 (by kernel_rfl) (by kernel_rfl) (by kernel_rfl)) (APath.one (.load 78 (.t 9) 1 false) (by kernel_rfl) (st_loadC (H := H549) (id := id9) (off := 0) (cs := [iv a4_]) (c := [iv a4_]) (r := iv a4_) (by kernel_rfl) (by kernel_rfl) hlc1057 (by kernel_rfl) (by kernel_rfl) (by kernel_rfl)) (APath.chunk 3 (by kernel_rfl) (APath.one (.load 82 (.t 8) 1 false) (by kernel_rfl) (st_loadC (H := H549) (id := id7) (off := 0) (cs := [iv a3_]) (c := [iv a3_]) (r := iv a3_) (by kernel_rfl) (by kernel_rfl) hlc1058 (by kernel_rfl) (by kernel_rfl) (by kernel_rfl)) (APath.fin (by kernel_rfl))))))) (by kernel_rfl) ?_
                have hlc1059 := Fp.get hH 0 rfl
                have hlc1060 := Fp.get hH 3 rfl
                have hlc1061 := Fp.get hH 4 rfl
                obtain ⟨H1062, hH1062, hH⟩ := Fp.setCell (k := 0) (off := 0) (cs := [iv i551]) (vs := [iv (w64 (i551 + (if (w64 ((w64 ((if (w64 (a3_ + a4_)) < (w64 (i550 + x43.long)) then (w64 (a3_ + a4_)) else (w64 (i550 + x43.long))) - (if a3_ > i550 then a3_ else i550))) - (w64 (a2_ * a1_)))) > 0 then (w64 ((w64 ((if (w64 (a3_ + a4_)) < (w64 (i550 + x43.long)) then (w64 (a3_ + a4_)) else (w64 (i550 + x43.long))) - (if a3_ > i550 then a3_ else i550))) - (w64 (a2_ * a1_)))) else 0)))]) (cs' := [iv (w64 (i551 + (if (w64 ((w64 ((if (w64 (a3_ + a4_)) < (w64 (i550 + x43.long)) then (w64 (a3_ + a4_)) else (w64 (i550 + x43.long))) - (if a3_ > i550 then a3_ else i550))) - (w64 (a2_ * a1_)))) > 0 then (w64 ((w64 ((if (w64 (a3_ + a4_)) < (w64 (i550 + x43.long)) then (w64 (a3_ + a4_)) else (w64 (i550 + x43.long))) - (if a3_ > i550 then a3_ else i550))) - (w64 (a2_ * a1_)))) else 0)))]) hH rfl (by kernel_rfl)
                replace hH : Fp H42 H1062 [.cel id35 [iv i44], .cel id9 [iv a4_], .cel id7 [iv a3_], .cel id5 [iv a2_], .cel id3 [iv a1_], .cel id1 (c_api_Gates a0_), .lp (List.length H40) (lcOf Try.prog i15.nt [53] ra15_1 rb15_1) [(5, .ptr id1 0), (6, .ptr id3 0), (7, .ptr id5 0), (8, .ptr id7 0), (9, .ptr id9 0), (13, .ptr id35 0)] .ready] [.cel id35 [iv (w64 (i551 + (if (w64 ((w64 ((if (w64 (a3_ + a4_)) < (w64 (i550 + x43.long)) then (w64 (a3_ + a4_)) else (w64 (i550 + x43.long))) - (if a3_ > i550 then a3_ else i550))) - (w64 (a2_ * a1_)))) > 0 then (w64 ((w64 ((if (w64 (a3_ + a4_)) < (w64 (i550 + x43.long)) then (w64 (a3_ + a4_)) else (w64 (i550 + x43.long))) - (if a3_ > i550 then a3_ else i550))) - (w64 (a2_ * a1_)))) else 0)))], .cel id9 [iv a4_], .cel id7 [iv a3_], .cel id5 [iv a2_], .cel id3 [iv a1_], .cel id1 (c_api_Gates a0_), .lp (List.length H40) (lcOf Try.prog i15.nt [53] ra15_1 rb15_1) [(5, .ptr id1 0), (6, .ptr id3 0), (7, .ptr id5 0), (8, .ptr id7 0), (9, .ptr id9 0), (13, .ptr id35 0)] .busy] := hH
                refine vc_reg (S := ⟨[(5, .ptr id1 0), (6, .ptr id3 0), (7, .ptr id5 0), (8, .ptr id7 0), (9, .ptr id9 0), (13, .ptr id35 0), (14, .loc 14 0), (16, iv i550)], [(14, (c_service_opening x43))], H1062⟩) (APath.one (.load 85 (.t 13) 1 false) (by kernel_rfl) (st_loadC (H := H549) (id := id35) (off := 0) (cs := [iv i551]) (c := [iv i551]) (r := iv i551) (by kernel_rfl) (by kernel_rfl) hlc1059 (by kernel_rfl) (by kernel_rfl) (by kernel_rfl)) (APath.chunk 1 (by kernel_rfl) (APath.one (.load 87 (.t 7) 1 false) (by kernel_rfl) (st_loadC (H := H549) (id := id5) (off := 0) (cs := [iv a2_]) (c := [iv a2_]) (r := iv a2_) (by kernel_rfl) (by kernel_rfl) hlc1060 (by kernel_rfl) (by kernel_rfl) (by kernel_rfl)) (APath.one (.load 88 (.t 6) 1 false) (by kernel_rfl) (st_loadC (H := H549) (id := id3) (off := 0) (cs := [iv a1_]) (c := [iv a1_]) (r := iv a1_) (by kernel_rfl) (by kernel_rfl) hlc1061 (by kernel_rfl) (by kernel_rfl) (by kernel_rfl)) (APath.chunk 4 (by kernel_rfl) (APath.one (.store (.t 13) (.t 92) 1) (by kernel_rfl) (st_storeH (H := H549) (v := iv (w64 (i551 + (if (w64 ((w64 ((if (w64 (a3_ + a4_)) < (w64 (i550 + x43.long)) then (w64 (a3_ + a4_)) else (w64 (i550 + x43.long))) - (if a3_ > i550 then a3_ else i550))) - (w64 (a2_ * a1_)))) > 0 then (w64 ((w64 ((if (w64 (a3_ + a4_)) < (w64 (i550 + x43.long)) then (w64 (a3_ + a4_)) else (w64 (i550 + x43.long))) - (if a3_ > i550 then a3_ else i550))) - (w64 (a2_ * a1_)))) else 0)))) (by kernel_rfl) (by kernel_rfl) (by kernel_rfl) (by kernel_rfl) hH1062) APath.done)))))) (by kernel_rfl) ?_
                have hlc1063 := Fp.get hH 5 rfl
                refine vc_reg (S := ⟨[(5, .ptr id1 0), (6, .ptr id3 0), (7, .ptr id5 0), (8, .ptr id7 0), (9, .ptr id9 0), (13, .ptr id35 0), (14, .loc 14 0), (16, iv (w64 (i550 + a0_.Cycle)))], [(14, (c_service_opening x43))], H1062⟩) (APath.chunk 2 (by kernel_rfl) (APath.one (.load 71 (.t 70) 1 false) (by kernel_rfl) (st_loadC (H := H1062) (id := id1) (off := 1) (cs := [s_e_api_Entry false a0_.Entries, iv a0_.Cycle]) (c := [iv a0_.Cycle]) (r := iv a0_.Cycle) (by kernel_rfl) (by kernel_rfl) hlc1063 (by kernel_rfl) (by kernel_rfl) (by kernel_rfl)) (APath.fin (by kernel_rfl)))) (by kernel_rfl) ?_
                obtain rfl := some_inj h
                exact ⟨_, rfl, ⟨H1062, (by show _ = _; kernel_rfl), (Fp.pick hH [0, 1, 2, 3, 4, 5, 6] rfl)⟩⟩
              · refine vc_exit ?_
                try show vc _ _ _ _ _
                obtain rfl := some_inj h
                exact ⟨_, rfl, rfl, ⟨H549, (by show _ = _; kernel_rfl), (Fp.pick hH [0, 1, 2, 3, 4, 5, 6] rfl)⟩⟩
            · rintro e s hq
              obtain ⟨rfl, hR⟩ := hq
              obtain ⟨H1052, rfl, hH⟩ := hR
              replace hH : Fp H42 H1052 [.cel id35 [iv i44], .cel id9 [iv a4_], .cel id7 [iv a3_], .cel id5 [iv a2_], .cel id3 [iv a1_], .cel id1 (c_api_Gates a0_), .lp (List.length H40) (lcOf Try.prog i15.nt [53] ra15_1 rb15_1) [(5, .ptr id1 0), (6, .ptr id3 0), (7, .ptr id5 0), (8, .ptr id7 0), (9, .ptr id9 0), (13, .ptr id35 0)] .ready] [.cel id35 [iv o1064.2], .cel id9 [iv a4_], .cel id7 [iv a3_], .cel id5 [iv a2_], .cel id3 [iv a1_], .cel id1 (c_api_Gates a0_), .lp (List.length H40) (lcOf Try.prog i15.nt [53] ra15_1 rb15_1) [(5, .ptr id1 0), (6, .ptr id3 0), (7, .ptr id5 0), (8, .ptr id7 0), (9, .ptr id9 0), (13, .ptr id35 0)] .busy] := hH
              try show vc _ _ _ _ _
              obtain rfl := some_inj h
              exact rb_done (k := 6) (.ready) hH rfl rfl (fun H6 hH => ⟨_, (Eq.refl _), (Fp.pick hH [0, 1, 2, 3, 4, 5, 6] rfl)⟩)
          refine vc_range (s := ⟨[(5, .ptr id1 0), (6, .ptr id3 0), (7, .ptr id5 0), (8, .ptr id7 0), (9, .ptr id9 0), (13, .ptr id35 0), (52, .fn 48 [] [.ptr id41 0])], [], H40⟩) [(5, .ptr id1 0), (6, .ptr id3 0), (7, .ptr id5 0), (8, .ptr id7 0), (9, .ptr id9 0), (13, .ptr id35 0)] (FrOK.cons (by kernel_rfl) (by kernel_rfl) (FrOK.cons (by kernel_rfl) (by kernel_rfl) (FrOK.cons (by kernel_rfl) (by kernel_rfl) (FrOK.cons (by kernel_rfl) (by kernel_rfl) (FrOK.cons (by kernel_rfl) (by kernel_rfl) (FrOK.cons (by kernel_rfl) (by kernel_rfl) FrOK.nil)))))) (by kernel_rfl) (fun H => rfl) (capT := [.cel id41 (c_api_Gates r39)]) (cells0 := [.cel id35 [iv (w64 ((-127) * a1_))], .cel id9 [iv a4_], .cel id7 [iv a3_], .cel id5 [iv a2_], .cel id3 [iv a1_], .cel id1 (c_api_Gates a0_)]) (rest := []) (HP.now (HP.pick hH [0, 1, 2, 3, 4, 5, 6] rfl)) (fun (s : Int) (its : List Thing) => its = [.cel id35 [iv s], .cel id9 [iv a4_], .cel id7 [iv a3_], .cel id5 [iv a2_], .cel id3 [iv a1_], .cel id1 (c_api_Gates a0_)] ++ [.lp (List.length H40) (lcOf Try.prog i15.nt [53] ra15_1 rb15_1) [(5, .ptr id1 0), (6, .ptr id3 0), (7, .ptr id5 0), (8, .ptr id7 0), (9, .ptr id9 0), (13, .ptr id35 0)] .ready]) (w64 ((-127) * a1_)) o1065 (by exact (Eq.refl _)) (fun H its hT hH => service_openings_1_ok N (fun (s : Int) (x43 : service_opening) => yieldT (fun v : Int => service_Sends_R1 N a0_ a1_ a2_ a3_ a4_ v x43) s) r39 (w64 ((-127) * a1_)) id41 (List.length H40) (fun (s : Int) (its : List Thing) => its = [.cel id35 [iv s], .cel id9 [iv a4_], .cel id7 [iv a3_], .cel id5 [iv a2_], .cel id3 [iv a1_], .cel id1 (c_api_Gates a0_)] ++ [.lp (List.length H40) (lcOf Try.prog i15.nt [53] ra15_1 rb15_1) [(5, .ptr id1 0), (6, .ptr id3 0), (7, .ptr id5 0), (8, .ptr id7 0), (9, .ptr id9 0), (13, .ptr id35 0)] .ready]) hyo1065 H its hT hH o1065 ho1065) ?_
          rintro its hT
          obtain rfl := hT
          refine ⟨_, _, rfl, ?_⟩
          intro H1066 hF
          replace hH : HP H1066 [.cel id41 (c_api_Gates r39), .cel id35 [iv o1065], .cel id9 [iv a4_], .cel id7 [iv a3_], .cel id5 [iv a2_], .cel id3 [iv a1_], .cel id1 (c_api_Gates a0_)] := HP.after (HP.pick hH [0, 1, 2, 3, 4, 5, 6] rfl) hF
          refine outQ_ready (S := ⟨[(5, .ptr id1 0), (6, .ptr id3 0), (7, .ptr id5 0), (8, .ptr id7 0), (9, .ptr id9 0), (13, .ptr id35 0), (52, .fn 48 [] [.ptr id41 0])], [], H1066⟩) ?_
          try show vc _ _ _ _ _
          refine vc_seq ?_
          have hlc1067 := HP.get hH 1 rfl
          refine vc_reg (S := ⟨[(10, iv (if o1065 > 0 then o1065 else 0)), (11, iv 0)], [], H1066⟩) (APath.one (.load 93 (.t 13) 1 false) (by kernel_rfl) (st_loadC (H := H1066) (id := id35) (off := 0) (cs := [iv o1065]) (c := [iv o1065]) (r := iv o1065) (by kernel_rfl) (by kernel_rfl) hlc1067 (by kernel_rfl) (by kernel_rfl) (by kernel_rfl)) (APath.fin (by kernel_rfl))) (by kernel_rfl) ?_
          replace hH : HP H1066 [] := HP.pick hH [] rfl
          refine vc_ret ?_
          obtain rfl := some_inj h
          exact ret_of (by kernel_rfl)
/- isochronref30.Sends -/
theorem ref30_Sends_ok (N : Nat) (a0_ : api_Gates) (a1_ : Int) (a2_ : Int) (a3_ : Int) (a4_ : Int) (r : Int × Int) (h : ref30_Sends N a0_ a1_ a2_ a3_ a4_ = some r) : PCall Try.prog 16 [.agg (c_api_Gates a0_), iv a1_, iv a2_, iv a3_, iv a4_] (.tup [iv r.1, iv r.2]) := by
  unfold ref30_Sends at h
  have hH : HP ([] : List HO) [] := trivial
  refine pcall_of chk16 rfl rfl (vc_sound _ _ _ ?_) rfl
  refine vc_seq ?_
  refine vc_reg (S := ⟨[(1, iv a1_), (2, iv a2_), (3, iv a3_), (4, iv a4_), (5, .loc 5 0)], [(5, (c_api_Gates a0_))], []⟩) (APath.fin (by kernel_rfl)) (by kernel_rfl) ?_
  refine vc_seq ?_
  obtain ⟨r1, hr1, h⟩ := bind_some h
  refine vc_reg (S := ⟨[(1, iv a1_), (2, iv a2_), (3, iv a3_), (4, iv a4_), (5, .loc 5 0), (12, iv r1)], [(5, (c_api_Gates a0_))], []⟩) (APath.chunk 3 (by kernel_rfl) (APath.one (.call (some 16) 27 [.t 13, .t 14, .t 15]) (by kernel_rfl) (st_call (by kernel_rfl) (ref30_args_ok N a0_ a1_ a2_ r1 hr1)) (APath.fin (by kernel_rfl)))) (by kernel_rfl) ?_
  refine vc_seq ?_
  refine vc_seq ?_
  refine vc_reg (S := ⟨[(1, iv a1_), (2, iv a2_), (3, iv a3_), (4, iv a4_), (5, .loc 5 0), (12, iv r1), (18, bv (r1 != 0))], [(5, (c_api_Gates a0_))], []⟩) (APath.fin (by kernel_rfl)) (by kernel_rfl) ?_
  refine vc_ite (by kernel_rfl) h (fun hc2 h => ?_) (fun hc2 h => ?_)
  · refine vc_seq ?_
    refine vc_reg (S := ⟨[(10, iv 0), (11, iv r1)], [], []⟩) (APath.fin (by kernel_rfl)) (by kernel_rfl) ?_
    refine vc_ret ?_
    obtain rfl := some_inj h
    exact ret_of (by kernel_rfl)
  · refine vc_skip ?_
    refine vc_kp ?_
    refine vc_seq ?_
    refine vc_seq ?_
    refine vc_regX ⟨[(1, iv a1_), (2, iv a2_), (3, iv a3_), (4, iv a4_), (5, .loc 5 0), (36, bv ((decide (a3_ < (-1099511627776))) || ((decide (a3_ > 1099511627776)) || ((decide (a4_ < 0)) || (decide (a4_ > (w64 (4 * a0_.Cycle))))))))], [(5, (c_api_Gates a0_))], []⟩ ?_ ?_
    · rcases Bool.eq_false_or_eq_true (decide (a3_ < (-1099511627776))) with hc3 | hc4
      · exact ⟨_, (APath.chunk 1 (by kernel_rfl) (APath.one (.val 21 (.bin .lss) [.t 20, .k (.p (.int .i64 (-1099511627776)))]) (by kernel_rfl) (st_bool (c := (decide (a3_ < (-1099511627776)))) (by kernel_rfl) hc3) (APath.fin (by kernel_rfl)))), by simp only [hc3]; kernel_rfl⟩
      · rcases Bool.eq_false_or_eq_true (decide (a3_ > 1099511627776)) with hc5 | hc6
        · exact ⟨_, (APath.chunk 1 (by kernel_rfl) (APath.one (.val 21 (.bin .lss) [.t 20, .k (.p (.int .i64 (-1099511627776)))]) (by kernel_rfl) (st_bool (c := (decide (a3_ < (-1099511627776)))) (by kernel_rfl) hc4) (APath.chunk 2 (by kernel_rfl) (APath.oneG (.val 24 (.bin .gtr) [.t 23, .k (.p (.int .i64 1099511627776))]) 22 false (by kernel_rfl) (by kernel_rfl) (st_bool (c := (decide (a3_ > 1099511627776))) (by kernel_rfl) hc5) (APath.fin (by kernel_rfl)))))), by simp only [hc4, hc5]; kernel_rfl⟩
        · rcases Bool.eq_false_or_eq_true (decide (a4_ < 0)) with hc7 | hc8
          · exact ⟨_, (APath.chunk 1 (by kernel_rfl) (APath.one (.val 21 (.bin .lss) [.t 20, .k (.p (.int .i64 (-1099511627776)))]) (by kernel_rfl) (st_bool (c := (decide (a3_ < (-1099511627776)))) (by kernel_rfl) hc4) (APath.chunk 2 (by kernel_rfl) (APath.oneG (.val 24 (.bin .gtr) [.t 23, .k (.p (.int .i64 1099511627776))]) 22 false (by kernel_rfl) (by kernel_rfl) (st_bool (c := (decide (a3_ > 1099511627776))) (by kernel_rfl) hc6) (APath.chunk 3 (by kernel_rfl) (APath.oneG (.val 28 (.bin .lss) [.t 27, .k (.p (.int .i64 0))]) 26 false (by kernel_rfl) (by kernel_rfl) (st_bool (c := (decide (a4_ < 0))) (by kernel_rfl) hc7) (APath.fin (by kernel_rfl)))))))), by simp only [hc4, hc6, hc7]; kernel_rfl⟩
          · exact ⟨_, (APath.chunk 1 (by kernel_rfl) (APath.one (.val 21 (.bin .lss) [.t 20, .k (.p (.int .i64 (-1099511627776)))]) (by kernel_rfl) (st_bool (c := (decide (a3_ < (-1099511627776)))) (by kernel_rfl) hc4) (APath.chunk 2 (by kernel_rfl) (APath.oneG (.val 24 (.bin .gtr) [.t 23, .k (.p (.int .i64 1099511627776))]) 22 false (by kernel_rfl) (by kernel_rfl) (st_bool (c := (decide (a3_ > 1099511627776))) (by kernel_rfl) hc6) (APath.chunk 3 (by kernel_rfl) (APath.oneG (.val 28 (.bin .lss) [.t 27, .k (.p (.int .i64 0))]) 26 false (by kernel_rfl) (by kernel_rfl) (st_bool (c := (decide (a4_ < 0))) (by kernel_rfl) hc8) (APath.fin (by kernel_rfl)))))))), by simp only [hc4, hc6, hc8]; kernel_rfl⟩
    · refine vc_ite (by kernel_rfl) h (fun hc9 h => ?_) (fun hc9 h => ?_)
      · refine vc_seq ?_
        refine vc_reg (S := ⟨[(10, iv 0), (11, iv 2)], [], []⟩) (APath.fin (by kernel_rfl)) (by kernel_rfl) ?_
        refine vc_ret ?_
        obtain rfl := some_inj h
        exact ret_of (by kernel_rfl)
      · refine vc_skip ?_
        refine vc_kp ?_
        refine vc_seq ?_
        obtain ⟨r10, hr10, h⟩ := bind_some h
        refine vc_reg (S := ⟨[(10, iv (if r10 > 0 then r10 else 0)), (11, iv 0)], [], []⟩) (APath.chunk 5 (by kernel_rfl) (APath.one (.call (some 42) 33 [.t 37, .t 38, .t 39, .t 40, .t 41]) (by kernel_rfl) (st_call (by kernel_rfl) (ref30_Least_ok N a0_ a1_ a2_ a3_ a4_ r10 hr10)) (APath.fin (by kernel_rfl)))) (by kernel_rfl) ?_
        refine vc_ret ?_
        obtain rfl := some_inj h
        exact ret_of (by kernel_rfl)
/- isochronlaw30.sends -/
theorem law30_sends_ok (N : Nat) (a0_ : api_Gates) (a1_ : Int) (a2_ : Int) (a3_ : Int) (a4_ : Int) (r : Int) (h : law30_sends N a0_ a1_ a2_ a3_ a4_ = some r) : PCall Try.prog 20 [.agg (c_api_Gates a0_), iv a1_, iv a2_, iv a3_, iv a4_] (iv r) := by
  unfold law30_sends at h
  have hH : HP ([] : List HO) [] := trivial
  refine pcall_of chk20 rfl rfl (vc_sound _ _ _ ?_) rfl
  refine vc_seq ?_
  refine vc_reg (S := ⟨[(1, iv a1_), (2, iv a2_), (3, iv a3_), (4, iv a4_), (5, .loc 5 0)], [(5, (c_api_Gates a0_))], []⟩) (APath.fin (by kernel_rfl)) (by kernel_rfl) ?_
  refine vc_seq ?_
  obtain ⟨r1, hr1, h⟩ := bind_some h
  refine vc_reg (S := ⟨[(11, iv r1.1), (12, iv r1.2)], [], []⟩) (APath.chunk 5 (by kernel_rfl) (APath.one (.call (some 19) 15 [.t 14, .t 15, .t 16, .t 17, .t 18]) (by kernel_rfl) (st_call (by kernel_rfl) (service_Sends_ok N a0_ a1_ a2_ a3_ a4_ r1 hr1)) (APath.fin (by kernel_rfl)))) (by kernel_rfl) ?_
  refine vc_seq ?_
  refine vc_seq ?_
  refine vc_reg (S := ⟨[(11, iv r1.1), (23, bv (r1.2 != 0))], [], []⟩) (APath.fin (by kernel_rfl)) (by kernel_rfl) ?_
  refine vc_ite (by kernel_rfl) h (fun hc2 h => ?_) (fun hc2 h => ?_)
  · refine vc_seq ?_
    refine vc_reg (S := ⟨[(10, iv (-1))], [], []⟩) (APath.fin (by kernel_rfl)) (by kernel_rfl) ?_
    refine vc_ret ?_
    obtain rfl := some_inj h
    exact ret_of (by kernel_rfl)
  · refine vc_skip ?_
    refine vc_kp ?_
    refine vc_seq ?_
    refine vc_reg (S := ⟨[(10, iv r1.1)], [], []⟩) (APath.fin (by kernel_rfl)) (by kernel_rfl) ?_
    refine vc_ret ?_
    obtain rfl := some_inj h
    exact ret_of (by kernel_rfl)
end Go.Sh
