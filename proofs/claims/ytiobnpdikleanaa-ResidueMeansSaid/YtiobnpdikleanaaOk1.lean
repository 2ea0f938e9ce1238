/- The Go functions compute them; written by sym.py. -/
import Derived.Test.YtiobnpdikleanaaSh
import Derived.Test.YtiobnpdikleanaaChk
namespace Go.Sh
open Go Go.Eng Go.Proofs
set_option linter.unusedVariables false
set_option linter.unusedSimpArgs false
set_option maxRecDepth 100000
/- isochronref23.Of -/
theorem ref23_Of_ok (N : Nat) (a0_ : Int) (a1_ : Int) (a2_ : Int) (r : api_Span) (h : ref23_Of N a0_ a1_ a2_ = some r) : PCall Try.prog 10 [.p (.int .u8 a0_), .p (.int .u8 a1_), .p (.int .u8 a2_)] (.agg [.p (.int .i64 r.Period), .p (.int .i64 r.From), .p (.int .i64 r.Long)]) := by
  unfold ref23_Of at h
  have hH : HP ([] : List HO) [] := trivial
  refine pcall_of chk10 rfl rfl (vc_sound _ _ _ ?_) rfl
  refine vc_seq ?_
  refine vc_reg (S := ⟨[(0, .p (.int .u8 a0_)), (1, .p (.int .u8 a1_)), (2, .p (.int .u8 a2_)), (6, .loc 6 0)], [(6, [.p (.int .i64 0), .p (.int .i64 0), .p (.int .i64 0)])], []⟩) (APath.fin (by kernel_rfl)) (by kernel_rfl) ?_
  refine vc_seq ?_
  refine vc_reg (S := ⟨[(1, .p (.int .u8 a1_)), (2, .p (.int .u8 a2_)), (6, .loc 6 0), (7, .p (.int .i64 (w64 (1 + (w64 ((Int.tmod a0_ 48)))))))], [(6, [.p (.int .i64 0), .p (.int .i64 0), .p (.int .i64 0)])], []⟩) (APath.fin (by kernel_rfl)) (by kernel_rfl) ?_
  refine vc_seq ?_
  obtain ⟨m1, hm1, h⟩ := bind_some h
  obtain ⟨m2, hm2, h⟩ := bind_some h
  refine vc_regD (S := ⟨[(6, .loc 6 0)], [(6, [.p (.int .i64 (w64 (1 + (w64 ((Int.tmod a0_ 48)))))), .p (.int .i64 m1), .p (.int .i64 (w64 (1 + m2)))])], []⟩) (by kernel_rfl) (APath.chunk 4 (by kernel_rfl) (APath.one (.val 16 (.bin .rem) [.t 14, .t 15]) (by kernel_rfl) (st_val (ys := [.p (.int .i64 (w64 (a1_))), .p (.int .i64 (w64 (1 + (w64 ((Int.tmod a0_ 48))))))]) (by kernel_rfl) (vexec_rem hm1)) (APath.chunk 3 (by kernel_rfl) (APath.one (.val 20 (.bin .rem) [.t 18, .t 19]) (by kernel_rfl) (st_val (ys := [.p (.int .i64 (w64 (a2_))), .p (.int .i64 (w64 (1 + (w64 ((Int.tmod a0_ 48))))))]) (by kernel_rfl) (vexec_rem hm2)) (APath.fin (by kernel_rfl)))))) (by kernel_rfl) ?_
  refine vc_ret ?_
  obtain rfl := some_inj h
  exact ret_of (by kernel_rfl)
/- residue.Check -/
theorem residue_Check_ok (N : Nat) (a0_ : api_Span) (r : Int) (h : residue_Check N a0_ = some r) : PCall Try.prog 13 [.agg [.p (.int .i64 a0_.Period), .p (.int .i64 a0_.From), .p (.int .i64 a0_.Long)]] (.p (.int .i64 r)) := by
  unfold residue_Check at h
  have hH : HP ([] : List HO) [] := trivial
  refine pcall_of chk13 rfl rfl (vc_sound _ _ _ ?_) rfl
  refine vc_seq ?_
  refine vc_reg (S := ⟨[(1, .loc 1 0)], [(1, [.p (.int .i64 a0_.Period), .p (.int .i64 a0_.From), .p (.int .i64 a0_.Long)])], []⟩) (APath.fin (by kernel_rfl)) (by kernel_rfl) ?_
  refine vc_seq ?_
  refine vc_seq ?_
  refine vc_regX ⟨[(1, .loc 1 0), (22, .p (.bool ((decide (a0_.Period < 1)) || ((decide (a0_.Period > 960)) || ((decide (a0_.From < 0)) || (decide (a0_.From ≥ a0_.Period)))))))], [(1, [.p (.int .i64 a0_.Period), .p (.int .i64 a0_.From), .p (.int .i64 a0_.Long)])], []⟩ ?_ ?_
  · rcases Bool.eq_false_or_eq_true (decide (a0_.Period < 1)) with hc1 | hc2
    · exact ⟨_, (APath.chunk 2 (by kernel_rfl) (APath.one (.val 5 (.bin .lss) [.t 4, .k (.p (.int .i64 1))]) (by kernel_rfl) (st_bool (c := (decide (a0_.Period < 1))) (by kernel_rfl) hc1) (APath.fin (by kernel_rfl)))), by simp only [hc1]; kernel_rfl⟩
    · rcases Bool.eq_false_or_eq_true (decide (a0_.Period > 960)) with hc3 | hc4
      · exact ⟨_, (APath.chunk 2 (by kernel_rfl) (APath.one (.val 5 (.bin .lss) [.t 4, .k (.p (.int .i64 1))]) (by kernel_rfl) (st_bool (c := (decide (a0_.Period < 1))) (by kernel_rfl) hc2) (APath.chunk 3 (by kernel_rfl) (APath.oneG (.val 9 (.bin .gtr) [.t 8, .k (.p (.int .i64 960))]) 6 false (by kernel_rfl) (by kernel_rfl) (st_bool (c := (decide (a0_.Period > 960))) (by kernel_rfl) hc3) (APath.fin (by kernel_rfl)))))), by simp only [hc2, hc3]; kernel_rfl⟩
      · rcases Bool.eq_false_or_eq_true (decide (a0_.From < 0)) with hc5 | hc6
        · exact ⟨_, (APath.chunk 2 (by kernel_rfl) (APath.one (.val 5 (.bin .lss) [.t 4, .k (.p (.int .i64 1))]) (by kernel_rfl) (st_bool (c := (decide (a0_.Period < 1))) (by kernel_rfl) hc2) (APath.chunk 3 (by kernel_rfl) (APath.oneG (.val 9 (.bin .gtr) [.t 8, .k (.p (.int .i64 960))]) 6 false (by kernel_rfl) (by kernel_rfl) (st_bool (c := (decide (a0_.Period > 960))) (by kernel_rfl) hc4) (APath.chunk 4 (by kernel_rfl) (APath.oneG (.val 14 (.bin .lss) [.t 13, .k (.p (.int .i64 0))]) 11 false (by kernel_rfl) (by kernel_rfl) (st_bool (c := (decide (a0_.From < 0))) (by kernel_rfl) hc5) (APath.fin (by kernel_rfl)))))))), by simp only [hc2, hc4, hc5]; kernel_rfl⟩
        · exact ⟨_, (APath.chunk 2 (by kernel_rfl) (APath.one (.val 5 (.bin .lss) [.t 4, .k (.p (.int .i64 1))]) (by kernel_rfl) (st_bool (c := (decide (a0_.Period < 1))) (by kernel_rfl) hc2) (APath.chunk 3 (by kernel_rfl) (APath.oneG (.val 9 (.bin .gtr) [.t 8, .k (.p (.int .i64 960))]) 6 false (by kernel_rfl) (by kernel_rfl) (st_bool (c := (decide (a0_.Period > 960))) (by kernel_rfl) hc4) (APath.chunk 4 (by kernel_rfl) (APath.oneG (.val 14 (.bin .lss) [.t 13, .k (.p (.int .i64 0))]) 11 false (by kernel_rfl) (by kernel_rfl) (st_bool (c := (decide (a0_.From < 0))) (by kernel_rfl) hc6) (APath.fin (by kernel_rfl)))))))), by simp only [hc2, hc4, hc6]; kernel_rfl⟩
  · refine vc_ite (by kernel_rfl) h (fun hc7 h => ?_) (fun hc7 h => ?_)
    · refine vc_seq ?_
      refine vc_reg (S := ⟨[(2, .p (.int .i64 330))], [], []⟩) (APath.fin (by kernel_rfl)) (by kernel_rfl) ?_
      refine vc_ret ?_
      obtain rfl := some_inj h
      exact ret_of (by kernel_rfl)
    · refine vc_skip ?_
      refine vc_kp ?_
      refine vc_seq ?_
      refine vc_seq ?_
      refine vc_regX ⟨[(32, .p (.bool ((decide (a0_.Long < 1)) || (decide (a0_.Long > a0_.Period)))))], [], []⟩ ?_ ?_
      · rcases Bool.eq_false_or_eq_true (decide (a0_.Long < 1)) with hc8 | hc9
        · exact ⟨_, (APath.chunk 2 (by kernel_rfl) (APath.one (.val 25 (.bin .lss) [.t 24, .k (.p (.int .i64 1))]) (by kernel_rfl) (st_bool (c := (decide (a0_.Long < 1))) (by kernel_rfl) hc8) (APath.fin (by kernel_rfl)))), by simp only [hc8]; kernel_rfl⟩
        · exact ⟨_, (APath.chunk 2 (by kernel_rfl) (APath.one (.val 25 (.bin .lss) [.t 24, .k (.p (.int .i64 1))]) (by kernel_rfl) (st_bool (c := (decide (a0_.Long < 1))) (by kernel_rfl) hc9) (APath.fin (by kernel_rfl)))), by simp only [hc9]; kernel_rfl⟩
      · refine vc_ite (by kernel_rfl) h (fun hc10 h => ?_) (fun hc10 h => ?_)
        · refine vc_seq ?_
          refine vc_reg (S := ⟨[(2, .p (.int .i64 330))], [], []⟩) (APath.fin (by kernel_rfl)) (by kernel_rfl) ?_
          refine vc_ret ?_
          obtain rfl := some_inj h
          exact ret_of (by kernel_rfl)
        · refine vc_skip ?_
          refine vc_kp ?_
          refine vc_seq ?_
          refine vc_reg (S := ⟨[(2, .p (.int .i64 0))], [], []⟩) (APath.fin (by kernel_rfl)) (by kernel_rfl) ?_
          refine vc_ret ?_
          obtain rfl := some_inj h
          exact ret_of (by kernel_rfl)
/- isochronlaw23.drafts -/
theorem law23_drafts_ok (N : Nat) (a0_ : (List Arr3_u8)) (a1_ : Int) (r : (List api_Span)) (h : law23_drafts N a0_ a1_ = some r) : PCall Try.prog 20 [.p (.sl 3 false (List.map e_Arr3_u8 a0_)), .p (.int .i64 a1_)] (.p (.sl 3 false (List.map e_api_Span r))) := by
  unfold law23_drafts at h
  have hH : HP ([] : List HO) [] := trivial
  refine pcall_of chk20 rfl rfl (vc_sound _ _ _ ?_) rfl
  refine vc_seq ?_
  refine vc_reg (S := ⟨[(0, .p (.sl 3 false (List.map e_Arr3_u8 a0_))), (1, .p (.int .i64 a1_))], [], []⟩) (APath.fin (by kernel_rfl)) (by kernel_rfl) ?_
  refine vc_seq ?_
  refine vc_reg (S := ⟨[(0, .p (.sl 3 false (List.map e_Arr3_u8 a0_))), (1, .p (.int .i64 a1_)), (5, .p (.sl 3 true (List.map e_api_Span [])))], [], []⟩) (APath.fin (by kernel_rfl)) (by kernel_rfl) ?_
  refine vc_seq ?_
  refine vc_seq ?_
  refine vc_reg (S := ⟨[(0, .p (.sl 3 false (List.map e_Arr3_u8 a0_))), (1, .p (.int .i64 a1_)), (5, .p (.sl 3 true (List.map e_api_Span []))), (6, .p (.int .i64 0))], [], []⟩) (APath.fin (by kernel_rfl)) (by kernel_rfl) ?_
  refine vc_block ?_
  obtain ⟨o517, ho517, h⟩ := bind_some h
  refine vc_loop ((loop_sim (fun (x : Int × (List api_Span)) s => ∃ (a1 : AV) (H2 : List HO), s = ⟨[(0, .p (.sl 3 false (List.map e_Arr3_u8 a0_))), (1, .p (.int .i64 a1_)), (5, a1), (6, .p (.int .i64 x.1))], [], H2⟩ ∧ HP H2 [.arr a1 3 false (List.map e_api_Span x.2)]) (fun x : Int × (List api_Span) => law23_drafts_L1 N a0_ a1_ x.1 x.2) (fun (p : Int × (List api_Span)) e s => e = .exit 0 ∧ (∃ (a505 : AV) (H506 : List HO), s = ⟨[(0, .p (.sl 3 false (List.map e_Arr3_u8 a0_))), (1, .p (.int .i64 a1_)), (5, a505), (6, .p (.int .i64 p.1))], [], H506⟩ ∧ HP H506 [.arr a505 3 false (List.map e_api_Span p.2)])) ?_ N _ o517 _ ho517 ⟨(.p (.sl 3 true [])), [], (by show _ = _; kernel_rfl), (HP.pick (HP.nilArr hH 3 false) [0] rfl)⟩).mono ?_)
  · clear h ho517
    rintro ⟨i3, l4⟩ o s h hR
    obtain ⟨a1, H2, rfl, hH⟩ := hR
    replace hH : HP H2 [.arr a1 3 false (List.map e_api_Span l4)] := hH
    have hfa1 := own_form (HP.get hH 0 rfl)
    replace h : law23_drafts_L1 N a0_ a1_ i3 l4 = some o := h
    unfold law23_drafts_L1 at h
    refine vc_seq ?_
    refine vc_seq ?_
    refine vc_regX ⟨[(0, .p (.sl 3 false (List.map e_Arr3_u8 a0_))), (1, .p (.int .i64 a1_)), (5, a1), (6, .p (.int .i64 i3)), (15, .p (.bool ((decide (i3 < ((List.length a0_ : Nat) : Int))) && (decide (i3 < a1_)))))], [], H2⟩ ?_ ?_
    · rcases Bool.eq_false_or_eq_true (decide (i3 < ((List.length a0_ : Nat) : Int))) with hc507 | hc508
      · exact ⟨_, (APath.chunk 2 (by rcases hfa1 with ha1e | ⟨_, _, ha1e⟩ <;> subst ha1e <;> kernel_rfl) (APath.one (.val 9 .len [.t 8]) (by kernel_rfl) (st_val (ys := [.p (.sl 3 false (List.map e_Arr3_u8 a0_))]) (by rcases hfa1 with ha1e | ⟨_, _, ha1e⟩ <;> subst ha1e <;> kernel_rfl) (vexec_len e_Arr3_u8)) (APath.one (.val 10 (.bin .lss) [.t 7, .t 9]) (by kernel_rfl) (st_bool (c := (decide (i3 < ((List.length a0_ : Nat) : Int)))) (by rcases hfa1 with ha1e | ⟨_, _, ha1e⟩ <;> subst ha1e <;> kernel_rfl) hc507) (APath.fin (by rcases hfa1 with ha1e | ⟨_, _, ha1e⟩ <;> subst ha1e <;> kernel_rfl))))), by simp only [hc507]; rcases hfa1 with ha1e | ⟨_, _, ha1e⟩ <;> subst ha1e <;> kernel_rfl⟩
      · exact ⟨_, (APath.chunk 2 (by rcases hfa1 with ha1e | ⟨_, _, ha1e⟩ <;> subst ha1e <;> kernel_rfl) (APath.one (.val 9 .len [.t 8]) (by kernel_rfl) (st_val (ys := [.p (.sl 3 false (List.map e_Arr3_u8 a0_))]) (by rcases hfa1 with ha1e | ⟨_, _, ha1e⟩ <;> subst ha1e <;> kernel_rfl) (vexec_len e_Arr3_u8)) (APath.one (.val 10 (.bin .lss) [.t 7, .t 9]) (by kernel_rfl) (st_bool (c := (decide (i3 < ((List.length a0_ : Nat) : Int)))) (by rcases hfa1 with ha1e | ⟨_, _, ha1e⟩ <;> subst ha1e <;> kernel_rfl) hc508) (APath.fin (by rcases hfa1 with ha1e | ⟨_, _, ha1e⟩ <;> subst ha1e <;> kernel_rfl))))), by simp only [hc508]; rcases hfa1 with ha1e | ⟨_, _, ha1e⟩ <;> subst ha1e <;> kernel_rfl⟩
    · refine vc_ite (by kernel_rfl) h (fun hc509 h => ?_) (fun hc509 h => ?_)
      · refine vc_skip ?_
        refine vc_kp ?_
        refine vc_seq ?_
        refine vc_block ?_
        obtain ⟨e510, he510, h⟩ := bind_some h
        obtain ⟨e511, he511, h⟩ := bind_some h
        obtain ⟨e512, he512, h⟩ := bind_some h
        obtain ⟨r513, hr513, h⟩ := bind_some h
        obtain ⟨l516, hl516, h⟩ := bind_some h
        obtain ⟨a514, H515, ha514, hH⟩ := HP.app (k := 0) (a := a1) (sz := 3) (frz := false) e_api_Span hH rfl hl516
        replace hH : HP H515 [.arr a514 3 false (List.map e_api_Span l516)] := hH
        have hfa514 := own_form (HP.get hH 0 rfl)
        refine vc_regD (S := ⟨[(0, .p (.sl 3 false (List.map e_Arr3_u8 a0_))), (1, .p (.int .i64 a1_)), (5, a514), (6, .p (.int .i64 i3))], [], H515⟩) (by rcases hfa1 with ha1e | ⟨_, _, ha1e⟩ <;> subst ha1e <;> kernel_rfl) (APath.chunk 3 (by rcases hfa1 with ha1e | ⟨_, _, ha1e⟩ <;> rcases hfa514 with ha514e | ⟨_, _, ha514e⟩ <;> subst ha1e ha514e <;> kernel_rfl) (APath.one (.val 21 (.iaddrS 3) [.t 19, .t 20]) (by kernel_rfl) (st_val (ys := [.p (.sl 3 false (List.map e_Arr3_u8 a0_)), .p (.int .i64 i3)]) (by rcases hfa1 with ha1e | ⟨_, _, ha1e⟩ <;> rcases hfa514 with ha514e | ⟨_, _, ha514e⟩ <;> subst ha1e ha514e <;> kernel_rfl) (vexec_iaddrS e_Arr3_u8 he510)) (APath.chunk 1 (by rcases hfa1 with ha1e | ⟨_, _, ha1e⟩ <;> rcases hfa514 with ha514e | ⟨_, _, ha514e⟩ <;> subst ha1e ha514e <;> kernel_rfl) (APath.one (.load 23 (.t 22) 1 false) (by kernel_rfl) (st_loadP (sz := 3) (off := 0) (cs := [.int .u8 e510.x0]) (r := .p (.int .u8 e510.x0)) e_Arr3_u8 he510 (by rcases hfa1 with ha1e | ⟨_, _, ha1e⟩ <;> rcases hfa514 with ha514e | ⟨_, _, ha514e⟩ <;> subst ha1e ha514e <;> kernel_rfl) (by rcases hfa1 with ha1e | ⟨_, _, ha1e⟩ <;> rcases hfa514 with ha514e | ⟨_, _, ha514e⟩ <;> subst ha1e ha514e <;> kernel_rfl) (by rcases hfa1 with ha1e | ⟨_, _, ha1e⟩ <;> rcases hfa514 with ha514e | ⟨_, _, ha514e⟩ <;> subst ha1e ha514e <;> kernel_rfl)) (APath.chunk 2 (by rcases hfa1 with ha1e | ⟨_, _, ha1e⟩ <;> rcases hfa514 with ha514e | ⟨_, _, ha514e⟩ <;> subst ha1e ha514e <;> kernel_rfl) (APath.one (.val 26 (.iaddrS 3) [.t 24, .t 25]) (by kernel_rfl) (st_val (ys := [.p (.sl 3 false (List.map e_Arr3_u8 a0_)), .p (.int .i64 i3)]) (by rcases hfa1 with ha1e | ⟨_, _, ha1e⟩ <;> rcases hfa514 with ha514e | ⟨_, _, ha514e⟩ <;> subst ha1e ha514e <;> kernel_rfl) (vexec_iaddrS e_Arr3_u8 he511)) (APath.chunk 1 (by rcases hfa1 with ha1e | ⟨_, _, ha1e⟩ <;> rcases hfa514 with ha514e | ⟨_, _, ha514e⟩ <;> subst ha1e ha514e <;> kernel_rfl) (APath.one (.load 28 (.t 27) 1 false) (by kernel_rfl) (st_loadP (sz := 3) (off := 1) (cs := [.int .u8 e511.x1]) (r := .p (.int .u8 e511.x1)) e_Arr3_u8 he511 (by rcases hfa1 with ha1e | ⟨_, _, ha1e⟩ <;> rcases hfa514 with ha514e | ⟨_, _, ha514e⟩ <;> subst ha1e ha514e <;> kernel_rfl) (by rcases hfa1 with ha1e | ⟨_, _, ha1e⟩ <;> rcases hfa514 with ha514e | ⟨_, _, ha514e⟩ <;> subst ha1e ha514e <;> kernel_rfl) (by rcases hfa1 with ha1e | ⟨_, _, ha1e⟩ <;> rcases hfa514 with ha514e | ⟨_, _, ha514e⟩ <;> subst ha1e ha514e <;> kernel_rfl)) (APath.chunk 2 (by rcases hfa1 with ha1e | ⟨_, _, ha1e⟩ <;> rcases hfa514 with ha514e | ⟨_, _, ha514e⟩ <;> subst ha1e ha514e <;> kernel_rfl) (APath.one (.val 31 (.iaddrS 3) [.t 29, .t 30]) (by kernel_rfl) (st_val (ys := [.p (.sl 3 false (List.map e_Arr3_u8 a0_)), .p (.int .i64 i3)]) (by rcases hfa1 with ha1e | ⟨_, _, ha1e⟩ <;> rcases hfa514 with ha514e | ⟨_, _, ha514e⟩ <;> subst ha1e ha514e <;> kernel_rfl) (vexec_iaddrS e_Arr3_u8 he512)) (APath.chunk 1 (by rcases hfa1 with ha1e | ⟨_, _, ha1e⟩ <;> rcases hfa514 with ha514e | ⟨_, _, ha514e⟩ <;> subst ha1e ha514e <;> kernel_rfl) (APath.one (.load 33 (.t 32) 1 false) (by kernel_rfl) (st_loadP (sz := 3) (off := 2) (cs := [.int .u8 e512.x2]) (r := .p (.int .u8 e512.x2)) e_Arr3_u8 he512 (by rcases hfa1 with ha1e | ⟨_, _, ha1e⟩ <;> rcases hfa514 with ha514e | ⟨_, _, ha514e⟩ <;> subst ha1e ha514e <;> kernel_rfl) (by rcases hfa1 with ha1e | ⟨_, _, ha1e⟩ <;> rcases hfa514 with ha514e | ⟨_, _, ha514e⟩ <;> subst ha1e ha514e <;> kernel_rfl) (by rcases hfa1 with ha1e | ⟨_, _, ha1e⟩ <;> rcases hfa514 with ha514e | ⟨_, _, ha514e⟩ <;> subst ha1e ha514e <;> kernel_rfl)) (APath.one (.callP 34 10 [.t 23, .t 28, .t 33]) (by kernel_rfl) (st_callP (by rcases hfa1 with ha1e | ⟨_, _, ha1e⟩ <;> rcases hfa514 with ha514e | ⟨_, _, ha514e⟩ <;> subst ha1e ha514e <;> kernel_rfl) (ref23_Of_ok N e510.x0 e511.x1 e512.x2 r513 hr513)) (APath.chunk 1 (by rcases hfa1 with ha1e | ⟨_, _, ha1e⟩ <;> rcases hfa514 with ha514e | ⟨_, _, ha514e⟩ <;> subst ha1e ha514e <;> kernel_rfl) (APath.one (.app 36 (.t 18) (.t 35) 3 24) (by kernel_rfl) (st_app (H := H2) (a := a1) (b := .p (.sl 3 true (List.map e_api_Span [r513]))) (by rcases hfa1 with ha1e | ⟨_, _, ha1e⟩ <;> rcases hfa514 with ha514e | ⟨_, _, ha514e⟩ <;> subst ha1e ha514e <;> kernel_rfl) (by rcases hfa1 with ha1e | ⟨_, _, ha1e⟩ <;> rcases hfa514 with ha514e | ⟨_, _, ha514e⟩ <;> subst ha1e ha514e <;> kernel_rfl) (by rcases hfa1 with ha1e | ⟨_, _, ha1e⟩ <;> rcases hfa514 with ha514e | ⟨_, _, ha514e⟩ <;> subst ha1e ha514e <;> kernel_rfl) (by rcases hfa1 with ha1e | ⟨_, _, ha1e⟩ <;> rcases hfa514 with ha514e | ⟨_, _, ha514e⟩ <;> subst ha1e ha514e <;> kernel_rfl) ha514) (APath.fin (by rcases hfa1 with ha1e | ⟨_, _, ha1e⟩ <;> rcases hfa514 with ha514e | ⟨_, _, ha514e⟩ <;> subst ha1e ha514e <;> kernel_rfl))))))))))))))))) (by rcases hfa1 with ha1e | ⟨_, _, ha1e⟩ <;> rcases hfa514 with ha514e | ⟨_, _, ha514e⟩ <;> subst ha1e ha514e <;> kernel_rfl) ?_
        refine vc_reg (S := ⟨[(0, .p (.sl 3 false (List.map e_Arr3_u8 a0_))), (1, .p (.int .i64 a1_)), (5, a514), (6, .p (.int .i64 (w64 (i3 + 1))))], [], H515⟩) (APath.fin (by rcases hfa514 with ha514e | ⟨_, _, ha514e⟩ <;> subst ha514e <;> kernel_rfl)) (by rcases hfa514 with ha514e | ⟨_, _, ha514e⟩ <;> subst ha514e <;> kernel_rfl) ?_
        obtain rfl := some_inj h
        exact ⟨_, rfl, ⟨a514, H515, (by show _ = _; rcases hfa514 with ha514e | ⟨_, _, ha514e⟩ <;> subst ha514e <;> kernel_rfl), (HP.pick hH [0] rfl)⟩⟩
      · refine vc_exit ?_
        try show vc _ _ _ _ _
        obtain rfl := some_inj h
        exact ⟨_, rfl, rfl, ⟨a1, H2, (by show _ = _; rcases hfa1 with ha1e | ⟨_, _, ha1e⟩ <;> subst ha1e <;> kernel_rfl), (HP.pick hH [0] rfl)⟩⟩
  · rintro e s hq
    obtain ⟨rfl, hR⟩ := hq
    obtain ⟨a505, H506, rfl, hH⟩ := hR
    replace hH : HP H506 [.arr a505 3 false (List.map e_api_Span o517.2)] := hH
    have hfa505 := own_form (HP.get hH 0 rfl)
    try show vc _ _ _ _ _
    refine vc_seq ?_
    refine vc_reg (S := ⟨[(4, a505)], [], H506⟩) (APath.fin (by rcases hfa505 with ha505e | ⟨_, _, ha505e⟩ <;> subst ha505e <;> kernel_rfl)) (by rcases hfa505 with ha505e | ⟨_, _, ha505e⟩ <;> subst ha505e <;> kernel_rfl) ?_
    refine vc_ret ?_
    obtain rfl := some_inj h
    exact ret_own (H := H506) (ys := [a505]) (xs := [.p (.sl 3 false (List.map e_api_Span o517.2))]) (by rcases hfa505 with ha505e | ⟨_, _, ha505e⟩ <;> subst ha505e <;> kernel_rfl) (by rcases hfa505 with ha505e | ⟨_, _, ha505e⟩ <;> subst ha505e <;> kernel_rfl) (pureVL_cons (HP.pure (k := 0) (frz := false) e_api_Span hH rfl).2 pureVL_nil) (by kernel_rfl)
/- isochronref23.Shifted -/
theorem ref23_Shifted_ok (N : Nat) (a0_ : api_Span) (a1_ : Int) (r : api_Span) (h : ref23_Shifted N a0_ a1_ = some r) : PCall Try.prog 27 [.agg [.p (.int .i64 a0_.Period), .p (.int .i64 a0_.From), .p (.int .i64 a0_.Long)], .p (.int .i64 a1_)] (.agg [.p (.int .i64 r.Period), .p (.int .i64 r.From), .p (.int .i64 r.Long)]) := by
  unfold ref23_Shifted at h
  have hH : HP ([] : List HO) [] := trivial
  refine pcall_of chk27 rfl rfl (vc_sound _ _ _ ?_) rfl
  refine vc_seq ?_
  refine vc_reg (S := ⟨[(1, .p (.int .i64 a1_)), (2, .loc 2 0), (4, .loc 4 0)], [(2, [.p (.int .i64 a0_.Period), .p (.int .i64 a0_.From), .p (.int .i64 a0_.Long)]), (4, [.p (.int .i64 0), .p (.int .i64 0), .p (.int .i64 0)])], []⟩) (APath.fin (by kernel_rfl)) (by kernel_rfl) ?_
  refine vc_seq ?_
  obtain ⟨m1, hm1, h⟩ := bind_some h
  refine vc_reg (S := ⟨[(2, .loc 2 0), (4, .loc 4 0)], [(2, [.p (.int .i64 a0_.Period), .p (.int .i64 m1), .p (.int .i64 a0_.Long)]), (4, [.p (.int .i64 0), .p (.int .i64 0), .p (.int .i64 0)])], []⟩) (APath.chunk 6 (by kernel_rfl) (APath.one (.val 11 (.bin .rem) [.t 8, .t 10]) (by kernel_rfl) (st_val (ys := [.p (.int .i64 (w64 (a0_.From + a1_))), .p (.int .i64 a0_.Period)]) (by kernel_rfl) (vexec_rem hm1)) (APath.fin (by kernel_rfl)))) (by kernel_rfl) ?_
  refine vc_seq ?_
  refine vc_reg (S := ⟨[(4, .loc 4 0)], [(4, [.p (.int .i64 a0_.Period), .p (.int .i64 m1), .p (.int .i64 a0_.Long)])], []⟩) (APath.fin (by kernel_rfl)) (by kernel_rfl) ?_
  refine vc_ret ?_
  obtain rfl := some_inj h
  exact ret_of (by kernel_rfl)
/- isochronref23.Mod -/
theorem ref23_Mod_ok (N : Nat) (a0_ : Int) (a1_ : Int) (r : Int) (h : ref23_Mod N a0_ a1_ = some r) : PCall Try.prog 28 [.p (.int .i64 a0_), .p (.int .i64 a1_)] (.p (.int .i64 r)) := by
  unfold ref23_Mod at h
  have hH : HP ([] : List HO) [] := trivial
  refine pcall_of chk28 rfl rfl (vc_sound _ _ _ ?_) rfl
  refine vc_seq ?_
  refine vc_reg (S := ⟨[(0, .p (.int .i64 a0_)), (1, .p (.int .i64 a1_))], [], []⟩) (APath.fin (by kernel_rfl)) (by kernel_rfl) ?_
  refine vc_seq ?_
  obtain ⟨m1, hm1, h⟩ := bind_some h
  refine vc_reg (S := ⟨[(1, .p (.int .i64 a1_)), (5, .p (.int .i64 m1))], [], []⟩) (APath.chunk 2 (by kernel_rfl) (APath.one (.val 8 (.bin .rem) [.t 6, .t 7]) (by kernel_rfl) (st_val (ys := [.p (.int .i64 a0_), .p (.int .i64 a1_)]) (by kernel_rfl) (vexec_rem hm1)) (APath.fin (by kernel_rfl)))) (by kernel_rfl) ?_
  obtain ⟨j502, hj502, h⟩ := bind_some h
  refine vc_joinK [5] (fun s => s = ⟨[(5, .p (.int .i64 j502))], [], []⟩) ?_ ?_
  · clear h
    have h := hj502
    refine vc_seq ?_
    refine vc_reg (S := ⟨[(1, .p (.int .i64 a1_)), (5, .p (.int .i64 m1)), (10, .p (.bool (decide (m1 < 0))))], [], []⟩) (APath.fin (by kernel_rfl)) (by kernel_rfl) ?_
    refine vc_ite (by kernel_rfl) h (fun hc503 h => ?_) (fun hc503 h => ?_)
    · refine vc_reg (S := ⟨[(5, .p (.int .i64 (w64 (m1 + a1_))))], [], []⟩) (APath.fin (by kernel_rfl)) (by kernel_rfl) ?_
      obtain rfl := some_inj h
      exact ⟨rfl, (by show _ = _; kernel_rfl)⟩
    · refine vc_skip ?_
      obtain rfl := some_inj h
      exact ⟨rfl, (by show _ = _; kernel_rfl)⟩
  · clear hj502
    rintro s hR
    obtain rfl := hR
    refine vc_seq ?_
    refine vc_reg (S := ⟨[(4, .p (.int .i64 j502))], [], []⟩) (APath.fin (by kernel_rfl)) (by kernel_rfl) ?_
    refine vc_ret ?_
    obtain rfl := some_inj h
    exact ret_of (by kernel_rfl)
/- isochronlaw23.span -/
theorem law23_span_ok (N : Nat) (a0_ : Int) (a1_ : Int) (a2_ : Int) (r : api_Span) (h : law23_span N a0_ a1_ a2_ = some r) : PCall Try.prog 29 [.p (.int .i64 a0_), .p (.int .i64 a1_), .p (.int .i64 a2_)] (.agg [.p (.int .i64 r.Period), .p (.int .i64 r.From), .p (.int .i64 r.Long)]) := by
  unfold law23_span at h
  have hH : HP ([] : List HO) [] := trivial
  refine pcall_of chk29 rfl rfl (vc_sound _ _ _ ?_) rfl
  refine vc_seq ?_
  refine vc_reg (S := ⟨[(0, .p (.int .i64 a0_)), (1, .p (.int .i64 a1_)), (2, .p (.int .i64 a2_)), (6, .loc 6 0)], [(6, [.p (.int .i64 0), .p (.int .i64 0), .p (.int .i64 0)])], []⟩) (APath.fin (by kernel_rfl)) (by kernel_rfl) ?_
  refine vc_seq ?_
  refine vc_reg (S := ⟨[(6, .loc 6 0)], [(6, [.p (.int .i64 a0_), .p (.int .i64 a1_), .p (.int .i64 a2_)])], []⟩) (APath.fin (by kernel_rfl)) (by kernel_rfl) ?_
  refine vc_ret ?_
  obtain rfl := some_inj h
  exact ret_of (by kernel_rfl)
/- residue.mod -/
theorem residue_mod_ok (N : Nat) (a0_ : Int) (a1_ : Int) (r : Int) (h : residue_mod N a0_ a1_ = some r) : PCall Try.prog 30 [.p (.int .i64 a0_), .p (.int .i64 a1_)] (.p (.int .i64 r)) := by
  unfold residue_mod at h
  have hH : HP ([] : List HO) [] := trivial
  refine pcall_of chk30 rfl rfl (vc_sound _ _ _ ?_) rfl
  refine vc_seq ?_
  refine vc_reg (S := ⟨[(0, .p (.int .i64 a0_)), (1, .p (.int .i64 a1_))], [], []⟩) (APath.fin (by kernel_rfl)) (by kernel_rfl) ?_
  refine vc_seq ?_
  obtain ⟨m1, hm1, h⟩ := bind_some h
  obtain ⟨m2, hm2, h⟩ := bind_some h
  refine vc_reg (S := ⟨[(4, .p (.int .i64 m2))], [], []⟩) (APath.chunk 2 (by kernel_rfl) (APath.one (.val 7 (.bin .rem) [.t 5, .t 6]) (by kernel_rfl) (st_val (ys := [.p (.int .i64 a0_), .p (.int .i64 a1_)]) (by kernel_rfl) (vexec_rem hm1)) (APath.chunk 3 (by kernel_rfl) (APath.one (.val 11 (.bin .rem) [.t 9, .t 10]) (by kernel_rfl) (st_val (ys := [.p (.int .i64 (w64 (m1 + a1_))), .p (.int .i64 a1_)]) (by kernel_rfl) (vexec_rem hm2)) (APath.fin (by kernel_rfl)))))) (by kernel_rfl) ?_
  refine vc_ret ?_
  obtain rfl := some_inj h
  exact ret_of (by kernel_rfl)
/- isochronref23.Right -/
theorem ref23_Right_ok (N : Nat) (a0_ : api_Span) (r : Bool) (h : ref23_Right N a0_ = some r) : PCall Try.prog 31 [.agg [.p (.int .i64 a0_.Period), .p (.int .i64 a0_.From), .p (.int .i64 a0_.Long)]] (.p (.bool r)) := by
  unfold ref23_Right at h
  have hH : HP ([] : List HO) [] := trivial
  refine pcall_of chk31 rfl rfl (vc_sound _ _ _ ?_) rfl
  refine vc_seq ?_
  refine vc_reg (S := ⟨[(1, .loc 1 0)], [(1, [.p (.int .i64 a0_.Period), .p (.int .i64 a0_.From), .p (.int .i64 a0_.Long)])], []⟩) (APath.fin (by kernel_rfl)) (by kernel_rfl) ?_
  refine vc_seq ?_
  refine vc_regX ⟨[(2, .p (.bool ((decide (a0_.Period ≥ 1)) && ((decide (a0_.Period ≤ 960)) && ((decide (a0_.From ≥ 0)) && ((decide (a0_.From < a0_.Period)) && ((decide (a0_.Long ≥ 1)) && (decide (a0_.Long ≤ a0_.Period)))))))))], [], []⟩ ?_ ?_
  · rcases Bool.eq_false_or_eq_true (decide (a0_.Period ≥ 1)) with hc1 | hc10
    · rcases Bool.eq_false_or_eq_true (decide (a0_.Period ≤ 960)) with hc2 | hc9
      · rcases Bool.eq_false_or_eq_true (decide (a0_.From ≥ 0)) with hc3 | hc8
        · rcases Bool.eq_false_or_eq_true (decide (a0_.From < a0_.Period)) with hc4 | hc7
          · rcases Bool.eq_false_or_eq_true (decide (a0_.Long ≥ 1)) with hc5 | hc6
            · exact ⟨_, (APath.chunk 2 (by kernel_rfl) (APath.one (.val 5 (.bin .geq) [.t 4, .k (.p (.int .i64 1))]) (by kernel_rfl) (st_bool (c := (decide (a0_.Period ≥ 1))) (by kernel_rfl) hc1) (APath.chunk 3 (by kernel_rfl) (APath.oneG (.val 9 (.bin .leq) [.t 8, .k (.p (.int .i64 960))]) 6 true (by kernel_rfl) (by kernel_rfl) (st_bool (c := (decide (a0_.Period ≤ 960))) (by kernel_rfl) hc2) (APath.chunk 4 (by kernel_rfl) (APath.oneG (.val 14 (.bin .geq) [.t 13, .k (.p (.int .i64 0))]) 11 true (by kernel_rfl) (by kernel_rfl) (st_bool (c := (decide (a0_.From ≥ 0))) (by kernel_rfl) hc3) (APath.chunk 6 (by kernel_rfl) (APath.oneG (.val 21 (.bin .lss) [.t 18, .t 20]) 16 true (by kernel_rfl) (by kernel_rfl) (st_bool (c := (decide (a0_.From < a0_.Period))) (by kernel_rfl) hc4) (APath.chunk 4 (by kernel_rfl) (APath.oneG (.val 26 (.bin .geq) [.t 25, .k (.p (.int .i64 1))]) 23 true (by kernel_rfl) (by kernel_rfl) (st_bool (c := (decide (a0_.Long ≥ 1))) (by kernel_rfl) hc5) (APath.fin (by kernel_rfl)))))))))))), by simp only [hc1, hc2, hc3, hc4, hc5]; kernel_rfl⟩
            · exact ⟨_, (APath.chunk 2 (by kernel_rfl) (APath.one (.val 5 (.bin .geq) [.t 4, .k (.p (.int .i64 1))]) (by kernel_rfl) (st_bool (c := (decide (a0_.Period ≥ 1))) (by kernel_rfl) hc1) (APath.chunk 3 (by kernel_rfl) (APath.oneG (.val 9 (.bin .leq) [.t 8, .k (.p (.int .i64 960))]) 6 true (by kernel_rfl) (by kernel_rfl) (st_bool (c := (decide (a0_.Period ≤ 960))) (by kernel_rfl) hc2) (APath.chunk 4 (by kernel_rfl) (APath.oneG (.val 14 (.bin .geq) [.t 13, .k (.p (.int .i64 0))]) 11 true (by kernel_rfl) (by kernel_rfl) (st_bool (c := (decide (a0_.From ≥ 0))) (by kernel_rfl) hc3) (APath.chunk 6 (by kernel_rfl) (APath.oneG (.val 21 (.bin .lss) [.t 18, .t 20]) 16 true (by kernel_rfl) (by kernel_rfl) (st_bool (c := (decide (a0_.From < a0_.Period))) (by kernel_rfl) hc4) (APath.chunk 4 (by kernel_rfl) (APath.oneG (.val 26 (.bin .geq) [.t 25, .k (.p (.int .i64 1))]) 23 true (by kernel_rfl) (by kernel_rfl) (st_bool (c := (decide (a0_.Long ≥ 1))) (by kernel_rfl) hc6) (APath.fin (by kernel_rfl)))))))))))), by simp only [hc1, hc2, hc3, hc4, hc6]; kernel_rfl⟩
          · exact ⟨_, (APath.chunk 2 (by kernel_rfl) (APath.one (.val 5 (.bin .geq) [.t 4, .k (.p (.int .i64 1))]) (by kernel_rfl) (st_bool (c := (decide (a0_.Period ≥ 1))) (by kernel_rfl) hc1) (APath.chunk 3 (by kernel_rfl) (APath.oneG (.val 9 (.bin .leq) [.t 8, .k (.p (.int .i64 960))]) 6 true (by kernel_rfl) (by kernel_rfl) (st_bool (c := (decide (a0_.Period ≤ 960))) (by kernel_rfl) hc2) (APath.chunk 4 (by kernel_rfl) (APath.oneG (.val 14 (.bin .geq) [.t 13, .k (.p (.int .i64 0))]) 11 true (by kernel_rfl) (by kernel_rfl) (st_bool (c := (decide (a0_.From ≥ 0))) (by kernel_rfl) hc3) (APath.chunk 6 (by kernel_rfl) (APath.oneG (.val 21 (.bin .lss) [.t 18, .t 20]) 16 true (by kernel_rfl) (by kernel_rfl) (st_bool (c := (decide (a0_.From < a0_.Period))) (by kernel_rfl) hc7) (APath.fin (by kernel_rfl)))))))))), by simp only [hc1, hc2, hc3, hc7]; kernel_rfl⟩
        · exact ⟨_, (APath.chunk 2 (by kernel_rfl) (APath.one (.val 5 (.bin .geq) [.t 4, .k (.p (.int .i64 1))]) (by kernel_rfl) (st_bool (c := (decide (a0_.Period ≥ 1))) (by kernel_rfl) hc1) (APath.chunk 3 (by kernel_rfl) (APath.oneG (.val 9 (.bin .leq) [.t 8, .k (.p (.int .i64 960))]) 6 true (by kernel_rfl) (by kernel_rfl) (st_bool (c := (decide (a0_.Period ≤ 960))) (by kernel_rfl) hc2) (APath.chunk 4 (by kernel_rfl) (APath.oneG (.val 14 (.bin .geq) [.t 13, .k (.p (.int .i64 0))]) 11 true (by kernel_rfl) (by kernel_rfl) (st_bool (c := (decide (a0_.From ≥ 0))) (by kernel_rfl) hc8) (APath.fin (by kernel_rfl)))))))), by simp only [hc1, hc2, hc8]; kernel_rfl⟩
      · exact ⟨_, (APath.chunk 2 (by kernel_rfl) (APath.one (.val 5 (.bin .geq) [.t 4, .k (.p (.int .i64 1))]) (by kernel_rfl) (st_bool (c := (decide (a0_.Period ≥ 1))) (by kernel_rfl) hc1) (APath.chunk 3 (by kernel_rfl) (APath.oneG (.val 9 (.bin .leq) [.t 8, .k (.p (.int .i64 960))]) 6 true (by kernel_rfl) (by kernel_rfl) (st_bool (c := (decide (a0_.Period ≤ 960))) (by kernel_rfl) hc9) (APath.fin (by kernel_rfl)))))), by simp only [hc1, hc9]; kernel_rfl⟩
    · exact ⟨_, (APath.chunk 2 (by kernel_rfl) (APath.one (.val 5 (.bin .geq) [.t 4, .k (.p (.int .i64 1))]) (by kernel_rfl) (st_bool (c := (decide (a0_.Period ≥ 1))) (by kernel_rfl) hc10) (APath.fin (by kernel_rfl)))), by simp only [hc10]; kernel_rfl⟩
  · refine vc_ret ?_
    obtain rfl := some_inj h
    exact ret_of (by kernel_rfl)
/- isochronref23.Gcd -/
theorem ref23_Gcd_ok (N : Nat) (a0_ : Int) (a1_ : Int) (r : Int) (h : ref23_Gcd N a0_ a1_ = some r) : PCall Try.prog 36 [.p (.int .i64 a0_), .p (.int .i64 a1_)] (.p (.int .i64 r)) := by
  unfold ref23_Gcd at h
  have hH : HP ([] : List HO) [] := trivial
  refine pcall_of chk36 rfl rfl (vc_sound _ _ _ ?_) rfl
  refine vc_seq ?_
  refine vc_reg (S := ⟨[(0, .p (.int .i64 a0_)), (1, .p (.int .i64 a1_))], [], []⟩) (APath.fin (by kernel_rfl)) (by kernel_rfl) ?_
  refine vc_seq ?_
  refine vc_seq ?_
  refine vc_reg (S := ⟨[(0, .p (.int .i64 a0_)), (1, .p (.int .i64 a1_)), (5, .p (.int .i64 a0_))], [], []⟩) (APath.fin (by kernel_rfl)) (by kernel_rfl) ?_
  refine vc_block ?_
  obtain ⟨o509, ho509, h⟩ := bind_some h
  refine vc_loop ((loop_sim (fun (x : Int) s => s = ⟨[(0, .p (.int .i64 a0_)), (1, .p (.int .i64 a1_)), (5, .p (.int .i64 x))], [], []⟩) (fun x : Int => ref23_Gcd_L1 N a0_ a1_ x) (fun (p : (Int) ⊕ (Int)) e s => match p with | (.inl p) => e = .exit 0 ∧ (s = ⟨[(0, .p (.int .i64 a0_)), (1, .p (.int .i64 a1_)), (5, .p (.int .i64 p))], [], []⟩) | (.inr p) => e = .ret ∧ ∃ xs, resL s i36.res = some xs ∧ tupOf xs = .p (.int .i64 p)) ?_ N _ o509 _ ho509 (by show _ = _; kernel_rfl)).mono ?_)
  · clear h ho509
    rintro i1 o s h hR
    obtain rfl := hR
    replace h : ref23_Gcd_L1 N a0_ a1_ i1 = some o := h
    unfold ref23_Gcd_L1 at h
    refine vc_seq ?_
    refine vc_seq ?_
    refine vc_reg (S := ⟨[(0, .p (.int .i64 a0_)), (1, .p (.int .i64 a1_)), (5, .p (.int .i64 i1)), (8, .p (.bool (decide (i1 > 1))))], [], []⟩) (APath.fin (by kernel_rfl)) (by kernel_rfl) ?_
    refine vc_ite (by kernel_rfl) h (fun hc502 h => ?_) (fun hc502 h => ?_)
    · refine vc_skip ?_
      refine vc_kp ?_
      refine vc_seq ?_
      refine vc_block ?_
      refine vc_seq ?_
      obtain ⟨j507, hj, h⟩ := bind_some h
      refine vc_regXR (fun s => s = ⟨[(0, .p (.int .i64 a0_)), (1, .p (.int .i64 a1_)), (5, .p (.int .i64 i1)), (20, .p (.bool j507))], [], []⟩) ?_ ?_
      · clear h
        obtain ⟨m503, hm503, hj⟩ := bind_some hj
        rcases ite_some hj with ⟨hc504, hj⟩ | ⟨hc506, hj⟩
        · obtain ⟨m505, hm505, hj⟩ := bind_some hj
          obtain rfl := some_inj hj
          exact ⟨_, (APath.chunk 2 (by kernel_rfl) (APath.one (.val 13 (.bin .rem) [.t 11, .t 12]) (by kernel_rfl) (st_val (ys := [.p (.int .i64 a0_), .p (.int .i64 i1)]) (by kernel_rfl) (vexec_rem hm503)) (APath.one (.val 14 (.bin .eql) [.t 13, .k (.p (.int .i64 0))]) (by kernel_rfl) (st_bool (c := (m503 == 0)) (by kernel_rfl) hc504) (APath.chunk 3 (by kernel_rfl) (APath.oneG (.val 18 (.bin .rem) [.t 16, .t 17]) 15 true (by kernel_rfl) (by kernel_rfl) (st_val (ys := [.p (.int .i64 a1_), .p (.int .i64 i1)]) (by kernel_rfl) (vexec_rem hm505)) (APath.fin (by kernel_rfl))))))), (by show _ = _; kernel_rfl)⟩
        · obtain rfl := some_inj hj
          exact ⟨_, (APath.chunk 2 (by kernel_rfl) (APath.one (.val 13 (.bin .rem) [.t 11, .t 12]) (by kernel_rfl) (st_val (ys := [.p (.int .i64 a0_), .p (.int .i64 i1)]) (by kernel_rfl) (vexec_rem hm503)) (APath.one (.val 14 (.bin .eql) [.t 13, .k (.p (.int .i64 0))]) (by kernel_rfl) (st_bool (c := (m503 == 0)) (by kernel_rfl) hc506) (APath.fin (by kernel_rfl))))), (by show _ = _; kernel_rfl)⟩
      · clear hj
        rintro s hR
        obtain rfl := hR
        refine vc_ite (by kernel_rfl) h (fun hc508 h => ?_) (fun hc508 h => ?_)
        · refine vc_seq ?_
          refine vc_reg (S := ⟨[(4, .p (.int .i64 i1))], [], []⟩) (APath.fin (by kernel_rfl)) (by kernel_rfl) ?_
          refine vc_ret ?_
          obtain rfl := some_inj h
          exact ⟨_, rfl, rfl, ret_of (by kernel_rfl)⟩
        · refine vc_skip ?_
          refine vc_kp ?_
          refine vc_reg (S := ⟨[(0, .p (.int .i64 a0_)), (1, .p (.int .i64 a1_)), (5, .p (.int .i64 (w64 (i1 - 1))))], [], []⟩) (APath.fin (by kernel_rfl)) (by kernel_rfl) ?_
          obtain rfl := some_inj h
          exact ⟨_, rfl, (by show _ = _; kernel_rfl)⟩
    · refine vc_exit ?_
      try show vc _ _ _ _ _
      obtain rfl := some_inj h
      exact ⟨_, rfl, rfl, (by show _ = _; kernel_rfl)⟩
  · rintro e s hq
    rcases o509 with p510 | p511
    · dsimp only at h hq
      obtain ⟨rfl, hR⟩ := hq
      obtain rfl := hR
      try show vc _ _ _ _ _
      refine vc_seq ?_
      refine vc_reg (S := ⟨[(4, .p (.int .i64 1))], [], []⟩) (APath.fin (by kernel_rfl)) (by kernel_rfl) ?_
      refine vc_ret ?_
      obtain rfl := some_inj h
      exact ret_of (by kernel_rfl)
    · dsimp only at h hq
      obtain ⟨rfl, hq⟩ := hq
      obtain rfl := some_inj h
      exact hq
/- residue.checkAll -/
theorem residue_checkAll_ok (N : Nat) (a0_ : (List api_Span)) (r : Int) (h : residue_checkAll N a0_ = some r) : PCall Try.prog 37 [.p (.sl 3 false (List.map e_api_Span a0_))] (.p (.int .i64 r)) := by
  unfold residue_checkAll at h
  have hH : HP ([] : List HO) [] := trivial
  refine pcall_of chk37 rfl rfl (vc_sound _ _ _ ?_) rfl
  refine vc_seq ?_
  refine vc_reg (S := ⟨[(0, .p (.sl 3 false (List.map e_api_Span a0_)))], [], []⟩) (APath.fin (by kernel_rfl)) (by kernel_rfl) ?_
  refine vc_seq ?_
  refine vc_seq ?_
  refine vc_reg (S := ⟨[(0, .p (.sl 3 false (List.map e_api_Span a0_))), (8, .p (.bool (decide (((List.length a0_ : Nat) : Int) > 32))))], [], []⟩) (APath.chunk 1 (by kernel_rfl) (APath.one (.val 7 .len [.t 6]) (by kernel_rfl) (st_val (ys := [.p (.sl 3 false (List.map e_api_Span a0_))]) (by kernel_rfl) (vexec_len e_api_Span)) (APath.fin (by kernel_rfl)))) (by kernel_rfl) ?_
  refine vc_ite (by kernel_rfl) h (fun hc1 h => ?_) (fun hc1 h => ?_)
  · refine vc_seq ?_
    refine vc_reg (S := ⟨[(2, .p (.int .i64 3))], [], []⟩) (APath.fin (by kernel_rfl)) (by kernel_rfl) ?_
    refine vc_ret ?_
    obtain rfl := some_inj h
    exact ret_of (by kernel_rfl)
  · refine vc_skip ?_
    refine vc_kp ?_
    refine vc_seq ?_
    refine vc_seq ?_
    refine vc_reg (S := ⟨[(9, .p (.sl 3 false (List.map e_api_Span a0_))), (10, .p (.int .i64 ((List.length a0_ : Nat) : Int))), (11, .p (.int .i64 0))], [], []⟩) (APath.chunk 1 (by kernel_rfl) (APath.one (.val 10 .len [.t 9]) (by kernel_rfl) (st_val (ys := [.p (.sl 3 false (List.map e_api_Span a0_))]) (by kernel_rfl) (vexec_len e_api_Span)) (APath.fin (by kernel_rfl)))) (by kernel_rfl) ?_
    refine vc_block ?_
    obtain ⟨o507, ho507, h⟩ := bind_some h
    refine vc_loop ((loop_sim (fun (x : Int) s => s = ⟨[(9, .p (.sl 3 false (List.map e_api_Span a0_))), (10, .p (.int .i64 ((List.length a0_ : Nat) : Int))), (11, .p (.int .i64 x))], [], []⟩) (fun x : Int => residue_checkAll_L1 N a0_ x) (fun (p : (Int) ⊕ (Int)) e s => match p with | (.inl p) => e = .exit 0 ∧ (s = ⟨[(9, .p (.sl 3 false (List.map e_api_Span a0_))), (10, .p (.int .i64 ((List.length a0_ : Nat) : Int))), (11, .p (.int .i64 p))], [], []⟩) | (.inr p) => e = .ret ∧ ∃ xs, resL s i37.res = some xs ∧ tupOf xs = .p (.int .i64 p)) ?_ N _ o507 _ ho507 (by show _ = _; kernel_rfl)).mono ?_)
    · clear h ho507
      rintro i2 o s h hR
      obtain rfl := hR
      replace h : residue_checkAll_L1 N a0_ i2 = some o := h
      unfold residue_checkAll_L1 at h
      refine vc_seq ?_
      refine vc_reg (S := ⟨[(9, .p (.sl 3 false (List.map e_api_Span a0_))), (10, .p (.int .i64 ((List.length a0_ : Nat) : Int))), (11, .p (.int .i64 i2)), (12, .p (.bool (decide (i2 < ((List.length a0_ : Nat) : Int)))))], [], []⟩) (APath.fin (by kernel_rfl)) (by kernel_rfl) ?_
      refine vc_seq ?_
      refine vc_ite (by kernel_rfl) h (fun hc503 h => ?_) (fun hc503 h => ?_)
      · refine vc_skip ?_
        refine vc_kp ?_
        refine vc_seq ?_
        refine vc_block ?_
        refine vc_seq ?_
        obtain ⟨e504, he504, h⟩ := bind_some h
        refine vc_reg (S := ⟨[(4, .loc 4 0), (9, .p (.sl 3 false (List.map e_api_Span a0_))), (10, .p (.int .i64 ((List.length a0_ : Nat) : Int))), (11, .p (.int .i64 i2))], [(4, [.p (.int .i64 e504.Period), .p (.int .i64 e504.From), .p (.int .i64 e504.Long)])], []⟩) (APath.one (.val 13 (.iaddrS 3) [.t 9, .t 11]) (by kernel_rfl) (st_val (ys := [.p (.sl 3 false (List.map e_api_Span a0_)), .p (.int .i64 i2)]) (by kernel_rfl) (vexec_iaddrS e_api_Span he504)) (APath.one (.load 14 (.t 13) 3 true) (by kernel_rfl) (st_loadP (sz := 3) (off := 0) (cs := [.int .i64 e504.Period, .int .i64 e504.From, .int .i64 e504.Long]) (r := .agg [.p (.int .i64 e504.Period), .p (.int .i64 e504.From), .p (.int .i64 e504.Long)]) e_api_Span he504 (by kernel_rfl) (by kernel_rfl) (by kernel_rfl)) (APath.fin (by kernel_rfl)))) (by kernel_rfl) ?_
        refine vc_seq ?_
        obtain ⟨r505, hr505, h⟩ := bind_some h
        refine vc_reg (S := ⟨[(5, .p (.int .i64 r505)), (9, .p (.sl 3 false (List.map e_api_Span a0_))), (10, .p (.int .i64 ((List.length a0_ : Nat) : Int))), (11, .p (.int .i64 i2))], [], []⟩) (APath.chunk 1 (by kernel_rfl) (APath.one (.call (some 16) 13 [.t 15]) (by kernel_rfl) (st_call (by kernel_rfl) (residue_Check_ok N e504 r505 hr505)) (APath.fin (by kernel_rfl)))) (by kernel_rfl) ?_
        refine vc_seq ?_
        refine vc_reg (S := ⟨[(5, .p (.int .i64 r505)), (9, .p (.sl 3 false (List.map e_api_Span a0_))), (10, .p (.int .i64 ((List.length a0_ : Nat) : Int))), (11, .p (.int .i64 i2)), (18, .p (.bool (r505 != 0)))], [], []⟩) (APath.fin (by kernel_rfl)) (by kernel_rfl) ?_
        refine vc_ite (by kernel_rfl) h (fun hc506 h => ?_) (fun hc506 h => ?_)
        · refine vc_seq ?_
          refine vc_reg (S := ⟨[(2, .p (.int .i64 r505))], [], []⟩) (APath.fin (by kernel_rfl)) (by kernel_rfl) ?_
          refine vc_ret ?_
          obtain rfl := some_inj h
          exact ⟨_, rfl, rfl, ret_of (by kernel_rfl)⟩
        · refine vc_skip ?_
          refine vc_kp ?_
          refine vc_reg (S := ⟨[(9, .p (.sl 3 false (List.map e_api_Span a0_))), (10, .p (.int .i64 ((List.length a0_ : Nat) : Int))), (11, .p (.int .i64 (w64 (i2 + 1))))], [], []⟩) (APath.fin (by kernel_rfl)) (by kernel_rfl) ?_
          obtain rfl := some_inj h
          exact ⟨_, rfl, (by show _ = _; kernel_rfl)⟩
      · refine vc_exit ?_
        try show vc _ _ _ _ _
        obtain rfl := some_inj h
        exact ⟨_, rfl, rfl, (by show _ = _; kernel_rfl)⟩
    · rintro e s hq
      rcases o507 with p508 | p509
      · dsimp only at h hq
        obtain ⟨rfl, hR⟩ := hq
        obtain rfl := hR
        try show vc _ _ _ _ _
        refine vc_seq ?_
        refine vc_reg (S := ⟨[(2, .p (.int .i64 0))], [], []⟩) (APath.fin (by kernel_rfl)) (by kernel_rfl) ?_
        refine vc_ret ?_
        obtain rfl := some_inj h
        exact ret_of (by kernel_rfl)
      · dsimp only at h hq
        obtain ⟨rfl, hq⟩ := hq
        obtain rfl := some_inj h
        exact hq
/- residue.shifted -/
theorem residue_shifted_ok (N : Nat) (a0_ : api_Span) (a1_ : Int) (r : api_Span) (h : residue_shifted N a0_ a1_ = some r) : PCall Try.prog 38 [.agg [.p (.int .i64 a0_.Period), .p (.int .i64 a0_.From), .p (.int .i64 a0_.Long)], .p (.int .i64 a1_)] (.agg [.p (.int .i64 r.Period), .p (.int .i64 r.From), .p (.int .i64 r.Long)]) := by
  unfold residue_shifted at h
  have hH : HP ([] : List HO) [] := trivial
  refine pcall_of chk38 rfl rfl (vc_sound _ _ _ ?_) rfl
  refine vc_seq ?_
  refine vc_reg (S := ⟨[(1, .p (.int .i64 a1_)), (2, .loc 2 0), (4, .loc 4 0)], [(2, [.p (.int .i64 a0_.Period), .p (.int .i64 a0_.From), .p (.int .i64 a0_.Long)]), (4, [.p (.int .i64 0), .p (.int .i64 0), .p (.int .i64 0)])], []⟩) (APath.fin (by kernel_rfl)) (by kernel_rfl) ?_
  refine vc_seq ?_
  obtain ⟨m1, hm1, h⟩ := bind_some h
  refine vc_reg (S := ⟨[(2, .loc 2 0), (4, .loc 4 0)], [(2, [.p (.int .i64 a0_.Period), .p (.int .i64 m1), .p (.int .i64 a0_.Long)]), (4, [.p (.int .i64 0), .p (.int .i64 0), .p (.int .i64 0)])], []⟩) (APath.chunk 6 (by kernel_rfl) (APath.one (.val 11 (.bin .rem) [.t 8, .t 10]) (by kernel_rfl) (st_val (ys := [.p (.int .i64 (w64 (a0_.From + a1_))), .p (.int .i64 a0_.Period)]) (by kernel_rfl) (vexec_rem hm1)) (APath.fin (by kernel_rfl)))) (by kernel_rfl) ?_
  refine vc_seq ?_
  refine vc_reg (S := ⟨[(4, .loc 4 0)], [(4, [.p (.int .i64 a0_.Period), .p (.int .i64 m1), .p (.int .i64 a0_.Long)])], []⟩) (APath.fin (by kernel_rfl)) (by kernel_rfl) ?_
  refine vc_ret ?_
  obtain rfl := some_inj h
  exact ret_of (by kernel_rfl)
/- isochronref23.list -/
theorem ref23_list_ok (N : Nat) (a0_ : (List api_Span)) (r : Int) (h : ref23_list N a0_ = some r) : PCall Try.prog 39 [.p (.sl 3 false (List.map e_api_Span a0_))] (.p (.int .i64 r)) := by
  unfold ref23_list at h
  have hH : HP ([] : List HO) [] := trivial
  refine pcall_of chk39 rfl rfl (vc_sound _ _ _ ?_) rfl
  refine vc_seq ?_
  refine vc_reg (S := ⟨[(0, .p (.sl 3 false (List.map e_api_Span a0_)))], [], []⟩) (APath.fin (by kernel_rfl)) (by kernel_rfl) ?_
  refine vc_seq ?_
  refine vc_seq ?_
  refine vc_reg (S := ⟨[(0, .p (.sl 3 false (List.map e_api_Span a0_))), (6, .p (.bool (decide (((List.length a0_ : Nat) : Int) > 32))))], [], []⟩) (APath.chunk 1 (by kernel_rfl) (APath.one (.val 5 .len [.t 4]) (by kernel_rfl) (st_val (ys := [.p (.sl 3 false (List.map e_api_Span a0_))]) (by kernel_rfl) (vexec_len e_api_Span)) (APath.fin (by kernel_rfl)))) (by kernel_rfl) ?_
  refine vc_ite (by kernel_rfl) h (fun hc1 h => ?_) (fun hc1 h => ?_)
  · refine vc_seq ?_
    refine vc_reg (S := ⟨[(2, .p (.int .i64 3))], [], []⟩) (APath.fin (by kernel_rfl)) (by kernel_rfl) ?_
    refine vc_ret ?_
    obtain rfl := some_inj h
    exact ret_of (by kernel_rfl)
  · refine vc_skip ?_
    refine vc_kp ?_
    refine vc_seq ?_
    refine vc_seq ?_
    refine vc_reg (S := ⟨[(0, .p (.sl 3 false (List.map e_api_Span a0_))), (3, .p (.int .i64 0))], [], []⟩) (APath.fin (by kernel_rfl)) (by kernel_rfl) ?_
    refine vc_block ?_
    obtain ⟨o507, ho507, h⟩ := bind_some h
    refine vc_loop ((loop_sim (fun (x : Int) s => s = ⟨[(0, .p (.sl 3 false (List.map e_api_Span a0_))), (3, .p (.int .i64 x))], [], []⟩) (fun x : Int => ref23_list_L1 N a0_ x) (fun (p : (Int) ⊕ (Int)) e s => match p with | (.inl p) => e = .exit 0 ∧ (s = ⟨[(0, .p (.sl 3 false (List.map e_api_Span a0_))), (3, .p (.int .i64 p))], [], []⟩) | (.inr p) => e = .ret ∧ ∃ xs, resL s i39.res = some xs ∧ tupOf xs = .p (.int .i64 p)) ?_ N _ o507 _ ho507 (by show _ = _; kernel_rfl)).mono ?_)
    · clear h ho507
      rintro i2 o s h hR
      obtain rfl := hR
      replace h : ref23_list_L1 N a0_ i2 = some o := h
      unfold ref23_list_L1 at h
      refine vc_seq ?_
      refine vc_seq ?_
      refine vc_reg (S := ⟨[(0, .p (.sl 3 false (List.map e_api_Span a0_))), (3, .p (.int .i64 i2)), (10, .p (.bool (decide (i2 < ((List.length a0_ : Nat) : Int)))))], [], []⟩) (APath.chunk 2 (by kernel_rfl) (APath.one (.val 9 .len [.t 8]) (by kernel_rfl) (st_val (ys := [.p (.sl 3 false (List.map e_api_Span a0_))]) (by kernel_rfl) (vexec_len e_api_Span)) (APath.fin (by kernel_rfl)))) (by kernel_rfl) ?_
      refine vc_ite (by kernel_rfl) h (fun hc503 h => ?_) (fun hc503 h => ?_)
      · refine vc_skip ?_
        refine vc_kp ?_
        refine vc_seq ?_
        refine vc_block ?_
        refine vc_seq ?_
        obtain ⟨e504, he504, h⟩ := bind_some h
        obtain ⟨r505, hr505, h⟩ := bind_some h
        refine vc_reg (S := ⟨[(0, .p (.sl 3 false (List.map e_api_Span a0_))), (3, .p (.int .i64 i2)), (18, .p (.bool (!r505)))], [], []⟩) (APath.chunk 2 (by kernel_rfl) (APath.one (.val 15 (.iaddrS 3) [.t 13, .t 14]) (by kernel_rfl) (st_val (ys := [.p (.sl 3 false (List.map e_api_Span a0_)), .p (.int .i64 i2)]) (by kernel_rfl) (vexec_iaddrS e_api_Span he504)) (APath.one (.load 16 (.t 15) 3 true) (by kernel_rfl) (st_loadP (sz := 3) (off := 0) (cs := [.int .i64 e504.Period, .int .i64 e504.From, .int .i64 e504.Long]) (r := .agg [.p (.int .i64 e504.Period), .p (.int .i64 e504.From), .p (.int .i64 e504.Long)]) e_api_Span he504 (by kernel_rfl) (by kernel_rfl) (by kernel_rfl)) (APath.one (.call (some 17) 31 [.t 16]) (by kernel_rfl) (st_call (by kernel_rfl) (ref23_Right_ok N e504 r505 hr505)) (APath.fin (by kernel_rfl)))))) (by kernel_rfl) ?_
        refine vc_ite (by kernel_rfl) h (fun hc506 h => ?_) (fun hc506 h => ?_)
        · refine vc_seq ?_
          refine vc_reg (S := ⟨[(2, .p (.int .i64 330))], [], []⟩) (APath.fin (by kernel_rfl)) (by kernel_rfl) ?_
          refine vc_ret ?_
          obtain rfl := some_inj h
          exact ⟨_, rfl, rfl, ret_of (by kernel_rfl)⟩
        · refine vc_skip ?_
          refine vc_kp ?_
          refine vc_reg (S := ⟨[(0, .p (.sl 3 false (List.map e_api_Span a0_))), (3, .p (.int .i64 (w64 (i2 + 1))))], [], []⟩) (APath.fin (by kernel_rfl)) (by kernel_rfl) ?_
          obtain rfl := some_inj h
          exact ⟨_, rfl, (by show _ = _; kernel_rfl)⟩
      · refine vc_exit ?_
        try show vc _ _ _ _ _
        obtain rfl := some_inj h
        exact ⟨_, rfl, rfl, (by show _ = _; kernel_rfl)⟩
    · rintro e s hq
      rcases o507 with p508 | p509
      · dsimp only at h hq
        obtain ⟨rfl, hR⟩ := hq
        obtain rfl := hR
        try show vc _ _ _ _ _
        refine vc_seq ?_
        refine vc_reg (S := ⟨[(2, .p (.int .i64 0))], [], []⟩) (APath.fin (by kernel_rfl)) (by kernel_rfl) ?_
        refine vc_ret ?_
        obtain rfl := some_inj h
        exact ret_of (by kernel_rfl)
      · dsimp only at h hq
        obtain ⟨rfl, hq⟩ := hq
        obtain rfl := some_inj h
        exact hq
/- residue.gcd -/
theorem residue_gcd_ok (N : Nat) (a0_ : Int) (a1_ : Int) (r : Int) (h : residue_gcd N a0_ a1_ = some r) : PCall Try.prog 42 [.p (.int .i64 a0_), .p (.int .i64 a1_)] (.p (.int .i64 r)) := by
  unfold residue_gcd at h
  have hH : HP ([] : List HO) [] := trivial
  refine pcall_of chk42 rfl rfl (vc_sound _ _ _ ?_) rfl
  refine vc_seq ?_
  refine vc_reg (S := ⟨[(0, .p (.int .i64 a0_)), (1, .p (.int .i64 a1_))], [], []⟩) (APath.fin (by kernel_rfl)) (by kernel_rfl) ?_
  refine vc_seq ?_
  refine vc_block ?_
  obtain ⟨o505, ho505, h⟩ := bind_some h
  refine vc_loop ((loop_sim (fun (x : Int × Int) s => s = ⟨[(0, .p (.int .i64 x.1)), (1, .p (.int .i64 x.2))], [], []⟩) (fun x : Int × Int => residue_gcd_L1 N x.1 x.2) (fun (p : Int × Int) e s => e = .exit 0 ∧ (s = ⟨[(0, .p (.int .i64 p.1)), (1, .p (.int .i64 p.2))], [], []⟩)) ?_ N _ o505 _ ho505 (by show _ = _; kernel_rfl)).mono ?_)
  · clear h ho505
    rintro ⟨i1, i2⟩ o s h hR
    obtain rfl := hR
    replace h : residue_gcd_L1 N i1 i2 = some o := h
    unfold residue_gcd_L1 at h
    refine vc_seq ?_
    refine vc_seq ?_
    refine vc_reg (S := ⟨[(0, .p (.int .i64 i1)), (1, .p (.int .i64 i2)), (6, .p (.bool (i2 != 0)))], [], []⟩) (APath.fin (by kernel_rfl)) (by kernel_rfl) ?_
    refine vc_ite (by kernel_rfl) h (fun hc503 h => ?_) (fun hc503 h => ?_)
    · refine vc_skip ?_
      refine vc_kp ?_
      refine vc_block ?_
      obtain ⟨m504, hm504, h⟩ := bind_some h
      refine vc_regD (S := ⟨[(0, .p (.int .i64 i2)), (1, .p (.int .i64 m504))], [], []⟩) (by kernel_rfl) (APath.chunk 3 (by kernel_rfl) (APath.one (.val 10 (.bin .rem) [.t 8, .t 9]) (by kernel_rfl) (st_val (ys := [.p (.int .i64 i1), .p (.int .i64 i2)]) (by kernel_rfl) (vexec_rem hm504)) (APath.fin (by kernel_rfl)))) (by kernel_rfl) ?_
      obtain rfl := some_inj h
      exact ⟨_, rfl, (by show _ = _; kernel_rfl)⟩
    · refine vc_exit ?_
      try show vc _ _ _ _ _
      obtain rfl := some_inj h
      exact ⟨_, rfl, rfl, (by show _ = _; kernel_rfl)⟩
  · rintro e s hq
    obtain ⟨rfl, hR⟩ := hq
    obtain rfl := hR
    try show vc _ _ _ _ _
    refine vc_seq ?_
    refine vc_reg (S := ⟨[(4, .p (.int .i64 o505.1))], [], []⟩) (APath.fin (by kernel_rfl)) (by kernel_rfl) ?_
    refine vc_ret ?_
    obtain rfl := some_inj h
    exact ret_of (by kernel_rfl)
/- residue.Covers -/
theorem residue_Covers_ok (N : Nat) (a0_ : api_Span) (a1_ : Int) (r : Bool × Int) (h : residue_Covers N a0_ a1_ = some r) : PCall Try.prog 11 [.agg [.p (.int .i64 a0_.Period), .p (.int .i64 a0_.From), .p (.int .i64 a0_.Long)], .p (.int .i64 a1_)] (.tup [.p (.bool r.1), .p (.int .i64 r.2)]) := by
  unfold residue_Covers at h
  have hH : HP ([] : List HO) [] := trivial
  refine pcall_of chk11 rfl rfl (vc_sound _ _ _ ?_) rfl
  refine vc_seq ?_
  refine vc_reg (S := ⟨[(1, .p (.int .i64 a1_)), (2, .loc 2 0)], [(2, [.p (.int .i64 a0_.Period), .p (.int .i64 a0_.From), .p (.int .i64 a0_.Long)])], []⟩) (APath.fin (by kernel_rfl)) (by kernel_rfl) ?_
  refine vc_seq ?_
  refine vc_seq ?_
  obtain ⟨r1, hr1, h⟩ := bind_some h
  refine vc_reg (S := ⟨[(1, .p (.int .i64 a1_)), (2, .loc 2 0), (6, .p (.int .i64 r1))], [(2, [.p (.int .i64 a0_.Period), .p (.int .i64 a0_.From), .p (.int .i64 a0_.Long)])], []⟩) (APath.chunk 1 (by kernel_rfl) (APath.one (.call (some 8) 13 [.t 7]) (by kernel_rfl) (st_call (by kernel_rfl) (residue_Check_ok N a0_ r1 hr1)) (APath.fin (by kernel_rfl)))) (by kernel_rfl) ?_
  refine vc_seq ?_
  refine vc_reg (S := ⟨[(1, .p (.int .i64 a1_)), (2, .loc 2 0), (6, .p (.int .i64 r1)), (10, .p (.bool (r1 != 0)))], [(2, [.p (.int .i64 a0_.Period), .p (.int .i64 a0_.From), .p (.int .i64 a0_.Long)])], []⟩) (APath.fin (by kernel_rfl)) (by kernel_rfl) ?_
  refine vc_ite (by kernel_rfl) h (fun hc2 h => ?_) (fun hc2 h => ?_)
  · refine vc_seq ?_
    refine vc_reg (S := ⟨[(4, .p (.bool false)), (5, .p (.int .i64 r1))], [], []⟩) (APath.fin (by kernel_rfl)) (by kernel_rfl) ?_
    refine vc_ret ?_
    obtain rfl := some_inj h
    exact ret_of (by kernel_rfl)
  · refine vc_skip ?_
    refine vc_kp ?_
    refine vc_seq ?_
    refine vc_seq ?_
    refine vc_regX ⟨[(1, .p (.int .i64 a1_)), (2, .loc 2 0), (17, .p (.bool ((decide (a1_ < (-1099511627776))) || (decide (a1_ > 1099511627776)))))], [(2, [.p (.int .i64 a0_.Period), .p (.int .i64 a0_.From), .p (.int .i64 a0_.Long)])], []⟩ ?_ ?_
    · rcases Bool.eq_false_or_eq_true (decide (a1_ < (-1099511627776))) with hc3 | hc4
      · exact ⟨_, (APath.chunk 1 (by kernel_rfl) (APath.one (.val 13 (.bin .lss) [.t 12, .k (.p (.int .i64 (-1099511627776)))]) (by kernel_rfl) (st_bool (c := (decide (a1_ < (-1099511627776)))) (by kernel_rfl) hc3) (APath.fin (by kernel_rfl)))), by simp only [hc3]; kernel_rfl⟩
      · exact ⟨_, (APath.chunk 1 (by kernel_rfl) (APath.one (.val 13 (.bin .lss) [.t 12, .k (.p (.int .i64 (-1099511627776)))]) (by kernel_rfl) (st_bool (c := (decide (a1_ < (-1099511627776)))) (by kernel_rfl) hc4) (APath.fin (by kernel_rfl)))), by simp only [hc4]; kernel_rfl⟩
    · refine vc_ite (by kernel_rfl) h (fun hc5 h => ?_) (fun hc5 h => ?_)
      · refine vc_seq ?_
        refine vc_reg (S := ⟨[(4, .p (.bool false)), (5, .p (.int .i64 2))], [], []⟩) (APath.fin (by kernel_rfl)) (by kernel_rfl) ?_
        refine vc_ret ?_
        obtain rfl := some_inj h
        exact ret_of (by kernel_rfl)
      · refine vc_skip ?_
        refine vc_kp ?_
        refine vc_seq ?_
        obtain ⟨r6, hr6, h⟩ := bind_some h
        refine vc_regD (S := ⟨[(4, .p (.bool (decide (r6 < a0_.Long)))), (5, .p (.int .i64 0))], [], []⟩) (by kernel_rfl) (APath.chunk 6 (by kernel_rfl) (APath.one (.callP 24 30 [.t 21, .t 23]) (by kernel_rfl) (st_callP (by kernel_rfl) (residue_mod_ok N (w64 (a1_ - a0_.From)) a0_.Period r6 hr6)) (APath.fin (by kernel_rfl)))) (by kernel_rfl) ?_
        refine vc_ret ?_
        obtain rfl := some_inj h
        exact ret_of (by kernel_rfl)
/- isochronref23.Covers -/
theorem ref23_Covers_ok (N : Nat) (a0_ : api_Span) (a1_ : Int) (r : Bool × Int) (h : ref23_Covers N a0_ a1_ = some r) : PCall Try.prog 12 [.agg [.p (.int .i64 a0_.Period), .p (.int .i64 a0_.From), .p (.int .i64 a0_.Long)], .p (.int .i64 a1_)] (.tup [.p (.bool r.1), .p (.int .i64 r.2)]) := by
  unfold ref23_Covers at h
  have hH : HP ([] : List HO) [] := trivial
  refine pcall_of chk12 rfl rfl (vc_sound _ _ _ ?_) rfl
  refine vc_seq ?_
  refine vc_reg (S := ⟨[(1, .p (.int .i64 a1_)), (2, .loc 2 0)], [(2, [.p (.int .i64 a0_.Period), .p (.int .i64 a0_.From), .p (.int .i64 a0_.Long)])], []⟩) (APath.fin (by kernel_rfl)) (by kernel_rfl) ?_
  refine vc_seq ?_
  refine vc_seq ?_
  obtain ⟨r1, hr1, h⟩ := bind_some h
  refine vc_reg (S := ⟨[(1, .p (.int .i64 a1_)), (2, .loc 2 0), (8, .p (.bool (!r1)))], [(2, [.p (.int .i64 a0_.Period), .p (.int .i64 a0_.From), .p (.int .i64 a0_.Long)])], []⟩) (APath.chunk 1 (by kernel_rfl) (APath.one (.call (some 7) 31 [.t 6]) (by kernel_rfl) (st_call (by kernel_rfl) (ref23_Right_ok N a0_ r1 hr1)) (APath.fin (by kernel_rfl)))) (by kernel_rfl) ?_
  refine vc_ite (by kernel_rfl) h (fun hc2 h => ?_) (fun hc2 h => ?_)
  · refine vc_seq ?_
    refine vc_reg (S := ⟨[(4, .p (.bool false)), (5, .p (.int .i64 330))], [], []⟩) (APath.fin (by kernel_rfl)) (by kernel_rfl) ?_
    refine vc_ret ?_
    obtain rfl := some_inj h
    exact ret_of (by kernel_rfl)
  · refine vc_skip ?_
    refine vc_kp ?_
    refine vc_seq ?_
    refine vc_seq ?_
    refine vc_regX ⟨[(1, .p (.int .i64 a1_)), (2, .loc 2 0), (14, .p (.bool ((decide (a1_ < (-1099511627776))) || (decide (a1_ > 1099511627776)))))], [(2, [.p (.int .i64 a0_.Period), .p (.int .i64 a0_.From), .p (.int .i64 a0_.Long)])], []⟩ ?_ ?_
    · rcases Bool.eq_false_or_eq_true (decide (a1_ < (-1099511627776))) with hc3 | hc4
      · exact ⟨_, (APath.chunk 1 (by kernel_rfl) (APath.one (.val 10 (.bin .lss) [.t 9, .k (.p (.int .i64 (-1099511627776)))]) (by kernel_rfl) (st_bool (c := (decide (a1_ < (-1099511627776)))) (by kernel_rfl) hc3) (APath.fin (by kernel_rfl)))), by simp only [hc3]; kernel_rfl⟩
      · exact ⟨_, (APath.chunk 1 (by kernel_rfl) (APath.one (.val 10 (.bin .lss) [.t 9, .k (.p (.int .i64 (-1099511627776)))]) (by kernel_rfl) (st_bool (c := (decide (a1_ < (-1099511627776)))) (by kernel_rfl) hc4) (APath.fin (by kernel_rfl)))), by simp only [hc4]; kernel_rfl⟩
    · refine vc_ite (by kernel_rfl) h (fun hc5 h => ?_) (fun hc5 h => ?_)
      · refine vc_seq ?_
        refine vc_reg (S := ⟨[(4, .p (.bool false)), (5, .p (.int .i64 2))], [], []⟩) (APath.fin (by kernel_rfl)) (by kernel_rfl) ?_
        refine vc_ret ?_
        obtain rfl := some_inj h
        exact ret_of (by kernel_rfl)
      · refine vc_skip ?_
        refine vc_kp ?_
        refine vc_seq ?_
        obtain ⟨r6, hr6, h⟩ := bind_some h
        refine vc_regD (S := ⟨[(4, .p (.bool (decide (r6 < a0_.Long)))), (5, .p (.int .i64 0))], [], []⟩) (by kernel_rfl) (APath.chunk 6 (by kernel_rfl) (APath.one (.callP 21 28 [.t 18, .t 20]) (by kernel_rfl) (st_callP (by kernel_rfl) (ref23_Mod_ok N (w64 (a1_ - a0_.From)) a0_.Period r6 hr6)) (APath.fin (by kernel_rfl)))) (by kernel_rfl) ?_
        refine vc_ret ?_
        obtain rfl := some_inj h
        exact ret_of (by kernel_rfl)
/- isochronref23.Check -/
theorem ref23_Check_ok (N : Nat) (a0_ : api_Span) (r : Int) (h : ref23_Check N a0_ = some r) : PCall Try.prog 14 [.agg [.p (.int .i64 a0_.Period), .p (.int .i64 a0_.From), .p (.int .i64 a0_.Long)]] (.p (.int .i64 r)) := by
  unfold ref23_Check at h
  have hH : HP ([] : List HO) [] := trivial
  refine pcall_of chk14 rfl rfl (vc_sound _ _ _ ?_) rfl
  refine vc_seq ?_
  refine vc_reg (S := ⟨[(1, .loc 1 0)], [(1, [.p (.int .i64 a0_.Period), .p (.int .i64 a0_.From), .p (.int .i64 a0_.Long)])], []⟩) (APath.fin (by kernel_rfl)) (by kernel_rfl) ?_
  refine vc_seq ?_
  refine vc_seq ?_
  obtain ⟨r1, hr1, h⟩ := bind_some h
  refine vc_reg (S := ⟨[(4, .p (.bool r1))], [], []⟩) (APath.chunk 1 (by kernel_rfl) (APath.one (.call (some 4) 31 [.t 3]) (by kernel_rfl) (st_call (by kernel_rfl) (ref23_Right_ok N a0_ r1 hr1)) APath.done)) (by kernel_rfl) ?_
  refine vc_ite (by kernel_rfl) h (fun hc2 h => ?_) (fun hc2 h => ?_)
  · refine vc_seq ?_
    refine vc_reg (S := ⟨[(2, .p (.int .i64 0))], [], []⟩) (APath.fin (by kernel_rfl)) (by kernel_rfl) ?_
    refine vc_ret ?_
    obtain rfl := some_inj h
    exact ret_of (by kernel_rfl)
  · refine vc_skip ?_
    refine vc_kp ?_
    refine vc_seq ?_
    refine vc_reg (S := ⟨[(2, .p (.int .i64 330))], [], []⟩) (APath.fin (by kernel_rfl)) (by kernel_rfl) ?_
    refine vc_ret ?_
    obtain rfl := some_inj h
    exact ret_of (by kernel_rfl)
/- isochronref23.Cycle -/
theorem ref23_Cycle_ok (N : Nat) (a0_ : (List api_Span)) (r : Int × Int) (h : ref23_Cycle N a0_ = some r) : PCall Try.prog 24 [.p (.sl 3 false (List.map e_api_Span a0_))] (.tup [.p (.int .i64 r.1), .p (.int .i64 r.2)]) := by
  unfold ref23_Cycle at h
  have hH : HP ([] : List HO) [] := trivial
  refine pcall_of chk24 rfl rfl (vc_sound _ _ _ ?_) rfl
  refine vc_seq ?_
  refine vc_reg (S := ⟨[(0, .p (.sl 3 false (List.map e_api_Span a0_)))], [], []⟩) (APath.fin (by kernel_rfl)) (by kernel_rfl) ?_
  refine vc_seq ?_
  obtain ⟨r1, hr1, h⟩ := bind_some h
  refine vc_reg (S := ⟨[(0, .p (.sl 3 false (List.map e_api_Span a0_))), (4, .p (.int .i64 r1))], [], []⟩) (APath.chunk 1 (by kernel_rfl) (APath.one (.call (some 9) 39 [.t 8]) (by kernel_rfl) (st_call (by kernel_rfl) (ref23_list_ok N a0_ r1 hr1)) (APath.fin (by kernel_rfl)))) (by kernel_rfl) ?_
  refine vc_seq ?_
  refine vc_seq ?_
  refine vc_reg (S := ⟨[(0, .p (.sl 3 false (List.map e_api_Span a0_))), (4, .p (.int .i64 r1)), (11, .p (.bool (r1 != 0)))], [], []⟩) (APath.fin (by kernel_rfl)) (by kernel_rfl) ?_
  refine vc_ite (by kernel_rfl) h (fun hc2 h => ?_) (fun hc2 h => ?_)
  · refine vc_seq ?_
    refine vc_reg (S := ⟨[(2, .p (.int .i64 0)), (3, .p (.int .i64 r1))], [], []⟩) (APath.fin (by kernel_rfl)) (by kernel_rfl) ?_
    refine vc_ret ?_
    obtain rfl := some_inj h
    exact ret_of (by kernel_rfl)
  · refine vc_skip ?_
    refine vc_kp ?_
    refine vc_seq ?_
    refine vc_seq ?_
    refine vc_reg (S := ⟨[(0, .p (.sl 3 false (List.map e_api_Span a0_))), (5, .p (.int .i64 1))], [], []⟩) (APath.fin (by kernel_rfl)) (by kernel_rfl) ?_
    refine vc_block ?_
    obtain ⟨o1017, ho1017, h⟩ := bind_some h
    refine vc_loop ((loop_sim (fun (x : Int) s => s = ⟨[(0, .p (.sl 3 false (List.map e_api_Span a0_))), (5, .p (.int .i64 x))], [], []⟩) (fun x : Int => ref23_Cycle_L1 N a0_ x) (fun (p : (Int) ⊕ (Int × Int)) e s => match p with | (.inl p) => e = .exit 0 ∧ (s = ⟨[(0, .p (.sl 3 false (List.map e_api_Span a0_))), (5, .p (.int .i64 p))], [], []⟩) | (.inr p) => e = .ret ∧ ∃ xs, resL s i24.res = some xs ∧ tupOf xs = .tup [.p (.int .i64 p.1), .p (.int .i64 p.2)]) ?_ N _ o1017 _ ho1017 (by show _ = _; kernel_rfl)).mono ?_)
    · clear h ho1017
      rintro i3 o s h hR
      obtain rfl := hR
      replace h : ref23_Cycle_L1 N a0_ i3 = some o := h
      unfold ref23_Cycle_L1 at h
      refine vc_seq ?_
      refine vc_seq ?_
      refine vc_reg (S := ⟨[(0, .p (.sl 3 false (List.map e_api_Span a0_))), (5, .p (.int .i64 i3)), (14, .p (.bool (decide (i3 ≤ 960))))], [], []⟩) (APath.fin (by kernel_rfl)) (by kernel_rfl) ?_
      refine vc_ite (by kernel_rfl) h (fun hc504 h => ?_) (fun hc504 h => ?_)
      · refine vc_skip ?_
        refine vc_kp ?_
        refine vc_seq ?_
        refine vc_block ?_
        refine vc_seq ?_
        refine vc_reg (S := ⟨[(0, .p (.sl 3 false (List.map e_api_Span a0_))), (5, .p (.int .i64 i3)), (6, .p (.bool true))], [], []⟩) (APath.fin (by kernel_rfl)) (by kernel_rfl) ?_
        refine vc_seq ?_
        refine vc_seq ?_
        refine vc_reg (S := ⟨[(0, .p (.sl 3 false (List.map e_api_Span a0_))), (5, .p (.int .i64 i3)), (6, .p (.bool true)), (7, .p (.int .i64 0))], [], []⟩) (APath.fin (by kernel_rfl)) (by kernel_rfl) ?_
        refine vc_block ?_
        obtain ⟨o1015, ho1015, h⟩ := bind_some h
        refine vc_loop ((loop_sim (fun (x : Bool × Int) s => s = ⟨[(0, .p (.sl 3 false (List.map e_api_Span a0_))), (5, .p (.int .i64 i3)), (6, .p (.bool x.1)), (7, .p (.int .i64 x.2))], [], []⟩) (fun x : Bool × Int => ref23_Cycle_L2 N a0_ i3 x.1 x.2) (fun (p : Bool × Int) e s => e = .exit 2 ∧ (s = ⟨[(0, .p (.sl 3 false (List.map e_api_Span a0_))), (5, .p (.int .i64 i3)), (6, .p (.bool p.1)), (7, .p (.int .i64 p.2))], [], []⟩)) ?_ N _ o1015 _ ho1015 (by show _ = _; kernel_rfl)).mono ?_)
        · clear h ho1015
          rintro ⟨b505, i506⟩ o s h hR
          obtain rfl := hR
          replace h : ref23_Cycle_L2 N a0_ i3 b505 i506 = some o := h
          unfold ref23_Cycle_L2 at h
          refine vc_seq ?_
          refine vc_seq ?_
          refine vc_reg (S := ⟨[(0, .p (.sl 3 false (List.map e_api_Span a0_))), (5, .p (.int .i64 i3)), (6, .p (.bool b505)), (7, .p (.int .i64 i506)), (20, .p (.bool (decide (i506 < ((List.length a0_ : Nat) : Int)))))], [], []⟩) (APath.chunk 2 (by kernel_rfl) (APath.one (.val 19 .len [.t 18]) (by kernel_rfl) (st_val (ys := [.p (.sl 3 false (List.map e_api_Span a0_))]) (by kernel_rfl) (vexec_len e_api_Span)) (APath.fin (by kernel_rfl)))) (by kernel_rfl) ?_
          refine vc_ite (by kernel_rfl) h (fun hc1007 h => ?_) (fun hc1007 h => ?_)
          · refine vc_skip ?_
            refine vc_kp ?_
            refine vc_seq ?_
            refine vc_block ?_
            obtain ⟨j1014, hj, h⟩ := bind_some h
            refine vc_regXR (fun s => s = ⟨[(0, .p (.sl 3 false (List.map e_api_Span a0_))), (5, .p (.int .i64 i3)), (6, .p (.bool j1014)), (7, .p (.int .i64 i506))], [], []⟩) ?_ ?_
            · clear h
              rcases ite_some hj with ⟨hc1008, hj⟩ | ⟨hc1013, hj⟩
              · obtain ⟨e1009, he1009, hj⟩ := bind_some hj
                obtain ⟨m1010, hm1010, hj⟩ := bind_some hj
                rcases ite_some hj with ⟨hc1011, hj⟩ | ⟨hc1012, hj⟩
                · obtain rfl := some_inj hj
                  exact ⟨_, (APath.one (.val 23 .mov [.t 6]) (by kernel_rfl) (st_bool (c := b505) (by kernel_rfl) hc1008) (APath.chunk 4 (by kernel_rfl) (APath.oneG (.val 28 (.iaddrS 3) [.t 26, .t 27]) 24 true (by kernel_rfl) (by kernel_rfl) (st_val (ys := [.p (.sl 3 false (List.map e_api_Span a0_)), .p (.int .i64 i506)]) (by kernel_rfl) (vexec_iaddrS e_api_Span he1009)) (APath.chunk 1 (by kernel_rfl) (APath.oneG (.load 30 (.t 29) 1 false) 24 true (by kernel_rfl) (by kernel_rfl) (st_loadP (sz := 3) (off := 0) (cs := [.int .i64 e1009.Period]) (r := .p (.int .i64 e1009.Period)) e_api_Span he1009 (by kernel_rfl) (by kernel_rfl) (by kernel_rfl)) (APath.oneG (.val 31 (.bin .rem) [.t 25, .t 30]) 24 true (by kernel_rfl) (by kernel_rfl) (st_val (ys := [.p (.int .i64 i3), .p (.int .i64 e1009.Period)]) (by kernel_rfl) (vexec_rem hm1010)) (APath.chunk 2 (by kernel_rfl) (APath.one (.val 6 .mov [.t 33]) (by kernel_rfl) (st_bool (c := (m1010 == 0)) (by kernel_rfl) hc1011) APath.done)))))))), (by show _ = _; kernel_rfl)⟩
                · obtain rfl := some_inj hj
                  exact ⟨_, (APath.one (.val 23 .mov [.t 6]) (by kernel_rfl) (st_bool (c := b505) (by kernel_rfl) hc1008) (APath.chunk 4 (by kernel_rfl) (APath.oneG (.val 28 (.iaddrS 3) [.t 26, .t 27]) 24 true (by kernel_rfl) (by kernel_rfl) (st_val (ys := [.p (.sl 3 false (List.map e_api_Span a0_)), .p (.int .i64 i506)]) (by kernel_rfl) (vexec_iaddrS e_api_Span he1009)) (APath.chunk 1 (by kernel_rfl) (APath.oneG (.load 30 (.t 29) 1 false) 24 true (by kernel_rfl) (by kernel_rfl) (st_loadP (sz := 3) (off := 0) (cs := [.int .i64 e1009.Period]) (r := .p (.int .i64 e1009.Period)) e_api_Span he1009 (by kernel_rfl) (by kernel_rfl) (by kernel_rfl)) (APath.oneG (.val 31 (.bin .rem) [.t 25, .t 30]) 24 true (by kernel_rfl) (by kernel_rfl) (st_val (ys := [.p (.int .i64 i3), .p (.int .i64 e1009.Period)]) (by kernel_rfl) (vexec_rem hm1010)) (APath.chunk 2 (by kernel_rfl) (APath.one (.val 6 .mov [.t 33]) (by kernel_rfl) (st_bool (c := (m1010 == 0)) (by kernel_rfl) hc1012) APath.done)))))))), (by show _ = _; kernel_rfl)⟩
              · obtain rfl := some_inj hj
                exact ⟨_, (APath.one (.val 23 .mov [.t 6]) (by kernel_rfl) (st_bool (c := b505) (by kernel_rfl) hc1013) (APath.fin (by kernel_rfl))), (by show _ = _; kernel_rfl)⟩
            · clear hj
              rintro s hR
              obtain rfl := hR
              refine vc_reg (S := ⟨[(0, .p (.sl 3 false (List.map e_api_Span a0_))), (5, .p (.int .i64 i3)), (6, .p (.bool j1014)), (7, .p (.int .i64 (w64 (i506 + 1))))], [], []⟩) (APath.fin (by kernel_rfl)) (by kernel_rfl) ?_
              obtain rfl := some_inj h
              exact ⟨_, rfl, (by show _ = _; kernel_rfl)⟩
          · refine vc_exit ?_
            try show vc _ _ _ _ _
            obtain rfl := some_inj h
            exact ⟨_, rfl, rfl, (by show _ = _; kernel_rfl)⟩
        · rintro e s hq
          obtain ⟨rfl, hR⟩ := hq
          obtain rfl := hR
          try show vc _ _ _ _ _
          refine vc_seq ?_
          refine vc_reg (S := ⟨[(0, .p (.sl 3 false (List.map e_api_Span a0_))), (5, .p (.int .i64 i3)), (34, .p (.bool o1015.1))], [], []⟩) (APath.fin (by kernel_rfl)) (by kernel_rfl) ?_
          refine vc_ite (by kernel_rfl) h (fun hc1016 h => ?_) (fun hc1016 h => ?_)
          · refine vc_seq ?_
            refine vc_reg (S := ⟨[(2, .p (.int .i64 i3)), (3, .p (.int .i64 0))], [], []⟩) (APath.fin (by kernel_rfl)) (by kernel_rfl) ?_
            refine vc_ret ?_
            obtain rfl := some_inj h
            exact ⟨_, rfl, rfl, ret_of (by kernel_rfl)⟩
          · refine vc_skip ?_
            refine vc_kp ?_
            refine vc_reg (S := ⟨[(0, .p (.sl 3 false (List.map e_api_Span a0_))), (5, .p (.int .i64 (w64 (i3 + 1))))], [], []⟩) (APath.fin (by kernel_rfl)) (by kernel_rfl) ?_
            obtain rfl := some_inj h
            exact ⟨_, rfl, (by show _ = _; kernel_rfl)⟩
      · refine vc_exit ?_
        try show vc _ _ _ _ _
        obtain rfl := some_inj h
        exact ⟨_, rfl, rfl, (by show _ = _; kernel_rfl)⟩
    · rintro e s hq
      rcases o1017 with p1018 | p1019
      · dsimp only at h hq
        obtain ⟨rfl, hR⟩ := hq
        obtain rfl := hR
        try show vc _ _ _ _ _
        refine vc_seq ?_
        refine vc_reg (S := ⟨[(2, .p (.int .i64 0)), (3, .p (.int .i64 6))], [], []⟩) (APath.fin (by kernel_rfl)) (by kernel_rfl) ?_
        refine vc_ret ?_
        obtain rfl := some_inj h
        exact ret_of (by kernel_rfl)
      · dsimp only at h hq
        obtain ⟨rfl, hq⟩ := hq
        obtain rfl := some_inj h
        exact hq
/- isochronlaw23.covers -/
theorem law23_covers_ok (N : Nat) (a0_ : api_Span) (a1_ : Int) (r : Bool) (h : law23_covers N a0_ a1_ = some r) : PCall Try.prog 25 [.agg [.p (.int .i64 a0_.Period), .p (.int .i64 a0_.From), .p (.int .i64 a0_.Long)], .p (.int .i64 a1_)] (.p (.bool r)) := by
  unfold law23_covers at h
  have hH : HP ([] : List HO) [] := trivial
  refine pcall_of chk25 rfl rfl (vc_sound _ _ _ ?_) rfl
  refine vc_seq ?_
  refine vc_reg (S := ⟨[(1, .p (.int .i64 a1_)), (2, .loc 2 0)], [(2, [.p (.int .i64 a0_.Period), .p (.int .i64 a0_.From), .p (.int .i64 a0_.Long)])], []⟩) (APath.fin (by kernel_rfl)) (by kernel_rfl) ?_
  refine vc_seq ?_
  obtain ⟨r1, hr1, h⟩ := bind_some h
  refine vc_reg (S := ⟨[(5, .p (.bool r1.1)), (6, .p (.int .i64 r1.2))], [], []⟩) (APath.chunk 2 (by kernel_rfl) (APath.one (.call (some 10) 11 [.t 8, .t 9]) (by kernel_rfl) (st_call (by kernel_rfl) (residue_Covers_ok N a0_ a1_ r1 hr1)) (APath.fin (by kernel_rfl)))) (by kernel_rfl) ?_
  refine vc_seq ?_
  refine vc_regX ⟨[(4, .p (.bool (r1.1 && (r1.2 == 0))))], [], []⟩ ?_ ?_
  · rcases Bool.eq_false_or_eq_true r1.1 with hc2 | hc3
    · exact ⟨_, (APath.one (.val 13 .mov [.t 5]) (by kernel_rfl) (st_bool (c := r1.1) (by kernel_rfl) hc2) (APath.fin (by kernel_rfl))), by simp only [hc2]; kernel_rfl⟩
    · exact ⟨_, (APath.one (.val 13 .mov [.t 5]) (by kernel_rfl) (st_bool (c := r1.1) (by kernel_rfl) hc3) (APath.fin (by kernel_rfl))), by simp only [hc3]; kernel_rfl⟩
  · refine vc_ret ?_
    obtain rfl := some_inj h
    exact ret_of (by kernel_rfl)
/- isochronref23.Separate -/
theorem ref23_Separate_ok (N : Nat) (a0_ : api_Span) (a1_ : api_Span) (r : Bool) (h : ref23_Separate N a0_ a1_ = some r) : PCall Try.prog 34 [.agg [.p (.int .i64 a0_.Period), .p (.int .i64 a0_.From), .p (.int .i64 a0_.Long)], .agg [.p (.int .i64 a1_.Period), .p (.int .i64 a1_.From), .p (.int .i64 a1_.Long)]] (.p (.bool r)) := by
  unfold ref23_Separate at h
  have hH : HP ([] : List HO) [] := trivial
  refine pcall_of chk34 rfl rfl (vc_sound _ _ _ ?_) rfl
  refine vc_seq ?_
  refine vc_reg (S := ⟨[(2, .loc 2 0), (3, .loc 3 0)], [(2, [.p (.int .i64 a0_.Period), .p (.int .i64 a0_.From), .p (.int .i64 a0_.Long)]), (3, [.p (.int .i64 a1_.Period), .p (.int .i64 a1_.From), .p (.int .i64 a1_.Long)])], []⟩) (APath.fin (by kernel_rfl)) (by kernel_rfl) ?_
  refine vc_seq ?_
  obtain ⟨r1, hr1, h⟩ := bind_some h
  refine vc_reg (S := ⟨[(2, .loc 2 0), (3, .loc 3 0), (5, .p (.int .i64 r1))], [(2, [.p (.int .i64 a0_.Period), .p (.int .i64 a0_.From), .p (.int .i64 a0_.Long)]), (3, [.p (.int .i64 a1_.Period), .p (.int .i64 a1_.From), .p (.int .i64 a1_.Long)])], []⟩) (APath.chunk 4 (by kernel_rfl) (APath.one (.call (some 11) 36 [.t 8, .t 10]) (by kernel_rfl) (st_call (by kernel_rfl) (ref23_Gcd_ok N a0_.Period a1_.Period r1 hr1)) (APath.fin (by kernel_rfl)))) (by kernel_rfl) ?_
  refine vc_seq ?_
  refine vc_seq ?_
  refine vc_reg (S := ⟨[(2, .loc 2 0), (3, .loc 3 0), (5, .p (.int .i64 r1)), (6, .p (.int .i64 (w64 (1 - a1_.Long))))], [(2, [.p (.int .i64 a0_.Period), .p (.int .i64 a0_.From), .p (.int .i64 a0_.Long)]), (3, [.p (.int .i64 a1_.Period), .p (.int .i64 a1_.From), .p (.int .i64 a1_.Long)])], []⟩) (APath.fin (by kernel_rfl)) (by kernel_rfl) ?_
  refine vc_block ?_
  obtain ⟨o506, ho506, h⟩ := bind_some h
  refine vc_loop ((loop_sim (fun (x : Int) s => s = ⟨[(2, .loc 2 0), (3, .loc 3 0), (5, .p (.int .i64 r1)), (6, .p (.int .i64 x))], [(2, [.p (.int .i64 a0_.Period), .p (.int .i64 a0_.From), .p (.int .i64 a0_.Long)]), (3, [.p (.int .i64 a1_.Period), .p (.int .i64 a1_.From), .p (.int .i64 a1_.Long)])], []⟩) (fun x : Int => ref23_Separate_L1 N a0_ a1_ r1 x) (fun (p : (Int) ⊕ (Bool)) e s => match p with | (.inl p) => e = .exit 0 ∧ (s = ⟨[(2, .loc 2 0), (3, .loc 3 0), (5, .p (.int .i64 r1)), (6, .p (.int .i64 p))], [(2, [.p (.int .i64 a0_.Period), .p (.int .i64 a0_.From), .p (.int .i64 a0_.Long)]), (3, [.p (.int .i64 a1_.Period), .p (.int .i64 a1_.From), .p (.int .i64 a1_.Long)])], []⟩) | (.inr p) => e = .ret ∧ ∃ xs, resL s i34.res = some xs ∧ tupOf xs = .p (.bool p)) ?_ N _ o506 _ ho506 (by show _ = _; kernel_rfl)).mono ?_)
  · clear h ho506
    rintro i2 o s h hR
    obtain rfl := hR
    replace h : ref23_Separate_L1 N a0_ a1_ r1 i2 = some o := h
    unfold ref23_Separate_L1 at h
    refine vc_seq ?_
    refine vc_seq ?_
    refine vc_reg (S := ⟨[(2, .loc 2 0), (3, .loc 3 0), (5, .p (.int .i64 r1)), (6, .p (.int .i64 i2)), (18, .p (.bool (decide (i2 < a0_.Long))))], [(2, [.p (.int .i64 a0_.Period), .p (.int .i64 a0_.From), .p (.int .i64 a0_.Long)]), (3, [.p (.int .i64 a1_.Period), .p (.int .i64 a1_.From), .p (.int .i64 a1_.Long)])], []⟩) (APath.fin (by kernel_rfl)) (by kernel_rfl) ?_
    refine vc_ite (by kernel_rfl) h (fun hc503 h => ?_) (fun hc503 h => ?_)
    · refine vc_skip ?_
      refine vc_kp ?_
      refine vc_seq ?_
      refine vc_block ?_
      refine vc_seq ?_
      obtain ⟨r504, hr504, h⟩ := bind_some h
      refine vc_reg (S := ⟨[(2, .loc 2 0), (3, .loc 3 0), (5, .p (.int .i64 r1)), (6, .p (.int .i64 i2)), (30, .p (.bool (r504 == 0)))], [(2, [.p (.int .i64 a0_.Period), .p (.int .i64 a0_.From), .p (.int .i64 a0_.Long)]), (3, [.p (.int .i64 a1_.Period), .p (.int .i64 a1_.From), .p (.int .i64 a1_.Long)])], []⟩) (APath.chunk 8 (by kernel_rfl) (APath.one (.call (some 29) 28 [.t 27, .t 28]) (by kernel_rfl) (st_call (by kernel_rfl) (ref23_Mod_ok N (w64 ((w64 (a1_.From - a0_.From)) - i2)) r1 r504 hr504)) (APath.fin (by kernel_rfl)))) (by kernel_rfl) ?_
      refine vc_ite (by kernel_rfl) h (fun hc505 h => ?_) (fun hc505 h => ?_)
      · refine vc_seq ?_
        refine vc_reg (S := ⟨[(4, .p (.bool false))], [], []⟩) (APath.fin (by kernel_rfl)) (by kernel_rfl) ?_
        refine vc_ret ?_
        obtain rfl := some_inj h
        exact ⟨_, rfl, rfl, ret_of (by kernel_rfl)⟩
      · refine vc_skip ?_
        refine vc_kp ?_
        refine vc_reg (S := ⟨[(2, .loc 2 0), (3, .loc 3 0), (5, .p (.int .i64 r1)), (6, .p (.int .i64 (w64 (i2 + 1))))], [(2, [.p (.int .i64 a0_.Period), .p (.int .i64 a0_.From), .p (.int .i64 a0_.Long)]), (3, [.p (.int .i64 a1_.Period), .p (.int .i64 a1_.From), .p (.int .i64 a1_.Long)])], []⟩) (APath.fin (by kernel_rfl)) (by kernel_rfl) ?_
        obtain rfl := some_inj h
        exact ⟨_, rfl, (by show _ = _; kernel_rfl)⟩
    · refine vc_exit ?_
      try show vc _ _ _ _ _
      obtain rfl := some_inj h
      exact ⟨_, rfl, rfl, (by show _ = _; kernel_rfl)⟩
  · rintro e s hq
    rcases o506 with p507 | p508
    · dsimp only at h hq
      obtain ⟨rfl, hR⟩ := hq
      obtain rfl := hR
      try show vc _ _ _ _ _
      refine vc_seq ?_
      refine vc_reg (S := ⟨[(4, .p (.bool true))], [], []⟩) (APath.fin (by kernel_rfl)) (by kernel_rfl) ?_
      refine vc_ret ?_
      obtain rfl := some_inj h
      exact ret_of (by kernel_rfl)
    · dsimp only at h hq
      obtain ⟨rfl, hq⟩ := hq
      obtain rfl := some_inj h
      exact hq
/- residue.room -/
theorem residue_room_ok (N : Nat) (a0_ : api_Span) (a1_ : api_Span) (r : Int × Int × Int) (h : residue_room N a0_ a1_ = some r) : PCall Try.prog 35 [.agg [.p (.int .i64 a0_.Period), .p (.int .i64 a0_.From), .p (.int .i64 a0_.Long)], .agg [.p (.int .i64 a1_.Period), .p (.int .i64 a1_.From), .p (.int .i64 a1_.Long)]] (.tup [.p (.int .i64 r.1), .p (.int .i64 r.2.1), .p (.int .i64 r.2.2)]) := by
  unfold residue_room at h
  have hH : HP ([] : List HO) [] := trivial
  refine pcall_of chk35 rfl rfl (vc_sound _ _ _ ?_) rfl
  refine vc_seq ?_
  refine vc_reg (S := ⟨[(2, .loc 2 0), (3, .loc 3 0)], [(2, [.p (.int .i64 a0_.Period), .p (.int .i64 a0_.From), .p (.int .i64 a0_.Long)]), (3, [.p (.int .i64 a1_.Period), .p (.int .i64 a1_.From), .p (.int .i64 a1_.Long)])], []⟩) (APath.fin (by kernel_rfl)) (by kernel_rfl) ?_
  refine vc_seq ?_
  obtain ⟨r1, hr1, h⟩ := bind_some h
  refine vc_reg (S := ⟨[(2, .loc 2 0), (3, .loc 3 0), (6, .p (.int .i64 r1))], [(2, [.p (.int .i64 a0_.Period), .p (.int .i64 a0_.From), .p (.int .i64 a0_.Long)]), (3, [.p (.int .i64 a1_.Period), .p (.int .i64 a1_.From), .p (.int .i64 a1_.Long)])], []⟩) (APath.chunk 4 (by kernel_rfl) (APath.one (.call (some 11) 42 [.t 8, .t 10]) (by kernel_rfl) (st_call (by kernel_rfl) (residue_gcd_ok N a0_.Period a1_.Period r1 hr1)) (APath.fin (by kernel_rfl)))) (by kernel_rfl) ?_
  refine vc_seq ?_
  refine vc_regD (S := ⟨[(4, .p (.int .i64 a0_.Long)), (5, .p (.int .i64 (w64 (r1 - a1_.Long)))), (6, .p (.int .i64 r1))], [], []⟩) (by kernel_rfl) (APath.fin (by kernel_rfl)) (by kernel_rfl) ?_
  refine vc_ret ?_
  obtain rfl := some_inj h
  exact ret_of (by kernel_rfl)
/- isochronref23.Clear -/
theorem ref23_Clear_ok (N : Nat) (a0_ : (List api_Span)) (a1_ : api_Span) (r : Bool) (h : ref23_Clear N a0_ a1_ = some r) : PCall Try.prog 40 [.p (.sl 3 false (List.map e_api_Span a0_)), .agg [.p (.int .i64 a1_.Period), .p (.int .i64 a1_.From), .p (.int .i64 a1_.Long)]] (.p (.bool r)) := by
  unfold ref23_Clear at h
  have hH : HP ([] : List HO) [] := trivial
  refine pcall_of chk40 rfl rfl (vc_sound _ _ _ ?_) rfl
  refine vc_seq ?_
  refine vc_reg (S := ⟨[(0, .p (.sl 3 false (List.map e_api_Span a0_))), (3, .loc 3 0)], [(3, [.p (.int .i64 a1_.Period), .p (.int .i64 a1_.From), .p (.int .i64 a1_.Long)])], []⟩) (APath.fin (by kernel_rfl)) (by kernel_rfl) ?_
  refine vc_seq ?_
  refine vc_seq ?_
  refine vc_reg (S := ⟨[(0, .p (.sl 3 false (List.map e_api_Span a0_))), (3, .loc 3 0), (5, .p (.int .i64 0))], [(3, [.p (.int .i64 a1_.Period), .p (.int .i64 a1_.From), .p (.int .i64 a1_.Long)])], []⟩) (APath.fin (by kernel_rfl)) (by kernel_rfl) ?_
  refine vc_block ?_
  obtain ⟨o506, ho506, h⟩ := bind_some h
  refine vc_loop ((loop_sim (fun (x : Int) s => s = ⟨[(0, .p (.sl 3 false (List.map e_api_Span a0_))), (3, .loc 3 0), (5, .p (.int .i64 x))], [(3, [.p (.int .i64 a1_.Period), .p (.int .i64 a1_.From), .p (.int .i64 a1_.Long)])], []⟩) (fun x : Int => ref23_Clear_L1 N a0_ a1_ x) (fun (p : (Int) ⊕ (Bool)) e s => match p with | (.inl p) => e = .exit 0 ∧ (s = ⟨[(0, .p (.sl 3 false (List.map e_api_Span a0_))), (3, .loc 3 0), (5, .p (.int .i64 p))], [(3, [.p (.int .i64 a1_.Period), .p (.int .i64 a1_.From), .p (.int .i64 a1_.Long)])], []⟩) | (.inr p) => e = .ret ∧ ∃ xs, resL s i40.res = some xs ∧ tupOf xs = .p (.bool p)) ?_ N _ o506 _ ho506 (by show _ = _; kernel_rfl)).mono ?_)
  · clear h ho506
    rintro i1 o s h hR
    obtain rfl := hR
    replace h : ref23_Clear_L1 N a0_ a1_ i1 = some o := h
    unfold ref23_Clear_L1 at h
    refine vc_seq ?_
    refine vc_seq ?_
    refine vc_reg (S := ⟨[(0, .p (.sl 3 false (List.map e_api_Span a0_))), (3, .loc 3 0), (5, .p (.int .i64 i1)), (9, .p (.bool (decide (i1 < ((List.length a0_ : Nat) : Int)))))], [(3, [.p (.int .i64 a1_.Period), .p (.int .i64 a1_.From), .p (.int .i64 a1_.Long)])], []⟩) (APath.chunk 2 (by kernel_rfl) (APath.one (.val 8 .len [.t 7]) (by kernel_rfl) (st_val (ys := [.p (.sl 3 false (List.map e_api_Span a0_))]) (by kernel_rfl) (vexec_len e_api_Span)) (APath.fin (by kernel_rfl)))) (by kernel_rfl) ?_
    refine vc_ite (by kernel_rfl) h (fun hc502 h => ?_) (fun hc502 h => ?_)
    · refine vc_skip ?_
      refine vc_kp ?_
      refine vc_seq ?_
      refine vc_block ?_
      refine vc_seq ?_
      obtain ⟨e503, he503, h⟩ := bind_some h
      obtain ⟨r504, hr504, h⟩ := bind_some h
      refine vc_regD (S := ⟨[(0, .p (.sl 3 false (List.map e_api_Span a0_))), (3, .loc 3 0), (5, .p (.int .i64 i1)), (18, .p (.bool (!r504)))], [(3, [.p (.int .i64 a1_.Period), .p (.int .i64 a1_.From), .p (.int .i64 a1_.Long)])], []⟩) (by kernel_rfl) (APath.chunk 2 (by kernel_rfl) (APath.one (.val 14 (.iaddrS 3) [.t 12, .t 13]) (by kernel_rfl) (st_val (ys := [.p (.sl 3 false (List.map e_api_Span a0_)), .p (.int .i64 i1)]) (by kernel_rfl) (vexec_iaddrS e_api_Span he503)) (APath.one (.load 15 (.t 14) 3 true) (by kernel_rfl) (st_loadP (sz := 3) (off := 0) (cs := [.int .i64 e503.Period, .int .i64 e503.From, .int .i64 e503.Long]) (r := .agg [.p (.int .i64 e503.Period), .p (.int .i64 e503.From), .p (.int .i64 e503.Long)]) e_api_Span he503 (by kernel_rfl) (by kernel_rfl) (by kernel_rfl)) (APath.chunk 1 (by kernel_rfl) (APath.one (.callP 17 34 [.t 15, .t 16]) (by kernel_rfl) (st_callP (by kernel_rfl) (ref23_Separate_ok N e503 a1_ r504 hr504)) (APath.fin (by kernel_rfl))))))) (by kernel_rfl) ?_
      refine vc_ite (by kernel_rfl) h (fun hc505 h => ?_) (fun hc505 h => ?_)
      · refine vc_seq ?_
        refine vc_reg (S := ⟨[(4, .p (.bool false))], [], []⟩) (APath.fin (by kernel_rfl)) (by kernel_rfl) ?_
        refine vc_ret ?_
        obtain rfl := some_inj h
        exact ⟨_, rfl, rfl, ret_of (by kernel_rfl)⟩
      · refine vc_skip ?_
        refine vc_kp ?_
        refine vc_reg (S := ⟨[(0, .p (.sl 3 false (List.map e_api_Span a0_))), (3, .loc 3 0), (5, .p (.int .i64 (w64 (i1 + 1))))], [(3, [.p (.int .i64 a1_.Period), .p (.int .i64 a1_.From), .p (.int .i64 a1_.Long)])], []⟩) (APath.fin (by kernel_rfl)) (by kernel_rfl) ?_
        obtain rfl := some_inj h
        exact ⟨_, rfl, (by show _ = _; kernel_rfl)⟩
    · refine vc_exit ?_
      try show vc _ _ _ _ _
      obtain rfl := some_inj h
      exact ⟨_, rfl, rfl, (by show _ = _; kernel_rfl)⟩
  · rintro e s hq
    rcases o506 with p507 | p508
    · dsimp only at h hq
      obtain ⟨rfl, hR⟩ := hq
      obtain rfl := hR
      try show vc _ _ _ _ _
      refine vc_seq ?_
      refine vc_reg (S := ⟨[(4, .p (.bool true))], [], []⟩) (APath.fin (by kernel_rfl)) (by kernel_rfl) ?_
      refine vc_ret ?_
      obtain rfl := some_inj h
      exact ret_of (by kernel_rfl)
    · dsimp only at h hq
      obtain ⟨rfl, hq⟩ := hq
      obtain rfl := some_inj h
      exact hq
/- residue.fold -/
theorem residue_fold_ok (N : Nat) (a0_ : Int) (a1_ : (List Int)) (r : Int) (h : residue_fold N a0_ a1_ = some r) : PCall Try.prog 41 [.p (.int .i64 a0_), .p (.sl 1 false (List.map eI64 a1_))] (.p (.int .i64 r)) := by
  unfold residue_fold at h
  have hH : HP ([] : List HO) [] := trivial
  refine pcall_of chk41 rfl rfl (vc_sound _ _ _ ?_) rfl
  refine vc_seq ?_
  refine vc_reg (S := ⟨[(0, .p (.int .i64 a0_)), (1, .p (.sl 1 false (List.map eI64 a1_)))], [], []⟩) (APath.fin (by kernel_rfl)) (by kernel_rfl) ?_
  refine vc_seq ?_
  refine vc_reg (S := ⟨[(0, .p (.int .i64 a0_)), (1, .p (.sl 1 false (List.map eI64 a1_))), (5, .p (.int .i64 1))], [], []⟩) (APath.fin (by kernel_rfl)) (by kernel_rfl) ?_
  refine vc_seq ?_
  refine vc_seq ?_
  refine vc_reg (S := ⟨[(0, .p (.int .i64 a0_)), (5, .p (.int .i64 1)), (8, .p (.sl 1 false (List.map eI64 a1_))), (9, .p (.int .i64 ((List.length a1_ : Nat) : Int))), (10, .p (.int .i64 0))], [], []⟩) (APath.chunk 1 (by kernel_rfl) (APath.one (.val 9 .len [.t 8]) (by kernel_rfl) (st_val (ys := [.p (.sl 1 false (List.map eI64 a1_))]) (by kernel_rfl) (vexec_len eI64)) (APath.fin (by kernel_rfl)))) (by kernel_rfl) ?_
  refine vc_block ?_
  obtain ⟨o508, ho508, h⟩ := bind_some h
  refine vc_loop ((loop_sim (fun (x : Int × Int) s => s = ⟨[(0, .p (.int .i64 a0_)), (5, .p (.int .i64 x.1)), (8, .p (.sl 1 false (List.map eI64 a1_))), (9, .p (.int .i64 ((List.length a1_ : Nat) : Int))), (10, .p (.int .i64 x.2))], [], []⟩) (fun x : Int × Int => residue_fold_L1 N a0_ a1_ x.1 x.2) (fun (p : Int × Int) e s => e = .exit 0 ∧ (s = ⟨[(0, .p (.int .i64 a0_)), (5, .p (.int .i64 p.1)), (8, .p (.sl 1 false (List.map eI64 a1_))), (9, .p (.int .i64 ((List.length a1_ : Nat) : Int))), (10, .p (.int .i64 p.2))], [], []⟩)) ?_ N _ o508 _ ho508 (by show _ = _; kernel_rfl)).mono ?_)
  · clear h ho508
    rintro ⟨i1, i2⟩ o s h hR
    obtain rfl := hR
    replace h : residue_fold_L1 N a0_ a1_ i1 i2 = some o := h
    unfold residue_fold_L1 at h
    refine vc_seq ?_
    refine vc_reg (S := ⟨[(0, .p (.int .i64 a0_)), (5, .p (.int .i64 i1)), (8, .p (.sl 1 false (List.map eI64 a1_))), (9, .p (.int .i64 ((List.length a1_ : Nat) : Int))), (10, .p (.int .i64 i2)), (11, .p (.bool (decide (i2 < ((List.length a1_ : Nat) : Int)))))], [], []⟩) (APath.fin (by kernel_rfl)) (by kernel_rfl) ?_
    refine vc_seq ?_
    refine vc_ite (by kernel_rfl) h (fun hc503 h => ?_) (fun hc503 h => ?_)
    · refine vc_skip ?_
      refine vc_kp ?_
      refine vc_seq ?_
      refine vc_block ?_
      refine vc_seq ?_
      obtain ⟨e504, he504, h⟩ := bind_some h
      refine vc_reg (S := ⟨[(0, .p (.int .i64 a0_)), (5, .p (.int .i64 i1)), (7, .p (.int .i64 e504)), (8, .p (.sl 1 false (List.map eI64 a1_))), (9, .p (.int .i64 ((List.length a1_ : Nat) : Int))), (10, .p (.int .i64 i2))], [], []⟩) (APath.one (.val 12 (.iaddrS 1) [.t 8, .t 10]) (by kernel_rfl) (st_val (ys := [.p (.sl 1 false (List.map eI64 a1_)), .p (.int .i64 i2)]) (by kernel_rfl) (vexec_iaddrS eI64 he504)) (APath.one (.load 13 (.t 12) 1 false) (by kernel_rfl) (st_loadP (sz := 1) (off := 0) (cs := [.int .i64 e504]) (r := .p (.int .i64 e504)) eI64 he504 (by kernel_rfl) (by kernel_rfl) (by kernel_rfl)) (APath.fin (by kernel_rfl)))) (by kernel_rfl) ?_
      refine vc_seq ?_
      obtain ⟨r505, hr505, h⟩ := bind_some h
      obtain ⟨q506, hq506, h⟩ := bind_some h
      refine vc_reg (S := ⟨[(0, .p (.int .i64 a0_)), (5, .p (.int .i64 (w64 (q506 * e504)))), (8, .p (.sl 1 false (List.map eI64 a1_))), (9, .p (.int .i64 ((List.length a1_ : Nat) : Int))), (10, .p (.int .i64 i2))], [], []⟩) (APath.chunk 3 (by kernel_rfl) (APath.one (.call (some 17) 42 [.t 15, .t 16]) (by kernel_rfl) (st_call (by kernel_rfl) (residue_gcd_ok N i1 e504 r505 hr505)) (APath.one (.val 18 (.bin .quo) [.t 14, .t 17]) (by kernel_rfl) (st_val (ys := [.p (.int .i64 i1), .p (.int .i64 r505)]) (by kernel_rfl) (vexec_quo hq506)) (APath.fin (by kernel_rfl))))) (by kernel_rfl) ?_
      refine vc_seq ?_
      refine vc_reg (S := ⟨[(0, .p (.int .i64 a0_)), (5, .p (.int .i64 (w64 (q506 * e504)))), (8, .p (.sl 1 false (List.map eI64 a1_))), (9, .p (.int .i64 ((List.length a1_ : Nat) : Int))), (10, .p (.int .i64 i2)), (23, .p (.bool (decide ((w64 (q506 * e504)) > a0_))))], [], []⟩) (APath.fin (by kernel_rfl)) (by kernel_rfl) ?_
      refine vc_ite (by kernel_rfl) h (fun hc507 h => ?_) (fun hc507 h => ?_)
      · refine vc_exit ?_
        try show vc _ _ _ _ _
        obtain rfl := some_inj h
        exact ⟨_, rfl, rfl, (by show _ = _; kernel_rfl)⟩
      · refine vc_skip ?_
        refine vc_kp ?_
        refine vc_reg (S := ⟨[(0, .p (.int .i64 a0_)), (5, .p (.int .i64 (w64 (q506 * e504)))), (8, .p (.sl 1 false (List.map eI64 a1_))), (9, .p (.int .i64 ((List.length a1_ : Nat) : Int))), (10, .p (.int .i64 (w64 (i2 + 1))))], [], []⟩) (APath.fin (by kernel_rfl)) (by kernel_rfl) ?_
        obtain rfl := some_inj h
        exact ⟨_, rfl, (by show _ = _; kernel_rfl)⟩
    · refine vc_exit ?_
      try show vc _ _ _ _ _
      obtain rfl := some_inj h
      exact ⟨_, rfl, rfl, (by show _ = _; kernel_rfl)⟩
  · rintro e s hq
    obtain ⟨rfl, hR⟩ := hq
    obtain rfl := hR
    try show vc _ _ _ _ _
    refine vc_seq ?_
    refine vc_reg (S := ⟨[(4, .p (.int .i64 o508.1))], [], []⟩) (APath.fin (by kernel_rfl)) (by kernel_rfl) ?_
    refine vc_ret ?_
    obtain rfl := some_inj h
    exact ret_of (by kernel_rfl)
/- isochronref23.Apart -/
theorem ref23_Apart_ok (N : Nat) (a0_ : api_Span) (a1_ : api_Span) (r : Bool × Int) (h : ref23_Apart N a0_ a1_ = some r) : PCall Try.prog 17 [.agg [.p (.int .i64 a0_.Period), .p (.int .i64 a0_.From), .p (.int .i64 a0_.Long)], .agg [.p (.int .i64 a1_.Period), .p (.int .i64 a1_.From), .p (.int .i64 a1_.Long)]] (.tup [.p (.bool r.1), .p (.int .i64 r.2)]) := by
  unfold ref23_Apart at h
  have hH : HP ([] : List HO) [] := trivial
  refine pcall_of chk17 rfl rfl (vc_sound _ _ _ ?_) rfl
  refine vc_seq ?_
  refine vc_reg (S := ⟨[(2, .loc 2 0), (3, .loc 3 0)], [(2, [.p (.int .i64 a0_.Period), .p (.int .i64 a0_.From), .p (.int .i64 a0_.Long)]), (3, [.p (.int .i64 a1_.Period), .p (.int .i64 a1_.From), .p (.int .i64 a1_.Long)])], []⟩) (APath.fin (by kernel_rfl)) (by kernel_rfl) ?_
  refine vc_seq ?_
  refine vc_seq ?_
  obtain ⟨j5, hj, h⟩ := bind_some h
  refine vc_regXR (fun s => s = ⟨[(2, .loc 2 0), (3, .loc 3 0), (13, .p (.bool j5))], [(2, [.p (.int .i64 a0_.Period), .p (.int .i64 a0_.From), .p (.int .i64 a0_.Long)]), (3, [.p (.int .i64 a1_.Period), .p (.int .i64 a1_.From), .p (.int .i64 a1_.Long)])], []⟩) ?_ ?_
  · clear h
    obtain ⟨r1, hr1, hj⟩ := bind_some hj
    rcases ite_some hj with ⟨hc2, hj⟩ | ⟨hc3, hj⟩
    · obtain rfl := some_inj hj
      exact ⟨_, (APath.chunk 1 (by kernel_rfl) (APath.one (.call (some 7) 31 [.t 6]) (by kernel_rfl) (st_call (by kernel_rfl) (ref23_Right_ok N a0_ r1 hr1)) (APath.one (.val 8 .not [.t 7]) (by kernel_rfl) (st_bool (c := (!r1)) (by kernel_rfl) hc2) (APath.fin (by kernel_rfl))))), (by show _ = _; kernel_rfl)⟩
    · obtain ⟨r4, hr4, hj⟩ := bind_some hj
      obtain rfl := some_inj hj
      exact ⟨_, (APath.chunk 1 (by kernel_rfl) (APath.one (.call (some 7) 31 [.t 6]) (by kernel_rfl) (st_call (by kernel_rfl) (ref23_Right_ok N a0_ r1 hr1)) (APath.one (.val 8 .not [.t 7]) (by kernel_rfl) (st_bool (c := (!r1)) (by kernel_rfl) hc3) (APath.chunk 2 (by kernel_rfl) (APath.oneG (.call (some 11) 31 [.t 10]) 9 false (by kernel_rfl) (by kernel_rfl) (st_call (by kernel_rfl) (ref23_Right_ok N a1_ r4 hr4)) (APath.fin (by kernel_rfl))))))), (by show _ = _; kernel_rfl)⟩
  · clear hj
    rintro s hR
    obtain rfl := hR
    refine vc_ite (by kernel_rfl) h (fun hc6 h => ?_) (fun hc6 h => ?_)
    · refine vc_seq ?_
      refine vc_reg (S := ⟨[(4, .p (.bool false)), (5, .p (.int .i64 330))], [], []⟩) (APath.fin (by kernel_rfl)) (by kernel_rfl) ?_
      refine vc_ret ?_
      obtain rfl := some_inj h
      exact ret_of (by kernel_rfl)
    · refine vc_skip ?_
      refine vc_kp ?_
      refine vc_seq ?_
      obtain ⟨r7, hr7, h⟩ := bind_some h
      refine vc_reg (S := ⟨[(4, .p (.bool r7)), (5, .p (.int .i64 0))], [], []⟩) (APath.chunk 2 (by kernel_rfl) (APath.one (.call (some 16) 34 [.t 14, .t 15]) (by kernel_rfl) (st_call (by kernel_rfl) (ref23_Separate_ok N a0_ a1_ r7 hr7)) (APath.fin (by kernel_rfl)))) (by kernel_rfl) ?_
      refine vc_ret ?_
      obtain rfl := some_inj h
      exact ret_of (by kernel_rfl)
/- residue.Room -/
theorem residue_Room_ok (N : Nat) (a0_ : api_Span) (a1_ : api_Span) (r : Int × Int × Int × Int) (h : residue_Room N a0_ a1_ = some r) : PCall Try.prog 18 [.agg [.p (.int .i64 a0_.Period), .p (.int .i64 a0_.From), .p (.int .i64 a0_.Long)], .agg [.p (.int .i64 a1_.Period), .p (.int .i64 a1_.From), .p (.int .i64 a1_.Long)]] (.tup [.p (.int .i64 r.1), .p (.int .i64 r.2.1), .p (.int .i64 r.2.2.1), .p (.int .i64 r.2.2.2)]) := by
  unfold residue_Room at h
  have hH : HP ([] : List HO) [] := trivial
  refine pcall_of chk18 rfl rfl (vc_sound _ _ _ ?_) rfl
  refine vc_seq ?_
  refine vc_reg (S := ⟨[(2, .loc 2 0), (3, .loc 3 0)], [(2, [.p (.int .i64 a0_.Period), .p (.int .i64 a0_.From), .p (.int .i64 a0_.Long)]), (3, [.p (.int .i64 a1_.Period), .p (.int .i64 a1_.From), .p (.int .i64 a1_.Long)])], []⟩) (APath.fin (by kernel_rfl)) (by kernel_rfl) ?_
  refine vc_seq ?_
  refine vc_seq ?_
  obtain ⟨r1, hr1, h⟩ := bind_some h
  refine vc_reg (S := ⟨[(2, .loc 2 0), (3, .loc 3 0), (8, .p (.int .i64 r1))], [(2, [.p (.int .i64 a0_.Period), .p (.int .i64 a0_.From), .p (.int .i64 a0_.Long)]), (3, [.p (.int .i64 a1_.Period), .p (.int .i64 a1_.From), .p (.int .i64 a1_.Long)])], []⟩) (APath.chunk 1 (by kernel_rfl) (APath.one (.call (some 11) 13 [.t 10]) (by kernel_rfl) (st_call (by kernel_rfl) (residue_Check_ok N a0_ r1 hr1)) (APath.fin (by kernel_rfl)))) (by kernel_rfl) ?_
  refine vc_seq ?_
  refine vc_reg (S := ⟨[(2, .loc 2 0), (3, .loc 3 0), (8, .p (.int .i64 r1)), (13, .p (.bool (r1 != 0)))], [(2, [.p (.int .i64 a0_.Period), .p (.int .i64 a0_.From), .p (.int .i64 a0_.Long)]), (3, [.p (.int .i64 a1_.Period), .p (.int .i64 a1_.From), .p (.int .i64 a1_.Long)])], []⟩) (APath.fin (by kernel_rfl)) (by kernel_rfl) ?_
  refine vc_ite (by kernel_rfl) h (fun hc2 h => ?_) (fun hc2 h => ?_)
  · refine vc_seq ?_
    refine vc_reg (S := ⟨[(4, .p (.int .i64 0)), (5, .p (.int .i64 0)), (6, .p (.int .i64 0)), (7, .p (.int .i64 r1))], [], []⟩) (APath.fin (by kernel_rfl)) (by kernel_rfl) ?_
    refine vc_ret ?_
    obtain rfl := some_inj h
    exact ret_of (by kernel_rfl)
  · refine vc_skip ?_
    refine vc_kp ?_
    refine vc_seq ?_
    refine vc_seq ?_
    obtain ⟨r3, hr3, h⟩ := bind_some h
    refine vc_reg (S := ⟨[(2, .loc 2 0), (3, .loc 3 0), (9, .p (.int .i64 r3))], [(2, [.p (.int .i64 a0_.Period), .p (.int .i64 a0_.From), .p (.int .i64 a0_.Long)]), (3, [.p (.int .i64 a1_.Period), .p (.int .i64 a1_.From), .p (.int .i64 a1_.Long)])], []⟩) (APath.chunk 1 (by kernel_rfl) (APath.one (.call (some 16) 13 [.t 15]) (by kernel_rfl) (st_call (by kernel_rfl) (residue_Check_ok N a1_ r3 hr3)) (APath.fin (by kernel_rfl)))) (by kernel_rfl) ?_
    refine vc_seq ?_
    refine vc_reg (S := ⟨[(2, .loc 2 0), (3, .loc 3 0), (9, .p (.int .i64 r3)), (18, .p (.bool (r3 != 0)))], [(2, [.p (.int .i64 a0_.Period), .p (.int .i64 a0_.From), .p (.int .i64 a0_.Long)]), (3, [.p (.int .i64 a1_.Period), .p (.int .i64 a1_.From), .p (.int .i64 a1_.Long)])], []⟩) (APath.fin (by kernel_rfl)) (by kernel_rfl) ?_
    refine vc_ite (by kernel_rfl) h (fun hc4 h => ?_) (fun hc4 h => ?_)
    · refine vc_seq ?_
      refine vc_reg (S := ⟨[(4, .p (.int .i64 0)), (5, .p (.int .i64 0)), (6, .p (.int .i64 0)), (7, .p (.int .i64 r3))], [], []⟩) (APath.fin (by kernel_rfl)) (by kernel_rfl) ?_
      refine vc_ret ?_
      obtain rfl := some_inj h
      exact ret_of (by kernel_rfl)
    · refine vc_skip ?_
      refine vc_kp ?_
      refine vc_seq ?_
      obtain ⟨r5, hr5, h⟩ := bind_some h
      refine vc_reg (S := ⟨[(4, .p (.int .i64 r5.1)), (5, .p (.int .i64 r5.2.1)), (6, .p (.int .i64 r5.2.2))], [], []⟩) (APath.chunk 2 (by kernel_rfl) (APath.one (.call (some 23) 35 [.t 21, .t 22]) (by kernel_rfl) (st_call (by kernel_rfl) (residue_room_ok N a0_ a1_ r5 hr5)) (APath.fin (by kernel_rfl)))) (by kernel_rfl) ?_
      refine vc_seq ?_
      refine vc_seq ?_
      refine vc_reg (S := ⟨[(4, .p (.int .i64 r5.1)), (5, .p (.int .i64 r5.2.1)), (6, .p (.int .i64 r5.2.2)), (29, .p (.bool (decide (r5.1 > r5.2.1))))], [], []⟩) (APath.fin (by kernel_rfl)) (by kernel_rfl) ?_
      refine vc_ite (by kernel_rfl) h (fun hc6 h => ?_) (fun hc6 h => ?_)
      · refine vc_seq ?_
        refine vc_reg (S := ⟨[(4, .p (.int .i64 0)), (5, .p (.int .i64 0)), (6, .p (.int .i64 0)), (7, .p (.int .i64 4))], [], []⟩) (APath.fin (by kernel_rfl)) (by kernel_rfl) ?_
        refine vc_ret ?_
        obtain rfl := some_inj h
        exact ret_of (by kernel_rfl)
      · refine vc_skip ?_
        refine vc_kp ?_
        refine vc_seq ?_
        refine vc_reg (S := ⟨[(4, .p (.int .i64 r5.1)), (5, .p (.int .i64 r5.2.1)), (6, .p (.int .i64 r5.2.2)), (7, .p (.int .i64 0))], [], []⟩) (APath.fin (by kernel_rfl)) (by kernel_rfl) ?_
        refine vc_ret ?_
        obtain rfl := some_inj h
        exact ret_of (by kernel_rfl)
/- isochronref23.Room -/
theorem ref23_Room_ok (N : Nat) (a0_ : api_Span) (a1_ : api_Span) (r : Int × Int × Int × Int) (h : ref23_Room N a0_ a1_ = some r) : PCall Try.prog 19 [.agg [.p (.int .i64 a0_.Period), .p (.int .i64 a0_.From), .p (.int .i64 a0_.Long)], .agg [.p (.int .i64 a1_.Period), .p (.int .i64 a1_.From), .p (.int .i64 a1_.Long)]] (.tup [.p (.int .i64 r.1), .p (.int .i64 r.2.1), .p (.int .i64 r.2.2.1), .p (.int .i64 r.2.2.2)]) := by
  unfold ref23_Room at h
  have hH : HP ([] : List HO) [] := trivial
  refine pcall_of chk19 rfl rfl (vc_sound _ _ _ ?_) rfl
  refine vc_seq ?_
  refine vc_reg (S := ⟨[(2, .loc 2 0), (3, .loc 3 0)], [(2, [.p (.int .i64 a0_.Period), .p (.int .i64 a0_.From), .p (.int .i64 a0_.Long)]), (3, [.p (.int .i64 a1_.Period), .p (.int .i64 a1_.From), .p (.int .i64 a1_.Long)])], []⟩) (APath.fin (by kernel_rfl)) (by kernel_rfl) ?_
  refine vc_seq ?_
  refine vc_seq ?_
  obtain ⟨j5, hj, h⟩ := bind_some h
  refine vc_regXR (fun s => s = ⟨[(2, .loc 2 0), (3, .loc 3 0), (19, .p (.bool j5))], [(2, [.p (.int .i64 a0_.Period), .p (.int .i64 a0_.From), .p (.int .i64 a0_.Long)]), (3, [.p (.int .i64 a1_.Period), .p (.int .i64 a1_.From), .p (.int .i64 a1_.Long)])], []⟩) ?_ ?_
  · clear h
    obtain ⟨r1, hr1, hj⟩ := bind_some hj
    rcases ite_some hj with ⟨hc2, hj⟩ | ⟨hc3, hj⟩
    · obtain rfl := some_inj hj
      exact ⟨_, (APath.chunk 1 (by kernel_rfl) (APath.one (.call (some 13) 31 [.t 12]) (by kernel_rfl) (st_call (by kernel_rfl) (ref23_Right_ok N a0_ r1 hr1)) (APath.one (.val 14 .not [.t 13]) (by kernel_rfl) (st_bool (c := (!r1)) (by kernel_rfl) hc2) (APath.fin (by kernel_rfl))))), (by show _ = _; kernel_rfl)⟩
    · obtain ⟨r4, hr4, hj⟩ := bind_some hj
      obtain rfl := some_inj hj
      exact ⟨_, (APath.chunk 1 (by kernel_rfl) (APath.one (.call (some 13) 31 [.t 12]) (by kernel_rfl) (st_call (by kernel_rfl) (ref23_Right_ok N a0_ r1 hr1)) (APath.one (.val 14 .not [.t 13]) (by kernel_rfl) (st_bool (c := (!r1)) (by kernel_rfl) hc3) (APath.chunk 2 (by kernel_rfl) (APath.oneG (.call (some 17) 31 [.t 16]) 15 false (by kernel_rfl) (by kernel_rfl) (st_call (by kernel_rfl) (ref23_Right_ok N a1_ r4 hr4)) (APath.fin (by kernel_rfl))))))), (by show _ = _; kernel_rfl)⟩
  · clear hj
    rintro s hR
    obtain rfl := hR
    refine vc_ite (by kernel_rfl) h (fun hc6 h => ?_) (fun hc6 h => ?_)
    · refine vc_seq ?_
      refine vc_reg (S := ⟨[(4, .p (.int .i64 0)), (5, .p (.int .i64 0)), (6, .p (.int .i64 0)), (7, .p (.int .i64 330))], [], []⟩) (APath.fin (by kernel_rfl)) (by kernel_rfl) ?_
      refine vc_ret ?_
      obtain rfl := some_inj h
      exact ret_of (by kernel_rfl)
    · refine vc_skip ?_
      refine vc_kp ?_
      refine vc_seq ?_
      obtain ⟨r7, hr7, h⟩ := bind_some h
      refine vc_reg (S := ⟨[(2, .loc 2 0), (3, .loc 3 0), (8, .p (.int .i64 r7))], [(2, [.p (.int .i64 a0_.Period), .p (.int .i64 a0_.From), .p (.int .i64 a0_.Long)]), (3, [.p (.int .i64 a1_.Period), .p (.int .i64 a1_.From), .p (.int .i64 a1_.Long)])], []⟩) (APath.chunk 4 (by kernel_rfl) (APath.one (.call (some 24) 36 [.t 21, .t 23]) (by kernel_rfl) (st_call (by kernel_rfl) (ref23_Gcd_ok N a0_.Period a1_.Period r7 hr7)) (APath.fin (by kernel_rfl)))) (by kernel_rfl) ?_
      refine vc_seq ?_
      refine vc_reg (S := ⟨[(2, .loc 2 0), (3, .loc 3 0), (8, .p (.int .i64 r7)), (9, .p (.int .i64 r7)), (10, .p (.int .i64 (-1)))], [(2, [.p (.int .i64 a0_.Period), .p (.int .i64 a0_.From), .p (.int .i64 a0_.Long)]), (3, [.p (.int .i64 a1_.Period), .p (.int .i64 a1_.From), .p (.int .i64 a1_.Long)])], []⟩) (APath.fin (by kernel_rfl)) (by kernel_rfl) ?_
      refine vc_seq ?_
      refine vc_seq ?_
      refine vc_reg (S := ⟨[(2, .loc 2 0), (3, .loc 3 0), (8, .p (.int .i64 r7)), (9, .p (.int .i64 r7)), (10, .p (.int .i64 (-1))), (11, .p (.int .i64 0))], [(2, [.p (.int .i64 a0_.Period), .p (.int .i64 a0_.From), .p (.int .i64 a0_.Long)]), (3, [.p (.int .i64 a1_.Period), .p (.int .i64 a1_.From), .p (.int .i64 a1_.Long)])], []⟩) (APath.fin (by kernel_rfl)) (by kernel_rfl) ?_
      refine vc_block ?_
      obtain ⟨o1017, ho1017, h⟩ := bind_some h
      refine vc_loop ((loop_sim (fun (x : Int × Int × Int × Int) s => s = ⟨[(2, .loc 2 0), (3, .loc 3 0), (8, .p (.int .i64 r7)), (9, .p (.int .i64 x.1)), (10, .p (.int .i64 x.2.1)), (11, .p (.int .i64 x.2.2.1))], [(2, [.p (.int .i64 a0_.Period), .p (.int .i64 a0_.From), .p (.int .i64 a0_.Long)]), (3, [.p (.int .i64 a1_.Period), .p (.int .i64 x.2.2.2), .p (.int .i64 a1_.Long)])], []⟩) (fun x : Int × Int × Int × Int => ref23_Room_L1 N a0_ a1_ r7 x.1 x.2.1 x.2.2.1 x.2.2.2) (fun (p : Int × Int × Int × Int) e s => e = .exit 0 ∧ (s = ⟨[(2, .loc 2 0), (3, .loc 3 0), (8, .p (.int .i64 r7)), (9, .p (.int .i64 p.1)), (10, .p (.int .i64 p.2.1)), (11, .p (.int .i64 p.2.2.1))], [(2, [.p (.int .i64 a0_.Period), .p (.int .i64 a0_.From), .p (.int .i64 a0_.Long)]), (3, [.p (.int .i64 a1_.Period), .p (.int .i64 p.2.2.2), .p (.int .i64 a1_.Long)])], []⟩)) ?_ N _ o1017 _ ho1017 (by show _ = _; kernel_rfl)).mono ?_)
      · clear h ho1017
        rintro ⟨i8, i9, i10, i11⟩ o s h hR
        obtain rfl := hR
        replace h : ref23_Room_L1 N a0_ a1_ r7 i8 i9 i10 i11 = some o := h
        unfold ref23_Room_L1 at h
        refine vc_seq ?_
        refine vc_seq ?_
        refine vc_reg (S := ⟨[(2, .loc 2 0), (3, .loc 3 0), (8, .p (.int .i64 r7)), (9, .p (.int .i64 i8)), (10, .p (.int .i64 i9)), (11, .p (.int .i64 i10)), (28, .p (.bool (decide (i10 < r7))))], [(2, [.p (.int .i64 a0_.Period), .p (.int .i64 a0_.From), .p (.int .i64 a0_.Long)]), (3, [.p (.int .i64 a1_.Period), .p (.int .i64 i11), .p (.int .i64 a1_.Long)])], []⟩) (APath.fin (by kernel_rfl)) (by kernel_rfl) ?_
        refine vc_ite (by kernel_rfl) h (fun hc512 h => ?_) (fun hc512 h => ?_)
        · refine vc_skip ?_
          refine vc_kp ?_
          obtain ⟨j1013, hj1013, h⟩ := bind_some h
          refine vc_joinK [2, 3, 8, 9, 10, 11] (fun s => s = ⟨[(2, .loc 2 0), (3, .loc 3 0), (8, .p (.int .i64 r7)), (9, .p (.int .i64 j1013.1)), (10, .p (.int .i64 j1013.2.1)), (11, .p (.int .i64 i10))], [(2, [.p (.int .i64 a0_.Period), .p (.int .i64 a0_.From), .p (.int .i64 a0_.Long)]), (3, [.p (.int .i64 a1_.Period), .p (.int .i64 j1013.2.2), .p (.int .i64 a1_.Long)])], []⟩) ?_ ?_
          · clear h
            have h := hj1013
            refine vc_block ?_
            refine vc_seq ?_
            obtain ⟨r1014, hr1014, h⟩ := bind_some h
            refine vc_reg (S := ⟨[(2, .loc 2 0), (3, .loc 3 0), (8, .p (.int .i64 r7)), (9, .p (.int .i64 i8)), (10, .p (.int .i64 i9)), (11, .p (.int .i64 i10))], [(2, [.p (.int .i64 a0_.Period), .p (.int .i64 a0_.From), .p (.int .i64 a0_.Long)]), (3, [.p (.int .i64 a1_.Period), .p (.int .i64 r1014), .p (.int .i64 a1_.Long)])], []⟩) (APath.chunk 6 (by kernel_rfl) (APath.one (.call (some 37) 28 [.t 34, .t 36]) (by kernel_rfl) (st_call (by kernel_rfl) (ref23_Mod_ok N (w64 (a0_.From + i10)) a1_.Period r1014 hr1014)) (APath.fin (by kernel_rfl)))) (by kernel_rfl) ?_
            refine vc_seq ?_
            obtain ⟨r1015, hr1015, h⟩ := bind_some h
            refine vc_reg (S := ⟨[(2, .loc 2 0), (3, .loc 3 0), (8, .p (.int .i64 r7)), (9, .p (.int .i64 i8)), (10, .p (.int .i64 i9)), (11, .p (.int .i64 i10)), (41, .p (.bool r1015))], [(2, [.p (.int .i64 a0_.Period), .p (.int .i64 a0_.From), .p (.int .i64 a0_.Long)]), (3, [.p (.int .i64 a1_.Period), .p (.int .i64 r1014), .p (.int .i64 a1_.Long)])], []⟩) (APath.chunk 2 (by kernel_rfl) (APath.one (.call (some 41) 34 [.t 39, .t 40]) (by kernel_rfl) (st_call (by kernel_rfl) (ref23_Separate_ok N a0_ (api_Span.mk a1_.Period r1014 a1_.Long) r1015 hr1015)) APath.done)) (by kernel_rfl) ?_
            refine vc_ite (by kernel_rfl) h (fun hc1016 h => ?_) (fun hc1016 h => ?_)
            · refine vc_reg (S := ⟨[(2, .loc 2 0), (3, .loc 3 0), (8, .p (.int .i64 r7)), (9, .p (.int .i64 (if i10 < i8 then i10 else i8))), (10, .p (.int .i64 i10)), (11, .p (.int .i64 i10))], [(2, [.p (.int .i64 a0_.Period), .p (.int .i64 a0_.From), .p (.int .i64 a0_.Long)]), (3, [.p (.int .i64 a1_.Period), .p (.int .i64 r1014), .p (.int .i64 a1_.Long)])], []⟩) (APath.fin (by kernel_rfl)) (by kernel_rfl) ?_
              obtain rfl := some_inj h
              exact ⟨rfl, (by show _ = _; kernel_rfl)⟩
            · refine vc_skip ?_
              obtain rfl := some_inj h
              exact ⟨rfl, (by show _ = _; kernel_rfl)⟩
          · clear hj1013
            rintro s hR
            obtain rfl := hR
            refine vc_reg (S := ⟨[(2, .loc 2 0), (3, .loc 3 0), (8, .p (.int .i64 r7)), (9, .p (.int .i64 j1013.1)), (10, .p (.int .i64 j1013.2.1)), (11, .p (.int .i64 (w64 (i10 + 1))))], [(2, [.p (.int .i64 a0_.Period), .p (.int .i64 a0_.From), .p (.int .i64 a0_.Long)]), (3, [.p (.int .i64 a1_.Period), .p (.int .i64 j1013.2.2), .p (.int .i64 a1_.Long)])], []⟩) (APath.fin (by kernel_rfl)) (by kernel_rfl) ?_
            obtain rfl := some_inj h
            exact ⟨_, rfl, (by show _ = _; kernel_rfl)⟩
        · refine vc_exit ?_
          try show vc _ _ _ _ _
          obtain rfl := some_inj h
          exact ⟨_, rfl, rfl, (by show _ = _; kernel_rfl)⟩
      · rintro e s hq
        obtain ⟨rfl, hR⟩ := hq
        obtain rfl := hR
        try show vc _ _ _ _ _
        refine vc_seq ?_
        refine vc_seq ?_
        refine vc_reg (S := ⟨[(8, .p (.int .i64 r7)), (9, .p (.int .i64 o1017.1)), (10, .p (.int .i64 o1017.2.1)), (47, .p (.bool (decide (o1017.2.1 < 0))))], [], []⟩) (APath.fin (by kernel_rfl)) (by kernel_rfl) ?_
        refine vc_ite (by kernel_rfl) h (fun hc1018 h => ?_) (fun hc1018 h => ?_)
        · refine vc_seq ?_
          refine vc_reg (S := ⟨[(4, .p (.int .i64 0)), (5, .p (.int .i64 0)), (6, .p (.int .i64 0)), (7, .p (.int .i64 4))], [], []⟩) (APath.fin (by kernel_rfl)) (by kernel_rfl) ?_
          refine vc_ret ?_
          obtain rfl := some_inj h
          exact ret_of (by kernel_rfl)
        · refine vc_skip ?_
          refine vc_kp ?_
          refine vc_seq ?_
          refine vc_reg (S := ⟨[(4, .p (.int .i64 o1017.1)), (5, .p (.int .i64 o1017.2.1)), (6, .p (.int .i64 r7)), (7, .p (.int .i64 0))], [], []⟩) (APath.fin (by kernel_rfl)) (by kernel_rfl) ?_
          refine vc_ret ?_
          obtain rfl := some_inj h
          exact ret_of (by kernel_rfl)
/- isochronref23.Next -/
theorem ref23_Next_ok (N : Nat) (a0_ : (List api_Span)) (a1_ : api_Span) (r : Int × Int) (h : ref23_Next N a0_ a1_ = some r) : PCall Try.prog 22 [.p (.sl 3 false (List.map e_api_Span a0_)), .agg [.p (.int .i64 a1_.Period), .p (.int .i64 a1_.From), .p (.int .i64 a1_.Long)]] (.tup [.p (.int .i64 r.1), .p (.int .i64 r.2)]) := by
  unfold ref23_Next at h
  have hH : HP ([] : List HO) [] := trivial
  refine pcall_of chk22 rfl rfl (vc_sound _ _ _ ?_) rfl
  refine vc_seq ?_
  refine vc_reg (S := ⟨[(0, .p (.sl 3 false (List.map e_api_Span a0_))), (3, .loc 3 0)], [(3, [.p (.int .i64 a1_.Period), .p (.int .i64 a1_.From), .p (.int .i64 a1_.Long)])], []⟩) (APath.fin (by kernel_rfl)) (by kernel_rfl) ?_
  refine vc_seq ?_
  obtain ⟨r1, hr1, h⟩ := bind_some h
  refine vc_reg (S := ⟨[(0, .p (.sl 3 false (List.map e_api_Span a0_))), (3, .loc 3 0), (6, .p (.int .i64 r1))], [(3, [.p (.int .i64 a1_.Period), .p (.int .i64 a1_.From), .p (.int .i64 a1_.Long)])], []⟩) (APath.chunk 1 (by kernel_rfl) (APath.one (.call (some 9) 39 [.t 8]) (by kernel_rfl) (st_call (by kernel_rfl) (ref23_list_ok N a0_ r1 hr1)) (APath.fin (by kernel_rfl)))) (by kernel_rfl) ?_
  obtain ⟨j502, hj502, h⟩ := bind_some h
  refine vc_joinK [0, 3, 6] (fun s => s = ⟨[(0, .p (.sl 3 false (List.map e_api_Span a0_))), (3, .loc 3 0), (6, .p (.int .i64 j502))], [(3, [.p (.int .i64 a1_.Period), .p (.int .i64 a1_.From), .p (.int .i64 a1_.Long)])], []⟩) ?_ ?_
  · clear h
    have h := hj502
    refine vc_seq ?_
    refine vc_reg (S := ⟨[(0, .p (.sl 3 false (List.map e_api_Span a0_))), (3, .loc 3 0), (6, .p (.int .i64 r1)), (11, .p (.bool (r1 == 0)))], [(3, [.p (.int .i64 a1_.Period), .p (.int .i64 a1_.From), .p (.int .i64 a1_.Long)])], []⟩) (APath.fin (by kernel_rfl)) (by kernel_rfl) ?_
    refine vc_ite (by kernel_rfl) h (fun hc503 h => ?_) (fun hc503 h => ?_)
    · obtain ⟨r504, hr504, h⟩ := bind_some h
      refine vc_reg (S := ⟨[(0, .p (.sl 3 false (List.map e_api_Span a0_))), (3, .loc 3 0), (6, .p (.int .i64 r504))], [(3, [.p (.int .i64 a1_.Period), .p (.int .i64 a1_.From), .p (.int .i64 a1_.Long)])], []⟩) (APath.chunk 1 (by kernel_rfl) (APath.one (.call (some 13) 14 [.t 12]) (by kernel_rfl) (st_call (by kernel_rfl) (ref23_Check_ok N a1_ r504 hr504)) (APath.fin (by kernel_rfl)))) (by kernel_rfl) ?_
      obtain rfl := some_inj h
      exact ⟨rfl, (by show _ = _; kernel_rfl)⟩
    · refine vc_skip ?_
      obtain rfl := some_inj h
      exact ⟨rfl, (by show _ = _; kernel_rfl)⟩
  · clear hj502
    rintro s hR
    obtain rfl := hR
    refine vc_seq ?_
    refine vc_seq ?_
    refine vc_reg (S := ⟨[(0, .p (.sl 3 false (List.map e_api_Span a0_))), (3, .loc 3 0), (6, .p (.int .i64 j502)), (15, .p (.bool (j502 != 0)))], [(3, [.p (.int .i64 a1_.Period), .p (.int .i64 a1_.From), .p (.int .i64 a1_.Long)])], []⟩) (APath.fin (by kernel_rfl)) (by kernel_rfl) ?_
    refine vc_ite (by kernel_rfl) h (fun hc505 h => ?_) (fun hc505 h => ?_)
    · refine vc_seq ?_
      refine vc_reg (S := ⟨[(4, .p (.int .i64 0)), (5, .p (.int .i64 j502))], [], []⟩) (APath.fin (by kernel_rfl)) (by kernel_rfl) ?_
      refine vc_ret ?_
      obtain rfl := some_inj h
      exact ret_of (by kernel_rfl)
    · refine vc_skip ?_
      refine vc_kp ?_
      refine vc_seq ?_
      refine vc_seq ?_
      refine vc_reg (S := ⟨[(0, .p (.sl 3 false (List.map e_api_Span a0_))), (3, .loc 3 0), (7, .p (.int .i64 0))], [(3, [.p (.int .i64 a1_.Period), .p (.int .i64 a1_.From), .p (.int .i64 a1_.Long)])], []⟩) (APath.fin (by kernel_rfl)) (by kernel_rfl) ?_
      refine vc_block ?_
      obtain ⟨o1011, ho1011, h⟩ := bind_some h
      refine vc_loop ((loop_sim (fun (x : Int) s => s = ⟨[(0, .p (.sl 3 false (List.map e_api_Span a0_))), (3, .loc 3 0), (7, .p (.int .i64 x))], [(3, [.p (.int .i64 a1_.Period), .p (.int .i64 a1_.From), .p (.int .i64 a1_.Long)])], []⟩) (fun x : Int => ref23_Next_L1 N a0_ a1_ x) (fun (p : (Int) ⊕ (Int × Int)) e s => match p with | (.inl p) => e = .exit 0 ∧ (s = ⟨[(0, .p (.sl 3 false (List.map e_api_Span a0_))), (3, .loc 3 0), (7, .p (.int .i64 p))], [(3, [.p (.int .i64 a1_.Period), .p (.int .i64 a1_.From), .p (.int .i64 a1_.Long)])], []⟩) | (.inr p) => e = .ret ∧ ∃ xs, resL s i22.res = some xs ∧ tupOf xs = .tup [.p (.int .i64 p.1), .p (.int .i64 p.2)]) ?_ N _ o1011 _ ho1011 (by show _ = _; kernel_rfl)).mono ?_)
      · clear h ho1011
        rintro i506 o s h hR
        obtain rfl := hR
        replace h : ref23_Next_L1 N a0_ a1_ i506 = some o := h
        unfold ref23_Next_L1 at h
        refine vc_seq ?_
        refine vc_seq ?_
        refine vc_reg (S := ⟨[(0, .p (.sl 3 false (List.map e_api_Span a0_))), (3, .loc 3 0), (7, .p (.int .i64 i506)), (20, .p (.bool (decide (i506 < a1_.Period))))], [(3, [.p (.int .i64 a1_.Period), .p (.int .i64 a1_.From), .p (.int .i64 a1_.Long)])], []⟩) (APath.fin (by kernel_rfl)) (by kernel_rfl) ?_
        refine vc_ite (by kernel_rfl) h (fun hc1007 h => ?_) (fun hc1007 h => ?_)
        · refine vc_skip ?_
          refine vc_kp ?_
          refine vc_seq ?_
          refine vc_block ?_
          refine vc_seq ?_
          obtain ⟨r1008, hr1008, h⟩ := bind_some h
          obtain ⟨r1009, hr1009, h⟩ := bind_some h
          refine vc_reg (S := ⟨[(0, .p (.sl 3 false (List.map e_api_Span a0_))), (3, .loc 3 0), (7, .p (.int .i64 i506)), (27, .p (.bool r1009))], [(3, [.p (.int .i64 a1_.Period), .p (.int .i64 a1_.From), .p (.int .i64 a1_.Long)])], []⟩) (APath.chunk 3 (by kernel_rfl) (APath.one (.call (some 26) 27 [.t 24, .t 25]) (by kernel_rfl) (st_call (by kernel_rfl) (ref23_Shifted_ok N a1_ i506 r1008 hr1008)) (APath.one (.call (some 27) 40 [.t 23, .t 26]) (by kernel_rfl) (st_call (by kernel_rfl) (ref23_Clear_ok N a0_ r1008 r1009 hr1009)) APath.done))) (by kernel_rfl) ?_
          refine vc_ite (by kernel_rfl) h (fun hc1010 h => ?_) (fun hc1010 h => ?_)
          · refine vc_seq ?_
            refine vc_reg (S := ⟨[(4, .p (.int .i64 i506)), (5, .p (.int .i64 0))], [], []⟩) (APath.fin (by kernel_rfl)) (by kernel_rfl) ?_
            refine vc_ret ?_
            obtain rfl := some_inj h
            exact ⟨_, rfl, rfl, ret_of (by kernel_rfl)⟩
          · refine vc_skip ?_
            refine vc_kp ?_
            refine vc_reg (S := ⟨[(0, .p (.sl 3 false (List.map e_api_Span a0_))), (3, .loc 3 0), (7, .p (.int .i64 (w64 (i506 + 1))))], [(3, [.p (.int .i64 a1_.Period), .p (.int .i64 a1_.From), .p (.int .i64 a1_.Long)])], []⟩) (APath.fin (by kernel_rfl)) (by kernel_rfl) ?_
            obtain rfl := some_inj h
            exact ⟨_, rfl, (by show _ = _; kernel_rfl)⟩
        · refine vc_exit ?_
          try show vc _ _ _ _ _
          obtain rfl := some_inj h
          exact ⟨_, rfl, rfl, (by show _ = _; kernel_rfl)⟩
      · rintro e s hq
        rcases o1011 with p1012 | p1013
        · dsimp only at h hq
          obtain ⟨rfl, hR⟩ := hq
          obtain rfl := hR
          try show vc _ _ _ _ _
          refine vc_seq ?_
          refine vc_reg (S := ⟨[(4, .p (.int .i64 0)), (5, .p (.int .i64 4))], [], []⟩) (APath.fin (by kernel_rfl)) (by kernel_rfl) ?_
          refine vc_ret ?_
          obtain rfl := some_inj h
          exact ret_of (by kernel_rfl)
        · dsimp only at h hq
          obtain ⟨rfl, hq⟩ := hq
          obtain rfl := some_inj h
          exact hq
/- residue.Cycle -/
theorem residue_Cycle_ok (N : Nat) (a0_ : (List api_Span)) (r : Int × Int) (h : residue_Cycle N a0_ = some r) : PCall Try.prog 23 [.p (.sl 3 false (List.map e_api_Span a0_))] (.tup [.p (.int .i64 r.1), .p (.int .i64 r.2)]) := by
  unfold residue_Cycle at h
  have hH : HP ([] : List HO) [] := trivial
  refine pcall_of chk23 rfl rfl (vc_sound _ _ _ ?_) rfl
  refine vc_seq ?_
  refine vc_reg (S := ⟨[(0, .p (.sl 3 false (List.map e_api_Span a0_)))], [], []⟩) (APath.fin (by kernel_rfl)) (by kernel_rfl) ?_
  refine vc_seq ?_
  refine vc_seq ?_
  obtain ⟨r1, hr1, h⟩ := bind_some h
  refine vc_reg (S := ⟨[(0, .p (.sl 3 false (List.map e_api_Span a0_))), (4, .p (.int .i64 r1))], [], []⟩) (APath.chunk 1 (by kernel_rfl) (APath.one (.call (some 10) 37 [.t 9]) (by kernel_rfl) (st_call (by kernel_rfl) (residue_checkAll_ok N a0_ r1 hr1)) (APath.fin (by kernel_rfl)))) (by kernel_rfl) ?_
  refine vc_seq ?_
  refine vc_reg (S := ⟨[(0, .p (.sl 3 false (List.map e_api_Span a0_))), (4, .p (.int .i64 r1)), (12, .p (.bool (r1 != 0)))], [], []⟩) (APath.fin (by kernel_rfl)) (by kernel_rfl) ?_
  refine vc_ite (by kernel_rfl) h (fun hc2 h => ?_) (fun hc2 h => ?_)
  · refine vc_seq ?_
    refine vc_reg (S := ⟨[(2, .p (.int .i64 0)), (3, .p (.int .i64 r1))], [], []⟩) (APath.fin (by kernel_rfl)) (by kernel_rfl) ?_
    refine vc_ret ?_
    obtain rfl := some_inj h
    exact ret_of (by kernel_rfl)
  · refine vc_skip ?_
    refine vc_kp ?_
    refine vc_seq ?_
    obtain ⟨l5, hl5, h⟩ := bind_some h
    obtain ⟨a3, H4, ha3, hH4, ha3b, hH⟩ := HP.make eI64 hH hl5
    replace hH : HP H4 [.arr a3 1 false (List.map eI64 l5)] := hH
    have hfa3 := own_form (HP.get hH 0 rfl)
    refine vc_reg (S := ⟨[(0, .p (.sl 3 false (List.map e_api_Span a0_))), (5, a3)], [], H4⟩) (APath.chunk 1 (by rcases hfa3 with ha3e | ⟨_, _, ha3e⟩ <;> subst ha3e <;> kernel_rfl) (APath.one (.val 15 .len [.t 14]) (by kernel_rfl) (st_val (ys := [.p (.sl 3 false (List.map e_api_Span a0_))]) (by rcases hfa3 with ha3e | ⟨_, _, ha3e⟩ <;> subst ha3e <;> kernel_rfl) (vexec_len e_api_Span)) (APath.one (.mkSl 16 (.t 15) (.t 15) [.int .i64 0] 8) (by kernel_rfl) (st_make (H := []) (zero := [.int .i64 0]) (bytes := 8) (by rcases hfa3 with ha3e | ⟨_, _, ha3e⟩ <;> subst ha3e <;> kernel_rfl) (by rcases hfa3 with ha3e | ⟨_, _, ha3e⟩ <;> subst ha3e <;> kernel_rfl) (by rcases hfa3 with ha3e | ⟨_, _, ha3e⟩ <;> subst ha3e <;> kernel_rfl) ha3 hH4 ha3b) (APath.fin (by rcases hfa3 with ha3e | ⟨_, _, ha3e⟩ <;> subst ha3e <;> kernel_rfl))))) (by rcases hfa3 with ha3e | ⟨_, _, ha3e⟩ <;> subst ha3e <;> kernel_rfl) ?_
    refine vc_seq ?_
    refine vc_seq ?_
    refine vc_reg (S := ⟨[(5, a3), (17, .p (.sl 3 false (List.map e_api_Span a0_))), (18, .p (.int .i64 ((List.length a0_ : Nat) : Int))), (19, .p (.int .i64 0))], [], H4⟩) (APath.chunk 1 (by rcases hfa3 with ha3e | ⟨_, _, ha3e⟩ <;> subst ha3e <;> kernel_rfl) (APath.one (.val 18 .len [.t 17]) (by kernel_rfl) (st_val (ys := [.p (.sl 3 false (List.map e_api_Span a0_))]) (by rcases hfa3 with ha3e | ⟨_, _, ha3e⟩ <;> subst ha3e <;> kernel_rfl) (vexec_len e_api_Span)) (APath.fin (by rcases hfa3 with ha3e | ⟨_, _, ha3e⟩ <;> subst ha3e <;> kernel_rfl)))) (by rcases hfa3 with ha3e | ⟨_, _, ha3e⟩ <;> subst ha3e <;> kernel_rfl) ?_
    refine vc_block ?_
    obtain ⟨o518, ho518, h⟩ := bind_some h
    refine vc_loop ((loop_sim (fun (x : Int × (List Int)) s => ∃ (a6 : AV) (H7 : List HO), s = ⟨[(5, a6), (17, .p (.sl 3 false (List.map e_api_Span a0_))), (18, .p (.int .i64 ((List.length a0_ : Nat) : Int))), (19, .p (.int .i64 x.1))], [], H7⟩ ∧ HP H7 [.arr a6 1 false (List.map eI64 x.2)]) (fun x : Int × (List Int) => residue_Cycle_L1 N a0_ x.1 x.2) (fun (p : Int × (List Int)) e s => e = .exit 0 ∧ (∃ (a510 : AV) (H511 : List HO), s = ⟨[(5, a510), (17, .p (.sl 3 false (List.map e_api_Span a0_))), (18, .p (.int .i64 ((List.length a0_ : Nat) : Int))), (19, .p (.int .i64 p.1))], [], H511⟩ ∧ HP H511 [.arr a510 1 false (List.map eI64 p.2)])) ?_ N _ o518 _ ho518 ⟨a3, H4, (by show _ = _; rcases hfa3 with ha3e | ⟨_, _, ha3e⟩ <;> subst ha3e <;> kernel_rfl), (HP.pick hH [0] rfl)⟩).mono ?_)
    · clear h ho518
      rintro ⟨i8, l9⟩ o s h hR
      obtain ⟨a6, H7, rfl, hH⟩ := hR
      replace hH : HP H7 [.arr a6 1 false (List.map eI64 l9)] := hH
      have hfa6 := own_form (HP.get hH 0 rfl)
      replace h : residue_Cycle_L1 N a0_ i8 l9 = some o := h
      unfold residue_Cycle_L1 at h
      refine vc_seq ?_
      refine vc_reg (S := ⟨[(5, a6), (17, .p (.sl 3 false (List.map e_api_Span a0_))), (18, .p (.int .i64 ((List.length a0_ : Nat) : Int))), (19, .p (.int .i64 i8)), (20, .p (.bool (decide (i8 < ((List.length a0_ : Nat) : Int)))))], [], H7⟩) (APath.fin (by rcases hfa6 with ha6e | ⟨_, _, ha6e⟩ <;> subst ha6e <;> kernel_rfl)) (by rcases hfa6 with ha6e | ⟨_, _, ha6e⟩ <;> subst ha6e <;> kernel_rfl) ?_
      refine vc_seq ?_
      refine vc_ite (by kernel_rfl) h (fun hc512 h => ?_) (fun hc512 h => ?_)
      · refine vc_skip ?_
        refine vc_kp ?_
        refine vc_seq ?_
        refine vc_block ?_
        refine vc_seq ?_
        obtain ⟨e513, he513, h⟩ := bind_some h
        refine vc_reg (S := ⟨[(5, a6), (6, .p (.int .i64 i8)), (7, .loc 7 0), (17, .p (.sl 3 false (List.map e_api_Span a0_))), (18, .p (.int .i64 ((List.length a0_ : Nat) : Int))), (19, .p (.int .i64 i8))], [(7, [.p (.int .i64 e513.Period), .p (.int .i64 e513.From), .p (.int .i64 e513.Long)])], H7⟩) (APath.chunk 1 (by rcases hfa6 with ha6e | ⟨_, _, ha6e⟩ <;> subst ha6e <;> kernel_rfl) (APath.one (.val 22 (.iaddrS 3) [.t 17, .t 19]) (by kernel_rfl) (st_val (ys := [.p (.sl 3 false (List.map e_api_Span a0_)), .p (.int .i64 i8)]) (by rcases hfa6 with ha6e | ⟨_, _, ha6e⟩ <;> subst ha6e <;> kernel_rfl) (vexec_iaddrS e_api_Span he513)) (APath.one (.load 23 (.t 22) 3 true) (by kernel_rfl) (st_loadP (sz := 3) (off := 0) (cs := [.int .i64 e513.Period, .int .i64 e513.From, .int .i64 e513.Long]) (r := .agg [.p (.int .i64 e513.Period), .p (.int .i64 e513.From), .p (.int .i64 e513.Long)]) e_api_Span he513 (by rcases hfa6 with ha6e | ⟨_, _, ha6e⟩ <;> subst ha6e <;> kernel_rfl) (by rcases hfa6 with ha6e | ⟨_, _, ha6e⟩ <;> subst ha6e <;> kernel_rfl) (by rcases hfa6 with ha6e | ⟨_, _, ha6e⟩ <;> subst ha6e <;> kernel_rfl)) (APath.fin (by rcases hfa6 with ha6e | ⟨_, _, ha6e⟩ <;> subst ha6e <;> kernel_rfl))))) (by rcases hfa6 with ha6e | ⟨_, _, ha6e⟩ <;> subst ha6e <;> kernel_rfl) ?_
        obtain ⟨e514, he514, h⟩ := bind_some h
        obtain ⟨id515, ver516, _, hid515f, hid515, hid515a, hid515v⟩ := HP.elem (k := 0) (a := a6) (sz := 1) (frz := false) eI64 hH rfl he514
        obtain ⟨H517, hH517, hH⟩ := HP.setRow (k := 0) (off := 0) (cs := [.p (.int .i64 e513.Period)]) (ps := [.int .i64 e513.Period]) (e' := e513.Period) eI64 hH rfl hid515a hid515 (hid515f rfl) he514 (by kernel_rfl) (by kernel_rfl)
        replace hH : HP H517 [.arr a6 1 false (List.map eI64 (List.set l9 (Int.toNat i8) e513.Period))] := hH
        refine vc_reg (S := ⟨[(5, a6), (17, .p (.sl 3 false (List.map e_api_Span a0_))), (18, .p (.int .i64 ((List.length a0_ : Nat) : Int))), (19, .p (.int .i64 i8))], [], H517⟩) (APath.chunk 4 (by rcases hfa6 with ha6e | ⟨_, _, ha6e⟩ <;> subst ha6e <;> kernel_rfl) (APath.one (.val 28 (.iaddrS 1) [.t 24, .t 25]) (by kernel_rfl) (st_val (ys := [a6, .p (.int .i64 i8)]) (by rcases hfa6 with ha6e | ⟨_, _, ha6e⟩ <;> subst ha6e <;> kernel_rfl) (hid515v .i64)) (APath.one (.store (.t 28) (.t 27) 1) (by kernel_rfl) (st_storeH (H := H7) (v := .p (.int .i64 e513.Period)) (by rcases hfa6 with ha6e | ⟨_, _, ha6e⟩ <;> subst ha6e <;> kernel_rfl) (by rcases hfa6 with ha6e | ⟨_, _, ha6e⟩ <;> subst ha6e <;> kernel_rfl) (by rcases hfa6 with ha6e | ⟨_, _, ha6e⟩ <;> subst ha6e <;> kernel_rfl) (by rcases hfa6 with ha6e | ⟨_, _, ha6e⟩ <;> subst ha6e <;> kernel_rfl) hH517) APath.done))) (by rcases hfa6 with ha6e | ⟨_, _, ha6e⟩ <;> subst ha6e <;> kernel_rfl) ?_
        refine vc_reg (S := ⟨[(5, a6), (17, .p (.sl 3 false (List.map e_api_Span a0_))), (18, .p (.int .i64 ((List.length a0_ : Nat) : Int))), (19, .p (.int .i64 (w64 (i8 + 1))))], [], H517⟩) (APath.fin (by rcases hfa6 with ha6e | ⟨_, _, ha6e⟩ <;> subst ha6e <;> kernel_rfl)) (by rcases hfa6 with ha6e | ⟨_, _, ha6e⟩ <;> subst ha6e <;> kernel_rfl) ?_
        obtain rfl := some_inj h
        exact ⟨_, rfl, ⟨a6, H517, (by show _ = _; rcases hfa6 with ha6e | ⟨_, _, ha6e⟩ <;> subst ha6e <;> kernel_rfl), (HP.pick hH [0] rfl)⟩⟩
      · refine vc_exit ?_
        try show vc _ _ _ _ _
        obtain rfl := some_inj h
        exact ⟨_, rfl, rfl, ⟨a6, H7, (by show _ = _; rcases hfa6 with ha6e | ⟨_, _, ha6e⟩ <;> subst ha6e <;> kernel_rfl), (HP.pick hH [0] rfl)⟩⟩
    · rintro e s hq
      obtain ⟨rfl, hR⟩ := hq
      obtain ⟨a510, H511, rfl, hH⟩ := hR
      replace hH : HP H511 [.arr a510 1 false (List.map eI64 o518.2)] := hH
      have hfa510 := own_form (HP.get hH 0 rfl)
      try show vc _ _ _ _ _
      refine vc_seq ?_
      obtain ⟨r519, hr519, h⟩ := bind_some h
      obtain ⟨H520, hzH520, hzH520v, hH⟩ := HP.frz (k := 0) (a := a510) (sz := 1) (frz := false) eI64 hH rfl
      replace hH : HP H520 [.arr a510 1 true (List.map eI64 o518.2)] := hH
      refine vc_reg (S := ⟨[(8, .p (.int .i64 r519))], [], H520⟩) (APath.chunk 1 (by rcases hfa510 with ha510e | ⟨_, _, ha510e⟩ <;> subst ha510e <;> kernel_rfl) (APath.one (.call (some 31) 41 [.k (.p (.int .i64 960)), .t 30]) (by kernel_rfl) (st_callF (H := H511) (ys := [.p (.int .i64 960), a510]) (by rcases hfa510 with ha510e | ⟨_, _, ha510e⟩ <;> subst ha510e <;> kernel_rfl) (by rcases hfa510 with ha510e | ⟨_, _, ha510e⟩ <;> subst ha510e <;> kernel_rfl) (frzL_cons rfl (frzL_cons hzH520v frzL_nil)) (residue_fold_ok N 960 o518.2 r519 hr519)) (APath.fin (by rcases hfa510 with ha510e | ⟨_, _, ha510e⟩ <;> subst ha510e <;> kernel_rfl)))) (by rcases hfa510 with ha510e | ⟨_, _, ha510e⟩ <;> subst ha510e <;> kernel_rfl) ?_
      replace hH : HP H520 [] := HP.pick hH [] rfl
      refine vc_seq ?_
      refine vc_seq ?_
      refine vc_reg (S := ⟨[(8, .p (.int .i64 r519)), (33, .p (.bool (decide (r519 > 960))))], [], H520⟩) (APath.fin (by kernel_rfl)) (by kernel_rfl) ?_
      refine vc_ite (by kernel_rfl) h (fun hc521 h => ?_) (fun hc521 h => ?_)
      · refine vc_seq ?_
        refine vc_reg (S := ⟨[(2, .p (.int .i64 0)), (3, .p (.int .i64 6))], [], H520⟩) (APath.fin (by kernel_rfl)) (by kernel_rfl) ?_
        refine vc_ret ?_
        obtain rfl := some_inj h
        exact ret_of (by kernel_rfl)
      · refine vc_skip ?_
        refine vc_kp ?_
        refine vc_seq ?_
        refine vc_reg (S := ⟨[(2, .p (.int .i64 r519)), (3, .p (.int .i64 0))], [], H520⟩) (APath.fin (by kernel_rfl)) (by kernel_rfl) ?_
        refine vc_ret ?_
        obtain rfl := some_inj h
        exact ret_of (by kernel_rfl)
/- isochronlaw23.room -/
theorem law23_room_ok (N : Nat) (a0_ : api_Span) (a1_ : api_Span) (a2_ : Int) (a3_ : Int) (a4_ : Int) (r : Bool) (h : law23_room N a0_ a1_ a2_ a3_ a4_ = some r) : PCall Try.prog 32 [.agg [.p (.int .i64 a0_.Period), .p (.int .i64 a0_.From), .p (.int .i64 a0_.Long)], .agg [.p (.int .i64 a1_.Period), .p (.int .i64 a1_.From), .p (.int .i64 a1_.Long)], .p (.int .i64 a2_), .p (.int .i64 a3_), .p (.int .i64 a4_)] (.p (.bool r)) := by
  unfold law23_room at h
  have hH : HP ([] : List HO) [] := trivial
  refine pcall_of chk32 rfl rfl (vc_sound _ _ _ ?_) rfl
  refine vc_seq ?_
  refine vc_reg (S := ⟨[(2, .p (.int .i64 a2_)), (3, .p (.int .i64 a3_)), (4, .p (.int .i64 a4_)), (5, .loc 5 0), (6, .loc 6 0)], [(5, [.p (.int .i64 a0_.Period), .p (.int .i64 a0_.From), .p (.int .i64 a0_.Long)]), (6, [.p (.int .i64 a1_.Period), .p (.int .i64 a1_.From), .p (.int .i64 a1_.Long)])], []⟩) (APath.fin (by kernel_rfl)) (by kernel_rfl) ?_
  refine vc_seq ?_
  obtain ⟨r1, hr1, h⟩ := bind_some h
  refine vc_reg (S := ⟨[(2, .p (.int .i64 a2_)), (3, .p (.int .i64 a3_)), (4, .p (.int .i64 a4_)), (11, .p (.int .i64 r1.1)), (12, .p (.int .i64 r1.2.1)), (13, .p (.int .i64 r1.2.2.1)), (14, .p (.int .i64 r1.2.2.2))], [], []⟩) (APath.chunk 2 (by kernel_rfl) (APath.one (.call (some 18) 18 [.t 16, .t 17]) (by kernel_rfl) (st_call (by kernel_rfl) (residue_Room_ok N a0_ a1_ r1 hr1)) (APath.fin (by kernel_rfl)))) (by kernel_rfl) ?_
  refine vc_seq ?_
  refine vc_regX ⟨[(10, .p (.bool ((r1.2.2.2 == 0) && ((r1.1 == a2_) && ((r1.2.1 == a3_) && (r1.2.2.1 == a4_))))))], [], []⟩ ?_ ?_
  · rcases Bool.eq_false_or_eq_true (r1.2.2.2 == 0) with hc2 | hc7
    · rcases Bool.eq_false_or_eq_true (r1.1 == a2_) with hc3 | hc6
      · rcases Bool.eq_false_or_eq_true (r1.2.1 == a3_) with hc4 | hc5
        · exact ⟨_, (APath.chunk 1 (by kernel_rfl) (APath.one (.val 24 (.bin .eql) [.t 23, .k (.p (.int .i64 0))]) (by kernel_rfl) (st_bool (c := (r1.2.2.2 == 0)) (by kernel_rfl) hc2) (APath.chunk 3 (by kernel_rfl) (APath.oneG (.val 28 (.bin .eql) [.t 26, .t 27]) 25 true (by kernel_rfl) (by kernel_rfl) (st_bool (c := (r1.1 == a2_)) (by kernel_rfl) hc3) (APath.chunk 4 (by kernel_rfl) (APath.oneG (.val 33 (.bin .eql) [.t 31, .t 32]) 30 true (by kernel_rfl) (by kernel_rfl) (st_bool (c := (r1.2.1 == a3_)) (by kernel_rfl) hc4) (APath.fin (by kernel_rfl)))))))), by simp only [hc2, hc3, hc4]; kernel_rfl⟩
        · exact ⟨_, (APath.chunk 1 (by kernel_rfl) (APath.one (.val 24 (.bin .eql) [.t 23, .k (.p (.int .i64 0))]) (by kernel_rfl) (st_bool (c := (r1.2.2.2 == 0)) (by kernel_rfl) hc2) (APath.chunk 3 (by kernel_rfl) (APath.oneG (.val 28 (.bin .eql) [.t 26, .t 27]) 25 true (by kernel_rfl) (by kernel_rfl) (st_bool (c := (r1.1 == a2_)) (by kernel_rfl) hc3) (APath.chunk 4 (by kernel_rfl) (APath.oneG (.val 33 (.bin .eql) [.t 31, .t 32]) 30 true (by kernel_rfl) (by kernel_rfl) (st_bool (c := (r1.2.1 == a3_)) (by kernel_rfl) hc5) (APath.fin (by kernel_rfl)))))))), by simp only [hc2, hc3, hc5]; kernel_rfl⟩
      · exact ⟨_, (APath.chunk 1 (by kernel_rfl) (APath.one (.val 24 (.bin .eql) [.t 23, .k (.p (.int .i64 0))]) (by kernel_rfl) (st_bool (c := (r1.2.2.2 == 0)) (by kernel_rfl) hc2) (APath.chunk 3 (by kernel_rfl) (APath.oneG (.val 28 (.bin .eql) [.t 26, .t 27]) 25 true (by kernel_rfl) (by kernel_rfl) (st_bool (c := (r1.1 == a2_)) (by kernel_rfl) hc6) (APath.fin (by kernel_rfl)))))), by simp only [hc2, hc6]; kernel_rfl⟩
    · exact ⟨_, (APath.chunk 1 (by kernel_rfl) (APath.one (.val 24 (.bin .eql) [.t 23, .k (.p (.int .i64 0))]) (by kernel_rfl) (st_bool (c := (r1.2.2.2 == 0)) (by kernel_rfl) hc7) (APath.fin (by kernel_rfl)))), by simp only [hc7]; kernel_rfl⟩
  · refine vc_ret ?_
    obtain rfl := some_inj h
    exact ret_of (by kernel_rfl)
/- residue.apart -/
theorem residue_apart_ok (N : Nat) (a0_ : api_Span) (a1_ : api_Span) (r : Bool) (h : residue_apart N a0_ a1_ = some r) : PCall Try.prog 33 [.agg [.p (.int .i64 a0_.Period), .p (.int .i64 a0_.From), .p (.int .i64 a0_.Long)], .agg [.p (.int .i64 a1_.Period), .p (.int .i64 a1_.From), .p (.int .i64 a1_.Long)]] (.p (.bool r)) := by
  unfold residue_apart at h
  have hH : HP ([] : List HO) [] := trivial
  refine pcall_of chk33 rfl rfl (vc_sound _ _ _ ?_) rfl
  refine vc_seq ?_
  refine vc_reg (S := ⟨[(2, .loc 2 0), (3, .loc 3 0)], [(2, [.p (.int .i64 a0_.Period), .p (.int .i64 a0_.From), .p (.int .i64 a0_.Long)]), (3, [.p (.int .i64 a1_.Period), .p (.int .i64 a1_.From), .p (.int .i64 a1_.Long)])], []⟩) (APath.fin (by kernel_rfl)) (by kernel_rfl) ?_
  refine vc_seq ?_
  refine vc_seq ?_
  refine vc_reg (S := ⟨[(2, .loc 2 0), (3, .loc 3 0), (11, .p (.bool ((a0_.Period == a1_.Period) && ((a0_.From == a1_.From) && ((a0_.Long == a1_.Long) && true)))))], [(2, [.p (.int .i64 a0_.Period), .p (.int .i64 a0_.From), .p (.int .i64 a0_.Long)]), (3, [.p (.int .i64 a1_.Period), .p (.int .i64 a1_.From), .p (.int .i64 a1_.Long)])], []⟩) (APath.fin (by kernel_rfl)) (by kernel_rfl) ?_
  refine vc_ite (by kernel_rfl) h (fun hc1 h => ?_) (fun hc1 h => ?_)
  · refine vc_seq ?_
    refine vc_reg (S := ⟨[(4, .p (.bool false))], [], []⟩) (APath.fin (by kernel_rfl)) (by kernel_rfl) ?_
    refine vc_ret ?_
    obtain rfl := some_inj h
    exact ret_of (by kernel_rfl)
  · refine vc_skip ?_
    refine vc_kp ?_
    refine vc_seq ?_
    obtain ⟨r2, hr2, h⟩ := bind_some h
    refine vc_reg (S := ⟨[(2, .loc 2 0), (3, .loc 3 0), (5, .p (.int .i64 r2.1)), (6, .p (.int .i64 r2.2.1)), (7, .p (.int .i64 r2.2.2))], [(2, [.p (.int .i64 a0_.Period), .p (.int .i64 a0_.From), .p (.int .i64 a0_.Long)]), (3, [.p (.int .i64 a1_.Period), .p (.int .i64 a1_.From), .p (.int .i64 a1_.Long)])], []⟩) (APath.chunk 2 (by kernel_rfl) (APath.one (.call (some 15) 35 [.t 13, .t 14]) (by kernel_rfl) (st_call (by kernel_rfl) (residue_room_ok N a0_ a1_ r2 hr2)) (APath.fin (by kernel_rfl)))) (by kernel_rfl) ?_
    refine vc_seq ?_
    obtain ⟨r3, hr3, h⟩ := bind_some h
    refine vc_reg (S := ⟨[(5, .p (.int .i64 r2.1)), (6, .p (.int .i64 r2.2.1)), (8, .p (.int .i64 r3))], [], []⟩) (APath.chunk 6 (by kernel_rfl) (APath.one (.call (some 25) 30 [.t 23, .t 24]) (by kernel_rfl) (st_call (by kernel_rfl) (residue_mod_ok N (w64 (a1_.From - a0_.From)) r2.2.2 r3 hr3)) (APath.fin (by kernel_rfl)))) (by kernel_rfl) ?_
    refine vc_seq ?_
    refine vc_regX ⟨[(4, .p (.bool ((decide (r2.1 ≤ r3)) && (decide (r3 ≤ r2.2.1)))))], [], []⟩ ?_ ?_
    · rcases Bool.eq_false_or_eq_true (decide (r2.1 ≤ r3)) with hc4 | hc5
      · exact ⟨_, (APath.chunk 2 (by kernel_rfl) (APath.one (.val 28 (.bin .leq) [.t 26, .t 27]) (by kernel_rfl) (st_bool (c := (decide (r2.1 ≤ r3))) (by kernel_rfl) hc4) (APath.fin (by kernel_rfl)))), by simp only [hc4]; kernel_rfl⟩
      · exact ⟨_, (APath.chunk 2 (by kernel_rfl) (APath.one (.val 28 (.bin .leq) [.t 26, .t 27]) (by kernel_rfl) (st_bool (c := (decide (r2.1 ≤ r3))) (by kernel_rfl) hc5) (APath.fin (by kernel_rfl)))), by simp only [hc5]; kernel_rfl⟩
    · refine vc_ret ?_
      obtain rfl := some_inj h
      exact ret_of (by kernel_rfl)
/- residue.Apart -/
theorem residue_Apart_ok (N : Nat) (a0_ : api_Span) (a1_ : api_Span) (r : Bool × Int) (h : residue_Apart N a0_ a1_ = some r) : PCall Try.prog 16 [.agg [.p (.int .i64 a0_.Period), .p (.int .i64 a0_.From), .p (.int .i64 a0_.Long)], .agg [.p (.int .i64 a1_.Period), .p (.int .i64 a1_.From), .p (.int .i64 a1_.Long)]] (.tup [.p (.bool r.1), .p (.int .i64 r.2)]) := by
  unfold residue_Apart at h
  have hH : HP ([] : List HO) [] := trivial
  refine pcall_of chk16 rfl rfl (vc_sound _ _ _ ?_) rfl
  refine vc_seq ?_
  refine vc_reg (S := ⟨[(2, .loc 2 0), (3, .loc 3 0)], [(2, [.p (.int .i64 a0_.Period), .p (.int .i64 a0_.From), .p (.int .i64 a0_.Long)]), (3, [.p (.int .i64 a1_.Period), .p (.int .i64 a1_.From), .p (.int .i64 a1_.Long)])], []⟩) (APath.fin (by kernel_rfl)) (by kernel_rfl) ?_
  refine vc_seq ?_
  refine vc_seq ?_
  obtain ⟨r1, hr1, h⟩ := bind_some h
  refine vc_reg (S := ⟨[(2, .loc 2 0), (3, .loc 3 0), (6, .p (.int .i64 r1))], [(2, [.p (.int .i64 a0_.Period), .p (.int .i64 a0_.From), .p (.int .i64 a0_.Long)]), (3, [.p (.int .i64 a1_.Period), .p (.int .i64 a1_.From), .p (.int .i64 a1_.Long)])], []⟩) (APath.chunk 1 (by kernel_rfl) (APath.one (.call (some 9) 13 [.t 8]) (by kernel_rfl) (st_call (by kernel_rfl) (residue_Check_ok N a0_ r1 hr1)) (APath.fin (by kernel_rfl)))) (by kernel_rfl) ?_
  refine vc_seq ?_
  refine vc_reg (S := ⟨[(2, .loc 2 0), (3, .loc 3 0), (6, .p (.int .i64 r1)), (11, .p (.bool (r1 != 0)))], [(2, [.p (.int .i64 a0_.Period), .p (.int .i64 a0_.From), .p (.int .i64 a0_.Long)]), (3, [.p (.int .i64 a1_.Period), .p (.int .i64 a1_.From), .p (.int .i64 a1_.Long)])], []⟩) (APath.fin (by kernel_rfl)) (by kernel_rfl) ?_
  refine vc_ite (by kernel_rfl) h (fun hc2 h => ?_) (fun hc2 h => ?_)
  · refine vc_seq ?_
    refine vc_reg (S := ⟨[(4, .p (.bool false)), (5, .p (.int .i64 r1))], [], []⟩) (APath.fin (by kernel_rfl)) (by kernel_rfl) ?_
    refine vc_ret ?_
    obtain rfl := some_inj h
    exact ret_of (by kernel_rfl)
  · refine vc_skip ?_
    refine vc_kp ?_
    refine vc_seq ?_
    refine vc_seq ?_
    obtain ⟨r3, hr3, h⟩ := bind_some h
    refine vc_reg (S := ⟨[(2, .loc 2 0), (3, .loc 3 0), (7, .p (.int .i64 r3))], [(2, [.p (.int .i64 a0_.Period), .p (.int .i64 a0_.From), .p (.int .i64 a0_.Long)]), (3, [.p (.int .i64 a1_.Period), .p (.int .i64 a1_.From), .p (.int .i64 a1_.Long)])], []⟩) (APath.chunk 1 (by kernel_rfl) (APath.one (.call (some 14) 13 [.t 13]) (by kernel_rfl) (st_call (by kernel_rfl) (residue_Check_ok N a1_ r3 hr3)) (APath.fin (by kernel_rfl)))) (by kernel_rfl) ?_
    refine vc_seq ?_
    refine vc_reg (S := ⟨[(2, .loc 2 0), (3, .loc 3 0), (7, .p (.int .i64 r3)), (16, .p (.bool (r3 != 0)))], [(2, [.p (.int .i64 a0_.Period), .p (.int .i64 a0_.From), .p (.int .i64 a0_.Long)]), (3, [.p (.int .i64 a1_.Period), .p (.int .i64 a1_.From), .p (.int .i64 a1_.Long)])], []⟩) (APath.fin (by kernel_rfl)) (by kernel_rfl) ?_
    refine vc_ite (by kernel_rfl) h (fun hc4 h => ?_) (fun hc4 h => ?_)
    · refine vc_seq ?_
      refine vc_reg (S := ⟨[(4, .p (.bool false)), (5, .p (.int .i64 r3))], [], []⟩) (APath.fin (by kernel_rfl)) (by kernel_rfl) ?_
      refine vc_ret ?_
      obtain rfl := some_inj h
      exact ret_of (by kernel_rfl)
    · refine vc_skip ?_
      refine vc_kp ?_
      refine vc_seq ?_
      obtain ⟨r5, hr5, h⟩ := bind_some h
      refine vc_reg (S := ⟨[(4, .p (.bool r5)), (5, .p (.int .i64 0))], [], []⟩) (APath.chunk 2 (by kernel_rfl) (APath.one (.call (some 20) 33 [.t 18, .t 19]) (by kernel_rfl) (st_call (by kernel_rfl) (residue_apart_ok N a0_ a1_ r5 hr5)) (APath.fin (by kernel_rfl)))) (by kernel_rfl) ?_
      refine vc_ret ?_
      obtain rfl := some_inj h
      exact ret_of (by kernel_rfl)
/- residue.Next -/
theorem residue_Next_ok (N : Nat) (a0_ : (List api_Span)) (a1_ : api_Span) (r : Int × Int) (h : residue_Next N a0_ a1_ = some r) : PCall Try.prog 21 [.p (.sl 3 false (List.map e_api_Span a0_)), .agg [.p (.int .i64 a1_.Period), .p (.int .i64 a1_.From), .p (.int .i64 a1_.Long)]] (.tup [.p (.int .i64 r.1), .p (.int .i64 r.2)]) := by
  unfold residue_Next at h
  have hH : HP ([] : List HO) [] := trivial
  refine pcall_of chk21 rfl rfl (vc_sound _ _ _ ?_) rfl
  refine vc_seq ?_
  refine vc_reg (S := ⟨[(0, .p (.sl 3 false (List.map e_api_Span a0_))), (3, .loc 3 0)], [(3, [.p (.int .i64 a1_.Period), .p (.int .i64 a1_.From), .p (.int .i64 a1_.Long)])], []⟩) (APath.fin (by kernel_rfl)) (by kernel_rfl) ?_
  refine vc_scope (EvI.scope ?_)
  refine vc_seq ?_
  refine vc_seq ?_
  obtain ⟨r1, hr1, h⟩ := bind_some h
  refine vc_reg (S := ⟨[(0, .p (.sl 3 false (List.map e_api_Span a0_))), (3, .loc 3 0), (6, .p (.int .i64 r1))], [(3, [.p (.int .i64 a1_.Period), .p (.int .i64 a1_.From), .p (.int .i64 a1_.Long)])], []⟩) (APath.chunk 1 (by kernel_rfl) (APath.one (.call (some 12) 37 [.t 11]) (by kernel_rfl) (st_call (by kernel_rfl) (residue_checkAll_ok N a0_ r1 hr1)) (APath.fin (by kernel_rfl)))) (by kernel_rfl) ?_
  refine vc_seq ?_
  refine vc_reg (S := ⟨[(0, .p (.sl 3 false (List.map e_api_Span a0_))), (3, .loc 3 0), (6, .p (.int .i64 r1)), (14, .p (.bool (r1 != 0)))], [(3, [.p (.int .i64 a1_.Period), .p (.int .i64 a1_.From), .p (.int .i64 a1_.Long)])], []⟩) (APath.fin (by kernel_rfl)) (by kernel_rfl) ?_
  refine vc_ite (by kernel_rfl) h (fun hc2 h => ?_) (fun hc2 h => ?_)
  · refine vc_seq ?_
    refine vc_reg (S := ⟨[(4, .p (.int .i64 0)), (5, .p (.int .i64 r1))], [], []⟩) (APath.fin (by kernel_rfl)) (by kernel_rfl) ?_
    refine vc_ret ?_
    obtain rfl := some_inj h
    exact ret_of (by kernel_rfl)
  · refine vc_skip ?_
    refine vc_kp ?_
    refine vc_seq ?_
    refine vc_seq ?_
    obtain ⟨r3, hr3, h⟩ := bind_some h
    refine vc_reg (S := ⟨[(0, .p (.sl 3 false (List.map e_api_Span a0_))), (3, .loc 3 0), (7, .p (.int .i64 r3))], [(3, [.p (.int .i64 a1_.Period), .p (.int .i64 a1_.From), .p (.int .i64 a1_.Long)])], []⟩) (APath.chunk 1 (by kernel_rfl) (APath.one (.call (some 17) 13 [.t 16]) (by kernel_rfl) (st_call (by kernel_rfl) (residue_Check_ok N a1_ r3 hr3)) (APath.fin (by kernel_rfl)))) (by kernel_rfl) ?_
    refine vc_seq ?_
    refine vc_reg (S := ⟨[(0, .p (.sl 3 false (List.map e_api_Span a0_))), (3, .loc 3 0), (7, .p (.int .i64 r3)), (19, .p (.bool (r3 != 0)))], [(3, [.p (.int .i64 a1_.Period), .p (.int .i64 a1_.From), .p (.int .i64 a1_.Long)])], []⟩) (APath.fin (by kernel_rfl)) (by kernel_rfl) ?_
    refine vc_ite (by kernel_rfl) h (fun hc4 h => ?_) (fun hc4 h => ?_)
    · refine vc_seq ?_
      refine vc_reg (S := ⟨[(4, .p (.int .i64 0)), (5, .p (.int .i64 r3))], [], []⟩) (APath.fin (by kernel_rfl)) (by kernel_rfl) ?_
      refine vc_ret ?_
      obtain rfl := some_inj h
      exact ret_of (by kernel_rfl)
    · refine vc_skip ?_
      refine vc_kp ?_
      refine vc_seq ?_
      refine vc_reg (S := ⟨[(0, .p (.sl 3 false (List.map e_api_Span a0_))), (3, .loc 3 0), (8, .p (.int .i64 0))], [(3, [.p (.int .i64 a1_.Period), .p (.int .i64 a1_.From), .p (.int .i64 a1_.Long)])], []⟩) (APath.fin (by kernel_rfl)) (by kernel_rfl) ?_
      refine vc_seq ?_
      refine vc_label ?_
      refine vc_seq ?_
      refine vc_block ?_
      obtain ⟨o1016, ho1016, h⟩ := bind_some h
      refine vc_loop ((loop_sim (fun (x : Int) s => s = ⟨[(0, .p (.sl 3 false (List.map e_api_Span a0_))), (3, .loc 3 0), (8, .p (.int .i64 x))], [(3, [.p (.int .i64 a1_.Period), .p (.int .i64 a1_.From), .p (.int .i64 a1_.Long)])], []⟩) (fun x : Int => residue_Next_L1 N a0_ a1_ x) (fun (p : (Int) ⊕ (Int × Int)) e s => match p with | (.inl p) => e = .exit 0 ∧ (s = ⟨[(0, .p (.sl 3 false (List.map e_api_Span a0_))), (3, .loc 3 0), (8, .p (.int .i64 p))], [(3, [.p (.int .i64 a1_.Period), .p (.int .i64 a1_.From), .p (.int .i64 a1_.Long)])], []⟩) | (.inr p) => e = .ret ∧ ∃ xs, resL s i21.res = some xs ∧ tupOf xs = .tup [.p (.int .i64 p.1), .p (.int .i64 p.2)]) ?_ N _ o1016 _ ho1016 (by show _ = _; kernel_rfl)).mono ?_)
      · clear h ho1016
        rintro i5 o s h hR
        obtain rfl := hR
        replace h : residue_Next_L1 N a0_ a1_ i5 = some o := h
        unfold residue_Next_L1 at h
        refine vc_seq ?_
        refine vc_seq ?_
        refine vc_reg (S := ⟨[(0, .p (.sl 3 false (List.map e_api_Span a0_))), (3, .loc 3 0), (8, .p (.int .i64 i5)), (24, .p (.bool (decide (i5 < a1_.Period))))], [(3, [.p (.int .i64 a1_.Period), .p (.int .i64 a1_.From), .p (.int .i64 a1_.Long)])], []⟩) (APath.fin (by kernel_rfl)) (by kernel_rfl) ?_
        refine vc_ite (by kernel_rfl) h (fun hc506 h => ?_) (fun hc506 h => ?_)
        · refine vc_skip ?_
          refine vc_kp ?_
          refine vc_block ?_
          refine vc_seq ?_
          refine vc_seq ?_
          refine vc_reg (S := ⟨[(0, .p (.sl 3 false (List.map e_api_Span a0_))), (3, .loc 3 0), (8, .p (.int .i64 i5)), (25, .p (.sl 3 false (List.map e_api_Span a0_))), (26, .p (.int .i64 ((List.length a0_ : Nat) : Int))), (27, .p (.int .i64 0))], [(3, [.p (.int .i64 a1_.Period), .p (.int .i64 a1_.From), .p (.int .i64 a1_.Long)])], []⟩) (APath.chunk 1 (by kernel_rfl) (APath.one (.val 26 .len [.t 25]) (by kernel_rfl) (st_val (ys := [.p (.sl 3 false (List.map e_api_Span a0_))]) (by kernel_rfl) (vexec_len e_api_Span)) (APath.fin (by kernel_rfl)))) (by kernel_rfl) ?_
          refine vc_block ?_
          obtain ⟨o1013, ho1013, h⟩ := bind_some h
          refine vc_loop ((loop_sim (fun (x : Int) s => s = ⟨[(0, .p (.sl 3 false (List.map e_api_Span a0_))), (3, .loc 3 0), (8, .p (.int .i64 i5)), (25, .p (.sl 3 false (List.map e_api_Span a0_))), (26, .p (.int .i64 ((List.length a0_ : Nat) : Int))), (27, .p (.int .i64 x))], [(3, [.p (.int .i64 a1_.Period), .p (.int .i64 a1_.From), .p (.int .i64 a1_.Long)])], []⟩) (fun x : Int => residue_Next_L2 N a0_ a1_ i5 x) (fun (p : (Unit) ⊕ (Int)) e s => match p with | (.inl p) => e = .exit 1 ∧ (s = ⟨[(0, .p (.sl 3 false (List.map e_api_Span a0_))), (3, .loc 3 0), (8, .p (.int .i64 (w64 (i5 + 1))))], [(3, [.p (.int .i64 a1_.Period), .p (.int .i64 a1_.From), .p (.int .i64 a1_.Long)])], []⟩) | (.inr p) => e = .exit 2 ∧ (s = ⟨[(0, .p (.sl 3 false (List.map e_api_Span a0_))), (3, .loc 3 0), (8, .p (.int .i64 i5)), (25, .p (.sl 3 false (List.map e_api_Span a0_))), (26, .p (.int .i64 ((List.length a0_ : Nat) : Int))), (27, .p (.int .i64 p))], [(3, [.p (.int .i64 a1_.Period), .p (.int .i64 a1_.From), .p (.int .i64 a1_.Long)])], []⟩)) ?_ N _ o1013 _ ho1013 (by show _ = _; kernel_rfl)).mono ?_)
          · clear h ho1013
            rintro i507 o s h hR
            obtain rfl := hR
            replace h : residue_Next_L2 N a0_ a1_ i5 i507 = some o := h
            unfold residue_Next_L2 at h
            refine vc_seq ?_
            refine vc_reg (S := ⟨[(0, .p (.sl 3 false (List.map e_api_Span a0_))), (3, .loc 3 0), (8, .p (.int .i64 i5)), (25, .p (.sl 3 false (List.map e_api_Span a0_))), (26, .p (.int .i64 ((List.length a0_ : Nat) : Int))), (27, .p (.int .i64 i507)), (28, .p (.bool (decide (i507 < ((List.length a0_ : Nat) : Int)))))], [(3, [.p (.int .i64 a1_.Period), .p (.int .i64 a1_.From), .p (.int .i64 a1_.Long)])], []⟩) (APath.fin (by kernel_rfl)) (by kernel_rfl) ?_
            refine vc_seq ?_
            refine vc_ite (by kernel_rfl) h (fun hc1008 h => ?_) (fun hc1008 h => ?_)
            · refine vc_skip ?_
              refine vc_kp ?_
              refine vc_seq ?_
              refine vc_block ?_
              refine vc_seq ?_
              obtain ⟨e1009, he1009, h⟩ := bind_some h
              refine vc_reg (S := ⟨[(0, .p (.sl 3 false (List.map e_api_Span a0_))), (3, .loc 3 0), (8, .p (.int .i64 i5)), (10, .loc 10 0), (25, .p (.sl 3 false (List.map e_api_Span a0_))), (26, .p (.int .i64 ((List.length a0_ : Nat) : Int))), (27, .p (.int .i64 i507))], [(3, [.p (.int .i64 a1_.Period), .p (.int .i64 a1_.From), .p (.int .i64 a1_.Long)]), (10, [.p (.int .i64 e1009.Period), .p (.int .i64 e1009.From), .p (.int .i64 e1009.Long)])], []⟩) (APath.one (.val 29 (.iaddrS 3) [.t 25, .t 27]) (by kernel_rfl) (st_val (ys := [.p (.sl 3 false (List.map e_api_Span a0_)), .p (.int .i64 i507)]) (by kernel_rfl) (vexec_iaddrS e_api_Span he1009)) (APath.one (.load 30 (.t 29) 3 true) (by kernel_rfl) (st_loadP (sz := 3) (off := 0) (cs := [.int .i64 e1009.Period, .int .i64 e1009.From, .int .i64 e1009.Long]) (r := .agg [.p (.int .i64 e1009.Period), .p (.int .i64 e1009.From), .p (.int .i64 e1009.Long)]) e_api_Span he1009 (by kernel_rfl) (by kernel_rfl) (by kernel_rfl)) (APath.fin (by kernel_rfl)))) (by kernel_rfl) ?_
              refine vc_seq ?_
              obtain ⟨r1010, hr1010, h⟩ := bind_some h
              obtain ⟨r1011, hr1011, h⟩ := bind_some h
              refine vc_regD (S := ⟨[(0, .p (.sl 3 false (List.map e_api_Span a0_))), (3, .loc 3 0), (8, .p (.int .i64 i5)), (25, .p (.sl 3 false (List.map e_api_Span a0_))), (26, .p (.int .i64 ((List.length a0_ : Nat) : Int))), (27, .p (.int .i64 i507)), (36, .p (.bool (!r1011)))], [(3, [.p (.int .i64 a1_.Period), .p (.int .i64 a1_.From), .p (.int .i64 a1_.Long)])], []⟩) (by kernel_rfl) (APath.chunk 3 (by kernel_rfl) (APath.one (.callP 34 38 [.t 32, .t 33]) (by kernel_rfl) (st_callP (by kernel_rfl) (residue_shifted_ok N a1_ i5 r1010 hr1010)) (APath.one (.callP 35 33 [.t 31, .t 34]) (by kernel_rfl) (st_callP (by kernel_rfl) (residue_apart_ok N e1009 r1010 r1011 hr1011)) (APath.fin (by kernel_rfl))))) (by kernel_rfl) ?_
              refine vc_ite (by kernel_rfl) h (fun hc1012 h => ?_) (fun hc1012 h => ?_)
              · refine vc_seq ?_
                refine vc_reg (S := ⟨[(0, .p (.sl 3 false (List.map e_api_Span a0_))), (3, .loc 3 0), (8, .p (.int .i64 (w64 (i5 + 1))))], [(3, [.p (.int .i64 a1_.Period), .p (.int .i64 a1_.From), .p (.int .i64 a1_.Long)])], []⟩) (APath.fin (by kernel_rfl)) (by kernel_rfl) ?_
                refine vc_exit ?_
                try show vc _ _ _ _ _
                obtain rfl := some_inj h
                exact ⟨_, rfl, rfl, (by show _ = _; kernel_rfl)⟩
              · refine vc_skip ?_
                refine vc_kp ?_
                refine vc_reg (S := ⟨[(0, .p (.sl 3 false (List.map e_api_Span a0_))), (3, .loc 3 0), (8, .p (.int .i64 i5)), (25, .p (.sl 3 false (List.map e_api_Span a0_))), (26, .p (.int .i64 ((List.length a0_ : Nat) : Int))), (27, .p (.int .i64 (w64 (i507 + 1))))], [(3, [.p (.int .i64 a1_.Period), .p (.int .i64 a1_.From), .p (.int .i64 a1_.Long)])], []⟩) (APath.fin (by kernel_rfl)) (by kernel_rfl) ?_
                obtain rfl := some_inj h
                exact ⟨_, rfl, (by show _ = _; kernel_rfl)⟩
            · refine vc_exit ?_
              try show vc _ _ _ _ _
              obtain rfl := some_inj h
              exact ⟨_, rfl, rfl, (by show _ = _; kernel_rfl)⟩
          · rintro e s hq
            rcases o1013 with p1014 | p1015
            · dsimp only at h hq
              obtain ⟨rfl, hR⟩ := hq
              obtain rfl := hR
              try show vc _ _ _ _ _
              obtain rfl := some_inj h
              exact ⟨_, rfl, (by show _ = _; kernel_rfl)⟩
            · dsimp only at h hq
              obtain ⟨rfl, hR⟩ := hq
              obtain rfl := hR
              try show vc _ _ _ _ _
              refine vc_seq ?_
              refine vc_reg (S := ⟨[(4, .p (.int .i64 i5)), (5, .p (.int .i64 0))], [], []⟩) (APath.fin (by kernel_rfl)) (by kernel_rfl) ?_
              refine vc_ret ?_
              obtain rfl := some_inj h
              exact ⟨_, rfl, rfl, ret_of (by kernel_rfl)⟩
        · refine vc_exit ?_
          try show vc _ _ _ _ _
          obtain rfl := some_inj h
          exact ⟨_, rfl, rfl, (by show _ = _; kernel_rfl)⟩
      · rintro e s hq
        rcases o1016 with p1017 | p1018
        · dsimp only at h hq
          obtain ⟨rfl, hR⟩ := hq
          obtain rfl := hR
          try show vc _ _ _ _ _
          refine vc_seq ?_
          refine vc_reg (S := ⟨[(4, .p (.int .i64 0)), (5, .p (.int .i64 4))], [], []⟩) (APath.fin (by kernel_rfl)) (by kernel_rfl) ?_
          refine vc_ret ?_
          obtain rfl := some_inj h
          exact ret_of (by kernel_rfl)
        · dsimp only at h hq
          obtain ⟨rfl, hq⟩ := hq
          obtain rfl := some_inj h
          exact hq
/- isochronlaw23.apart -/
theorem law23_apart_ok (N : Nat) (a0_ : api_Span) (a1_ : api_Span) (r : Bool) (h : law23_apart N a0_ a1_ = some r) : PCall Try.prog 26 [.agg [.p (.int .i64 a0_.Period), .p (.int .i64 a0_.From), .p (.int .i64 a0_.Long)], .agg [.p (.int .i64 a1_.Period), .p (.int .i64 a1_.From), .p (.int .i64 a1_.Long)]] (.p (.bool r)) := by
  unfold law23_apart at h
  have hH : HP ([] : List HO) [] := trivial
  refine pcall_of chk26 rfl rfl (vc_sound _ _ _ ?_) rfl
  refine vc_seq ?_
  refine vc_reg (S := ⟨[(2, .loc 2 0), (3, .loc 3 0)], [(2, [.p (.int .i64 a0_.Period), .p (.int .i64 a0_.From), .p (.int .i64 a0_.Long)]), (3, [.p (.int .i64 a1_.Period), .p (.int .i64 a1_.From), .p (.int .i64 a1_.Long)])], []⟩) (APath.fin (by kernel_rfl)) (by kernel_rfl) ?_
  refine vc_seq ?_
  obtain ⟨r1, hr1, h⟩ := bind_some h
  refine vc_reg (S := ⟨[(5, .p (.bool r1.1)), (6, .p (.int .i64 r1.2))], [], []⟩) (APath.chunk 2 (by kernel_rfl) (APath.one (.call (some 10) 16 [.t 8, .t 9]) (by kernel_rfl) (st_call (by kernel_rfl) (residue_Apart_ok N a0_ a1_ r1 hr1)) (APath.fin (by kernel_rfl)))) (by kernel_rfl) ?_
  refine vc_seq ?_
  refine vc_regX ⟨[(4, .p (.bool (r1.1 && (r1.2 == 0))))], [], []⟩ ?_ ?_
  · rcases Bool.eq_false_or_eq_true r1.1 with hc2 | hc3
    · exact ⟨_, (APath.one (.val 13 .mov [.t 5]) (by kernel_rfl) (st_bool (c := r1.1) (by kernel_rfl) hc2) (APath.fin (by kernel_rfl))), by simp only [hc2]; kernel_rfl⟩
    · exact ⟨_, (APath.one (.val 13 .mov [.t 5]) (by kernel_rfl) (st_bool (c := r1.1) (by kernel_rfl) hc3) (APath.fin (by kernel_rfl))), by simp only [hc3]; kernel_rfl⟩
  · refine vc_ret ?_
    obtain rfl := some_inj h
    exact ret_of (by kernel_rfl)
/- isochronlaw23.works -/
theorem law23_works_ok (N : Nat) (r : Bool) (h : law23_works N = some r) : PCall Try.prog 15 [] (.p (.bool r)) := by
  unfold law23_works at h
  have hH : HP ([] : List HO) [] := trivial
  refine pcall_of chk15 rfl rfl (vc_sound _ _ _ ?_) rfl
  refine vc_seq ?_
  refine vc_reg (S := ⟨[], [], []⟩) (APath.fin (by kernel_rfl)) (by kernel_rfl) ?_
  refine vc_seq ?_
  obtain ⟨r1, hr1, h⟩ := bind_some h
  obtain ⟨r2, hr2, h⟩ := bind_some h
  obtain ⟨r3, hr3, h⟩ := bind_some h
  refine vc_reg (S := ⟨[(4, .p (.int .i64 r3.2.2.2))], [], []⟩) (APath.one (.call (some 20) 29 [.k (.p (.int .i64 4)), .k (.p (.int .i64 0)), .k (.p (.int .i64 2))]) (by kernel_rfl) (st_call (by kernel_rfl) (law23_span_ok N 4 0 2 r1 hr1)) (APath.one (.call (some 21) 29 [.k (.p (.int .i64 6)), .k (.p (.int .i64 0)), .k (.p (.int .i64 1))]) (by kernel_rfl) (st_call (by kernel_rfl) (law23_span_ok N 6 0 1 r2 hr2)) (APath.one (.call (some 22) 18 [.t 20, .t 21]) (by kernel_rfl) (st_call (by kernel_rfl) (residue_Room_ok N r1 r2 r3 hr3)) (APath.fin (by kernel_rfl))))) (by kernel_rfl) ?_
  refine vc_seq ?_
  obtain ⟨r4, hr4, h⟩ := bind_some h
  obtain ⟨r5, hr5, h⟩ := bind_some h
  obtain ⟨r6, hr6, h⟩ := bind_some h
  obtain ⟨r7, hr7, h⟩ := bind_some h
  refine vc_reg (S := ⟨[(4, .p (.int .i64 r3.2.2.2)), (5, .p (.int .i64 r7.1)), (6, .p (.int .i64 r7.2))], [], []⟩) (APath.one (.call (some 28) 29 [.k (.p (.int .i64 12)), .k (.p (.int .i64 0)), .k (.p (.int .i64 3))]) (by kernel_rfl) (st_call (by kernel_rfl) (law23_span_ok N 12 0 3 r4 hr4)) (APath.one (.call (some 29) 29 [.k (.p (.int .i64 12)), .k (.p (.int .i64 5)), .k (.p (.int .i64 2))]) (by kernel_rfl) (st_call (by kernel_rfl) (law23_span_ok N 12 5 2 r5 hr5)) (APath.chunk 1 (by kernel_rfl) (APath.one (.call (some 31) 29 [.k (.p (.int .i64 12)), .k (.p (.int .i64 1)), .k (.p (.int .i64 2))]) (by kernel_rfl) (st_call (by kernel_rfl) (law23_span_ok N 12 1 2 r6 hr6)) (APath.one (.call (some 32) 21 [.t 30, .t 31]) (by kernel_rfl) (st_call (by kernel_rfl) (residue_Next_ok N ([r4, r5]) r6 r7 hr7)) (APath.fin (by kernel_rfl))))))) (by kernel_rfl) ?_
  refine vc_seq ?_
  obtain ⟨r8, hr8, h⟩ := bind_some h
  obtain ⟨r9, hr9, h⟩ := bind_some h
  obtain ⟨r10, hr10, h⟩ := bind_some h
  refine vc_reg (S := ⟨[(4, .p (.int .i64 r3.2.2.2)), (5, .p (.int .i64 r7.1)), (6, .p (.int .i64 r7.2)), (7, .p (.int .i64 r10.1)), (8, .p (.int .i64 r10.2))], [], []⟩) (APath.one (.call (some 36) 29 [.k (.p (.int .i64 4)), .k (.p (.int .i64 0)), .k (.p (.int .i64 1))]) (by kernel_rfl) (st_call (by kernel_rfl) (law23_span_ok N 4 0 1 r8 hr8)) (APath.chunk 1 (by kernel_rfl) (APath.one (.call (some 38) 29 [.k (.p (.int .i64 6)), .k (.p (.int .i64 0)), .k (.p (.int .i64 1))]) (by kernel_rfl) (st_call (by kernel_rfl) (law23_span_ok N 6 0 1 r9 hr9)) (APath.one (.call (some 39) 21 [.t 37, .t 38]) (by kernel_rfl) (st_call (by kernel_rfl) (residue_Next_ok N ([r8]) r9 r10 hr10)) (APath.fin (by kernel_rfl)))))) (by kernel_rfl) ?_
  refine vc_seq ?_
  obtain ⟨r11, hr11, h⟩ := bind_some h
  obtain ⟨r12, hr12, h⟩ := bind_some h
  obtain ⟨r13, hr13, h⟩ := bind_some h
  refine vc_reg (S := ⟨[(4, .p (.int .i64 r3.2.2.2)), (5, .p (.int .i64 r7.1)), (6, .p (.int .i64 r7.2)), (7, .p (.int .i64 r10.1)), (8, .p (.int .i64 r10.2)), (10, .p (.int .i64 r13.2))], [], []⟩) (APath.one (.call (some 43) 29 [.k (.p (.int .i64 4)), .k (.p (.int .i64 0)), .k (.p (.int .i64 2))]) (by kernel_rfl) (st_call (by kernel_rfl) (law23_span_ok N 4 0 2 r11 hr11)) (APath.chunk 1 (by kernel_rfl) (APath.one (.call (some 45) 29 [.k (.p (.int .i64 6)), .k (.p (.int .i64 0)), .k (.p (.int .i64 1))]) (by kernel_rfl) (st_call (by kernel_rfl) (law23_span_ok N 6 0 1 r12 hr12)) (APath.one (.call (some 46) 21 [.t 44, .t 45]) (by kernel_rfl) (st_call (by kernel_rfl) (residue_Next_ok N ([r11]) r12 r13 hr13)) (APath.fin (by kernel_rfl)))))) (by kernel_rfl) ?_
  refine vc_seq ?_
  obtain ⟨r14, hr14, h⟩ := bind_some h
  obtain ⟨r15, hr15, h⟩ := bind_some h
  obtain ⟨r16, hr16, h⟩ := bind_some h
  refine vc_reg (S := ⟨[(4, .p (.int .i64 r3.2.2.2)), (5, .p (.int .i64 r7.1)), (6, .p (.int .i64 r7.2)), (7, .p (.int .i64 r10.1)), (8, .p (.int .i64 r10.2)), (10, .p (.int .i64 r13.2)), (11, .p (.int .i64 r16.1)), (12, .p (.int .i64 r16.2))], [], []⟩) (APath.one (.call (some 50) 29 [.k (.p (.int .i64 4)), .k (.p (.int .i64 0)), .k (.p (.int .i64 1))]) (by kernel_rfl) (st_call (by kernel_rfl) (law23_span_ok N 4 0 1 r14 hr14)) (APath.one (.call (some 51) 29 [.k (.p (.int .i64 6)), .k (.p (.int .i64 0)), .k (.p (.int .i64 1))]) (by kernel_rfl) (st_call (by kernel_rfl) (law23_span_ok N 6 0 1 r15 hr15)) (APath.chunk 1 (by kernel_rfl) (APath.one (.call (some 53) 23 [.t 52]) (by kernel_rfl) (st_call (by kernel_rfl) (residue_Cycle_ok N ([r14, r15]) r16 hr16)) (APath.fin (by kernel_rfl)))))) (by kernel_rfl) ?_
  refine vc_seq ?_
  obtain ⟨r17, hr17, h⟩ := bind_some h
  refine vc_reg (S := ⟨[(4, .p (.int .i64 r3.2.2.2)), (5, .p (.int .i64 r7.1)), (6, .p (.int .i64 r7.2)), (7, .p (.int .i64 r10.1)), (8, .p (.int .i64 r10.2)), (10, .p (.int .i64 r13.2)), (11, .p (.int .i64 r16.1)), (12, .p (.int .i64 r16.2)), (13, .p (.int .i64 r17.1)), (14, .p (.int .i64 r17.2))], [], []⟩) (APath.one (.call (some 57) 23 [.k (.p (.sl 3 true []))]) (by kernel_rfl) (st_call (by kernel_rfl) (residue_Cycle_ok N ([]) r17 hr17)) (APath.fin (by kernel_rfl))) (by kernel_rfl) ?_
  refine vc_seq ?_
  obtain ⟨r18, hr18, h⟩ := bind_some h
  obtain ⟨r19, hr19, h⟩ := bind_some h
  obtain ⟨r20, hr20, h⟩ := bind_some h
  refine vc_reg (S := ⟨[(4, .p (.int .i64 r3.2.2.2)), (5, .p (.int .i64 r7.1)), (6, .p (.int .i64 r7.2)), (7, .p (.int .i64 r10.1)), (8, .p (.int .i64 r10.2)), (10, .p (.int .i64 r13.2)), (11, .p (.int .i64 r16.1)), (12, .p (.int .i64 r16.2)), (13, .p (.int .i64 r17.1)), (14, .p (.int .i64 r17.2)), (15, .p (.bool r20.1)), (16, .p (.int .i64 r20.2))], [], []⟩) (APath.one (.call (some 61) 29 [.k (.p (.int .i64 4)), .k (.p (.int .i64 0)), .k (.p (.int .i64 2))]) (by kernel_rfl) (st_call (by kernel_rfl) (law23_span_ok N 4 0 2 r18 hr18)) (APath.one (.call (some 62) 29 [.k (.p (.int .i64 6)), .k (.p (.int .i64 2)), .k (.p (.int .i64 1))]) (by kernel_rfl) (st_call (by kernel_rfl) (law23_span_ok N 6 2 1 r19 hr19)) (APath.one (.call (some 63) 16 [.t 61, .t 62]) (by kernel_rfl) (st_call (by kernel_rfl) (residue_Apart_ok N r18 r19 r20 hr20)) (APath.fin (by kernel_rfl))))) (by kernel_rfl) ?_
  refine vc_seq ?_
  obtain ⟨j31, hj, h⟩ := bind_some h
  refine vc_regXR (fun s => s = ⟨[(5, .p (.int .i64 r7.1)), (6, .p (.int .i64 r7.2)), (7, .p (.int .i64 r10.1)), (8, .p (.int .i64 r10.2)), (10, .p (.int .i64 r13.2)), (11, .p (.int .i64 r16.1)), (12, .p (.int .i64 r16.2)), (13, .p (.int .i64 r17.1)), (14, .p (.int .i64 r17.2)), (15, .p (.bool r20.1)), (16, .p (.int .i64 r20.2)), (17, .p (.bool j31))], [], []⟩) ?_ ?_
  · clear h
    obtain ⟨r21, hr21, hj⟩ := bind_some hj
    obtain ⟨r22, hr22, hj⟩ := bind_some hj
    obtain ⟨r23, hr23, hj⟩ := bind_some hj
    rcases ite_some hj with ⟨hc24, hj⟩ | ⟨hc30, hj⟩
    · rcases ite_some hj with ⟨hc25, hj⟩ | ⟨hc29, hj⟩
      · obtain ⟨r26, hr26, hj⟩ := bind_some hj
        obtain ⟨r27, hr27, hj⟩ := bind_some hj
        obtain ⟨r28, hr28, hj⟩ := bind_some hj
        obtain rfl := some_inj hj
        exact ⟨_, (APath.one (.call (some 66) 29 [.k (.p (.int .i64 4)), .k (.p (.int .i64 0)), .k (.p (.int .i64 1))]) (by kernel_rfl) (st_call (by kernel_rfl) (law23_span_ok N 4 0 1 r21 hr21)) (APath.one (.call (some 67) 29 [.k (.p (.int .i64 6)), .k (.p (.int .i64 0)), .k (.p (.int .i64 1))]) (by kernel_rfl) (st_call (by kernel_rfl) (law23_span_ok N 6 0 1 r22 hr22)) (APath.one (.call (some 68) 32 [.t 66, .t 67, .k (.p (.int .i64 1)), .k (.p (.int .i64 1)), .k (.p (.int .i64 2))]) (by kernel_rfl) (st_callB (by kernel_rfl) (law23_room_ok N r21 r22 1 1 2 r23 hr23) hc24) (APath.chunk 2 (by kernel_rfl) (APath.oneG (.val 71 (.bin .eql) [.t 70, .k (.p (.int .i64 4))]) 69 true (by kernel_rfl) (by kernel_rfl) (st_bool (c := (r3.2.2.2 == 4)) (by kernel_rfl) hc25) (APath.chunk 2 (by kernel_rfl) (APath.oneG (.call (some 74) 29 [.k (.p (.int .i64 12)), .k (.p (.int .i64 5)), .k (.p (.int .i64 3))]) 73 true (by kernel_rfl) (by kernel_rfl) (st_call (by kernel_rfl) (law23_span_ok N 12 5 3 r26 hr26)) (APath.oneG (.call (some 75) 29 [.k (.p (.int .i64 8)), .k (.p (.int .i64 0)), .k (.p (.int .i64 1))]) 73 true (by kernel_rfl) (by kernel_rfl) (st_call (by kernel_rfl) (law23_span_ok N 8 0 1 r27 hr27)) (APath.oneG (.call (some 76) 32 [.t 74, .t 75, .k (.p (.int .i64 3)), .k (.p (.int .i64 3)), .k (.p (.int .i64 4))]) 73 true (by kernel_rfl) (by kernel_rfl) (st_call (by kernel_rfl) (law23_room_ok N r26 r27 3 3 4 r28 hr28)) (APath.fin (by kernel_rfl))))))))))), (by show _ = _; kernel_rfl)⟩
      · obtain rfl := some_inj hj
        exact ⟨_, (APath.one (.call (some 66) 29 [.k (.p (.int .i64 4)), .k (.p (.int .i64 0)), .k (.p (.int .i64 1))]) (by kernel_rfl) (st_call (by kernel_rfl) (law23_span_ok N 4 0 1 r21 hr21)) (APath.one (.call (some 67) 29 [.k (.p (.int .i64 6)), .k (.p (.int .i64 0)), .k (.p (.int .i64 1))]) (by kernel_rfl) (st_call (by kernel_rfl) (law23_span_ok N 6 0 1 r22 hr22)) (APath.one (.call (some 68) 32 [.t 66, .t 67, .k (.p (.int .i64 1)), .k (.p (.int .i64 1)), .k (.p (.int .i64 2))]) (by kernel_rfl) (st_callB (by kernel_rfl) (law23_room_ok N r21 r22 1 1 2 r23 hr23) hc24) (APath.chunk 2 (by kernel_rfl) (APath.oneG (.val 71 (.bin .eql) [.t 70, .k (.p (.int .i64 4))]) 69 true (by kernel_rfl) (by kernel_rfl) (st_bool (c := (r3.2.2.2 == 4)) (by kernel_rfl) hc29) (APath.fin (by kernel_rfl))))))), (by show _ = _; kernel_rfl)⟩
    · obtain rfl := some_inj hj
      exact ⟨_, (APath.one (.call (some 66) 29 [.k (.p (.int .i64 4)), .k (.p (.int .i64 0)), .k (.p (.int .i64 1))]) (by kernel_rfl) (st_call (by kernel_rfl) (law23_span_ok N 4 0 1 r21 hr21)) (APath.one (.call (some 67) 29 [.k (.p (.int .i64 6)), .k (.p (.int .i64 0)), .k (.p (.int .i64 1))]) (by kernel_rfl) (st_call (by kernel_rfl) (law23_span_ok N 6 0 1 r22 hr22)) (APath.one (.call (some 68) 32 [.t 66, .t 67, .k (.p (.int .i64 1)), .k (.p (.int .i64 1)), .k (.p (.int .i64 2))]) (by kernel_rfl) (st_callB (by kernel_rfl) (law23_room_ok N r21 r22 1 1 2 r23 hr23) hc30) (APath.fin (by kernel_rfl))))), (by show _ = _; kernel_rfl)⟩
  · clear hj
    rintro s hR
    obtain rfl := hR
    refine vc_seq ?_
    obtain ⟨j42, hj, h⟩ := bind_some h
    refine vc_regXR (fun s => s = ⟨[(5, .p (.int .i64 r7.1)), (6, .p (.int .i64 r7.2)), (7, .p (.int .i64 r10.1)), (8, .p (.int .i64 r10.2)), (10, .p (.int .i64 r13.2)), (11, .p (.int .i64 r16.1)), (12, .p (.int .i64 r16.2)), (13, .p (.int .i64 r17.1)), (14, .p (.int .i64 r17.2)), (15, .p (.bool r20.1)), (16, .p (.int .i64 r20.2)), (17, .p (.bool j31)), (18, .p (.bool j42))], [], []⟩) ?_ ?_
    · clear h
      obtain ⟨r32, hr32, hj⟩ := bind_some hj
      obtain ⟨r33, hr33, hj⟩ := bind_some hj
      rcases ite_some hj with ⟨hc34, hj⟩ | ⟨hc41, hj⟩
      · obtain ⟨r35, hr35, hj⟩ := bind_some hj
        obtain ⟨r36, hr36, hj⟩ := bind_some hj
        rcases ite_some hj with ⟨hc37, hj⟩ | ⟨hc40, hj⟩
        · obtain ⟨r38, hr38, hj⟩ := bind_some hj
          obtain ⟨r39, hr39, hj⟩ := bind_some hj
          obtain rfl := some_inj hj
          exact ⟨_, (APath.one (.call (some 78) 29 [.k (.p (.int .i64 6)), .k (.p (.int .i64 4)), .k (.p (.int .i64 3))]) (by kernel_rfl) (st_call (by kernel_rfl) (law23_span_ok N 6 4 3 r32 hr32)) (APath.one (.call (some 79) 25 [.t 78, .k (.p (.int .i64 0))]) (by kernel_rfl) (st_callB (by kernel_rfl) (law23_covers_ok N r32 0 r33 hr33) hc34) (APath.chunk 1 (by kernel_rfl) (APath.oneG (.call (some 81) 29 [.k (.p (.int .i64 6)), .k (.p (.int .i64 4)), .k (.p (.int .i64 3))]) 80 true (by kernel_rfl) (by kernel_rfl) (st_call (by kernel_rfl) (law23_span_ok N 6 4 3 r35 hr35)) (APath.oneG (.call (some 82) 25 [.t 81, .k (.p (.int .i64 1))]) 80 true (by kernel_rfl) (by kernel_rfl) (st_call (by kernel_rfl) (law23_covers_ok N r35 1 r36 hr36)) (APath.oneG (.val 83 .not [.t 82]) 80 true (by kernel_rfl) (by kernel_rfl) (st_bool (c := (!r36)) (by kernel_rfl) hc37) (APath.chunk 2 (by kernel_rfl) (APath.oneG (.call (some 86) 29 [.k (.p (.int .i64 6)), .k (.p (.int .i64 4)), .k (.p (.int .i64 3))]) 85 true (by kernel_rfl) (by kernel_rfl) (st_call (by kernel_rfl) (law23_span_ok N 6 4 3 r38 hr38)) (APath.oneG (.call (some 87) 25 [.t 86, .k (.p (.int .i64 (-2)))]) 85 true (by kernel_rfl) (by kernel_rfl) (st_call (by kernel_rfl) (law23_covers_ok N r38 (-2) r39 hr39)) (APath.fin (by kernel_rfl))))))))))), (by show _ = _; kernel_rfl)⟩
        · obtain rfl := some_inj hj
          exact ⟨_, (APath.one (.call (some 78) 29 [.k (.p (.int .i64 6)), .k (.p (.int .i64 4)), .k (.p (.int .i64 3))]) (by kernel_rfl) (st_call (by kernel_rfl) (law23_span_ok N 6 4 3 r32 hr32)) (APath.one (.call (some 79) 25 [.t 78, .k (.p (.int .i64 0))]) (by kernel_rfl) (st_callB (by kernel_rfl) (law23_covers_ok N r32 0 r33 hr33) hc34) (APath.chunk 1 (by kernel_rfl) (APath.oneG (.call (some 81) 29 [.k (.p (.int .i64 6)), .k (.p (.int .i64 4)), .k (.p (.int .i64 3))]) 80 true (by kernel_rfl) (by kernel_rfl) (st_call (by kernel_rfl) (law23_span_ok N 6 4 3 r35 hr35)) (APath.oneG (.call (some 82) 25 [.t 81, .k (.p (.int .i64 1))]) 80 true (by kernel_rfl) (by kernel_rfl) (st_call (by kernel_rfl) (law23_covers_ok N r35 1 r36 hr36)) (APath.oneG (.val 83 .not [.t 82]) 80 true (by kernel_rfl) (by kernel_rfl) (st_bool (c := (!r36)) (by kernel_rfl) hc40) (APath.fin (by kernel_rfl)))))))), (by show _ = _; kernel_rfl)⟩
      · obtain rfl := some_inj hj
        exact ⟨_, (APath.one (.call (some 78) 29 [.k (.p (.int .i64 6)), .k (.p (.int .i64 4)), .k (.p (.int .i64 3))]) (by kernel_rfl) (st_call (by kernel_rfl) (law23_span_ok N 6 4 3 r32 hr32)) (APath.one (.call (some 79) 25 [.t 78, .k (.p (.int .i64 0))]) (by kernel_rfl) (st_callB (by kernel_rfl) (law23_covers_ok N r32 0 r33 hr33) hc41) (APath.fin (by kernel_rfl)))), (by show _ = _; kernel_rfl)⟩
    · clear hj
      rintro s hR
      obtain rfl := hR
      refine vc_seq ?_
      obtain ⟨j72, hj, h⟩ := bind_some h
      refine vc_regXR (fun s => s = ⟨[(0, .p (.bool j72))], [], []⟩) ?_ ?_
      · clear h
        rcases ite_some hj with ⟨hc43, hj⟩ | ⟨hc71, hj⟩
        · rcases ite_some hj with ⟨hc44, hj⟩ | ⟨hc70, hj⟩
          · rcases ite_some hj with ⟨hc45, hj⟩ | ⟨hc69, hj⟩
            · rcases ite_some hj with ⟨hc46, hj⟩ | ⟨hc68, hj⟩
              · rcases ite_some hj with ⟨hc47, hj⟩ | ⟨hc67, hj⟩
                · rcases ite_some hj with ⟨hc48, hj⟩ | ⟨hc66, hj⟩
                  · rcases ite_some hj with ⟨hc49, hj⟩ | ⟨hc65, hj⟩
                    · rcases ite_some hj with ⟨hc50, hj⟩ | ⟨hc64, hj⟩
                      · rcases ite_some hj with ⟨hc51, hj⟩ | ⟨hc63, hj⟩
                        · rcases ite_some hj with ⟨hc52, hj⟩ | ⟨hc62, hj⟩
                          · rcases ite_some hj with ⟨hc53, hj⟩ | ⟨hc61, hj⟩
                            · rcases ite_some hj with ⟨hc54, hj⟩ | ⟨hc60, hj⟩
                              · obtain ⟨r55, hr55, hj⟩ := bind_some hj
                                obtain ⟨r56, hr56, hj⟩ := bind_some hj
                                obtain ⟨r57, hr57, hj⟩ := bind_some hj
                                rcases ite_some hj with ⟨hc58, hj⟩ | ⟨hc59, hj⟩
                                · obtain rfl := some_inj hj
                                  exact ⟨_, (APath.one (.val 89 .mov [.t 17]) (by kernel_rfl) (st_bool (c := j31) (by kernel_rfl) hc43) (APath.chunk 2 (by kernel_rfl) (APath.oneG (.val 92 (.bin .eql) [.t 91, .k (.p (.int .i64 2))]) 90 true (by kernel_rfl) (by kernel_rfl) (st_bool (c := (r7.1 == 2)) (by kernel_rfl) hc44) (APath.chunk 3 (by kernel_rfl) (APath.oneG (.val 96 (.bin .eql) [.t 95, .k (.p (.int .i64 0))]) 94 true (by kernel_rfl) (by kernel_rfl) (st_bool (c := (r7.2 == 0)) (by kernel_rfl) hc45) (APath.chunk 3 (by kernel_rfl) (APath.oneG (.val 100 (.bin .eql) [.t 99, .k (.p (.int .i64 1))]) 98 true (by kernel_rfl) (by kernel_rfl) (st_bool (c := (r10.1 == 1)) (by kernel_rfl) hc46) (APath.chunk 3 (by kernel_rfl) (APath.oneG (.val 104 (.bin .eql) [.t 103, .k (.p (.int .i64 0))]) 102 true (by kernel_rfl) (by kernel_rfl) (st_bool (c := (r10.2 == 0)) (by kernel_rfl) hc47) (APath.chunk 3 (by kernel_rfl) (APath.oneG (.val 108 (.bin .eql) [.t 107, .k (.p (.int .i64 4))]) 106 true (by kernel_rfl) (by kernel_rfl) (st_bool (c := (r13.2 == 4)) (by kernel_rfl) hc48) (APath.chunk 3 (by kernel_rfl) (APath.oneG (.val 112 (.bin .eql) [.t 111, .k (.p (.int .i64 12))]) 110 true (by kernel_rfl) (by kernel_rfl) (st_bool (c := (r16.1 == 12)) (by kernel_rfl) hc49) (APath.chunk 3 (by kernel_rfl) (APath.oneG (.val 116 (.bin .eql) [.t 115, .k (.p (.int .i64 0))]) 114 true (by kernel_rfl) (by kernel_rfl) (st_bool (c := (r16.2 == 0)) (by kernel_rfl) hc50) (APath.chunk 3 (by kernel_rfl) (APath.oneG (.val 120 (.bin .eql) [.t 119, .k (.p (.int .i64 1))]) 118 true (by kernel_rfl) (by kernel_rfl) (st_bool (c := (r17.1 == 1)) (by kernel_rfl) hc51) (APath.chunk 3 (by kernel_rfl) (APath.oneG (.val 124 (.bin .eql) [.t 123, .k (.p (.int .i64 0))]) 122 true (by kernel_rfl) (by kernel_rfl) (st_bool (c := (r17.2 == 0)) (by kernel_rfl) hc52) (APath.chunk 3 (by kernel_rfl) (APath.oneG (.val 128 .not [.t 127]) 126 true (by kernel_rfl) (by kernel_rfl) (st_bool (c := (!r20.1)) (by kernel_rfl) hc53) (APath.chunk 3 (by kernel_rfl) (APath.oneG (.val 132 (.bin .eql) [.t 131, .k (.p (.int .i64 0))]) 130 true (by kernel_rfl) (by kernel_rfl) (st_bool (c := (r20.2 == 0)) (by kernel_rfl) hc54) (APath.chunk 2 (by kernel_rfl) (APath.oneG (.call (some 135) 29 [.k (.p (.int .i64 4)), .k (.p (.int .i64 0)), .k (.p (.int .i64 1))]) 134 true (by kernel_rfl) (by kernel_rfl) (st_call (by kernel_rfl) (law23_span_ok N 4 0 1 r55 hr55)) (APath.oneG (.call (some 136) 29 [.k (.p (.int .i64 6)), .k (.p (.int .i64 3)), .k (.p (.int .i64 1))]) 134 true (by kernel_rfl) (by kernel_rfl) (st_call (by kernel_rfl) (law23_span_ok N 6 3 1 r56 hr56)) (APath.oneG (.call (some 137) 26 [.t 135, .t 136]) 134 true (by kernel_rfl) (by kernel_rfl) (st_callB (by kernel_rfl) (law23_apart_ok N r55 r56 r57 hr57) hc58) (APath.fin (by kernel_rfl))))))))))))))))))))))))))))), (by show _ = _; kernel_rfl)⟩
                                · obtain rfl := some_inj hj
                                  exact ⟨_, (APath.one (.val 89 .mov [.t 17]) (by kernel_rfl) (st_bool (c := j31) (by kernel_rfl) hc43) (APath.chunk 2 (by kernel_rfl) (APath.oneG (.val 92 (.bin .eql) [.t 91, .k (.p (.int .i64 2))]) 90 true (by kernel_rfl) (by kernel_rfl) (st_bool (c := (r7.1 == 2)) (by kernel_rfl) hc44) (APath.chunk 3 (by kernel_rfl) (APath.oneG (.val 96 (.bin .eql) [.t 95, .k (.p (.int .i64 0))]) 94 true (by kernel_rfl) (by kernel_rfl) (st_bool (c := (r7.2 == 0)) (by kernel_rfl) hc45) (APath.chunk 3 (by kernel_rfl) (APath.oneG (.val 100 (.bin .eql) [.t 99, .k (.p (.int .i64 1))]) 98 true (by kernel_rfl) (by kernel_rfl) (st_bool (c := (r10.1 == 1)) (by kernel_rfl) hc46) (APath.chunk 3 (by kernel_rfl) (APath.oneG (.val 104 (.bin .eql) [.t 103, .k (.p (.int .i64 0))]) 102 true (by kernel_rfl) (by kernel_rfl) (st_bool (c := (r10.2 == 0)) (by kernel_rfl) hc47) (APath.chunk 3 (by kernel_rfl) (APath.oneG (.val 108 (.bin .eql) [.t 107, .k (.p (.int .i64 4))]) 106 true (by kernel_rfl) (by kernel_rfl) (st_bool (c := (r13.2 == 4)) (by kernel_rfl) hc48) (APath.chunk 3 (by kernel_rfl) (APath.oneG (.val 112 (.bin .eql) [.t 111, .k (.p (.int .i64 12))]) 110 true (by kernel_rfl) (by kernel_rfl) (st_bool (c := (r16.1 == 12)) (by kernel_rfl) hc49) (APath.chunk 3 (by kernel_rfl) (APath.oneG (.val 116 (.bin .eql) [.t 115, .k (.p (.int .i64 0))]) 114 true (by kernel_rfl) (by kernel_rfl) (st_bool (c := (r16.2 == 0)) (by kernel_rfl) hc50) (APath.chunk 3 (by kernel_rfl) (APath.oneG (.val 120 (.bin .eql) [.t 119, .k (.p (.int .i64 1))]) 118 true (by kernel_rfl) (by kernel_rfl) (st_bool (c := (r17.1 == 1)) (by kernel_rfl) hc51) (APath.chunk 3 (by kernel_rfl) (APath.oneG (.val 124 (.bin .eql) [.t 123, .k (.p (.int .i64 0))]) 122 true (by kernel_rfl) (by kernel_rfl) (st_bool (c := (r17.2 == 0)) (by kernel_rfl) hc52) (APath.chunk 3 (by kernel_rfl) (APath.oneG (.val 128 .not [.t 127]) 126 true (by kernel_rfl) (by kernel_rfl) (st_bool (c := (!r20.1)) (by kernel_rfl) hc53) (APath.chunk 3 (by kernel_rfl) (APath.oneG (.val 132 (.bin .eql) [.t 131, .k (.p (.int .i64 0))]) 130 true (by kernel_rfl) (by kernel_rfl) (st_bool (c := (r20.2 == 0)) (by kernel_rfl) hc54) (APath.chunk 2 (by kernel_rfl) (APath.oneG (.call (some 135) 29 [.k (.p (.int .i64 4)), .k (.p (.int .i64 0)), .k (.p (.int .i64 1))]) 134 true (by kernel_rfl) (by kernel_rfl) (st_call (by kernel_rfl) (law23_span_ok N 4 0 1 r55 hr55)) (APath.oneG (.call (some 136) 29 [.k (.p (.int .i64 6)), .k (.p (.int .i64 3)), .k (.p (.int .i64 1))]) 134 true (by kernel_rfl) (by kernel_rfl) (st_call (by kernel_rfl) (law23_span_ok N 6 3 1 r56 hr56)) (APath.oneG (.call (some 137) 26 [.t 135, .t 136]) 134 true (by kernel_rfl) (by kernel_rfl) (st_callB (by kernel_rfl) (law23_apart_ok N r55 r56 r57 hr57) hc59) (APath.fin (by kernel_rfl))))))))))))))))))))))))))))), (by show _ = _; kernel_rfl)⟩
                              · obtain rfl := some_inj hj
                                exact ⟨_, (APath.one (.val 89 .mov [.t 17]) (by kernel_rfl) (st_bool (c := j31) (by kernel_rfl) hc43) (APath.chunk 2 (by kernel_rfl) (APath.oneG (.val 92 (.bin .eql) [.t 91, .k (.p (.int .i64 2))]) 90 true (by kernel_rfl) (by kernel_rfl) (st_bool (c := (r7.1 == 2)) (by kernel_rfl) hc44) (APath.chunk 3 (by kernel_rfl) (APath.oneG (.val 96 (.bin .eql) [.t 95, .k (.p (.int .i64 0))]) 94 true (by kernel_rfl) (by kernel_rfl) (st_bool (c := (r7.2 == 0)) (by kernel_rfl) hc45) (APath.chunk 3 (by kernel_rfl) (APath.oneG (.val 100 (.bin .eql) [.t 99, .k (.p (.int .i64 1))]) 98 true (by kernel_rfl) (by kernel_rfl) (st_bool (c := (r10.1 == 1)) (by kernel_rfl) hc46) (APath.chunk 3 (by kernel_rfl) (APath.oneG (.val 104 (.bin .eql) [.t 103, .k (.p (.int .i64 0))]) 102 true (by kernel_rfl) (by kernel_rfl) (st_bool (c := (r10.2 == 0)) (by kernel_rfl) hc47) (APath.chunk 3 (by kernel_rfl) (APath.oneG (.val 108 (.bin .eql) [.t 107, .k (.p (.int .i64 4))]) 106 true (by kernel_rfl) (by kernel_rfl) (st_bool (c := (r13.2 == 4)) (by kernel_rfl) hc48) (APath.chunk 3 (by kernel_rfl) (APath.oneG (.val 112 (.bin .eql) [.t 111, .k (.p (.int .i64 12))]) 110 true (by kernel_rfl) (by kernel_rfl) (st_bool (c := (r16.1 == 12)) (by kernel_rfl) hc49) (APath.chunk 3 (by kernel_rfl) (APath.oneG (.val 116 (.bin .eql) [.t 115, .k (.p (.int .i64 0))]) 114 true (by kernel_rfl) (by kernel_rfl) (st_bool (c := (r16.2 == 0)) (by kernel_rfl) hc50) (APath.chunk 3 (by kernel_rfl) (APath.oneG (.val 120 (.bin .eql) [.t 119, .k (.p (.int .i64 1))]) 118 true (by kernel_rfl) (by kernel_rfl) (st_bool (c := (r17.1 == 1)) (by kernel_rfl) hc51) (APath.chunk 3 (by kernel_rfl) (APath.oneG (.val 124 (.bin .eql) [.t 123, .k (.p (.int .i64 0))]) 122 true (by kernel_rfl) (by kernel_rfl) (st_bool (c := (r17.2 == 0)) (by kernel_rfl) hc52) (APath.chunk 3 (by kernel_rfl) (APath.oneG (.val 128 .not [.t 127]) 126 true (by kernel_rfl) (by kernel_rfl) (st_bool (c := (!r20.1)) (by kernel_rfl) hc53) (APath.chunk 3 (by kernel_rfl) (APath.oneG (.val 132 (.bin .eql) [.t 131, .k (.p (.int .i64 0))]) 130 true (by kernel_rfl) (by kernel_rfl) (st_bool (c := (r20.2 == 0)) (by kernel_rfl) hc60) (APath.fin (by kernel_rfl))))))))))))))))))))))))), (by show _ = _; kernel_rfl)⟩
                            · obtain rfl := some_inj hj
                              exact ⟨_, (APath.one (.val 89 .mov [.t 17]) (by kernel_rfl) (st_bool (c := j31) (by kernel_rfl) hc43) (APath.chunk 2 (by kernel_rfl) (APath.oneG (.val 92 (.bin .eql) [.t 91, .k (.p (.int .i64 2))]) 90 true (by kernel_rfl) (by kernel_rfl) (st_bool (c := (r7.1 == 2)) (by kernel_rfl) hc44) (APath.chunk 3 (by kernel_rfl) (APath.oneG (.val 96 (.bin .eql) [.t 95, .k (.p (.int .i64 0))]) 94 true (by kernel_rfl) (by kernel_rfl) (st_bool (c := (r7.2 == 0)) (by kernel_rfl) hc45) (APath.chunk 3 (by kernel_rfl) (APath.oneG (.val 100 (.bin .eql) [.t 99, .k (.p (.int .i64 1))]) 98 true (by kernel_rfl) (by kernel_rfl) (st_bool (c := (r10.1 == 1)) (by kernel_rfl) hc46) (APath.chunk 3 (by kernel_rfl) (APath.oneG (.val 104 (.bin .eql) [.t 103, .k (.p (.int .i64 0))]) 102 true (by kernel_rfl) (by kernel_rfl) (st_bool (c := (r10.2 == 0)) (by kernel_rfl) hc47) (APath.chunk 3 (by kernel_rfl) (APath.oneG (.val 108 (.bin .eql) [.t 107, .k (.p (.int .i64 4))]) 106 true (by kernel_rfl) (by kernel_rfl) (st_bool (c := (r13.2 == 4)) (by kernel_rfl) hc48) (APath.chunk 3 (by kernel_rfl) (APath.oneG (.val 112 (.bin .eql) [.t 111, .k (.p (.int .i64 12))]) 110 true (by kernel_rfl) (by kernel_rfl) (st_bool (c := (r16.1 == 12)) (by kernel_rfl) hc49) (APath.chunk 3 (by kernel_rfl) (APath.oneG (.val 116 (.bin .eql) [.t 115, .k (.p (.int .i64 0))]) 114 true (by kernel_rfl) (by kernel_rfl) (st_bool (c := (r16.2 == 0)) (by kernel_rfl) hc50) (APath.chunk 3 (by kernel_rfl) (APath.oneG (.val 120 (.bin .eql) [.t 119, .k (.p (.int .i64 1))]) 118 true (by kernel_rfl) (by kernel_rfl) (st_bool (c := (r17.1 == 1)) (by kernel_rfl) hc51) (APath.chunk 3 (by kernel_rfl) (APath.oneG (.val 124 (.bin .eql) [.t 123, .k (.p (.int .i64 0))]) 122 true (by kernel_rfl) (by kernel_rfl) (st_bool (c := (r17.2 == 0)) (by kernel_rfl) hc52) (APath.chunk 3 (by kernel_rfl) (APath.oneG (.val 128 .not [.t 127]) 126 true (by kernel_rfl) (by kernel_rfl) (st_bool (c := (!r20.1)) (by kernel_rfl) hc61) (APath.fin (by kernel_rfl))))))))))))))))))))))), (by show _ = _; kernel_rfl)⟩
                          · obtain rfl := some_inj hj
                            exact ⟨_, (APath.one (.val 89 .mov [.t 17]) (by kernel_rfl) (st_bool (c := j31) (by kernel_rfl) hc43) (APath.chunk 2 (by kernel_rfl) (APath.oneG (.val 92 (.bin .eql) [.t 91, .k (.p (.int .i64 2))]) 90 true (by kernel_rfl) (by kernel_rfl) (st_bool (c := (r7.1 == 2)) (by kernel_rfl) hc44) (APath.chunk 3 (by kernel_rfl) (APath.oneG (.val 96 (.bin .eql) [.t 95, .k (.p (.int .i64 0))]) 94 true (by kernel_rfl) (by kernel_rfl) (st_bool (c := (r7.2 == 0)) (by kernel_rfl) hc45) (APath.chunk 3 (by kernel_rfl) (APath.oneG (.val 100 (.bin .eql) [.t 99, .k (.p (.int .i64 1))]) 98 true (by kernel_rfl) (by kernel_rfl) (st_bool (c := (r10.1 == 1)) (by kernel_rfl) hc46) (APath.chunk 3 (by kernel_rfl) (APath.oneG (.val 104 (.bin .eql) [.t 103, .k (.p (.int .i64 0))]) 102 true (by kernel_rfl) (by kernel_rfl) (st_bool (c := (r10.2 == 0)) (by kernel_rfl) hc47) (APath.chunk 3 (by kernel_rfl) (APath.oneG (.val 108 (.bin .eql) [.t 107, .k (.p (.int .i64 4))]) 106 true (by kernel_rfl) (by kernel_rfl) (st_bool (c := (r13.2 == 4)) (by kernel_rfl) hc48) (APath.chunk 3 (by kernel_rfl) (APath.oneG (.val 112 (.bin .eql) [.t 111, .k (.p (.int .i64 12))]) 110 true (by kernel_rfl) (by kernel_rfl) (st_bool (c := (r16.1 == 12)) (by kernel_rfl) hc49) (APath.chunk 3 (by kernel_rfl) (APath.oneG (.val 116 (.bin .eql) [.t 115, .k (.p (.int .i64 0))]) 114 true (by kernel_rfl) (by kernel_rfl) (st_bool (c := (r16.2 == 0)) (by kernel_rfl) hc50) (APath.chunk 3 (by kernel_rfl) (APath.oneG (.val 120 (.bin .eql) [.t 119, .k (.p (.int .i64 1))]) 118 true (by kernel_rfl) (by kernel_rfl) (st_bool (c := (r17.1 == 1)) (by kernel_rfl) hc51) (APath.chunk 3 (by kernel_rfl) (APath.oneG (.val 124 (.bin .eql) [.t 123, .k (.p (.int .i64 0))]) 122 true (by kernel_rfl) (by kernel_rfl) (st_bool (c := (r17.2 == 0)) (by kernel_rfl) hc62) (APath.fin (by kernel_rfl))))))))))))))))))))), (by show _ = _; kernel_rfl)⟩
                        · obtain rfl := some_inj hj
                          exact ⟨_, (APath.one (.val 89 .mov [.t 17]) (by kernel_rfl) (st_bool (c := j31) (by kernel_rfl) hc43) (APath.chunk 2 (by kernel_rfl) (APath.oneG (.val 92 (.bin .eql) [.t 91, .k (.p (.int .i64 2))]) 90 true (by kernel_rfl) (by kernel_rfl) (st_bool (c := (r7.1 == 2)) (by kernel_rfl) hc44) (APath.chunk 3 (by kernel_rfl) (APath.oneG (.val 96 (.bin .eql) [.t 95, .k (.p (.int .i64 0))]) 94 true (by kernel_rfl) (by kernel_rfl) (st_bool (c := (r7.2 == 0)) (by kernel_rfl) hc45) (APath.chunk 3 (by kernel_rfl) (APath.oneG (.val 100 (.bin .eql) [.t 99, .k (.p (.int .i64 1))]) 98 true (by kernel_rfl) (by kernel_rfl) (st_bool (c := (r10.1 == 1)) (by kernel_rfl) hc46) (APath.chunk 3 (by kernel_rfl) (APath.oneG (.val 104 (.bin .eql) [.t 103, .k (.p (.int .i64 0))]) 102 true (by kernel_rfl) (by kernel_rfl) (st_bool (c := (r10.2 == 0)) (by kernel_rfl) hc47) (APath.chunk 3 (by kernel_rfl) (APath.oneG (.val 108 (.bin .eql) [.t 107, .k (.p (.int .i64 4))]) 106 true (by kernel_rfl) (by kernel_rfl) (st_bool (c := (r13.2 == 4)) (by kernel_rfl) hc48) (APath.chunk 3 (by kernel_rfl) (APath.oneG (.val 112 (.bin .eql) [.t 111, .k (.p (.int .i64 12))]) 110 true (by kernel_rfl) (by kernel_rfl) (st_bool (c := (r16.1 == 12)) (by kernel_rfl) hc49) (APath.chunk 3 (by kernel_rfl) (APath.oneG (.val 116 (.bin .eql) [.t 115, .k (.p (.int .i64 0))]) 114 true (by kernel_rfl) (by kernel_rfl) (st_bool (c := (r16.2 == 0)) (by kernel_rfl) hc50) (APath.chunk 3 (by kernel_rfl) (APath.oneG (.val 120 (.bin .eql) [.t 119, .k (.p (.int .i64 1))]) 118 true (by kernel_rfl) (by kernel_rfl) (st_bool (c := (r17.1 == 1)) (by kernel_rfl) hc63) (APath.fin (by kernel_rfl))))))))))))))))))), (by show _ = _; kernel_rfl)⟩
                      · obtain rfl := some_inj hj
                        exact ⟨_, (APath.one (.val 89 .mov [.t 17]) (by kernel_rfl) (st_bool (c := j31) (by kernel_rfl) hc43) (APath.chunk 2 (by kernel_rfl) (APath.oneG (.val 92 (.bin .eql) [.t 91, .k (.p (.int .i64 2))]) 90 true (by kernel_rfl) (by kernel_rfl) (st_bool (c := (r7.1 == 2)) (by kernel_rfl) hc44) (APath.chunk 3 (by kernel_rfl) (APath.oneG (.val 96 (.bin .eql) [.t 95, .k (.p (.int .i64 0))]) 94 true (by kernel_rfl) (by kernel_rfl) (st_bool (c := (r7.2 == 0)) (by kernel_rfl) hc45) (APath.chunk 3 (by kernel_rfl) (APath.oneG (.val 100 (.bin .eql) [.t 99, .k (.p (.int .i64 1))]) 98 true (by kernel_rfl) (by kernel_rfl) (st_bool (c := (r10.1 == 1)) (by kernel_rfl) hc46) (APath.chunk 3 (by kernel_rfl) (APath.oneG (.val 104 (.bin .eql) [.t 103, .k (.p (.int .i64 0))]) 102 true (by kernel_rfl) (by kernel_rfl) (st_bool (c := (r10.2 == 0)) (by kernel_rfl) hc47) (APath.chunk 3 (by kernel_rfl) (APath.oneG (.val 108 (.bin .eql) [.t 107, .k (.p (.int .i64 4))]) 106 true (by kernel_rfl) (by kernel_rfl) (st_bool (c := (r13.2 == 4)) (by kernel_rfl) hc48) (APath.chunk 3 (by kernel_rfl) (APath.oneG (.val 112 (.bin .eql) [.t 111, .k (.p (.int .i64 12))]) 110 true (by kernel_rfl) (by kernel_rfl) (st_bool (c := (r16.1 == 12)) (by kernel_rfl) hc49) (APath.chunk 3 (by kernel_rfl) (APath.oneG (.val 116 (.bin .eql) [.t 115, .k (.p (.int .i64 0))]) 114 true (by kernel_rfl) (by kernel_rfl) (st_bool (c := (r16.2 == 0)) (by kernel_rfl) hc64) (APath.fin (by kernel_rfl))))))))))))))))), (by show _ = _; kernel_rfl)⟩
                    · obtain rfl := some_inj hj
                      exact ⟨_, (APath.one (.val 89 .mov [.t 17]) (by kernel_rfl) (st_bool (c := j31) (by kernel_rfl) hc43) (APath.chunk 2 (by kernel_rfl) (APath.oneG (.val 92 (.bin .eql) [.t 91, .k (.p (.int .i64 2))]) 90 true (by kernel_rfl) (by kernel_rfl) (st_bool (c := (r7.1 == 2)) (by kernel_rfl) hc44) (APath.chunk 3 (by kernel_rfl) (APath.oneG (.val 96 (.bin .eql) [.t 95, .k (.p (.int .i64 0))]) 94 true (by kernel_rfl) (by kernel_rfl) (st_bool (c := (r7.2 == 0)) (by kernel_rfl) hc45) (APath.chunk 3 (by kernel_rfl) (APath.oneG (.val 100 (.bin .eql) [.t 99, .k (.p (.int .i64 1))]) 98 true (by kernel_rfl) (by kernel_rfl) (st_bool (c := (r10.1 == 1)) (by kernel_rfl) hc46) (APath.chunk 3 (by kernel_rfl) (APath.oneG (.val 104 (.bin .eql) [.t 103, .k (.p (.int .i64 0))]) 102 true (by kernel_rfl) (by kernel_rfl) (st_bool (c := (r10.2 == 0)) (by kernel_rfl) hc47) (APath.chunk 3 (by kernel_rfl) (APath.oneG (.val 108 (.bin .eql) [.t 107, .k (.p (.int .i64 4))]) 106 true (by kernel_rfl) (by kernel_rfl) (st_bool (c := (r13.2 == 4)) (by kernel_rfl) hc48) (APath.chunk 3 (by kernel_rfl) (APath.oneG (.val 112 (.bin .eql) [.t 111, .k (.p (.int .i64 12))]) 110 true (by kernel_rfl) (by kernel_rfl) (st_bool (c := (r16.1 == 12)) (by kernel_rfl) hc65) (APath.fin (by kernel_rfl))))))))))))))), (by show _ = _; kernel_rfl)⟩
                  · obtain rfl := some_inj hj
                    exact ⟨_, (APath.one (.val 89 .mov [.t 17]) (by kernel_rfl) (st_bool (c := j31) (by kernel_rfl) hc43) (APath.chunk 2 (by kernel_rfl) (APath.oneG (.val 92 (.bin .eql) [.t 91, .k (.p (.int .i64 2))]) 90 true (by kernel_rfl) (by kernel_rfl) (st_bool (c := (r7.1 == 2)) (by kernel_rfl) hc44) (APath.chunk 3 (by kernel_rfl) (APath.oneG (.val 96 (.bin .eql) [.t 95, .k (.p (.int .i64 0))]) 94 true (by kernel_rfl) (by kernel_rfl) (st_bool (c := (r7.2 == 0)) (by kernel_rfl) hc45) (APath.chunk 3 (by kernel_rfl) (APath.oneG (.val 100 (.bin .eql) [.t 99, .k (.p (.int .i64 1))]) 98 true (by kernel_rfl) (by kernel_rfl) (st_bool (c := (r10.1 == 1)) (by kernel_rfl) hc46) (APath.chunk 3 (by kernel_rfl) (APath.oneG (.val 104 (.bin .eql) [.t 103, .k (.p (.int .i64 0))]) 102 true (by kernel_rfl) (by kernel_rfl) (st_bool (c := (r10.2 == 0)) (by kernel_rfl) hc47) (APath.chunk 3 (by kernel_rfl) (APath.oneG (.val 108 (.bin .eql) [.t 107, .k (.p (.int .i64 4))]) 106 true (by kernel_rfl) (by kernel_rfl) (st_bool (c := (r13.2 == 4)) (by kernel_rfl) hc66) (APath.fin (by kernel_rfl))))))))))))), (by show _ = _; kernel_rfl)⟩
                · obtain rfl := some_inj hj
                  exact ⟨_, (APath.one (.val 89 .mov [.t 17]) (by kernel_rfl) (st_bool (c := j31) (by kernel_rfl) hc43) (APath.chunk 2 (by kernel_rfl) (APath.oneG (.val 92 (.bin .eql) [.t 91, .k (.p (.int .i64 2))]) 90 true (by kernel_rfl) (by kernel_rfl) (st_bool (c := (r7.1 == 2)) (by kernel_rfl) hc44) (APath.chunk 3 (by kernel_rfl) (APath.oneG (.val 96 (.bin .eql) [.t 95, .k (.p (.int .i64 0))]) 94 true (by kernel_rfl) (by kernel_rfl) (st_bool (c := (r7.2 == 0)) (by kernel_rfl) hc45) (APath.chunk 3 (by kernel_rfl) (APath.oneG (.val 100 (.bin .eql) [.t 99, .k (.p (.int .i64 1))]) 98 true (by kernel_rfl) (by kernel_rfl) (st_bool (c := (r10.1 == 1)) (by kernel_rfl) hc46) (APath.chunk 3 (by kernel_rfl) (APath.oneG (.val 104 (.bin .eql) [.t 103, .k (.p (.int .i64 0))]) 102 true (by kernel_rfl) (by kernel_rfl) (st_bool (c := (r10.2 == 0)) (by kernel_rfl) hc67) (APath.fin (by kernel_rfl))))))))))), (by show _ = _; kernel_rfl)⟩
              · obtain rfl := some_inj hj
                exact ⟨_, (APath.one (.val 89 .mov [.t 17]) (by kernel_rfl) (st_bool (c := j31) (by kernel_rfl) hc43) (APath.chunk 2 (by kernel_rfl) (APath.oneG (.val 92 (.bin .eql) [.t 91, .k (.p (.int .i64 2))]) 90 true (by kernel_rfl) (by kernel_rfl) (st_bool (c := (r7.1 == 2)) (by kernel_rfl) hc44) (APath.chunk 3 (by kernel_rfl) (APath.oneG (.val 96 (.bin .eql) [.t 95, .k (.p (.int .i64 0))]) 94 true (by kernel_rfl) (by kernel_rfl) (st_bool (c := (r7.2 == 0)) (by kernel_rfl) hc45) (APath.chunk 3 (by kernel_rfl) (APath.oneG (.val 100 (.bin .eql) [.t 99, .k (.p (.int .i64 1))]) 98 true (by kernel_rfl) (by kernel_rfl) (st_bool (c := (r10.1 == 1)) (by kernel_rfl) hc68) (APath.fin (by kernel_rfl))))))))), (by show _ = _; kernel_rfl)⟩
            · obtain rfl := some_inj hj
              exact ⟨_, (APath.one (.val 89 .mov [.t 17]) (by kernel_rfl) (st_bool (c := j31) (by kernel_rfl) hc43) (APath.chunk 2 (by kernel_rfl) (APath.oneG (.val 92 (.bin .eql) [.t 91, .k (.p (.int .i64 2))]) 90 true (by kernel_rfl) (by kernel_rfl) (st_bool (c := (r7.1 == 2)) (by kernel_rfl) hc44) (APath.chunk 3 (by kernel_rfl) (APath.oneG (.val 96 (.bin .eql) [.t 95, .k (.p (.int .i64 0))]) 94 true (by kernel_rfl) (by kernel_rfl) (st_bool (c := (r7.2 == 0)) (by kernel_rfl) hc69) (APath.fin (by kernel_rfl))))))), (by show _ = _; kernel_rfl)⟩
          · obtain rfl := some_inj hj
            exact ⟨_, (APath.one (.val 89 .mov [.t 17]) (by kernel_rfl) (st_bool (c := j31) (by kernel_rfl) hc43) (APath.chunk 2 (by kernel_rfl) (APath.oneG (.val 92 (.bin .eql) [.t 91, .k (.p (.int .i64 2))]) 90 true (by kernel_rfl) (by kernel_rfl) (st_bool (c := (r7.1 == 2)) (by kernel_rfl) hc70) (APath.fin (by kernel_rfl))))), (by show _ = _; kernel_rfl)⟩
        · obtain rfl := some_inj hj
          exact ⟨_, (APath.one (.val 89 .mov [.t 17]) (by kernel_rfl) (st_bool (c := j31) (by kernel_rfl) hc71) (APath.fin (by kernel_rfl))), (by show _ = _; kernel_rfl)⟩
      · clear hj
        rintro s hR
        obtain rfl := hR
        refine vc_ret ?_
        obtain rfl := some_inj h
        exact ret_of (by kernel_rfl)
/- isochronlaw23.ResidueChecks -/
theorem law23_ResidueChecks_ok (N : Nat) (a0_ : api_Span) (a1_ : Arr3_u8) (a2_ : Int) (r : Bool) (h : law23_ResidueChecks N a0_ a1_ a2_ = some r) : PCall Try.prog 3 [.agg [.p (.int .i64 a0_.Period), .p (.int .i64 a0_.From), .p (.int .i64 a0_.Long)], .agg [.p (.int .u8 a1_.x0), .p (.int .u8 a1_.x1), .p (.int .u8 a1_.x2)], .p (.int .i64 a2_)] (.p (.bool r)) := by
  unfold law23_ResidueChecks at h
  have hH : HP ([] : List HO) [] := trivial
  refine pcall_of chk3 rfl rfl (vc_sound _ _ _ ?_) rfl
  refine vc_seq ?_
  refine vc_reg (S := ⟨[(2, .p (.int .i64 a2_)), (3, .loc 3 0), (4, .loc 4 0)], [(3, [.p (.int .i64 a0_.Period), .p (.int .i64 a0_.From), .p (.int .i64 a0_.Long)]), (4, [.p (.int .u8 a1_.x0), .p (.int .u8 a1_.x1), .p (.int .u8 a1_.x2)])], []⟩) (APath.fin (by kernel_rfl)) (by kernel_rfl) ?_
  refine vc_seq ?_
  refine vc_seq ?_
  obtain ⟨r1, hr1, h⟩ := bind_some h
  refine vc_regD (S := ⟨[(2, .p (.int .i64 a2_)), (23, .agg [.p (.int .i64 a0_.Period), .p (.int .i64 a0_.From), .p (.int .i64 a0_.Long), .p (.int .i64 r1.Period), .p (.int .i64 r1.From), .p (.int .i64 r1.Long)]), (24, .p (.int .i64 0))], [], []⟩) (by kernel_rfl) (APath.chunk 7 (by kernel_rfl) (APath.one (.callP 22 10 [.t 17, .t 19, .t 21]) (by kernel_rfl) (st_callP (by kernel_rfl) (ref23_Of_ok N a1_.x0 a1_.x1 a1_.x2 r1 hr1)) (APath.fin (by kernel_rfl)))) (by kernel_rfl) ?_
  refine vc_block ?_
  refine vc_unroll 14 ?_
  refine unr_step ?_
  refine vc_seq ?_
  refine vc_reg (S := ⟨[(2, .p (.int .i64 a2_)), (23, .agg [.p (.int .i64 a0_.Period), .p (.int .i64 a0_.From), .p (.int .i64 a0_.Long), .p (.int .i64 r1.Period), .p (.int .i64 r1.From), .p (.int .i64 r1.Long)]), (24, .p (.int .i64 0)), (25, .p (.bool true))], [], []⟩) (APath.fin (by kernel_rfl)) (by kernel_rfl) ?_
  refine vc_seq ?_
  refine vc_true (by kernel_rfl) ?_
  refine vc_skip ?_
  refine vc_kp ?_
  refine vc_seq ?_
  refine vc_block ?_
  refine vc_seq ?_
  refine vc_reg (S := ⟨[(2, .p (.int .i64 a2_)), (8, .loc 8 0), (23, .agg [.p (.int .i64 a0_.Period), .p (.int .i64 a0_.From), .p (.int .i64 a0_.Long), .p (.int .i64 r1.Period), .p (.int .i64 r1.From), .p (.int .i64 r1.Long)]), (24, .p (.int .i64 0))], [(8, [.p (.int .i64 a0_.Period), .p (.int .i64 a0_.From), .p (.int .i64 a0_.Long)])], []⟩) (APath.fin (by kernel_rfl)) (by kernel_rfl) ?_
  refine vc_seq ?_
  refine vc_seq ?_
  refine vc_reg (S := ⟨[(2, .p (.int .i64 a2_)), (8, .loc 8 0), (23, .agg [.p (.int .i64 a0_.Period), .p (.int .i64 a0_.From), .p (.int .i64 a0_.Long), .p (.int .i64 r1.Period), .p (.int .i64 r1.From), .p (.int .i64 r1.Long)]), (24, .p (.int .i64 0)), (33, .agg [.p (.int .i64 a2_), .p (.int .i64 (Int.tmod a2_ 100)), .p (.int .i64 (w64 (0 - (Int.tmod a2_ 1000))))]), (34, .p (.int .i64 0))], [(8, [.p (.int .i64 a0_.Period), .p (.int .i64 a0_.From), .p (.int .i64 a0_.Long)])], []⟩) (APath.fin (by kernel_rfl)) (by kernel_rfl) ?_
  refine vc_block ?_
  refine vc_unroll 14 ?_
  refine unr_step ?_
  refine vc_seq ?_
  refine vc_reg (S := ⟨[(2, .p (.int .i64 a2_)), (8, .loc 8 0), (23, .agg [.p (.int .i64 a0_.Period), .p (.int .i64 a0_.From), .p (.int .i64 a0_.Long), .p (.int .i64 r1.Period), .p (.int .i64 r1.From), .p (.int .i64 r1.Long)]), (24, .p (.int .i64 0)), (33, .agg [.p (.int .i64 a2_), .p (.int .i64 (Int.tmod a2_ 100)), .p (.int .i64 (w64 (0 - (Int.tmod a2_ 1000))))]), (34, .p (.int .i64 0)), (35, .p (.bool true))], [(8, [.p (.int .i64 a0_.Period), .p (.int .i64 a0_.From), .p (.int .i64 a0_.Long)])], []⟩) (APath.fin (by kernel_rfl)) (by kernel_rfl) ?_
  refine vc_seq ?_
  refine vc_true (by kernel_rfl) ?_
  refine vc_skip ?_
  refine vc_kp ?_
  refine vc_seq ?_
  refine vc_block ?_
  refine vc_seq ?_
  refine vc_reg (S := ⟨[(2, .p (.int .i64 a2_)), (8, .loc 8 0), (10, .p (.int .i64 a2_)), (23, .agg [.p (.int .i64 a0_.Period), .p (.int .i64 a0_.From), .p (.int .i64 a0_.Long), .p (.int .i64 r1.Period), .p (.int .i64 r1.From), .p (.int .i64 r1.Long)]), (24, .p (.int .i64 0)), (33, .agg [.p (.int .i64 a2_), .p (.int .i64 (Int.tmod a2_ 100)), .p (.int .i64 (w64 (0 - (Int.tmod a2_ 1000))))]), (34, .p (.int .i64 0))], [(8, [.p (.int .i64 a0_.Period), .p (.int .i64 a0_.From), .p (.int .i64 a0_.Long)])], []⟩) (APath.fin (by kernel_rfl)) (by kernel_rfl) ?_
  refine vc_seq ?_
  obtain ⟨r2, hr2, h⟩ := bind_some h
  refine vc_reg (S := ⟨[(2, .p (.int .i64 a2_)), (8, .loc 8 0), (10, .p (.int .i64 a2_)), (11, .p (.bool r2.1)), (12, .p (.int .i64 r2.2)), (23, .agg [.p (.int .i64 a0_.Period), .p (.int .i64 a0_.From), .p (.int .i64 a0_.Long), .p (.int .i64 r1.Period), .p (.int .i64 r1.From), .p (.int .i64 r1.Long)]), (24, .p (.int .i64 0)), (33, .agg [.p (.int .i64 a2_), .p (.int .i64 (Int.tmod a2_ 100)), .p (.int .i64 (w64 (0 - (Int.tmod a2_ 1000))))]), (34, .p (.int .i64 0))], [(8, [.p (.int .i64 a0_.Period), .p (.int .i64 a0_.From), .p (.int .i64 a0_.Long)])], []⟩) (APath.chunk 2 (by kernel_rfl) (APath.one (.call (some 40) 11 [.t 38, .t 39]) (by kernel_rfl) (st_call (by kernel_rfl) (residue_Covers_ok N a0_ a2_ r2 hr2)) (APath.fin (by kernel_rfl)))) (by kernel_rfl) ?_
  refine vc_seq ?_
  obtain ⟨r3, hr3, h⟩ := bind_some h
  refine vc_reg (S := ⟨[(2, .p (.int .i64 a2_)), (8, .loc 8 0), (11, .p (.bool r2.1)), (12, .p (.int .i64 r2.2)), (13, .p (.bool r3.1)), (14, .p (.int .i64 r3.2)), (23, .agg [.p (.int .i64 a0_.Period), .p (.int .i64 a0_.From), .p (.int .i64 a0_.Long), .p (.int .i64 r1.Period), .p (.int .i64 r1.From), .p (.int .i64 r1.Long)]), (24, .p (.int .i64 0)), (33, .agg [.p (.int .i64 a2_), .p (.int .i64 (Int.tmod a2_ 100)), .p (.int .i64 (w64 (0 - (Int.tmod a2_ 1000))))]), (34, .p (.int .i64 0))], [(8, [.p (.int .i64 a0_.Period), .p (.int .i64 a0_.From), .p (.int .i64 a0_.Long)])], []⟩) (APath.chunk 2 (by kernel_rfl) (APath.one (.call (some 46) 12 [.t 44, .t 45]) (by kernel_rfl) (st_call (by kernel_rfl) (ref23_Covers_ok N a0_ a2_ r3 hr3)) (APath.fin (by kernel_rfl)))) (by kernel_rfl) ?_
  refine vc_seq ?_
  refine vc_regX ⟨[(2, .p (.int .i64 a2_)), (8, .loc 8 0), (23, .agg [.p (.int .i64 a0_.Period), .p (.int .i64 a0_.From), .p (.int .i64 a0_.Long), .p (.int .i64 r1.Period), .p (.int .i64 r1.From), .p (.int .i64 r1.Long)]), (24, .p (.int .i64 0)), (33, .agg [.p (.int .i64 a2_), .p (.int .i64 (Int.tmod a2_ 100)), .p (.int .i64 (w64 (0 - (Int.tmod a2_ 1000))))]), (34, .p (.int .i64 0)), (56, .p (.bool ((r2.1 != r3.1) || (r2.2 != r3.2))))], [(8, [.p (.int .i64 a0_.Period), .p (.int .i64 a0_.From), .p (.int .i64 a0_.Long)])], []⟩ ?_ ?_
  · rcases Bool.eq_false_or_eq_true (r2.1 != r3.1) with hc4 | hc5
    · exact ⟨_, (APath.chunk 2 (by kernel_rfl) (APath.one (.val 51 (.eqB true) [.t 49, .t 50]) (by kernel_rfl) (st_bool (c := (r2.1 != r3.1)) (by kernel_rfl) hc4) (APath.fin (by kernel_rfl)))), by simp only [hc4]; kernel_rfl⟩
    · exact ⟨_, (APath.chunk 2 (by kernel_rfl) (APath.one (.val 51 (.eqB true) [.t 49, .t 50]) (by kernel_rfl) (st_bool (c := (r2.1 != r3.1)) (by kernel_rfl) hc5) (APath.fin (by kernel_rfl)))), by simp only [hc5]; kernel_rfl⟩
  · refine vc_ite (by kernel_rfl) h (fun hc6 h => ?_) (fun hc6 h => ?_)
    · refine vc_seq ?_
      refine vc_reg (S := ⟨[(6, .p (.bool false))], [], []⟩) (APath.fin (by kernel_rfl)) (by kernel_rfl) ?_
      refine vc_ret ?_
      obtain rfl := some_inj h
      exact ret_of (by kernel_rfl)
    · refine vc_skip ?_
      refine vc_kp ?_
      refine vc_reg (S := ⟨[(2, .p (.int .i64 a2_)), (8, .loc 8 0), (23, .agg [.p (.int .i64 a0_.Period), .p (.int .i64 a0_.From), .p (.int .i64 a0_.Long), .p (.int .i64 r1.Period), .p (.int .i64 r1.From), .p (.int .i64 r1.Long)]), (24, .p (.int .i64 0)), (33, .agg [.p (.int .i64 a2_), .p (.int .i64 (Int.tmod a2_ 100)), .p (.int .i64 (w64 (0 - (Int.tmod a2_ 1000))))]), (34, .p (.int .i64 1))], [(8, [.p (.int .i64 a0_.Period), .p (.int .i64 a0_.From), .p (.int .i64 a0_.Long)])], []⟩) (APath.fin (by kernel_rfl)) (by kernel_rfl) ?_
      refine unr_step ?_
      refine vc_seq ?_
      refine vc_reg (S := ⟨[(2, .p (.int .i64 a2_)), (8, .loc 8 0), (23, .agg [.p (.int .i64 a0_.Period), .p (.int .i64 a0_.From), .p (.int .i64 a0_.Long), .p (.int .i64 r1.Period), .p (.int .i64 r1.From), .p (.int .i64 r1.Long)]), (24, .p (.int .i64 0)), (33, .agg [.p (.int .i64 a2_), .p (.int .i64 (Int.tmod a2_ 100)), .p (.int .i64 (w64 (0 - (Int.tmod a2_ 1000))))]), (34, .p (.int .i64 1)), (35, .p (.bool true))], [(8, [.p (.int .i64 a0_.Period), .p (.int .i64 a0_.From), .p (.int .i64 a0_.Long)])], []⟩) (APath.fin (by kernel_rfl)) (by kernel_rfl) ?_
      refine vc_seq ?_
      refine vc_true (by kernel_rfl) ?_
      refine vc_skip ?_
      refine vc_kp ?_
      refine vc_seq ?_
      refine vc_block ?_
      refine vc_seq ?_
      refine vc_reg (S := ⟨[(2, .p (.int .i64 a2_)), (8, .loc 8 0), (10, .p (.int .i64 (Int.tmod a2_ 100))), (23, .agg [.p (.int .i64 a0_.Period), .p (.int .i64 a0_.From), .p (.int .i64 a0_.Long), .p (.int .i64 r1.Period), .p (.int .i64 r1.From), .p (.int .i64 r1.Long)]), (24, .p (.int .i64 0)), (33, .agg [.p (.int .i64 a2_), .p (.int .i64 (Int.tmod a2_ 100)), .p (.int .i64 (w64 (0 - (Int.tmod a2_ 1000))))]), (34, .p (.int .i64 1))], [(8, [.p (.int .i64 a0_.Period), .p (.int .i64 a0_.From), .p (.int .i64 a0_.Long)])], []⟩) (APath.fin (by kernel_rfl)) (by kernel_rfl) ?_
      refine vc_seq ?_
      obtain ⟨r7, hr7, h⟩ := bind_some h
      refine vc_reg (S := ⟨[(2, .p (.int .i64 a2_)), (8, .loc 8 0), (10, .p (.int .i64 (Int.tmod a2_ 100))), (11, .p (.bool r7.1)), (12, .p (.int .i64 r7.2)), (23, .agg [.p (.int .i64 a0_.Period), .p (.int .i64 a0_.From), .p (.int .i64 a0_.Long), .p (.int .i64 r1.Period), .p (.int .i64 r1.From), .p (.int .i64 r1.Long)]), (24, .p (.int .i64 0)), (33, .agg [.p (.int .i64 a2_), .p (.int .i64 (Int.tmod a2_ 100)), .p (.int .i64 (w64 (0 - (Int.tmod a2_ 1000))))]), (34, .p (.int .i64 1))], [(8, [.p (.int .i64 a0_.Period), .p (.int .i64 a0_.From), .p (.int .i64 a0_.Long)])], []⟩) (APath.chunk 2 (by kernel_rfl) (APath.one (.call (some 40) 11 [.t 38, .t 39]) (by kernel_rfl) (st_call (by kernel_rfl) (residue_Covers_ok N a0_ (Int.tmod a2_ 100) r7 hr7)) (APath.fin (by kernel_rfl)))) (by kernel_rfl) ?_
      refine vc_seq ?_
      obtain ⟨r8, hr8, h⟩ := bind_some h
      refine vc_reg (S := ⟨[(2, .p (.int .i64 a2_)), (8, .loc 8 0), (11, .p (.bool r7.1)), (12, .p (.int .i64 r7.2)), (13, .p (.bool r8.1)), (14, .p (.int .i64 r8.2)), (23, .agg [.p (.int .i64 a0_.Period), .p (.int .i64 a0_.From), .p (.int .i64 a0_.Long), .p (.int .i64 r1.Period), .p (.int .i64 r1.From), .p (.int .i64 r1.Long)]), (24, .p (.int .i64 0)), (33, .agg [.p (.int .i64 a2_), .p (.int .i64 (Int.tmod a2_ 100)), .p (.int .i64 (w64 (0 - (Int.tmod a2_ 1000))))]), (34, .p (.int .i64 1))], [(8, [.p (.int .i64 a0_.Period), .p (.int .i64 a0_.From), .p (.int .i64 a0_.Long)])], []⟩) (APath.chunk 2 (by kernel_rfl) (APath.one (.call (some 46) 12 [.t 44, .t 45]) (by kernel_rfl) (st_call (by kernel_rfl) (ref23_Covers_ok N a0_ (Int.tmod a2_ 100) r8 hr8)) (APath.fin (by kernel_rfl)))) (by kernel_rfl) ?_
      refine vc_seq ?_
      refine vc_regX ⟨[(2, .p (.int .i64 a2_)), (8, .loc 8 0), (23, .agg [.p (.int .i64 a0_.Period), .p (.int .i64 a0_.From), .p (.int .i64 a0_.Long), .p (.int .i64 r1.Period), .p (.int .i64 r1.From), .p (.int .i64 r1.Long)]), (24, .p (.int .i64 0)), (33, .agg [.p (.int .i64 a2_), .p (.int .i64 (Int.tmod a2_ 100)), .p (.int .i64 (w64 (0 - (Int.tmod a2_ 1000))))]), (34, .p (.int .i64 1)), (56, .p (.bool ((r7.1 != r8.1) || (r7.2 != r8.2))))], [(8, [.p (.int .i64 a0_.Period), .p (.int .i64 a0_.From), .p (.int .i64 a0_.Long)])], []⟩ ?_ ?_
      · rcases Bool.eq_false_or_eq_true (r7.1 != r8.1) with hc9 | hc10
        · exact ⟨_, (APath.chunk 2 (by kernel_rfl) (APath.one (.val 51 (.eqB true) [.t 49, .t 50]) (by kernel_rfl) (st_bool (c := (r7.1 != r8.1)) (by kernel_rfl) hc9) (APath.fin (by kernel_rfl)))), by simp only [hc9]; kernel_rfl⟩
        · exact ⟨_, (APath.chunk 2 (by kernel_rfl) (APath.one (.val 51 (.eqB true) [.t 49, .t 50]) (by kernel_rfl) (st_bool (c := (r7.1 != r8.1)) (by kernel_rfl) hc10) (APath.fin (by kernel_rfl)))), by simp only [hc10]; kernel_rfl⟩
      · refine vc_ite (by kernel_rfl) h (fun hc11 h => ?_) (fun hc11 h => ?_)
        · refine vc_seq ?_
          refine vc_reg (S := ⟨[(6, .p (.bool false))], [], []⟩) (APath.fin (by kernel_rfl)) (by kernel_rfl) ?_
          refine vc_ret ?_
          obtain rfl := some_inj h
          exact ret_of (by kernel_rfl)
        · refine vc_skip ?_
          refine vc_kp ?_
          refine vc_reg (S := ⟨[(2, .p (.int .i64 a2_)), (8, .loc 8 0), (23, .agg [.p (.int .i64 a0_.Period), .p (.int .i64 a0_.From), .p (.int .i64 a0_.Long), .p (.int .i64 r1.Period), .p (.int .i64 r1.From), .p (.int .i64 r1.Long)]), (24, .p (.int .i64 0)), (33, .agg [.p (.int .i64 a2_), .p (.int .i64 (Int.tmod a2_ 100)), .p (.int .i64 (w64 (0 - (Int.tmod a2_ 1000))))]), (34, .p (.int .i64 2))], [(8, [.p (.int .i64 a0_.Period), .p (.int .i64 a0_.From), .p (.int .i64 a0_.Long)])], []⟩) (APath.fin (by kernel_rfl)) (by kernel_rfl) ?_
          refine unr_step ?_
          refine vc_seq ?_
          refine vc_reg (S := ⟨[(2, .p (.int .i64 a2_)), (8, .loc 8 0), (23, .agg [.p (.int .i64 a0_.Period), .p (.int .i64 a0_.From), .p (.int .i64 a0_.Long), .p (.int .i64 r1.Period), .p (.int .i64 r1.From), .p (.int .i64 r1.Long)]), (24, .p (.int .i64 0)), (33, .agg [.p (.int .i64 a2_), .p (.int .i64 (Int.tmod a2_ 100)), .p (.int .i64 (w64 (0 - (Int.tmod a2_ 1000))))]), (34, .p (.int .i64 2)), (35, .p (.bool true))], [(8, [.p (.int .i64 a0_.Period), .p (.int .i64 a0_.From), .p (.int .i64 a0_.Long)])], []⟩) (APath.fin (by kernel_rfl)) (by kernel_rfl) ?_
          refine vc_seq ?_
          refine vc_true (by kernel_rfl) ?_
          refine vc_skip ?_
          refine vc_kp ?_
          refine vc_seq ?_
          refine vc_block ?_
          refine vc_seq ?_
          refine vc_reg (S := ⟨[(2, .p (.int .i64 a2_)), (8, .loc 8 0), (10, .p (.int .i64 (w64 (0 - (Int.tmod a2_ 1000))))), (23, .agg [.p (.int .i64 a0_.Period), .p (.int .i64 a0_.From), .p (.int .i64 a0_.Long), .p (.int .i64 r1.Period), .p (.int .i64 r1.From), .p (.int .i64 r1.Long)]), (24, .p (.int .i64 0)), (33, .agg [.p (.int .i64 a2_), .p (.int .i64 (Int.tmod a2_ 100)), .p (.int .i64 (w64 (0 - (Int.tmod a2_ 1000))))]), (34, .p (.int .i64 2))], [(8, [.p (.int .i64 a0_.Period), .p (.int .i64 a0_.From), .p (.int .i64 a0_.Long)])], []⟩) (APath.fin (by kernel_rfl)) (by kernel_rfl) ?_
          refine vc_seq ?_
          obtain ⟨r12, hr12, h⟩ := bind_some h
          refine vc_reg (S := ⟨[(2, .p (.int .i64 a2_)), (8, .loc 8 0), (10, .p (.int .i64 (w64 (0 - (Int.tmod a2_ 1000))))), (11, .p (.bool r12.1)), (12, .p (.int .i64 r12.2)), (23, .agg [.p (.int .i64 a0_.Period), .p (.int .i64 a0_.From), .p (.int .i64 a0_.Long), .p (.int .i64 r1.Period), .p (.int .i64 r1.From), .p (.int .i64 r1.Long)]), (24, .p (.int .i64 0)), (33, .agg [.p (.int .i64 a2_), .p (.int .i64 (Int.tmod a2_ 100)), .p (.int .i64 (w64 (0 - (Int.tmod a2_ 1000))))]), (34, .p (.int .i64 2))], [(8, [.p (.int .i64 a0_.Period), .p (.int .i64 a0_.From), .p (.int .i64 a0_.Long)])], []⟩) (APath.chunk 2 (by kernel_rfl) (APath.one (.call (some 40) 11 [.t 38, .t 39]) (by kernel_rfl) (st_call (by kernel_rfl) (residue_Covers_ok N a0_ (w64 (0 - (Int.tmod a2_ 1000))) r12 hr12)) (APath.fin (by kernel_rfl)))) (by kernel_rfl) ?_
          refine vc_seq ?_
          obtain ⟨r13, hr13, h⟩ := bind_some h
          refine vc_reg (S := ⟨[(2, .p (.int .i64 a2_)), (8, .loc 8 0), (11, .p (.bool r12.1)), (12, .p (.int .i64 r12.2)), (13, .p (.bool r13.1)), (14, .p (.int .i64 r13.2)), (23, .agg [.p (.int .i64 a0_.Period), .p (.int .i64 a0_.From), .p (.int .i64 a0_.Long), .p (.int .i64 r1.Period), .p (.int .i64 r1.From), .p (.int .i64 r1.Long)]), (24, .p (.int .i64 0)), (33, .agg [.p (.int .i64 a2_), .p (.int .i64 (Int.tmod a2_ 100)), .p (.int .i64 (w64 (0 - (Int.tmod a2_ 1000))))]), (34, .p (.int .i64 2))], [(8, [.p (.int .i64 a0_.Period), .p (.int .i64 a0_.From), .p (.int .i64 a0_.Long)])], []⟩) (APath.chunk 2 (by kernel_rfl) (APath.one (.call (some 46) 12 [.t 44, .t 45]) (by kernel_rfl) (st_call (by kernel_rfl) (ref23_Covers_ok N a0_ (w64 (0 - (Int.tmod a2_ 1000))) r13 hr13)) (APath.fin (by kernel_rfl)))) (by kernel_rfl) ?_
          refine vc_seq ?_
          refine vc_regX ⟨[(2, .p (.int .i64 a2_)), (8, .loc 8 0), (23, .agg [.p (.int .i64 a0_.Period), .p (.int .i64 a0_.From), .p (.int .i64 a0_.Long), .p (.int .i64 r1.Period), .p (.int .i64 r1.From), .p (.int .i64 r1.Long)]), (24, .p (.int .i64 0)), (33, .agg [.p (.int .i64 a2_), .p (.int .i64 (Int.tmod a2_ 100)), .p (.int .i64 (w64 (0 - (Int.tmod a2_ 1000))))]), (34, .p (.int .i64 2)), (56, .p (.bool ((r12.1 != r13.1) || (r12.2 != r13.2))))], [(8, [.p (.int .i64 a0_.Period), .p (.int .i64 a0_.From), .p (.int .i64 a0_.Long)])], []⟩ ?_ ?_
          · rcases Bool.eq_false_or_eq_true (r12.1 != r13.1) with hc14 | hc15
            · exact ⟨_, (APath.chunk 2 (by kernel_rfl) (APath.one (.val 51 (.eqB true) [.t 49, .t 50]) (by kernel_rfl) (st_bool (c := (r12.1 != r13.1)) (by kernel_rfl) hc14) (APath.fin (by kernel_rfl)))), by simp only [hc14]; kernel_rfl⟩
            · exact ⟨_, (APath.chunk 2 (by kernel_rfl) (APath.one (.val 51 (.eqB true) [.t 49, .t 50]) (by kernel_rfl) (st_bool (c := (r12.1 != r13.1)) (by kernel_rfl) hc15) (APath.fin (by kernel_rfl)))), by simp only [hc15]; kernel_rfl⟩
          · refine vc_ite (by kernel_rfl) h (fun hc16 h => ?_) (fun hc16 h => ?_)
            · refine vc_seq ?_
              refine vc_reg (S := ⟨[(6, .p (.bool false))], [], []⟩) (APath.fin (by kernel_rfl)) (by kernel_rfl) ?_
              refine vc_ret ?_
              obtain rfl := some_inj h
              exact ret_of (by kernel_rfl)
            · refine vc_skip ?_
              refine vc_kp ?_
              refine vc_reg (S := ⟨[(2, .p (.int .i64 a2_)), (8, .loc 8 0), (23, .agg [.p (.int .i64 a0_.Period), .p (.int .i64 a0_.From), .p (.int .i64 a0_.Long), .p (.int .i64 r1.Period), .p (.int .i64 r1.From), .p (.int .i64 r1.Long)]), (24, .p (.int .i64 0)), (33, .agg [.p (.int .i64 a2_), .p (.int .i64 (Int.tmod a2_ 100)), .p (.int .i64 (w64 (0 - (Int.tmod a2_ 1000))))]), (34, .p (.int .i64 3))], [(8, [.p (.int .i64 a0_.Period), .p (.int .i64 a0_.From), .p (.int .i64 a0_.Long)])], []⟩) (APath.fin (by kernel_rfl)) (by kernel_rfl) ?_
              refine unr_step ?_
              refine vc_seq ?_
              refine vc_reg (S := ⟨[(2, .p (.int .i64 a2_)), (8, .loc 8 0), (23, .agg [.p (.int .i64 a0_.Period), .p (.int .i64 a0_.From), .p (.int .i64 a0_.Long), .p (.int .i64 r1.Period), .p (.int .i64 r1.From), .p (.int .i64 r1.Long)]), (24, .p (.int .i64 0)), (33, .agg [.p (.int .i64 a2_), .p (.int .i64 (Int.tmod a2_ 100)), .p (.int .i64 (w64 (0 - (Int.tmod a2_ 1000))))]), (34, .p (.int .i64 3)), (35, .p (.bool false))], [(8, [.p (.int .i64 a0_.Period), .p (.int .i64 a0_.From), .p (.int .i64 a0_.Long)])], []⟩) (APath.fin (by kernel_rfl)) (by kernel_rfl) ?_
              refine vc_seq ?_
              refine vc_false (by kernel_rfl) ?_
              refine vc_exit ?_
              try show vc _ _ _ _ _
              refine vc_seq ?_
              obtain ⟨r17, hr17, h⟩ := bind_some h
              obtain ⟨r18, hr18, h⟩ := bind_some h
              refine vc_regD (S := ⟨[(2, .p (.int .i64 a2_)), (23, .agg [.p (.int .i64 a0_.Period), .p (.int .i64 a0_.From), .p (.int .i64 a0_.Long), .p (.int .i64 r1.Period), .p (.int .i64 r1.From), .p (.int .i64 r1.Long)]), (24, .p (.int .i64 0)), (62, .p (.bool (r17 != r18)))], [], []⟩) (by kernel_rfl) (APath.chunk 1 (by kernel_rfl) (APath.one (.callP 59 13 [.t 58]) (by kernel_rfl) (st_callP (by kernel_rfl) (residue_Check_ok N a0_ r17 hr17)) (APath.chunk 1 (by kernel_rfl) (APath.one (.callP 61 14 [.t 60]) (by kernel_rfl) (st_callP (by kernel_rfl) (ref23_Check_ok N a0_ r18 hr18)) (APath.fin (by kernel_rfl)))))) (by kernel_rfl) ?_
              refine vc_ite (by kernel_rfl) h (fun hc19 h => ?_) (fun hc19 h => ?_)
              · refine vc_seq ?_
                refine vc_reg (S := ⟨[(6, .p (.bool false))], [], []⟩) (APath.fin (by kernel_rfl)) (by kernel_rfl) ?_
                refine vc_ret ?_
                obtain rfl := some_inj h
                exact ret_of (by kernel_rfl)
              · refine vc_skip ?_
                refine vc_kp ?_
                refine vc_reg (S := ⟨[(2, .p (.int .i64 a2_)), (23, .agg [.p (.int .i64 a0_.Period), .p (.int .i64 a0_.From), .p (.int .i64 a0_.Long), .p (.int .i64 r1.Period), .p (.int .i64 r1.From), .p (.int .i64 r1.Long)]), (24, .p (.int .i64 1))], [], []⟩) (APath.fin (by kernel_rfl)) (by kernel_rfl) ?_
                refine unr_step ?_
                refine vc_seq ?_
                refine vc_reg (S := ⟨[(2, .p (.int .i64 a2_)), (23, .agg [.p (.int .i64 a0_.Period), .p (.int .i64 a0_.From), .p (.int .i64 a0_.Long), .p (.int .i64 r1.Period), .p (.int .i64 r1.From), .p (.int .i64 r1.Long)]), (24, .p (.int .i64 1)), (25, .p (.bool true))], [], []⟩) (APath.fin (by kernel_rfl)) (by kernel_rfl) ?_
                refine vc_seq ?_
                refine vc_true (by kernel_rfl) ?_
                refine vc_skip ?_
                refine vc_kp ?_
                refine vc_seq ?_
                refine vc_block ?_
                refine vc_seq ?_
                refine vc_reg (S := ⟨[(2, .p (.int .i64 a2_)), (8, .loc 8 0), (23, .agg [.p (.int .i64 a0_.Period), .p (.int .i64 a0_.From), .p (.int .i64 a0_.Long), .p (.int .i64 r1.Period), .p (.int .i64 r1.From), .p (.int .i64 r1.Long)]), (24, .p (.int .i64 1))], [(8, [.p (.int .i64 r1.Period), .p (.int .i64 r1.From), .p (.int .i64 r1.Long)])], []⟩) (APath.fin (by kernel_rfl)) (by kernel_rfl) ?_
                refine vc_seq ?_
                refine vc_seq ?_
                refine vc_reg (S := ⟨[(2, .p (.int .i64 a2_)), (8, .loc 8 0), (23, .agg [.p (.int .i64 a0_.Period), .p (.int .i64 a0_.From), .p (.int .i64 a0_.Long), .p (.int .i64 r1.Period), .p (.int .i64 r1.From), .p (.int .i64 r1.Long)]), (24, .p (.int .i64 1)), (33, .agg [.p (.int .i64 a2_), .p (.int .i64 (Int.tmod a2_ 100)), .p (.int .i64 (w64 (0 - (Int.tmod a2_ 1000))))]), (34, .p (.int .i64 0))], [(8, [.p (.int .i64 r1.Period), .p (.int .i64 r1.From), .p (.int .i64 r1.Long)])], []⟩) (APath.fin (by kernel_rfl)) (by kernel_rfl) ?_
                refine vc_block ?_
                refine vc_unroll 14 ?_
                refine unr_step ?_
                refine vc_seq ?_
                refine vc_reg (S := ⟨[(2, .p (.int .i64 a2_)), (8, .loc 8 0), (23, .agg [.p (.int .i64 a0_.Period), .p (.int .i64 a0_.From), .p (.int .i64 a0_.Long), .p (.int .i64 r1.Period), .p (.int .i64 r1.From), .p (.int .i64 r1.Long)]), (24, .p (.int .i64 1)), (33, .agg [.p (.int .i64 a2_), .p (.int .i64 (Int.tmod a2_ 100)), .p (.int .i64 (w64 (0 - (Int.tmod a2_ 1000))))]), (34, .p (.int .i64 0)), (35, .p (.bool true))], [(8, [.p (.int .i64 r1.Period), .p (.int .i64 r1.From), .p (.int .i64 r1.Long)])], []⟩) (APath.fin (by kernel_rfl)) (by kernel_rfl) ?_
                refine vc_seq ?_
                refine vc_true (by kernel_rfl) ?_
                refine vc_skip ?_
                refine vc_kp ?_
                refine vc_seq ?_
                refine vc_block ?_
                refine vc_seq ?_
                refine vc_reg (S := ⟨[(2, .p (.int .i64 a2_)), (8, .loc 8 0), (10, .p (.int .i64 a2_)), (23, .agg [.p (.int .i64 a0_.Period), .p (.int .i64 a0_.From), .p (.int .i64 a0_.Long), .p (.int .i64 r1.Period), .p (.int .i64 r1.From), .p (.int .i64 r1.Long)]), (24, .p (.int .i64 1)), (33, .agg [.p (.int .i64 a2_), .p (.int .i64 (Int.tmod a2_ 100)), .p (.int .i64 (w64 (0 - (Int.tmod a2_ 1000))))]), (34, .p (.int .i64 0))], [(8, [.p (.int .i64 r1.Period), .p (.int .i64 r1.From), .p (.int .i64 r1.Long)])], []⟩) (APath.fin (by kernel_rfl)) (by kernel_rfl) ?_
                refine vc_seq ?_
                obtain ⟨r20, hr20, h⟩ := bind_some h
                refine vc_reg (S := ⟨[(2, .p (.int .i64 a2_)), (8, .loc 8 0), (10, .p (.int .i64 a2_)), (11, .p (.bool r20.1)), (12, .p (.int .i64 r20.2)), (23, .agg [.p (.int .i64 a0_.Period), .p (.int .i64 a0_.From), .p (.int .i64 a0_.Long), .p (.int .i64 r1.Period), .p (.int .i64 r1.From), .p (.int .i64 r1.Long)]), (24, .p (.int .i64 1)), (33, .agg [.p (.int .i64 a2_), .p (.int .i64 (Int.tmod a2_ 100)), .p (.int .i64 (w64 (0 - (Int.tmod a2_ 1000))))]), (34, .p (.int .i64 0))], [(8, [.p (.int .i64 r1.Period), .p (.int .i64 r1.From), .p (.int .i64 r1.Long)])], []⟩) (APath.chunk 2 (by kernel_rfl) (APath.one (.call (some 40) 11 [.t 38, .t 39]) (by kernel_rfl) (st_call (by kernel_rfl) (residue_Covers_ok N r1 a2_ r20 hr20)) (APath.fin (by kernel_rfl)))) (by kernel_rfl) ?_
                refine vc_seq ?_
                obtain ⟨r21, hr21, h⟩ := bind_some h
                refine vc_reg (S := ⟨[(2, .p (.int .i64 a2_)), (8, .loc 8 0), (11, .p (.bool r20.1)), (12, .p (.int .i64 r20.2)), (13, .p (.bool r21.1)), (14, .p (.int .i64 r21.2)), (23, .agg [.p (.int .i64 a0_.Period), .p (.int .i64 a0_.From), .p (.int .i64 a0_.Long), .p (.int .i64 r1.Period), .p (.int .i64 r1.From), .p (.int .i64 r1.Long)]), (24, .p (.int .i64 1)), (33, .agg [.p (.int .i64 a2_), .p (.int .i64 (Int.tmod a2_ 100)), .p (.int .i64 (w64 (0 - (Int.tmod a2_ 1000))))]), (34, .p (.int .i64 0))], [(8, [.p (.int .i64 r1.Period), .p (.int .i64 r1.From), .p (.int .i64 r1.Long)])], []⟩) (APath.chunk 2 (by kernel_rfl) (APath.one (.call (some 46) 12 [.t 44, .t 45]) (by kernel_rfl) (st_call (by kernel_rfl) (ref23_Covers_ok N r1 a2_ r21 hr21)) (APath.fin (by kernel_rfl)))) (by kernel_rfl) ?_
                refine vc_seq ?_
                refine vc_regX ⟨[(2, .p (.int .i64 a2_)), (8, .loc 8 0), (23, .agg [.p (.int .i64 a0_.Period), .p (.int .i64 a0_.From), .p (.int .i64 a0_.Long), .p (.int .i64 r1.Period), .p (.int .i64 r1.From), .p (.int .i64 r1.Long)]), (24, .p (.int .i64 1)), (33, .agg [.p (.int .i64 a2_), .p (.int .i64 (Int.tmod a2_ 100)), .p (.int .i64 (w64 (0 - (Int.tmod a2_ 1000))))]), (34, .p (.int .i64 0)), (56, .p (.bool ((r20.1 != r21.1) || (r20.2 != r21.2))))], [(8, [.p (.int .i64 r1.Period), .p (.int .i64 r1.From), .p (.int .i64 r1.Long)])], []⟩ ?_ ?_
                · rcases Bool.eq_false_or_eq_true (r20.1 != r21.1) with hc22 | hc23
                  · exact ⟨_, (APath.chunk 2 (by kernel_rfl) (APath.one (.val 51 (.eqB true) [.t 49, .t 50]) (by kernel_rfl) (st_bool (c := (r20.1 != r21.1)) (by kernel_rfl) hc22) (APath.fin (by kernel_rfl)))), by simp only [hc22]; kernel_rfl⟩
                  · exact ⟨_, (APath.chunk 2 (by kernel_rfl) (APath.one (.val 51 (.eqB true) [.t 49, .t 50]) (by kernel_rfl) (st_bool (c := (r20.1 != r21.1)) (by kernel_rfl) hc23) (APath.fin (by kernel_rfl)))), by simp only [hc23]; kernel_rfl⟩
                · refine vc_ite (by kernel_rfl) h (fun hc24 h => ?_) (fun hc24 h => ?_)
                  · refine vc_seq ?_
                    refine vc_reg (S := ⟨[(6, .p (.bool false))], [], []⟩) (APath.fin (by kernel_rfl)) (by kernel_rfl) ?_
                    refine vc_ret ?_
                    obtain rfl := some_inj h
                    exact ret_of (by kernel_rfl)
                  · refine vc_skip ?_
                    refine vc_kp ?_
                    refine vc_reg (S := ⟨[(2, .p (.int .i64 a2_)), (8, .loc 8 0), (23, .agg [.p (.int .i64 a0_.Period), .p (.int .i64 a0_.From), .p (.int .i64 a0_.Long), .p (.int .i64 r1.Period), .p (.int .i64 r1.From), .p (.int .i64 r1.Long)]), (24, .p (.int .i64 1)), (33, .agg [.p (.int .i64 a2_), .p (.int .i64 (Int.tmod a2_ 100)), .p (.int .i64 (w64 (0 - (Int.tmod a2_ 1000))))]), (34, .p (.int .i64 1))], [(8, [.p (.int .i64 r1.Period), .p (.int .i64 r1.From), .p (.int .i64 r1.Long)])], []⟩) (APath.fin (by kernel_rfl)) (by kernel_rfl) ?_
                    refine unr_step ?_
                    refine vc_seq ?_
                    refine vc_reg (S := ⟨[(2, .p (.int .i64 a2_)), (8, .loc 8 0), (23, .agg [.p (.int .i64 a0_.Period), .p (.int .i64 a0_.From), .p (.int .i64 a0_.Long), .p (.int .i64 r1.Period), .p (.int .i64 r1.From), .p (.int .i64 r1.Long)]), (24, .p (.int .i64 1)), (33, .agg [.p (.int .i64 a2_), .p (.int .i64 (Int.tmod a2_ 100)), .p (.int .i64 (w64 (0 - (Int.tmod a2_ 1000))))]), (34, .p (.int .i64 1)), (35, .p (.bool true))], [(8, [.p (.int .i64 r1.Period), .p (.int .i64 r1.From), .p (.int .i64 r1.Long)])], []⟩) (APath.fin (by kernel_rfl)) (by kernel_rfl) ?_
                    refine vc_seq ?_
                    refine vc_true (by kernel_rfl) ?_
                    refine vc_skip ?_
                    refine vc_kp ?_
                    refine vc_seq ?_
                    refine vc_block ?_
                    refine vc_seq ?_
                    refine vc_reg (S := ⟨[(2, .p (.int .i64 a2_)), (8, .loc 8 0), (10, .p (.int .i64 (Int.tmod a2_ 100))), (23, .agg [.p (.int .i64 a0_.Period), .p (.int .i64 a0_.From), .p (.int .i64 a0_.Long), .p (.int .i64 r1.Period), .p (.int .i64 r1.From), .p (.int .i64 r1.Long)]), (24, .p (.int .i64 1)), (33, .agg [.p (.int .i64 a2_), .p (.int .i64 (Int.tmod a2_ 100)), .p (.int .i64 (w64 (0 - (Int.tmod a2_ 1000))))]), (34, .p (.int .i64 1))], [(8, [.p (.int .i64 r1.Period), .p (.int .i64 r1.From), .p (.int .i64 r1.Long)])], []⟩) (APath.fin (by kernel_rfl)) (by kernel_rfl) ?_
                    refine vc_seq ?_
                    obtain ⟨r25, hr25, h⟩ := bind_some h
                    refine vc_reg (S := ⟨[(2, .p (.int .i64 a2_)), (8, .loc 8 0), (10, .p (.int .i64 (Int.tmod a2_ 100))), (11, .p (.bool r25.1)), (12, .p (.int .i64 r25.2)), (23, .agg [.p (.int .i64 a0_.Period), .p (.int .i64 a0_.From), .p (.int .i64 a0_.Long), .p (.int .i64 r1.Period), .p (.int .i64 r1.From), .p (.int .i64 r1.Long)]), (24, .p (.int .i64 1)), (33, .agg [.p (.int .i64 a2_), .p (.int .i64 (Int.tmod a2_ 100)), .p (.int .i64 (w64 (0 - (Int.tmod a2_ 1000))))]), (34, .p (.int .i64 1))], [(8, [.p (.int .i64 r1.Period), .p (.int .i64 r1.From), .p (.int .i64 r1.Long)])], []⟩) (APath.chunk 2 (by kernel_rfl) (APath.one (.call (some 40) 11 [.t 38, .t 39]) (by kernel_rfl) (st_call (by kernel_rfl) (residue_Covers_ok N r1 (Int.tmod a2_ 100) r25 hr25)) (APath.fin (by kernel_rfl)))) (by kernel_rfl) ?_
                    refine vc_seq ?_
                    obtain ⟨r26, hr26, h⟩ := bind_some h
                    refine vc_reg (S := ⟨[(2, .p (.int .i64 a2_)), (8, .loc 8 0), (11, .p (.bool r25.1)), (12, .p (.int .i64 r25.2)), (13, .p (.bool r26.1)), (14, .p (.int .i64 r26.2)), (23, .agg [.p (.int .i64 a0_.Period), .p (.int .i64 a0_.From), .p (.int .i64 a0_.Long), .p (.int .i64 r1.Period), .p (.int .i64 r1.From), .p (.int .i64 r1.Long)]), (24, .p (.int .i64 1)), (33, .agg [.p (.int .i64 a2_), .p (.int .i64 (Int.tmod a2_ 100)), .p (.int .i64 (w64 (0 - (Int.tmod a2_ 1000))))]), (34, .p (.int .i64 1))], [(8, [.p (.int .i64 r1.Period), .p (.int .i64 r1.From), .p (.int .i64 r1.Long)])], []⟩) (APath.chunk 2 (by kernel_rfl) (APath.one (.call (some 46) 12 [.t 44, .t 45]) (by kernel_rfl) (st_call (by kernel_rfl) (ref23_Covers_ok N r1 (Int.tmod a2_ 100) r26 hr26)) (APath.fin (by kernel_rfl)))) (by kernel_rfl) ?_
                    refine vc_seq ?_
                    refine vc_regX ⟨[(2, .p (.int .i64 a2_)), (8, .loc 8 0), (23, .agg [.p (.int .i64 a0_.Period), .p (.int .i64 a0_.From), .p (.int .i64 a0_.Long), .p (.int .i64 r1.Period), .p (.int .i64 r1.From), .p (.int .i64 r1.Long)]), (24, .p (.int .i64 1)), (33, .agg [.p (.int .i64 a2_), .p (.int .i64 (Int.tmod a2_ 100)), .p (.int .i64 (w64 (0 - (Int.tmod a2_ 1000))))]), (34, .p (.int .i64 1)), (56, .p (.bool ((r25.1 != r26.1) || (r25.2 != r26.2))))], [(8, [.p (.int .i64 r1.Period), .p (.int .i64 r1.From), .p (.int .i64 r1.Long)])], []⟩ ?_ ?_
                    · rcases Bool.eq_false_or_eq_true (r25.1 != r26.1) with hc27 | hc28
                      · exact ⟨_, (APath.chunk 2 (by kernel_rfl) (APath.one (.val 51 (.eqB true) [.t 49, .t 50]) (by kernel_rfl) (st_bool (c := (r25.1 != r26.1)) (by kernel_rfl) hc27) (APath.fin (by kernel_rfl)))), by simp only [hc27]; kernel_rfl⟩
                      · exact ⟨_, (APath.chunk 2 (by kernel_rfl) (APath.one (.val 51 (.eqB true) [.t 49, .t 50]) (by kernel_rfl) (st_bool (c := (r25.1 != r26.1)) (by kernel_rfl) hc28) (APath.fin (by kernel_rfl)))), by simp only [hc28]; kernel_rfl⟩
                    · refine vc_ite (by kernel_rfl) h (fun hc29 h => ?_) (fun hc29 h => ?_)
                      · refine vc_seq ?_
                        refine vc_reg (S := ⟨[(6, .p (.bool false))], [], []⟩) (APath.fin (by kernel_rfl)) (by kernel_rfl) ?_
                        refine vc_ret ?_
                        obtain rfl := some_inj h
                        exact ret_of (by kernel_rfl)
                      · refine vc_skip ?_
                        refine vc_kp ?_
                        refine vc_reg (S := ⟨[(2, .p (.int .i64 a2_)), (8, .loc 8 0), (23, .agg [.p (.int .i64 a0_.Period), .p (.int .i64 a0_.From), .p (.int .i64 a0_.Long), .p (.int .i64 r1.Period), .p (.int .i64 r1.From), .p (.int .i64 r1.Long)]), (24, .p (.int .i64 1)), (33, .agg [.p (.int .i64 a2_), .p (.int .i64 (Int.tmod a2_ 100)), .p (.int .i64 (w64 (0 - (Int.tmod a2_ 1000))))]), (34, .p (.int .i64 2))], [(8, [.p (.int .i64 r1.Period), .p (.int .i64 r1.From), .p (.int .i64 r1.Long)])], []⟩) (APath.fin (by kernel_rfl)) (by kernel_rfl) ?_
                        refine unr_step ?_
                        refine vc_seq ?_
                        refine vc_reg (S := ⟨[(2, .p (.int .i64 a2_)), (8, .loc 8 0), (23, .agg [.p (.int .i64 a0_.Period), .p (.int .i64 a0_.From), .p (.int .i64 a0_.Long), .p (.int .i64 r1.Period), .p (.int .i64 r1.From), .p (.int .i64 r1.Long)]), (24, .p (.int .i64 1)), (33, .agg [.p (.int .i64 a2_), .p (.int .i64 (Int.tmod a2_ 100)), .p (.int .i64 (w64 (0 - (Int.tmod a2_ 1000))))]), (34, .p (.int .i64 2)), (35, .p (.bool true))], [(8, [.p (.int .i64 r1.Period), .p (.int .i64 r1.From), .p (.int .i64 r1.Long)])], []⟩) (APath.fin (by kernel_rfl)) (by kernel_rfl) ?_
                        refine vc_seq ?_
                        refine vc_true (by kernel_rfl) ?_
                        refine vc_skip ?_
                        refine vc_kp ?_
                        refine vc_seq ?_
                        refine vc_block ?_
                        refine vc_seq ?_
                        refine vc_reg (S := ⟨[(2, .p (.int .i64 a2_)), (8, .loc 8 0), (10, .p (.int .i64 (w64 (0 - (Int.tmod a2_ 1000))))), (23, .agg [.p (.int .i64 a0_.Period), .p (.int .i64 a0_.From), .p (.int .i64 a0_.Long), .p (.int .i64 r1.Period), .p (.int .i64 r1.From), .p (.int .i64 r1.Long)]), (24, .p (.int .i64 1)), (33, .agg [.p (.int .i64 a2_), .p (.int .i64 (Int.tmod a2_ 100)), .p (.int .i64 (w64 (0 - (Int.tmod a2_ 1000))))]), (34, .p (.int .i64 2))], [(8, [.p (.int .i64 r1.Period), .p (.int .i64 r1.From), .p (.int .i64 r1.Long)])], []⟩) (APath.fin (by kernel_rfl)) (by kernel_rfl) ?_
                        refine vc_seq ?_
                        obtain ⟨r30, hr30, h⟩ := bind_some h
                        refine vc_reg (S := ⟨[(2, .p (.int .i64 a2_)), (8, .loc 8 0), (10, .p (.int .i64 (w64 (0 - (Int.tmod a2_ 1000))))), (11, .p (.bool r30.1)), (12, .p (.int .i64 r30.2)), (23, .agg [.p (.int .i64 a0_.Period), .p (.int .i64 a0_.From), .p (.int .i64 a0_.Long), .p (.int .i64 r1.Period), .p (.int .i64 r1.From), .p (.int .i64 r1.Long)]), (24, .p (.int .i64 1)), (33, .agg [.p (.int .i64 a2_), .p (.int .i64 (Int.tmod a2_ 100)), .p (.int .i64 (w64 (0 - (Int.tmod a2_ 1000))))]), (34, .p (.int .i64 2))], [(8, [.p (.int .i64 r1.Period), .p (.int .i64 r1.From), .p (.int .i64 r1.Long)])], []⟩) (APath.chunk 2 (by kernel_rfl) (APath.one (.call (some 40) 11 [.t 38, .t 39]) (by kernel_rfl) (st_call (by kernel_rfl) (residue_Covers_ok N r1 (w64 (0 - (Int.tmod a2_ 1000))) r30 hr30)) (APath.fin (by kernel_rfl)))) (by kernel_rfl) ?_
                        refine vc_seq ?_
                        obtain ⟨r31, hr31, h⟩ := bind_some h
                        refine vc_reg (S := ⟨[(2, .p (.int .i64 a2_)), (8, .loc 8 0), (11, .p (.bool r30.1)), (12, .p (.int .i64 r30.2)), (13, .p (.bool r31.1)), (14, .p (.int .i64 r31.2)), (23, .agg [.p (.int .i64 a0_.Period), .p (.int .i64 a0_.From), .p (.int .i64 a0_.Long), .p (.int .i64 r1.Period), .p (.int .i64 r1.From), .p (.int .i64 r1.Long)]), (24, .p (.int .i64 1)), (33, .agg [.p (.int .i64 a2_), .p (.int .i64 (Int.tmod a2_ 100)), .p (.int .i64 (w64 (0 - (Int.tmod a2_ 1000))))]), (34, .p (.int .i64 2))], [(8, [.p (.int .i64 r1.Period), .p (.int .i64 r1.From), .p (.int .i64 r1.Long)])], []⟩) (APath.chunk 2 (by kernel_rfl) (APath.one (.call (some 46) 12 [.t 44, .t 45]) (by kernel_rfl) (st_call (by kernel_rfl) (ref23_Covers_ok N r1 (w64 (0 - (Int.tmod a2_ 1000))) r31 hr31)) (APath.fin (by kernel_rfl)))) (by kernel_rfl) ?_
                        refine vc_seq ?_
                        refine vc_regX ⟨[(2, .p (.int .i64 a2_)), (8, .loc 8 0), (23, .agg [.p (.int .i64 a0_.Period), .p (.int .i64 a0_.From), .p (.int .i64 a0_.Long), .p (.int .i64 r1.Period), .p (.int .i64 r1.From), .p (.int .i64 r1.Long)]), (24, .p (.int .i64 1)), (33, .agg [.p (.int .i64 a2_), .p (.int .i64 (Int.tmod a2_ 100)), .p (.int .i64 (w64 (0 - (Int.tmod a2_ 1000))))]), (34, .p (.int .i64 2)), (56, .p (.bool ((r30.1 != r31.1) || (r30.2 != r31.2))))], [(8, [.p (.int .i64 r1.Period), .p (.int .i64 r1.From), .p (.int .i64 r1.Long)])], []⟩ ?_ ?_
                        · rcases Bool.eq_false_or_eq_true (r30.1 != r31.1) with hc32 | hc33
                          · exact ⟨_, (APath.chunk 2 (by kernel_rfl) (APath.one (.val 51 (.eqB true) [.t 49, .t 50]) (by kernel_rfl) (st_bool (c := (r30.1 != r31.1)) (by kernel_rfl) hc32) (APath.fin (by kernel_rfl)))), by simp only [hc32]; kernel_rfl⟩
                          · exact ⟨_, (APath.chunk 2 (by kernel_rfl) (APath.one (.val 51 (.eqB true) [.t 49, .t 50]) (by kernel_rfl) (st_bool (c := (r30.1 != r31.1)) (by kernel_rfl) hc33) (APath.fin (by kernel_rfl)))), by simp only [hc33]; kernel_rfl⟩
                        · refine vc_ite (by kernel_rfl) h (fun hc34 h => ?_) (fun hc34 h => ?_)
                          · refine vc_seq ?_
                            refine vc_reg (S := ⟨[(6, .p (.bool false))], [], []⟩) (APath.fin (by kernel_rfl)) (by kernel_rfl) ?_
                            refine vc_ret ?_
                            obtain rfl := some_inj h
                            exact ret_of (by kernel_rfl)
                          · refine vc_skip ?_
                            refine vc_kp ?_
                            refine vc_reg (S := ⟨[(2, .p (.int .i64 a2_)), (8, .loc 8 0), (23, .agg [.p (.int .i64 a0_.Period), .p (.int .i64 a0_.From), .p (.int .i64 a0_.Long), .p (.int .i64 r1.Period), .p (.int .i64 r1.From), .p (.int .i64 r1.Long)]), (24, .p (.int .i64 1)), (33, .agg [.p (.int .i64 a2_), .p (.int .i64 (Int.tmod a2_ 100)), .p (.int .i64 (w64 (0 - (Int.tmod a2_ 1000))))]), (34, .p (.int .i64 3))], [(8, [.p (.int .i64 r1.Period), .p (.int .i64 r1.From), .p (.int .i64 r1.Long)])], []⟩) (APath.fin (by kernel_rfl)) (by kernel_rfl) ?_
                            refine unr_step ?_
                            refine vc_seq ?_
                            refine vc_reg (S := ⟨[(2, .p (.int .i64 a2_)), (8, .loc 8 0), (23, .agg [.p (.int .i64 a0_.Period), .p (.int .i64 a0_.From), .p (.int .i64 a0_.Long), .p (.int .i64 r1.Period), .p (.int .i64 r1.From), .p (.int .i64 r1.Long)]), (24, .p (.int .i64 1)), (33, .agg [.p (.int .i64 a2_), .p (.int .i64 (Int.tmod a2_ 100)), .p (.int .i64 (w64 (0 - (Int.tmod a2_ 1000))))]), (34, .p (.int .i64 3)), (35, .p (.bool false))], [(8, [.p (.int .i64 r1.Period), .p (.int .i64 r1.From), .p (.int .i64 r1.Long)])], []⟩) (APath.fin (by kernel_rfl)) (by kernel_rfl) ?_
                            refine vc_seq ?_
                            refine vc_false (by kernel_rfl) ?_
                            refine vc_exit ?_
                            try show vc _ _ _ _ _
                            refine vc_seq ?_
                            obtain ⟨r35, hr35, h⟩ := bind_some h
                            obtain ⟨r36, hr36, h⟩ := bind_some h
                            refine vc_regD (S := ⟨[(2, .p (.int .i64 a2_)), (23, .agg [.p (.int .i64 a0_.Period), .p (.int .i64 a0_.From), .p (.int .i64 a0_.Long), .p (.int .i64 r1.Period), .p (.int .i64 r1.From), .p (.int .i64 r1.Long)]), (24, .p (.int .i64 1)), (62, .p (.bool (r35 != r36)))], [], []⟩) (by kernel_rfl) (APath.chunk 1 (by kernel_rfl) (APath.one (.callP 59 13 [.t 58]) (by kernel_rfl) (st_callP (by kernel_rfl) (residue_Check_ok N r1 r35 hr35)) (APath.chunk 1 (by kernel_rfl) (APath.one (.callP 61 14 [.t 60]) (by kernel_rfl) (st_callP (by kernel_rfl) (ref23_Check_ok N r1 r36 hr36)) (APath.fin (by kernel_rfl)))))) (by kernel_rfl) ?_
                            refine vc_ite (by kernel_rfl) h (fun hc37 h => ?_) (fun hc37 h => ?_)
                            · refine vc_seq ?_
                              refine vc_reg (S := ⟨[(6, .p (.bool false))], [], []⟩) (APath.fin (by kernel_rfl)) (by kernel_rfl) ?_
                              refine vc_ret ?_
                              obtain rfl := some_inj h
                              exact ret_of (by kernel_rfl)
                            · refine vc_skip ?_
                              refine vc_kp ?_
                              refine vc_reg (S := ⟨[(2, .p (.int .i64 a2_)), (23, .agg [.p (.int .i64 a0_.Period), .p (.int .i64 a0_.From), .p (.int .i64 a0_.Long), .p (.int .i64 r1.Period), .p (.int .i64 r1.From), .p (.int .i64 r1.Long)]), (24, .p (.int .i64 2))], [], []⟩) (APath.fin (by kernel_rfl)) (by kernel_rfl) ?_
                              refine unr_step ?_
                              refine vc_seq ?_
                              refine vc_reg (S := ⟨[(2, .p (.int .i64 a2_)), (23, .agg [.p (.int .i64 a0_.Period), .p (.int .i64 a0_.From), .p (.int .i64 a0_.Long), .p (.int .i64 r1.Period), .p (.int .i64 r1.From), .p (.int .i64 r1.Long)]), (24, .p (.int .i64 2)), (25, .p (.bool false))], [], []⟩) (APath.fin (by kernel_rfl)) (by kernel_rfl) ?_
                              refine vc_seq ?_
                              refine vc_false (by kernel_rfl) ?_
                              refine vc_exit ?_
                              try show vc _ _ _ _ _
                              refine vc_seq ?_
                              obtain ⟨r38, hr38, h⟩ := bind_some h
                              refine vc_reg (S := ⟨[(6, .p (.bool r38))], [], []⟩) (APath.one (.call (some 64) 15 []) (by kernel_rfl) (st_call (by kernel_rfl) (law23_works_ok N  r38 hr38)) (APath.fin (by kernel_rfl))) (by kernel_rfl) ?_
                              refine vc_ret ?_
                              obtain rfl := some_inj h
                              exact ret_of (by kernel_rfl)
end Go.Sh
