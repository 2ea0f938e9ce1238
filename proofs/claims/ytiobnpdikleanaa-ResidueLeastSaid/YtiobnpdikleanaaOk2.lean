/- The Go functions compute them; written by sym.py. -/
import Derived.Test.YtiobnpdikleanaaOk1
namespace Go.Sh
open Go Go.Eng Go.Proofs
set_option linter.unusedVariables false
set_option linter.unusedSimpArgs false
set_option maxRecDepth 100000
/- isochronlaw23.ResidueAparts -/
theorem law23_ResidueAparts_ok (N : Nat) (a0_ : api_Span) (a1_ : api_Span) (a2_ : Arr6_u8) (r : Bool) (h : law23_ResidueAparts N a0_ a1_ a2_ = some r) : PCall Try.prog 4 [.agg [.p (.int .i64 a0_.Period), .p (.int .i64 a0_.From), .p (.int .i64 a0_.Long)], .agg [.p (.int .i64 a1_.Period), .p (.int .i64 a1_.From), .p (.int .i64 a1_.Long)], .agg [.p (.int .u8 a2_.x0), .p (.int .u8 a2_.x1), .p (.int .u8 a2_.x2), .p (.int .u8 a2_.x3), .p (.int .u8 a2_.x4), .p (.int .u8 a2_.x5)]] (.p (.bool r)) := by
  unfold law23_ResidueAparts at h
  have hH : HP ([] : List HO) [] := trivial
  refine pcall_of chk4 rfl rfl (vc_sound _ _ _ ?_) rfl
  refine vc_seq ?_
  refine vc_reg (S := ⟨[(3, .loc 3 0), (4, .loc 4 0), (5, .loc 5 0)], [(3, [.p (.int .i64 a0_.Period), .p (.int .i64 a0_.From), .p (.int .i64 a0_.Long)]), (4, [.p (.int .i64 a1_.Period), .p (.int .i64 a1_.From), .p (.int .i64 a1_.Long)]), (5, [.p (.int .u8 a2_.x0), .p (.int .u8 a2_.x1), .p (.int .u8 a2_.x2), .p (.int .u8 a2_.x3), .p (.int .u8 a2_.x4), .p (.int .u8 a2_.x5)])], []⟩) (APath.fin (by kernel_rfl)) (by kernel_rfl) ?_
  refine vc_seq ?_
  obtain ⟨r1, hr1, h⟩ := bind_some h
  obtain ⟨r2, hr2, h⟩ := bind_some h
  refine vc_regD (S := ⟨[(3, .loc 3 0), (4, .loc 4 0), (7, .loc 7 0), (8, .loc 8 0)], [(3, [.p (.int .i64 a0_.Period), .p (.int .i64 a0_.From), .p (.int .i64 a0_.Long)]), (4, [.p (.int .i64 a1_.Period), .p (.int .i64 a1_.From), .p (.int .i64 a1_.Long)]), (7, [.p (.int .i64 r1.Period), .p (.int .i64 r1.From), .p (.int .i64 r1.Long)]), (8, [.p (.int .i64 r2.Period), .p (.int .i64 r2.From), .p (.int .i64 r2.Long)])], []⟩) (by kernel_rfl) (APath.chunk 6 (by kernel_rfl) (APath.one (.callP 29 10 [.t 24, .t 26, .t 28]) (by kernel_rfl) (st_callP (by kernel_rfl) (ref23_Of_ok N a2_.x0 a2_.x1 a2_.x2 r1 hr1)) (APath.chunk 6 (by kernel_rfl) (APath.one (.callP 36 10 [.t 31, .t 33, .t 35]) (by kernel_rfl) (st_callP (by kernel_rfl) (ref23_Of_ok N a2_.x3 a2_.x4 a2_.x5 r2 hr2)) (APath.fin (by kernel_rfl)))))) (by kernel_rfl) ?_
  refine vc_seq ?_
  refine vc_seq ?_
  refine vc_reg (S := ⟨[(49, .agg [.p (.int .i64 a0_.Period), .p (.int .i64 a0_.From), .p (.int .i64 a0_.Long), .p (.int .i64 a1_.Period), .p (.int .i64 a1_.From), .p (.int .i64 a1_.Long), .p (.int .i64 r1.Period), .p (.int .i64 r1.From), .p (.int .i64 r1.Long), .p (.int .i64 r2.Period), .p (.int .i64 r2.From), .p (.int .i64 r2.Long), .p (.int .i64 r1.Period), .p (.int .i64 r1.From), .p (.int .i64 r1.Long), .p (.int .i64 a1_.Period), .p (.int .i64 a1_.From), .p (.int .i64 a1_.Long), .p (.int .i64 a0_.Period), .p (.int .i64 a0_.From), .p (.int .i64 a0_.Long), .p (.int .i64 r2.Period), .p (.int .i64 r2.From), .p (.int .i64 r2.Long)]), (50, .p (.int .i64 0))], [], []⟩) (APath.fin (by kernel_rfl)) (by kernel_rfl) ?_
  refine vc_block ?_
  refine vc_unroll 14 ?_
  refine unr_step ?_
  refine vc_seq ?_
  refine vc_reg (S := ⟨[(49, .agg [.p (.int .i64 a0_.Period), .p (.int .i64 a0_.From), .p (.int .i64 a0_.Long), .p (.int .i64 a1_.Period), .p (.int .i64 a1_.From), .p (.int .i64 a1_.Long), .p (.int .i64 r1.Period), .p (.int .i64 r1.From), .p (.int .i64 r1.Long), .p (.int .i64 r2.Period), .p (.int .i64 r2.From), .p (.int .i64 r2.Long), .p (.int .i64 r1.Period), .p (.int .i64 r1.From), .p (.int .i64 r1.Long), .p (.int .i64 a1_.Period), .p (.int .i64 a1_.From), .p (.int .i64 a1_.Long), .p (.int .i64 a0_.Period), .p (.int .i64 a0_.From), .p (.int .i64 a0_.Long), .p (.int .i64 r2.Period), .p (.int .i64 r2.From), .p (.int .i64 r2.Long)]), (50, .p (.int .i64 0)), (51, .p (.bool true))], [], []⟩) (APath.fin (by kernel_rfl)) (by kernel_rfl) ?_
  refine vc_seq ?_
  refine vc_true (by kernel_rfl) ?_
  refine vc_skip ?_
  refine vc_kp ?_
  refine vc_seq ?_
  refine vc_block ?_
  refine vc_seq ?_
  refine vc_reg (S := ⟨[(10, .loc 10 0), (49, .agg [.p (.int .i64 a0_.Period), .p (.int .i64 a0_.From), .p (.int .i64 a0_.Long), .p (.int .i64 a1_.Period), .p (.int .i64 a1_.From), .p (.int .i64 a1_.Long), .p (.int .i64 r1.Period), .p (.int .i64 r1.From), .p (.int .i64 r1.Long), .p (.int .i64 r2.Period), .p (.int .i64 r2.From), .p (.int .i64 r2.Long), .p (.int .i64 r1.Period), .p (.int .i64 r1.From), .p (.int .i64 r1.Long), .p (.int .i64 a1_.Period), .p (.int .i64 a1_.From), .p (.int .i64 a1_.Long), .p (.int .i64 a0_.Period), .p (.int .i64 a0_.From), .p (.int .i64 a0_.Long), .p (.int .i64 r2.Period), .p (.int .i64 r2.From), .p (.int .i64 r2.Long)]), (50, .p (.int .i64 0))], [(10, [.p (.int .i64 a0_.Period), .p (.int .i64 a0_.From), .p (.int .i64 a0_.Long), .p (.int .i64 a1_.Period), .p (.int .i64 a1_.From), .p (.int .i64 a1_.Long)])], []⟩) (APath.fin (by kernel_rfl)) (by kernel_rfl) ?_
  refine vc_seq ?_
  obtain ⟨r3, hr3, h⟩ := bind_some h
  refine vc_reg (S := ⟨[(10, .loc 10 0), (11, .p (.bool r3.1)), (12, .p (.int .i64 r3.2)), (49, .agg [.p (.int .i64 a0_.Period), .p (.int .i64 a0_.From), .p (.int .i64 a0_.Long), .p (.int .i64 a1_.Period), .p (.int .i64 a1_.From), .p (.int .i64 a1_.Long), .p (.int .i64 r1.Period), .p (.int .i64 r1.From), .p (.int .i64 r1.Long), .p (.int .i64 r2.Period), .p (.int .i64 r2.From), .p (.int .i64 r2.Long), .p (.int .i64 r1.Period), .p (.int .i64 r1.From), .p (.int .i64 r1.Long), .p (.int .i64 a1_.Period), .p (.int .i64 a1_.From), .p (.int .i64 a1_.Long), .p (.int .i64 a0_.Period), .p (.int .i64 a0_.From), .p (.int .i64 a0_.Long), .p (.int .i64 r2.Period), .p (.int .i64 r2.From), .p (.int .i64 r2.Long)]), (50, .p (.int .i64 0))], [(10, [.p (.int .i64 a0_.Period), .p (.int .i64 a0_.From), .p (.int .i64 a0_.Long), .p (.int .i64 a1_.Period), .p (.int .i64 a1_.From), .p (.int .i64 a1_.Long)])], []⟩) (APath.chunk 4 (by kernel_rfl) (APath.one (.call (some 58) 16 [.t 55, .t 57]) (by kernel_rfl) (st_call (by kernel_rfl) (residue_Apart_ok N a0_ a1_ r3 hr3)) (APath.fin (by kernel_rfl)))) (by kernel_rfl) ?_
  refine vc_seq ?_
  obtain ⟨r4, hr4, h⟩ := bind_some h
  refine vc_reg (S := ⟨[(10, .loc 10 0), (11, .p (.bool r3.1)), (12, .p (.int .i64 r3.2)), (13, .p (.bool r4.1)), (14, .p (.int .i64 r4.2)), (49, .agg [.p (.int .i64 a0_.Period), .p (.int .i64 a0_.From), .p (.int .i64 a0_.Long), .p (.int .i64 a1_.Period), .p (.int .i64 a1_.From), .p (.int .i64 a1_.Long), .p (.int .i64 r1.Period), .p (.int .i64 r1.From), .p (.int .i64 r1.Long), .p (.int .i64 r2.Period), .p (.int .i64 r2.From), .p (.int .i64 r2.Long), .p (.int .i64 r1.Period), .p (.int .i64 r1.From), .p (.int .i64 r1.Long), .p (.int .i64 a1_.Period), .p (.int .i64 a1_.From), .p (.int .i64 a1_.Long), .p (.int .i64 a0_.Period), .p (.int .i64 a0_.From), .p (.int .i64 a0_.Long), .p (.int .i64 r2.Period), .p (.int .i64 r2.From), .p (.int .i64 r2.Long)]), (50, .p (.int .i64 0))], [(10, [.p (.int .i64 a0_.Period), .p (.int .i64 a0_.From), .p (.int .i64 a0_.Long), .p (.int .i64 a1_.Period), .p (.int .i64 a1_.From), .p (.int .i64 a1_.Long)])], []⟩) (APath.chunk 4 (by kernel_rfl) (APath.one (.call (some 66) 17 [.t 63, .t 65]) (by kernel_rfl) (st_call (by kernel_rfl) (ref23_Apart_ok N a0_ a1_ r4 hr4)) (APath.fin (by kernel_rfl)))) (by kernel_rfl) ?_
  refine vc_seq ?_
  obtain ⟨r5, hr5, h⟩ := bind_some h
  refine vc_reg (S := ⟨[(10, .loc 10 0), (11, .p (.bool r3.1)), (12, .p (.int .i64 r3.2)), (13, .p (.bool r4.1)), (14, .p (.int .i64 r4.2)), (15, .p (.int .i64 r5.1)), (16, .p (.int .i64 r5.2.1)), (17, .p (.int .i64 r5.2.2.1)), (18, .p (.int .i64 r5.2.2.2)), (49, .agg [.p (.int .i64 a0_.Period), .p (.int .i64 a0_.From), .p (.int .i64 a0_.Long), .p (.int .i64 a1_.Period), .p (.int .i64 a1_.From), .p (.int .i64 a1_.Long), .p (.int .i64 r1.Period), .p (.int .i64 r1.From), .p (.int .i64 r1.Long), .p (.int .i64 r2.Period), .p (.int .i64 r2.From), .p (.int .i64 r2.Long), .p (.int .i64 r1.Period), .p (.int .i64 r1.From), .p (.int .i64 r1.Long), .p (.int .i64 a1_.Period), .p (.int .i64 a1_.From), .p (.int .i64 a1_.Long), .p (.int .i64 a0_.Period), .p (.int .i64 a0_.From), .p (.int .i64 a0_.Long), .p (.int .i64 r2.Period), .p (.int .i64 r2.From), .p (.int .i64 r2.Long)]), (50, .p (.int .i64 0))], [(10, [.p (.int .i64 a0_.Period), .p (.int .i64 a0_.From), .p (.int .i64 a0_.Long), .p (.int .i64 a1_.Period), .p (.int .i64 a1_.From), .p (.int .i64 a1_.Long)])], []⟩) (APath.chunk 4 (by kernel_rfl) (APath.one (.call (some 74) 18 [.t 71, .t 73]) (by kernel_rfl) (st_call (by kernel_rfl) (residue_Room_ok N a0_ a1_ r5 hr5)) (APath.fin (by kernel_rfl)))) (by kernel_rfl) ?_
  refine vc_seq ?_
  obtain ⟨r6, hr6, h⟩ := bind_some h
  refine vc_reg (S := ⟨[(11, .p (.bool r3.1)), (12, .p (.int .i64 r3.2)), (13, .p (.bool r4.1)), (14, .p (.int .i64 r4.2)), (15, .p (.int .i64 r5.1)), (16, .p (.int .i64 r5.2.1)), (17, .p (.int .i64 r5.2.2.1)), (18, .p (.int .i64 r5.2.2.2)), (19, .p (.int .i64 r6.1)), (20, .p (.int .i64 r6.2.1)), (21, .p (.int .i64 r6.2.2.1)), (22, .p (.int .i64 r6.2.2.2)), (49, .agg [.p (.int .i64 a0_.Period), .p (.int .i64 a0_.From), .p (.int .i64 a0_.Long), .p (.int .i64 a1_.Period), .p (.int .i64 a1_.From), .p (.int .i64 a1_.Long), .p (.int .i64 r1.Period), .p (.int .i64 r1.From), .p (.int .i64 r1.Long), .p (.int .i64 r2.Period), .p (.int .i64 r2.From), .p (.int .i64 r2.Long), .p (.int .i64 r1.Period), .p (.int .i64 r1.From), .p (.int .i64 r1.Long), .p (.int .i64 a1_.Period), .p (.int .i64 a1_.From), .p (.int .i64 a1_.Long), .p (.int .i64 a0_.Period), .p (.int .i64 a0_.From), .p (.int .i64 a0_.Long), .p (.int .i64 r2.Period), .p (.int .i64 r2.From), .p (.int .i64 r2.Long)]), (50, .p (.int .i64 0))], [], []⟩) (APath.chunk 4 (by kernel_rfl) (APath.one (.call (some 84) 19 [.t 81, .t 83]) (by kernel_rfl) (st_call (by kernel_rfl) (ref23_Room_ok N a0_ a1_ r6 hr6)) (APath.fin (by kernel_rfl)))) (by kernel_rfl) ?_
  refine vc_seq ?_
  refine vc_regX ⟨[(49, .agg [.p (.int .i64 a0_.Period), .p (.int .i64 a0_.From), .p (.int .i64 a0_.Long), .p (.int .i64 a1_.Period), .p (.int .i64 a1_.From), .p (.int .i64 a1_.Long), .p (.int .i64 r1.Period), .p (.int .i64 r1.From), .p (.int .i64 r1.Long), .p (.int .i64 r2.Period), .p (.int .i64 r2.From), .p (.int .i64 r2.Long), .p (.int .i64 r1.Period), .p (.int .i64 r1.From), .p (.int .i64 r1.Long), .p (.int .i64 a1_.Period), .p (.int .i64 a1_.From), .p (.int .i64 a1_.Long), .p (.int .i64 a0_.Period), .p (.int .i64 a0_.From), .p (.int .i64 a0_.Long), .p (.int .i64 r2.Period), .p (.int .i64 r2.From), .p (.int .i64 r2.Long)]), (50, .p (.int .i64 0)), (116, .p (.bool ((r3.1 != r4.1) || ((r3.2 != r4.2) || ((r5.1 != r6.1) || ((r5.2.1 != r6.2.1) || ((r5.2.2.1 != r6.2.2.1) || (r5.2.2.2 != r6.2.2.2))))))))], [], []⟩ ?_ ?_
  · rcases Bool.eq_false_or_eq_true (r3.1 != r4.1) with hc7 | hc8
    · exact ⟨_, (APath.chunk 2 (by kernel_rfl) (APath.one (.val 91 (.eqB true) [.t 89, .t 90]) (by kernel_rfl) (st_bool (c := (r3.1 != r4.1)) (by kernel_rfl) hc7) (APath.fin (by kernel_rfl)))), by simp only [hc7]; kernel_rfl⟩
    · rcases Bool.eq_false_or_eq_true (r3.2 != r4.2) with hc9 | hc10
      · exact ⟨_, (APath.chunk 2 (by kernel_rfl) (APath.one (.val 91 (.eqB true) [.t 89, .t 90]) (by kernel_rfl) (st_bool (c := (r3.1 != r4.1)) (by kernel_rfl) hc8) (APath.chunk 3 (by kernel_rfl) (APath.oneG (.val 95 (.bin .neq) [.t 93, .t 94]) 92 false (by kernel_rfl) (by kernel_rfl) (st_bool (c := (r3.2 != r4.2)) (by kernel_rfl) hc9) (APath.fin (by kernel_rfl)))))), by simp only [hc8, hc9]; kernel_rfl⟩
      · rcases Bool.eq_false_or_eq_true (r5.1 != r6.1) with hc11 | hc12
        · exact ⟨_, (APath.chunk 2 (by kernel_rfl) (APath.one (.val 91 (.eqB true) [.t 89, .t 90]) (by kernel_rfl) (st_bool (c := (r3.1 != r4.1)) (by kernel_rfl) hc8) (APath.chunk 3 (by kernel_rfl) (APath.oneG (.val 95 (.bin .neq) [.t 93, .t 94]) 92 false (by kernel_rfl) (by kernel_rfl) (st_bool (c := (r3.2 != r4.2)) (by kernel_rfl) hc10) (APath.chunk 4 (by kernel_rfl) (APath.oneG (.val 100 (.bin .neq) [.t 98, .t 99]) 97 false (by kernel_rfl) (by kernel_rfl) (st_bool (c := (r5.1 != r6.1)) (by kernel_rfl) hc11) (APath.fin (by kernel_rfl)))))))), by simp only [hc8, hc10, hc11]; kernel_rfl⟩
        · rcases Bool.eq_false_or_eq_true (r5.2.1 != r6.2.1) with hc13 | hc14
          · exact ⟨_, (APath.chunk 2 (by kernel_rfl) (APath.one (.val 91 (.eqB true) [.t 89, .t 90]) (by kernel_rfl) (st_bool (c := (r3.1 != r4.1)) (by kernel_rfl) hc8) (APath.chunk 3 (by kernel_rfl) (APath.oneG (.val 95 (.bin .neq) [.t 93, .t 94]) 92 false (by kernel_rfl) (by kernel_rfl) (st_bool (c := (r3.2 != r4.2)) (by kernel_rfl) hc10) (APath.chunk 4 (by kernel_rfl) (APath.oneG (.val 100 (.bin .neq) [.t 98, .t 99]) 97 false (by kernel_rfl) (by kernel_rfl) (st_bool (c := (r5.1 != r6.1)) (by kernel_rfl) hc12) (APath.chunk 4 (by kernel_rfl) (APath.oneG (.val 105 (.bin .neq) [.t 103, .t 104]) 102 false (by kernel_rfl) (by kernel_rfl) (st_bool (c := (r5.2.1 != r6.2.1)) (by kernel_rfl) hc13) (APath.fin (by kernel_rfl)))))))))), by simp only [hc8, hc10, hc12, hc13]; kernel_rfl⟩
          · rcases Bool.eq_false_or_eq_true (r5.2.2.1 != r6.2.2.1) with hc15 | hc16
            · exact ⟨_, (APath.chunk 2 (by kernel_rfl) (APath.one (.val 91 (.eqB true) [.t 89, .t 90]) (by kernel_rfl) (st_bool (c := (r3.1 != r4.1)) (by kernel_rfl) hc8) (APath.chunk 3 (by kernel_rfl) (APath.oneG (.val 95 (.bin .neq) [.t 93, .t 94]) 92 false (by kernel_rfl) (by kernel_rfl) (st_bool (c := (r3.2 != r4.2)) (by kernel_rfl) hc10) (APath.chunk 4 (by kernel_rfl) (APath.oneG (.val 100 (.bin .neq) [.t 98, .t 99]) 97 false (by kernel_rfl) (by kernel_rfl) (st_bool (c := (r5.1 != r6.1)) (by kernel_rfl) hc12) (APath.chunk 4 (by kernel_rfl) (APath.oneG (.val 105 (.bin .neq) [.t 103, .t 104]) 102 false (by kernel_rfl) (by kernel_rfl) (st_bool (c := (r5.2.1 != r6.2.1)) (by kernel_rfl) hc14) (APath.chunk 4 (by kernel_rfl) (APath.oneG (.val 110 (.bin .neq) [.t 108, .t 109]) 107 false (by kernel_rfl) (by kernel_rfl) (st_bool (c := (r5.2.2.1 != r6.2.2.1)) (by kernel_rfl) hc15) (APath.fin (by kernel_rfl)))))))))))), by simp only [hc8, hc10, hc12, hc14, hc15]; kernel_rfl⟩
            · exact ⟨_, (APath.chunk 2 (by kernel_rfl) (APath.one (.val 91 (.eqB true) [.t 89, .t 90]) (by kernel_rfl) (st_bool (c := (r3.1 != r4.1)) (by kernel_rfl) hc8) (APath.chunk 3 (by kernel_rfl) (APath.oneG (.val 95 (.bin .neq) [.t 93, .t 94]) 92 false (by kernel_rfl) (by kernel_rfl) (st_bool (c := (r3.2 != r4.2)) (by kernel_rfl) hc10) (APath.chunk 4 (by kernel_rfl) (APath.oneG (.val 100 (.bin .neq) [.t 98, .t 99]) 97 false (by kernel_rfl) (by kernel_rfl) (st_bool (c := (r5.1 != r6.1)) (by kernel_rfl) hc12) (APath.chunk 4 (by kernel_rfl) (APath.oneG (.val 105 (.bin .neq) [.t 103, .t 104]) 102 false (by kernel_rfl) (by kernel_rfl) (st_bool (c := (r5.2.1 != r6.2.1)) (by kernel_rfl) hc14) (APath.chunk 4 (by kernel_rfl) (APath.oneG (.val 110 (.bin .neq) [.t 108, .t 109]) 107 false (by kernel_rfl) (by kernel_rfl) (st_bool (c := (r5.2.2.1 != r6.2.2.1)) (by kernel_rfl) hc16) (APath.fin (by kernel_rfl)))))))))))), by simp only [hc8, hc10, hc12, hc14, hc16]; kernel_rfl⟩
  · refine vc_ite (by kernel_rfl) h (fun hc17 h => ?_) (fun hc17 h => ?_)
    · refine vc_seq ?_
      refine vc_reg (S := ⟨[(6, .p (.bool false))], [], []⟩) (APath.fin (by kernel_rfl)) (by kernel_rfl) ?_
      refine vc_ret ?_
      obtain rfl := some_inj h
      exact ret_of (by kernel_rfl)
    · refine vc_skip ?_
      refine vc_kp ?_
      refine vc_reg (S := ⟨[(49, .agg [.p (.int .i64 a0_.Period), .p (.int .i64 a0_.From), .p (.int .i64 a0_.Long), .p (.int .i64 a1_.Period), .p (.int .i64 a1_.From), .p (.int .i64 a1_.Long), .p (.int .i64 r1.Period), .p (.int .i64 r1.From), .p (.int .i64 r1.Long), .p (.int .i64 r2.Period), .p (.int .i64 r2.From), .p (.int .i64 r2.Long), .p (.int .i64 r1.Period), .p (.int .i64 r1.From), .p (.int .i64 r1.Long), .p (.int .i64 a1_.Period), .p (.int .i64 a1_.From), .p (.int .i64 a1_.Long), .p (.int .i64 a0_.Period), .p (.int .i64 a0_.From), .p (.int .i64 a0_.Long), .p (.int .i64 r2.Period), .p (.int .i64 r2.From), .p (.int .i64 r2.Long)]), (50, .p (.int .i64 1))], [], []⟩) (APath.fin (by kernel_rfl)) (by kernel_rfl) ?_
      refine unr_step ?_
      refine vc_seq ?_
      refine vc_reg (S := ⟨[(49, .agg [.p (.int .i64 a0_.Period), .p (.int .i64 a0_.From), .p (.int .i64 a0_.Long), .p (.int .i64 a1_.Period), .p (.int .i64 a1_.From), .p (.int .i64 a1_.Long), .p (.int .i64 r1.Period), .p (.int .i64 r1.From), .p (.int .i64 r1.Long), .p (.int .i64 r2.Period), .p (.int .i64 r2.From), .p (.int .i64 r2.Long), .p (.int .i64 r1.Period), .p (.int .i64 r1.From), .p (.int .i64 r1.Long), .p (.int .i64 a1_.Period), .p (.int .i64 a1_.From), .p (.int .i64 a1_.Long), .p (.int .i64 a0_.Period), .p (.int .i64 a0_.From), .p (.int .i64 a0_.Long), .p (.int .i64 r2.Period), .p (.int .i64 r2.From), .p (.int .i64 r2.Long)]), (50, .p (.int .i64 1)), (51, .p (.bool true))], [], []⟩) (APath.fin (by kernel_rfl)) (by kernel_rfl) ?_
      refine vc_seq ?_
      refine vc_true (by kernel_rfl) ?_
      refine vc_skip ?_
      refine vc_kp ?_
      refine vc_seq ?_
      refine vc_block ?_
      refine vc_seq ?_
      refine vc_reg (S := ⟨[(10, .loc 10 0), (49, .agg [.p (.int .i64 a0_.Period), .p (.int .i64 a0_.From), .p (.int .i64 a0_.Long), .p (.int .i64 a1_.Period), .p (.int .i64 a1_.From), .p (.int .i64 a1_.Long), .p (.int .i64 r1.Period), .p (.int .i64 r1.From), .p (.int .i64 r1.Long), .p (.int .i64 r2.Period), .p (.int .i64 r2.From), .p (.int .i64 r2.Long), .p (.int .i64 r1.Period), .p (.int .i64 r1.From), .p (.int .i64 r1.Long), .p (.int .i64 a1_.Period), .p (.int .i64 a1_.From), .p (.int .i64 a1_.Long), .p (.int .i64 a0_.Period), .p (.int .i64 a0_.From), .p (.int .i64 a0_.Long), .p (.int .i64 r2.Period), .p (.int .i64 r2.From), .p (.int .i64 r2.Long)]), (50, .p (.int .i64 1))], [(10, [.p (.int .i64 r1.Period), .p (.int .i64 r1.From), .p (.int .i64 r1.Long), .p (.int .i64 r2.Period), .p (.int .i64 r2.From), .p (.int .i64 r2.Long)])], []⟩) (APath.fin (by kernel_rfl)) (by kernel_rfl) ?_
      refine vc_seq ?_
      obtain ⟨r18, hr18, h⟩ := bind_some h
      refine vc_reg (S := ⟨[(10, .loc 10 0), (11, .p (.bool r18.1)), (12, .p (.int .i64 r18.2)), (49, .agg [.p (.int .i64 a0_.Period), .p (.int .i64 a0_.From), .p (.int .i64 a0_.Long), .p (.int .i64 a1_.Period), .p (.int .i64 a1_.From), .p (.int .i64 a1_.Long), .p (.int .i64 r1.Period), .p (.int .i64 r1.From), .p (.int .i64 r1.Long), .p (.int .i64 r2.Period), .p (.int .i64 r2.From), .p (.int .i64 r2.Long), .p (.int .i64 r1.Period), .p (.int .i64 r1.From), .p (.int .i64 r1.Long), .p (.int .i64 a1_.Period), .p (.int .i64 a1_.From), .p (.int .i64 a1_.Long), .p (.int .i64 a0_.Period), .p (.int .i64 a0_.From), .p (.int .i64 a0_.Long), .p (.int .i64 r2.Period), .p (.int .i64 r2.From), .p (.int .i64 r2.Long)]), (50, .p (.int .i64 1))], [(10, [.p (.int .i64 r1.Period), .p (.int .i64 r1.From), .p (.int .i64 r1.Long), .p (.int .i64 r2.Period), .p (.int .i64 r2.From), .p (.int .i64 r2.Long)])], []⟩) (APath.chunk 4 (by kernel_rfl) (APath.one (.call (some 58) 16 [.t 55, .t 57]) (by kernel_rfl) (st_call (by kernel_rfl) (residue_Apart_ok N r1 r2 r18 hr18)) (APath.fin (by kernel_rfl)))) (by kernel_rfl) ?_
      refine vc_seq ?_
      obtain ⟨r19, hr19, h⟩ := bind_some h
      refine vc_reg (S := ⟨[(10, .loc 10 0), (11, .p (.bool r18.1)), (12, .p (.int .i64 r18.2)), (13, .p (.bool r19.1)), (14, .p (.int .i64 r19.2)), (49, .agg [.p (.int .i64 a0_.Period), .p (.int .i64 a0_.From), .p (.int .i64 a0_.Long), .p (.int .i64 a1_.Period), .p (.int .i64 a1_.From), .p (.int .i64 a1_.Long), .p (.int .i64 r1.Period), .p (.int .i64 r1.From), .p (.int .i64 r1.Long), .p (.int .i64 r2.Period), .p (.int .i64 r2.From), .p (.int .i64 r2.Long), .p (.int .i64 r1.Period), .p (.int .i64 r1.From), .p (.int .i64 r1.Long), .p (.int .i64 a1_.Period), .p (.int .i64 a1_.From), .p (.int .i64 a1_.Long), .p (.int .i64 a0_.Period), .p (.int .i64 a0_.From), .p (.int .i64 a0_.Long), .p (.int .i64 r2.Period), .p (.int .i64 r2.From), .p (.int .i64 r2.Long)]), (50, .p (.int .i64 1))], [(10, [.p (.int .i64 r1.Period), .p (.int .i64 r1.From), .p (.int .i64 r1.Long), .p (.int .i64 r2.Period), .p (.int .i64 r2.From), .p (.int .i64 r2.Long)])], []⟩) (APath.chunk 4 (by kernel_rfl) (APath.one (.call (some 66) 17 [.t 63, .t 65]) (by kernel_rfl) (st_call (by kernel_rfl) (ref23_Apart_ok N r1 r2 r19 hr19)) (APath.fin (by kernel_rfl)))) (by kernel_rfl) ?_
      refine vc_seq ?_
      obtain ⟨r20, hr20, h⟩ := bind_some h
      refine vc_reg (S := ⟨[(10, .loc 10 0), (11, .p (.bool r18.1)), (12, .p (.int .i64 r18.2)), (13, .p (.bool r19.1)), (14, .p (.int .i64 r19.2)), (15, .p (.int .i64 r20.1)), (16, .p (.int .i64 r20.2.1)), (17, .p (.int .i64 r20.2.2.1)), (18, .p (.int .i64 r20.2.2.2)), (49, .agg [.p (.int .i64 a0_.Period), .p (.int .i64 a0_.From), .p (.int .i64 a0_.Long), .p (.int .i64 a1_.Period), .p (.int .i64 a1_.From), .p (.int .i64 a1_.Long), .p (.int .i64 r1.Period), .p (.int .i64 r1.From), .p (.int .i64 r1.Long), .p (.int .i64 r2.Period), .p (.int .i64 r2.From), .p (.int .i64 r2.Long), .p (.int .i64 r1.Period), .p (.int .i64 r1.From), .p (.int .i64 r1.Long), .p (.int .i64 a1_.Period), .p (.int .i64 a1_.From), .p (.int .i64 a1_.Long), .p (.int .i64 a0_.Period), .p (.int .i64 a0_.From), .p (.int .i64 a0_.Long), .p (.int .i64 r2.Period), .p (.int .i64 r2.From), .p (.int .i64 r2.Long)]), (50, .p (.int .i64 1))], [(10, [.p (.int .i64 r1.Period), .p (.int .i64 r1.From), .p (.int .i64 r1.Long), .p (.int .i64 r2.Period), .p (.int .i64 r2.From), .p (.int .i64 r2.Long)])], []⟩) (APath.chunk 4 (by kernel_rfl) (APath.one (.call (some 74) 18 [.t 71, .t 73]) (by kernel_rfl) (st_call (by kernel_rfl) (residue_Room_ok N r1 r2 r20 hr20)) (APath.fin (by kernel_rfl)))) (by kernel_rfl) ?_
      refine vc_seq ?_
      obtain ⟨r21, hr21, h⟩ := bind_some h
      refine vc_reg (S := ⟨[(11, .p (.bool r18.1)), (12, .p (.int .i64 r18.2)), (13, .p (.bool r19.1)), (14, .p (.int .i64 r19.2)), (15, .p (.int .i64 r20.1)), (16, .p (.int .i64 r20.2.1)), (17, .p (.int .i64 r20.2.2.1)), (18, .p (.int .i64 r20.2.2.2)), (19, .p (.int .i64 r21.1)), (20, .p (.int .i64 r21.2.1)), (21, .p (.int .i64 r21.2.2.1)), (22, .p (.int .i64 r21.2.2.2)), (49, .agg [.p (.int .i64 a0_.Period), .p (.int .i64 a0_.From), .p (.int .i64 a0_.Long), .p (.int .i64 a1_.Period), .p (.int .i64 a1_.From), .p (.int .i64 a1_.Long), .p (.int .i64 r1.Period), .p (.int .i64 r1.From), .p (.int .i64 r1.Long), .p (.int .i64 r2.Period), .p (.int .i64 r2.From), .p (.int .i64 r2.Long), .p (.int .i64 r1.Period), .p (.int .i64 r1.From), .p (.int .i64 r1.Long), .p (.int .i64 a1_.Period), .p (.int .i64 a1_.From), .p (.int .i64 a1_.Long), .p (.int .i64 a0_.Period), .p (.int .i64 a0_.From), .p (.int .i64 a0_.Long), .p (.int .i64 r2.Period), .p (.int .i64 r2.From), .p (.int .i64 r2.Long)]), (50, .p (.int .i64 1))], [], []⟩) (APath.chunk 4 (by kernel_rfl) (APath.one (.call (some 84) 19 [.t 81, .t 83]) (by kernel_rfl) (st_call (by kernel_rfl) (ref23_Room_ok N r1 r2 r21 hr21)) (APath.fin (by kernel_rfl)))) (by kernel_rfl) ?_
      refine vc_seq ?_
      refine vc_regX ⟨[(49, .agg [.p (.int .i64 a0_.Period), .p (.int .i64 a0_.From), .p (.int .i64 a0_.Long), .p (.int .i64 a1_.Period), .p (.int .i64 a1_.From), .p (.int .i64 a1_.Long), .p (.int .i64 r1.Period), .p (.int .i64 r1.From), .p (.int .i64 r1.Long), .p (.int .i64 r2.Period), .p (.int .i64 r2.From), .p (.int .i64 r2.Long), .p (.int .i64 r1.Period), .p (.int .i64 r1.From), .p (.int .i64 r1.Long), .p (.int .i64 a1_.Period), .p (.int .i64 a1_.From), .p (.int .i64 a1_.Long), .p (.int .i64 a0_.Period), .p (.int .i64 a0_.From), .p (.int .i64 a0_.Long), .p (.int .i64 r2.Period), .p (.int .i64 r2.From), .p (.int .i64 r2.Long)]), (50, .p (.int .i64 1)), (116, .p (.bool ((r18.1 != r19.1) || ((r18.2 != r19.2) || ((r20.1 != r21.1) || ((r20.2.1 != r21.2.1) || ((r20.2.2.1 != r21.2.2.1) || (r20.2.2.2 != r21.2.2.2))))))))], [], []⟩ ?_ ?_
      · rcases Bool.eq_false_or_eq_true (r18.1 != r19.1) with hc22 | hc23
        · exact ⟨_, (APath.chunk 2 (by kernel_rfl) (APath.one (.val 91 (.eqB true) [.t 89, .t 90]) (by kernel_rfl) (st_bool (c := (r18.1 != r19.1)) (by kernel_rfl) hc22) (APath.fin (by kernel_rfl)))), by simp only [hc22]; kernel_rfl⟩
        · rcases Bool.eq_false_or_eq_true (r18.2 != r19.2) with hc24 | hc25
          · exact ⟨_, (APath.chunk 2 (by kernel_rfl) (APath.one (.val 91 (.eqB true) [.t 89, .t 90]) (by kernel_rfl) (st_bool (c := (r18.1 != r19.1)) (by kernel_rfl) hc23) (APath.chunk 3 (by kernel_rfl) (APath.oneG (.val 95 (.bin .neq) [.t 93, .t 94]) 92 false (by kernel_rfl) (by kernel_rfl) (st_bool (c := (r18.2 != r19.2)) (by kernel_rfl) hc24) (APath.fin (by kernel_rfl)))))), by simp only [hc23, hc24]; kernel_rfl⟩
          · rcases Bool.eq_false_or_eq_true (r20.1 != r21.1) with hc26 | hc27
            · exact ⟨_, (APath.chunk 2 (by kernel_rfl) (APath.one (.val 91 (.eqB true) [.t 89, .t 90]) (by kernel_rfl) (st_bool (c := (r18.1 != r19.1)) (by kernel_rfl) hc23) (APath.chunk 3 (by kernel_rfl) (APath.oneG (.val 95 (.bin .neq) [.t 93, .t 94]) 92 false (by kernel_rfl) (by kernel_rfl) (st_bool (c := (r18.2 != r19.2)) (by kernel_rfl) hc25) (APath.chunk 4 (by kernel_rfl) (APath.oneG (.val 100 (.bin .neq) [.t 98, .t 99]) 97 false (by kernel_rfl) (by kernel_rfl) (st_bool (c := (r20.1 != r21.1)) (by kernel_rfl) hc26) (APath.fin (by kernel_rfl)))))))), by simp only [hc23, hc25, hc26]; kernel_rfl⟩
            · rcases Bool.eq_false_or_eq_true (r20.2.1 != r21.2.1) with hc28 | hc29
              · exact ⟨_, (APath.chunk 2 (by kernel_rfl) (APath.one (.val 91 (.eqB true) [.t 89, .t 90]) (by kernel_rfl) (st_bool (c := (r18.1 != r19.1)) (by kernel_rfl) hc23) (APath.chunk 3 (by kernel_rfl) (APath.oneG (.val 95 (.bin .neq) [.t 93, .t 94]) 92 false (by kernel_rfl) (by kernel_rfl) (st_bool (c := (r18.2 != r19.2)) (by kernel_rfl) hc25) (APath.chunk 4 (by kernel_rfl) (APath.oneG (.val 100 (.bin .neq) [.t 98, .t 99]) 97 false (by kernel_rfl) (by kernel_rfl) (st_bool (c := (r20.1 != r21.1)) (by kernel_rfl) hc27) (APath.chunk 4 (by kernel_rfl) (APath.oneG (.val 105 (.bin .neq) [.t 103, .t 104]) 102 false (by kernel_rfl) (by kernel_rfl) (st_bool (c := (r20.2.1 != r21.2.1)) (by kernel_rfl) hc28) (APath.fin (by kernel_rfl)))))))))), by simp only [hc23, hc25, hc27, hc28]; kernel_rfl⟩
              · rcases Bool.eq_false_or_eq_true (r20.2.2.1 != r21.2.2.1) with hc30 | hc31
                · exact ⟨_, (APath.chunk 2 (by kernel_rfl) (APath.one (.val 91 (.eqB true) [.t 89, .t 90]) (by kernel_rfl) (st_bool (c := (r18.1 != r19.1)) (by kernel_rfl) hc23) (APath.chunk 3 (by kernel_rfl) (APath.oneG (.val 95 (.bin .neq) [.t 93, .t 94]) 92 false (by kernel_rfl) (by kernel_rfl) (st_bool (c := (r18.2 != r19.2)) (by kernel_rfl) hc25) (APath.chunk 4 (by kernel_rfl) (APath.oneG (.val 100 (.bin .neq) [.t 98, .t 99]) 97 false (by kernel_rfl) (by kernel_rfl) (st_bool (c := (r20.1 != r21.1)) (by kernel_rfl) hc27) (APath.chunk 4 (by kernel_rfl) (APath.oneG (.val 105 (.bin .neq) [.t 103, .t 104]) 102 false (by kernel_rfl) (by kernel_rfl) (st_bool (c := (r20.2.1 != r21.2.1)) (by kernel_rfl) hc29) (APath.chunk 4 (by kernel_rfl) (APath.oneG (.val 110 (.bin .neq) [.t 108, .t 109]) 107 false (by kernel_rfl) (by kernel_rfl) (st_bool (c := (r20.2.2.1 != r21.2.2.1)) (by kernel_rfl) hc30) (APath.fin (by kernel_rfl)))))))))))), by simp only [hc23, hc25, hc27, hc29, hc30]; kernel_rfl⟩
                · exact ⟨_, (APath.chunk 2 (by kernel_rfl) (APath.one (.val 91 (.eqB true) [.t 89, .t 90]) (by kernel_rfl) (st_bool (c := (r18.1 != r19.1)) (by kernel_rfl) hc23) (APath.chunk 3 (by kernel_rfl) (APath.oneG (.val 95 (.bin .neq) [.t 93, .t 94]) 92 false (by kernel_rfl) (by kernel_rfl) (st_bool (c := (r18.2 != r19.2)) (by kernel_rfl) hc25) (APath.chunk 4 (by kernel_rfl) (APath.oneG (.val 100 (.bin .neq) [.t 98, .t 99]) 97 false (by kernel_rfl) (by kernel_rfl) (st_bool (c := (r20.1 != r21.1)) (by kernel_rfl) hc27) (APath.chunk 4 (by kernel_rfl) (APath.oneG (.val 105 (.bin .neq) [.t 103, .t 104]) 102 false (by kernel_rfl) (by kernel_rfl) (st_bool (c := (r20.2.1 != r21.2.1)) (by kernel_rfl) hc29) (APath.chunk 4 (by kernel_rfl) (APath.oneG (.val 110 (.bin .neq) [.t 108, .t 109]) 107 false (by kernel_rfl) (by kernel_rfl) (st_bool (c := (r20.2.2.1 != r21.2.2.1)) (by kernel_rfl) hc31) (APath.fin (by kernel_rfl)))))))))))), by simp only [hc23, hc25, hc27, hc29, hc31]; kernel_rfl⟩
      · refine vc_ite (by kernel_rfl) h (fun hc32 h => ?_) (fun hc32 h => ?_)
        · refine vc_seq ?_
          refine vc_reg (S := ⟨[(6, .p (.bool false))], [], []⟩) (APath.fin (by kernel_rfl)) (by kernel_rfl) ?_
          refine vc_ret ?_
          obtain rfl := some_inj h
          exact ret_of (by kernel_rfl)
        · refine vc_skip ?_
          refine vc_kp ?_
          refine vc_reg (S := ⟨[(49, .agg [.p (.int .i64 a0_.Period), .p (.int .i64 a0_.From), .p (.int .i64 a0_.Long), .p (.int .i64 a1_.Period), .p (.int .i64 a1_.From), .p (.int .i64 a1_.Long), .p (.int .i64 r1.Period), .p (.int .i64 r1.From), .p (.int .i64 r1.Long), .p (.int .i64 r2.Period), .p (.int .i64 r2.From), .p (.int .i64 r2.Long), .p (.int .i64 r1.Period), .p (.int .i64 r1.From), .p (.int .i64 r1.Long), .p (.int .i64 a1_.Period), .p (.int .i64 a1_.From), .p (.int .i64 a1_.Long), .p (.int .i64 a0_.Period), .p (.int .i64 a0_.From), .p (.int .i64 a0_.Long), .p (.int .i64 r2.Period), .p (.int .i64 r2.From), .p (.int .i64 r2.Long)]), (50, .p (.int .i64 2))], [], []⟩) (APath.fin (by kernel_rfl)) (by kernel_rfl) ?_
          refine unr_step ?_
          refine vc_seq ?_
          refine vc_reg (S := ⟨[(49, .agg [.p (.int .i64 a0_.Period), .p (.int .i64 a0_.From), .p (.int .i64 a0_.Long), .p (.int .i64 a1_.Period), .p (.int .i64 a1_.From), .p (.int .i64 a1_.Long), .p (.int .i64 r1.Period), .p (.int .i64 r1.From), .p (.int .i64 r1.Long), .p (.int .i64 r2.Period), .p (.int .i64 r2.From), .p (.int .i64 r2.Long), .p (.int .i64 r1.Period), .p (.int .i64 r1.From), .p (.int .i64 r1.Long), .p (.int .i64 a1_.Period), .p (.int .i64 a1_.From), .p (.int .i64 a1_.Long), .p (.int .i64 a0_.Period), .p (.int .i64 a0_.From), .p (.int .i64 a0_.Long), .p (.int .i64 r2.Period), .p (.int .i64 r2.From), .p (.int .i64 r2.Long)]), (50, .p (.int .i64 2)), (51, .p (.bool true))], [], []⟩) (APath.fin (by kernel_rfl)) (by kernel_rfl) ?_
          refine vc_seq ?_
          refine vc_true (by kernel_rfl) ?_
          refine vc_skip ?_
          refine vc_kp ?_
          refine vc_seq ?_
          refine vc_block ?_
          refine vc_seq ?_
          refine vc_reg (S := ⟨[(10, .loc 10 0), (49, .agg [.p (.int .i64 a0_.Period), .p (.int .i64 a0_.From), .p (.int .i64 a0_.Long), .p (.int .i64 a1_.Period), .p (.int .i64 a1_.From), .p (.int .i64 a1_.Long), .p (.int .i64 r1.Period), .p (.int .i64 r1.From), .p (.int .i64 r1.Long), .p (.int .i64 r2.Period), .p (.int .i64 r2.From), .p (.int .i64 r2.Long), .p (.int .i64 r1.Period), .p (.int .i64 r1.From), .p (.int .i64 r1.Long), .p (.int .i64 a1_.Period), .p (.int .i64 a1_.From), .p (.int .i64 a1_.Long), .p (.int .i64 a0_.Period), .p (.int .i64 a0_.From), .p (.int .i64 a0_.Long), .p (.int .i64 r2.Period), .p (.int .i64 r2.From), .p (.int .i64 r2.Long)]), (50, .p (.int .i64 2))], [(10, [.p (.int .i64 r1.Period), .p (.int .i64 r1.From), .p (.int .i64 r1.Long), .p (.int .i64 a1_.Period), .p (.int .i64 a1_.From), .p (.int .i64 a1_.Long)])], []⟩) (APath.fin (by kernel_rfl)) (by kernel_rfl) ?_
          refine vc_seq ?_
          obtain ⟨r33, hr33, h⟩ := bind_some h
          refine vc_reg (S := ⟨[(10, .loc 10 0), (11, .p (.bool r33.1)), (12, .p (.int .i64 r33.2)), (49, .agg [.p (.int .i64 a0_.Period), .p (.int .i64 a0_.From), .p (.int .i64 a0_.Long), .p (.int .i64 a1_.Period), .p (.int .i64 a1_.From), .p (.int .i64 a1_.Long), .p (.int .i64 r1.Period), .p (.int .i64 r1.From), .p (.int .i64 r1.Long), .p (.int .i64 r2.Period), .p (.int .i64 r2.From), .p (.int .i64 r2.Long), .p (.int .i64 r1.Period), .p (.int .i64 r1.From), .p (.int .i64 r1.Long), .p (.int .i64 a1_.Period), .p (.int .i64 a1_.From), .p (.int .i64 a1_.Long), .p (.int .i64 a0_.Period), .p (.int .i64 a0_.From), .p (.int .i64 a0_.Long), .p (.int .i64 r2.Period), .p (.int .i64 r2.From), .p (.int .i64 r2.Long)]), (50, .p (.int .i64 2))], [(10, [.p (.int .i64 r1.Period), .p (.int .i64 r1.From), .p (.int .i64 r1.Long), .p (.int .i64 a1_.Period), .p (.int .i64 a1_.From), .p (.int .i64 a1_.Long)])], []⟩) (APath.chunk 4 (by kernel_rfl) (APath.one (.call (some 58) 16 [.t 55, .t 57]) (by kernel_rfl) (st_call (by kernel_rfl) (residue_Apart_ok N r1 a1_ r33 hr33)) (APath.fin (by kernel_rfl)))) (by kernel_rfl) ?_
          refine vc_seq ?_
          obtain ⟨r34, hr34, h⟩ := bind_some h
          refine vc_reg (S := ⟨[(10, .loc 10 0), (11, .p (.bool r33.1)), (12, .p (.int .i64 r33.2)), (13, .p (.bool r34.1)), (14, .p (.int .i64 r34.2)), (49, .agg [.p (.int .i64 a0_.Period), .p (.int .i64 a0_.From), .p (.int .i64 a0_.Long), .p (.int .i64 a1_.Period), .p (.int .i64 a1_.From), .p (.int .i64 a1_.Long), .p (.int .i64 r1.Period), .p (.int .i64 r1.From), .p (.int .i64 r1.Long), .p (.int .i64 r2.Period), .p (.int .i64 r2.From), .p (.int .i64 r2.Long), .p (.int .i64 r1.Period), .p (.int .i64 r1.From), .p (.int .i64 r1.Long), .p (.int .i64 a1_.Period), .p (.int .i64 a1_.From), .p (.int .i64 a1_.Long), .p (.int .i64 a0_.Period), .p (.int .i64 a0_.From), .p (.int .i64 a0_.Long), .p (.int .i64 r2.Period), .p (.int .i64 r2.From), .p (.int .i64 r2.Long)]), (50, .p (.int .i64 2))], [(10, [.p (.int .i64 r1.Period), .p (.int .i64 r1.From), .p (.int .i64 r1.Long), .p (.int .i64 a1_.Period), .p (.int .i64 a1_.From), .p (.int .i64 a1_.Long)])], []⟩) (APath.chunk 4 (by kernel_rfl) (APath.one (.call (some 66) 17 [.t 63, .t 65]) (by kernel_rfl) (st_call (by kernel_rfl) (ref23_Apart_ok N r1 a1_ r34 hr34)) (APath.fin (by kernel_rfl)))) (by kernel_rfl) ?_
          refine vc_seq ?_
          obtain ⟨r35, hr35, h⟩ := bind_some h
          refine vc_reg (S := ⟨[(10, .loc 10 0), (11, .p (.bool r33.1)), (12, .p (.int .i64 r33.2)), (13, .p (.bool r34.1)), (14, .p (.int .i64 r34.2)), (15, .p (.int .i64 r35.1)), (16, .p (.int .i64 r35.2.1)), (17, .p (.int .i64 r35.2.2.1)), (18, .p (.int .i64 r35.2.2.2)), (49, .agg [.p (.int .i64 a0_.Period), .p (.int .i64 a0_.From), .p (.int .i64 a0_.Long), .p (.int .i64 a1_.Period), .p (.int .i64 a1_.From), .p (.int .i64 a1_.Long), .p (.int .i64 r1.Period), .p (.int .i64 r1.From), .p (.int .i64 r1.Long), .p (.int .i64 r2.Period), .p (.int .i64 r2.From), .p (.int .i64 r2.Long), .p (.int .i64 r1.Period), .p (.int .i64 r1.From), .p (.int .i64 r1.Long), .p (.int .i64 a1_.Period), .p (.int .i64 a1_.From), .p (.int .i64 a1_.Long), .p (.int .i64 a0_.Period), .p (.int .i64 a0_.From), .p (.int .i64 a0_.Long), .p (.int .i64 r2.Period), .p (.int .i64 r2.From), .p (.int .i64 r2.Long)]), (50, .p (.int .i64 2))], [(10, [.p (.int .i64 r1.Period), .p (.int .i64 r1.From), .p (.int .i64 r1.Long), .p (.int .i64 a1_.Period), .p (.int .i64 a1_.From), .p (.int .i64 a1_.Long)])], []⟩) (APath.chunk 4 (by kernel_rfl) (APath.one (.call (some 74) 18 [.t 71, .t 73]) (by kernel_rfl) (st_call (by kernel_rfl) (residue_Room_ok N r1 a1_ r35 hr35)) (APath.fin (by kernel_rfl)))) (by kernel_rfl) ?_
          refine vc_seq ?_
          obtain ⟨r36, hr36, h⟩ := bind_some h
          refine vc_reg (S := ⟨[(11, .p (.bool r33.1)), (12, .p (.int .i64 r33.2)), (13, .p (.bool r34.1)), (14, .p (.int .i64 r34.2)), (15, .p (.int .i64 r35.1)), (16, .p (.int .i64 r35.2.1)), (17, .p (.int .i64 r35.2.2.1)), (18, .p (.int .i64 r35.2.2.2)), (19, .p (.int .i64 r36.1)), (20, .p (.int .i64 r36.2.1)), (21, .p (.int .i64 r36.2.2.1)), (22, .p (.int .i64 r36.2.2.2)), (49, .agg [.p (.int .i64 a0_.Period), .p (.int .i64 a0_.From), .p (.int .i64 a0_.Long), .p (.int .i64 a1_.Period), .p (.int .i64 a1_.From), .p (.int .i64 a1_.Long), .p (.int .i64 r1.Period), .p (.int .i64 r1.From), .p (.int .i64 r1.Long), .p (.int .i64 r2.Period), .p (.int .i64 r2.From), .p (.int .i64 r2.Long), .p (.int .i64 r1.Period), .p (.int .i64 r1.From), .p (.int .i64 r1.Long), .p (.int .i64 a1_.Period), .p (.int .i64 a1_.From), .p (.int .i64 a1_.Long), .p (.int .i64 a0_.Period), .p (.int .i64 a0_.From), .p (.int .i64 a0_.Long), .p (.int .i64 r2.Period), .p (.int .i64 r2.From), .p (.int .i64 r2.Long)]), (50, .p (.int .i64 2))], [], []⟩) (APath.chunk 4 (by kernel_rfl) (APath.one (.call (some 84) 19 [.t 81, .t 83]) (by kernel_rfl) (st_call (by kernel_rfl) (ref23_Room_ok N r1 a1_ r36 hr36)) (APath.fin (by kernel_rfl)))) (by kernel_rfl) ?_
          refine vc_seq ?_
          refine vc_regX ⟨[(49, .agg [.p (.int .i64 a0_.Period), .p (.int .i64 a0_.From), .p (.int .i64 a0_.Long), .p (.int .i64 a1_.Period), .p (.int .i64 a1_.From), .p (.int .i64 a1_.Long), .p (.int .i64 r1.Period), .p (.int .i64 r1.From), .p (.int .i64 r1.Long), .p (.int .i64 r2.Period), .p (.int .i64 r2.From), .p (.int .i64 r2.Long), .p (.int .i64 r1.Period), .p (.int .i64 r1.From), .p (.int .i64 r1.Long), .p (.int .i64 a1_.Period), .p (.int .i64 a1_.From), .p (.int .i64 a1_.Long), .p (.int .i64 a0_.Period), .p (.int .i64 a0_.From), .p (.int .i64 a0_.Long), .p (.int .i64 r2.Period), .p (.int .i64 r2.From), .p (.int .i64 r2.Long)]), (50, .p (.int .i64 2)), (116, .p (.bool ((r33.1 != r34.1) || ((r33.2 != r34.2) || ((r35.1 != r36.1) || ((r35.2.1 != r36.2.1) || ((r35.2.2.1 != r36.2.2.1) || (r35.2.2.2 != r36.2.2.2))))))))], [], []⟩ ?_ ?_
          · rcases Bool.eq_false_or_eq_true (r33.1 != r34.1) with hc37 | hc38
            · exact ⟨_, (APath.chunk 2 (by kernel_rfl) (APath.one (.val 91 (.eqB true) [.t 89, .t 90]) (by kernel_rfl) (st_bool (c := (r33.1 != r34.1)) (by kernel_rfl) hc37) (APath.fin (by kernel_rfl)))), by simp only [hc37]; kernel_rfl⟩
            · rcases Bool.eq_false_or_eq_true (r33.2 != r34.2) with hc39 | hc40
              · exact ⟨_, (APath.chunk 2 (by kernel_rfl) (APath.one (.val 91 (.eqB true) [.t 89, .t 90]) (by kernel_rfl) (st_bool (c := (r33.1 != r34.1)) (by kernel_rfl) hc38) (APath.chunk 3 (by kernel_rfl) (APath.oneG (.val 95 (.bin .neq) [.t 93, .t 94]) 92 false (by kernel_rfl) (by kernel_rfl) (st_bool (c := (r33.2 != r34.2)) (by kernel_rfl) hc39) (APath.fin (by kernel_rfl)))))), by simp only [hc38, hc39]; kernel_rfl⟩
              · rcases Bool.eq_false_or_eq_true (r35.1 != r36.1) with hc41 | hc42
                · exact ⟨_, (APath.chunk 2 (by kernel_rfl) (APath.one (.val 91 (.eqB true) [.t 89, .t 90]) (by kernel_rfl) (st_bool (c := (r33.1 != r34.1)) (by kernel_rfl) hc38) (APath.chunk 3 (by kernel_rfl) (APath.oneG (.val 95 (.bin .neq) [.t 93, .t 94]) 92 false (by kernel_rfl) (by kernel_rfl) (st_bool (c := (r33.2 != r34.2)) (by kernel_rfl) hc40) (APath.chunk 4 (by kernel_rfl) (APath.oneG (.val 100 (.bin .neq) [.t 98, .t 99]) 97 false (by kernel_rfl) (by kernel_rfl) (st_bool (c := (r35.1 != r36.1)) (by kernel_rfl) hc41) (APath.fin (by kernel_rfl)))))))), by simp only [hc38, hc40, hc41]; kernel_rfl⟩
                · rcases Bool.eq_false_or_eq_true (r35.2.1 != r36.2.1) with hc43 | hc44
                  · exact ⟨_, (APath.chunk 2 (by kernel_rfl) (APath.one (.val 91 (.eqB true) [.t 89, .t 90]) (by kernel_rfl) (st_bool (c := (r33.1 != r34.1)) (by kernel_rfl) hc38) (APath.chunk 3 (by kernel_rfl) (APath.oneG (.val 95 (.bin .neq) [.t 93, .t 94]) 92 false (by kernel_rfl) (by kernel_rfl) (st_bool (c := (r33.2 != r34.2)) (by kernel_rfl) hc40) (APath.chunk 4 (by kernel_rfl) (APath.oneG (.val 100 (.bin .neq) [.t 98, .t 99]) 97 false (by kernel_rfl) (by kernel_rfl) (st_bool (c := (r35.1 != r36.1)) (by kernel_rfl) hc42) (APath.chunk 4 (by kernel_rfl) (APath.oneG (.val 105 (.bin .neq) [.t 103, .t 104]) 102 false (by kernel_rfl) (by kernel_rfl) (st_bool (c := (r35.2.1 != r36.2.1)) (by kernel_rfl) hc43) (APath.fin (by kernel_rfl)))))))))), by simp only [hc38, hc40, hc42, hc43]; kernel_rfl⟩
                  · rcases Bool.eq_false_or_eq_true (r35.2.2.1 != r36.2.2.1) with hc45 | hc46
                    · exact ⟨_, (APath.chunk 2 (by kernel_rfl) (APath.one (.val 91 (.eqB true) [.t 89, .t 90]) (by kernel_rfl) (st_bool (c := (r33.1 != r34.1)) (by kernel_rfl) hc38) (APath.chunk 3 (by kernel_rfl) (APath.oneG (.val 95 (.bin .neq) [.t 93, .t 94]) 92 false (by kernel_rfl) (by kernel_rfl) (st_bool (c := (r33.2 != r34.2)) (by kernel_rfl) hc40) (APath.chunk 4 (by kernel_rfl) (APath.oneG (.val 100 (.bin .neq) [.t 98, .t 99]) 97 false (by kernel_rfl) (by kernel_rfl) (st_bool (c := (r35.1 != r36.1)) (by kernel_rfl) hc42) (APath.chunk 4 (by kernel_rfl) (APath.oneG (.val 105 (.bin .neq) [.t 103, .t 104]) 102 false (by kernel_rfl) (by kernel_rfl) (st_bool (c := (r35.2.1 != r36.2.1)) (by kernel_rfl) hc44) (APath.chunk 4 (by kernel_rfl) (APath.oneG (.val 110 (.bin .neq) [.t 108, .t 109]) 107 false (by kernel_rfl) (by kernel_rfl) (st_bool (c := (r35.2.2.1 != r36.2.2.1)) (by kernel_rfl) hc45) (APath.fin (by kernel_rfl)))))))))))), by simp only [hc38, hc40, hc42, hc44, hc45]; kernel_rfl⟩
                    · exact ⟨_, (APath.chunk 2 (by kernel_rfl) (APath.one (.val 91 (.eqB true) [.t 89, .t 90]) (by kernel_rfl) (st_bool (c := (r33.1 != r34.1)) (by kernel_rfl) hc38) (APath.chunk 3 (by kernel_rfl) (APath.oneG (.val 95 (.bin .neq) [.t 93, .t 94]) 92 false (by kernel_rfl) (by kernel_rfl) (st_bool (c := (r33.2 != r34.2)) (by kernel_rfl) hc40) (APath.chunk 4 (by kernel_rfl) (APath.oneG (.val 100 (.bin .neq) [.t 98, .t 99]) 97 false (by kernel_rfl) (by kernel_rfl) (st_bool (c := (r35.1 != r36.1)) (by kernel_rfl) hc42) (APath.chunk 4 (by kernel_rfl) (APath.oneG (.val 105 (.bin .neq) [.t 103, .t 104]) 102 false (by kernel_rfl) (by kernel_rfl) (st_bool (c := (r35.2.1 != r36.2.1)) (by kernel_rfl) hc44) (APath.chunk 4 (by kernel_rfl) (APath.oneG (.val 110 (.bin .neq) [.t 108, .t 109]) 107 false (by kernel_rfl) (by kernel_rfl) (st_bool (c := (r35.2.2.1 != r36.2.2.1)) (by kernel_rfl) hc46) (APath.fin (by kernel_rfl)))))))))))), by simp only [hc38, hc40, hc42, hc44, hc46]; kernel_rfl⟩
          · refine vc_ite (by kernel_rfl) h (fun hc47 h => ?_) (fun hc47 h => ?_)
            · refine vc_seq ?_
              refine vc_reg (S := ⟨[(6, .p (.bool false))], [], []⟩) (APath.fin (by kernel_rfl)) (by kernel_rfl) ?_
              refine vc_ret ?_
              obtain rfl := some_inj h
              exact ret_of (by kernel_rfl)
            · refine vc_skip ?_
              refine vc_kp ?_
              refine vc_reg (S := ⟨[(49, .agg [.p (.int .i64 a0_.Period), .p (.int .i64 a0_.From), .p (.int .i64 a0_.Long), .p (.int .i64 a1_.Period), .p (.int .i64 a1_.From), .p (.int .i64 a1_.Long), .p (.int .i64 r1.Period), .p (.int .i64 r1.From), .p (.int .i64 r1.Long), .p (.int .i64 r2.Period), .p (.int .i64 r2.From), .p (.int .i64 r2.Long), .p (.int .i64 r1.Period), .p (.int .i64 r1.From), .p (.int .i64 r1.Long), .p (.int .i64 a1_.Period), .p (.int .i64 a1_.From), .p (.int .i64 a1_.Long), .p (.int .i64 a0_.Period), .p (.int .i64 a0_.From), .p (.int .i64 a0_.Long), .p (.int .i64 r2.Period), .p (.int .i64 r2.From), .p (.int .i64 r2.Long)]), (50, .p (.int .i64 3))], [], []⟩) (APath.fin (by kernel_rfl)) (by kernel_rfl) ?_
              refine unr_step ?_
              refine vc_seq ?_
              refine vc_reg (S := ⟨[(49, .agg [.p (.int .i64 a0_.Period), .p (.int .i64 a0_.From), .p (.int .i64 a0_.Long), .p (.int .i64 a1_.Period), .p (.int .i64 a1_.From), .p (.int .i64 a1_.Long), .p (.int .i64 r1.Period), .p (.int .i64 r1.From), .p (.int .i64 r1.Long), .p (.int .i64 r2.Period), .p (.int .i64 r2.From), .p (.int .i64 r2.Long), .p (.int .i64 r1.Period), .p (.int .i64 r1.From), .p (.int .i64 r1.Long), .p (.int .i64 a1_.Period), .p (.int .i64 a1_.From), .p (.int .i64 a1_.Long), .p (.int .i64 a0_.Period), .p (.int .i64 a0_.From), .p (.int .i64 a0_.Long), .p (.int .i64 r2.Period), .p (.int .i64 r2.From), .p (.int .i64 r2.Long)]), (50, .p (.int .i64 3)), (51, .p (.bool true))], [], []⟩) (APath.fin (by kernel_rfl)) (by kernel_rfl) ?_
              refine vc_seq ?_
              refine vc_true (by kernel_rfl) ?_
              refine vc_skip ?_
              refine vc_kp ?_
              refine vc_seq ?_
              refine vc_block ?_
              refine vc_seq ?_
              refine vc_reg (S := ⟨[(10, .loc 10 0), (49, .agg [.p (.int .i64 a0_.Period), .p (.int .i64 a0_.From), .p (.int .i64 a0_.Long), .p (.int .i64 a1_.Period), .p (.int .i64 a1_.From), .p (.int .i64 a1_.Long), .p (.int .i64 r1.Period), .p (.int .i64 r1.From), .p (.int .i64 r1.Long), .p (.int .i64 r2.Period), .p (.int .i64 r2.From), .p (.int .i64 r2.Long), .p (.int .i64 r1.Period), .p (.int .i64 r1.From), .p (.int .i64 r1.Long), .p (.int .i64 a1_.Period), .p (.int .i64 a1_.From), .p (.int .i64 a1_.Long), .p (.int .i64 a0_.Period), .p (.int .i64 a0_.From), .p (.int .i64 a0_.Long), .p (.int .i64 r2.Period), .p (.int .i64 r2.From), .p (.int .i64 r2.Long)]), (50, .p (.int .i64 3))], [(10, [.p (.int .i64 a0_.Period), .p (.int .i64 a0_.From), .p (.int .i64 a0_.Long), .p (.int .i64 r2.Period), .p (.int .i64 r2.From), .p (.int .i64 r2.Long)])], []⟩) (APath.fin (by kernel_rfl)) (by kernel_rfl) ?_
              refine vc_seq ?_
              obtain ⟨r48, hr48, h⟩ := bind_some h
              refine vc_reg (S := ⟨[(10, .loc 10 0), (11, .p (.bool r48.1)), (12, .p (.int .i64 r48.2)), (49, .agg [.p (.int .i64 a0_.Period), .p (.int .i64 a0_.From), .p (.int .i64 a0_.Long), .p (.int .i64 a1_.Period), .p (.int .i64 a1_.From), .p (.int .i64 a1_.Long), .p (.int .i64 r1.Period), .p (.int .i64 r1.From), .p (.int .i64 r1.Long), .p (.int .i64 r2.Period), .p (.int .i64 r2.From), .p (.int .i64 r2.Long), .p (.int .i64 r1.Period), .p (.int .i64 r1.From), .p (.int .i64 r1.Long), .p (.int .i64 a1_.Period), .p (.int .i64 a1_.From), .p (.int .i64 a1_.Long), .p (.int .i64 a0_.Period), .p (.int .i64 a0_.From), .p (.int .i64 a0_.Long), .p (.int .i64 r2.Period), .p (.int .i64 r2.From), .p (.int .i64 r2.Long)]), (50, .p (.int .i64 3))], [(10, [.p (.int .i64 a0_.Period), .p (.int .i64 a0_.From), .p (.int .i64 a0_.Long), .p (.int .i64 r2.Period), .p (.int .i64 r2.From), .p (.int .i64 r2.Long)])], []⟩) (APath.chunk 4 (by kernel_rfl) (APath.one (.call (some 58) 16 [.t 55, .t 57]) (by kernel_rfl) (st_call (by kernel_rfl) (residue_Apart_ok N a0_ r2 r48 hr48)) (APath.fin (by kernel_rfl)))) (by kernel_rfl) ?_
              refine vc_seq ?_
              obtain ⟨r49, hr49, h⟩ := bind_some h
              refine vc_reg (S := ⟨[(10, .loc 10 0), (11, .p (.bool r48.1)), (12, .p (.int .i64 r48.2)), (13, .p (.bool r49.1)), (14, .p (.int .i64 r49.2)), (49, .agg [.p (.int .i64 a0_.Period), .p (.int .i64 a0_.From), .p (.int .i64 a0_.Long), .p (.int .i64 a1_.Period), .p (.int .i64 a1_.From), .p (.int .i64 a1_.Long), .p (.int .i64 r1.Period), .p (.int .i64 r1.From), .p (.int .i64 r1.Long), .p (.int .i64 r2.Period), .p (.int .i64 r2.From), .p (.int .i64 r2.Long), .p (.int .i64 r1.Period), .p (.int .i64 r1.From), .p (.int .i64 r1.Long), .p (.int .i64 a1_.Period), .p (.int .i64 a1_.From), .p (.int .i64 a1_.Long), .p (.int .i64 a0_.Period), .p (.int .i64 a0_.From), .p (.int .i64 a0_.Long), .p (.int .i64 r2.Period), .p (.int .i64 r2.From), .p (.int .i64 r2.Long)]), (50, .p (.int .i64 3))], [(10, [.p (.int .i64 a0_.Period), .p (.int .i64 a0_.From), .p (.int .i64 a0_.Long), .p (.int .i64 r2.Period), .p (.int .i64 r2.From), .p (.int .i64 r2.Long)])], []⟩) (APath.chunk 4 (by kernel_rfl) (APath.one (.call (some 66) 17 [.t 63, .t 65]) (by kernel_rfl) (st_call (by kernel_rfl) (ref23_Apart_ok N a0_ r2 r49 hr49)) (APath.fin (by kernel_rfl)))) (by kernel_rfl) ?_
              refine vc_seq ?_
              obtain ⟨r50, hr50, h⟩ := bind_some h
              refine vc_reg (S := ⟨[(10, .loc 10 0), (11, .p (.bool r48.1)), (12, .p (.int .i64 r48.2)), (13, .p (.bool r49.1)), (14, .p (.int .i64 r49.2)), (15, .p (.int .i64 r50.1)), (16, .p (.int .i64 r50.2.1)), (17, .p (.int .i64 r50.2.2.1)), (18, .p (.int .i64 r50.2.2.2)), (49, .agg [.p (.int .i64 a0_.Period), .p (.int .i64 a0_.From), .p (.int .i64 a0_.Long), .p (.int .i64 a1_.Period), .p (.int .i64 a1_.From), .p (.int .i64 a1_.Long), .p (.int .i64 r1.Period), .p (.int .i64 r1.From), .p (.int .i64 r1.Long), .p (.int .i64 r2.Period), .p (.int .i64 r2.From), .p (.int .i64 r2.Long), .p (.int .i64 r1.Period), .p (.int .i64 r1.From), .p (.int .i64 r1.Long), .p (.int .i64 a1_.Period), .p (.int .i64 a1_.From), .p (.int .i64 a1_.Long), .p (.int .i64 a0_.Period), .p (.int .i64 a0_.From), .p (.int .i64 a0_.Long), .p (.int .i64 r2.Period), .p (.int .i64 r2.From), .p (.int .i64 r2.Long)]), (50, .p (.int .i64 3))], [(10, [.p (.int .i64 a0_.Period), .p (.int .i64 a0_.From), .p (.int .i64 a0_.Long), .p (.int .i64 r2.Period), .p (.int .i64 r2.From), .p (.int .i64 r2.Long)])], []⟩) (APath.chunk 4 (by kernel_rfl) (APath.one (.call (some 74) 18 [.t 71, .t 73]) (by kernel_rfl) (st_call (by kernel_rfl) (residue_Room_ok N a0_ r2 r50 hr50)) (APath.fin (by kernel_rfl)))) (by kernel_rfl) ?_
              refine vc_seq ?_
              obtain ⟨r51, hr51, h⟩ := bind_some h
              refine vc_reg (S := ⟨[(11, .p (.bool r48.1)), (12, .p (.int .i64 r48.2)), (13, .p (.bool r49.1)), (14, .p (.int .i64 r49.2)), (15, .p (.int .i64 r50.1)), (16, .p (.int .i64 r50.2.1)), (17, .p (.int .i64 r50.2.2.1)), (18, .p (.int .i64 r50.2.2.2)), (19, .p (.int .i64 r51.1)), (20, .p (.int .i64 r51.2.1)), (21, .p (.int .i64 r51.2.2.1)), (22, .p (.int .i64 r51.2.2.2)), (49, .agg [.p (.int .i64 a0_.Period), .p (.int .i64 a0_.From), .p (.int .i64 a0_.Long), .p (.int .i64 a1_.Period), .p (.int .i64 a1_.From), .p (.int .i64 a1_.Long), .p (.int .i64 r1.Period), .p (.int .i64 r1.From), .p (.int .i64 r1.Long), .p (.int .i64 r2.Period), .p (.int .i64 r2.From), .p (.int .i64 r2.Long), .p (.int .i64 r1.Period), .p (.int .i64 r1.From), .p (.int .i64 r1.Long), .p (.int .i64 a1_.Period), .p (.int .i64 a1_.From), .p (.int .i64 a1_.Long), .p (.int .i64 a0_.Period), .p (.int .i64 a0_.From), .p (.int .i64 a0_.Long), .p (.int .i64 r2.Period), .p (.int .i64 r2.From), .p (.int .i64 r2.Long)]), (50, .p (.int .i64 3))], [], []⟩) (APath.chunk 4 (by kernel_rfl) (APath.one (.call (some 84) 19 [.t 81, .t 83]) (by kernel_rfl) (st_call (by kernel_rfl) (ref23_Room_ok N a0_ r2 r51 hr51)) (APath.fin (by kernel_rfl)))) (by kernel_rfl) ?_
              refine vc_seq ?_
              refine vc_regX ⟨[(49, .agg [.p (.int .i64 a0_.Period), .p (.int .i64 a0_.From), .p (.int .i64 a0_.Long), .p (.int .i64 a1_.Period), .p (.int .i64 a1_.From), .p (.int .i64 a1_.Long), .p (.int .i64 r1.Period), .p (.int .i64 r1.From), .p (.int .i64 r1.Long), .p (.int .i64 r2.Period), .p (.int .i64 r2.From), .p (.int .i64 r2.Long), .p (.int .i64 r1.Period), .p (.int .i64 r1.From), .p (.int .i64 r1.Long), .p (.int .i64 a1_.Period), .p (.int .i64 a1_.From), .p (.int .i64 a1_.Long), .p (.int .i64 a0_.Period), .p (.int .i64 a0_.From), .p (.int .i64 a0_.Long), .p (.int .i64 r2.Period), .p (.int .i64 r2.From), .p (.int .i64 r2.Long)]), (50, .p (.int .i64 3)), (116, .p (.bool ((r48.1 != r49.1) || ((r48.2 != r49.2) || ((r50.1 != r51.1) || ((r50.2.1 != r51.2.1) || ((r50.2.2.1 != r51.2.2.1) || (r50.2.2.2 != r51.2.2.2))))))))], [], []⟩ ?_ ?_
              · rcases Bool.eq_false_or_eq_true (r48.1 != r49.1) with hc52 | hc53
                · exact ⟨_, (APath.chunk 2 (by kernel_rfl) (APath.one (.val 91 (.eqB true) [.t 89, .t 90]) (by kernel_rfl) (st_bool (c := (r48.1 != r49.1)) (by kernel_rfl) hc52) (APath.fin (by kernel_rfl)))), by simp only [hc52]; kernel_rfl⟩
                · rcases Bool.eq_false_or_eq_true (r48.2 != r49.2) with hc54 | hc55
                  · exact ⟨_, (APath.chunk 2 (by kernel_rfl) (APath.one (.val 91 (.eqB true) [.t 89, .t 90]) (by kernel_rfl) (st_bool (c := (r48.1 != r49.1)) (by kernel_rfl) hc53) (APath.chunk 3 (by kernel_rfl) (APath.oneG (.val 95 (.bin .neq) [.t 93, .t 94]) 92 false (by kernel_rfl) (by kernel_rfl) (st_bool (c := (r48.2 != r49.2)) (by kernel_rfl) hc54) (APath.fin (by kernel_rfl)))))), by simp only [hc53, hc54]; kernel_rfl⟩
                  · rcases Bool.eq_false_or_eq_true (r50.1 != r51.1) with hc56 | hc57
                    · exact ⟨_, (APath.chunk 2 (by kernel_rfl) (APath.one (.val 91 (.eqB true) [.t 89, .t 90]) (by kernel_rfl) (st_bool (c := (r48.1 != r49.1)) (by kernel_rfl) hc53) (APath.chunk 3 (by kernel_rfl) (APath.oneG (.val 95 (.bin .neq) [.t 93, .t 94]) 92 false (by kernel_rfl) (by kernel_rfl) (st_bool (c := (r48.2 != r49.2)) (by kernel_rfl) hc55) (APath.chunk 4 (by kernel_rfl) (APath.oneG (.val 100 (.bin .neq) [.t 98, .t 99]) 97 false (by kernel_rfl) (by kernel_rfl) (st_bool (c := (r50.1 != r51.1)) (by kernel_rfl) hc56) (APath.fin (by kernel_rfl)))))))), by simp only [hc53, hc55, hc56]; kernel_rfl⟩
                    · rcases Bool.eq_false_or_eq_true (r50.2.1 != r51.2.1) with hc58 | hc59
                      · exact ⟨_, (APath.chunk 2 (by kernel_rfl) (APath.one (.val 91 (.eqB true) [.t 89, .t 90]) (by kernel_rfl) (st_bool (c := (r48.1 != r49.1)) (by kernel_rfl) hc53) (APath.chunk 3 (by kernel_rfl) (APath.oneG (.val 95 (.bin .neq) [.t 93, .t 94]) 92 false (by kernel_rfl) (by kernel_rfl) (st_bool (c := (r48.2 != r49.2)) (by kernel_rfl) hc55) (APath.chunk 4 (by kernel_rfl) (APath.oneG (.val 100 (.bin .neq) [.t 98, .t 99]) 97 false (by kernel_rfl) (by kernel_rfl) (st_bool (c := (r50.1 != r51.1)) (by kernel_rfl) hc57) (APath.chunk 4 (by kernel_rfl) (APath.oneG (.val 105 (.bin .neq) [.t 103, .t 104]) 102 false (by kernel_rfl) (by kernel_rfl) (st_bool (c := (r50.2.1 != r51.2.1)) (by kernel_rfl) hc58) (APath.fin (by kernel_rfl)))))))))), by simp only [hc53, hc55, hc57, hc58]; kernel_rfl⟩
                      · rcases Bool.eq_false_or_eq_true (r50.2.2.1 != r51.2.2.1) with hc60 | hc61
                        · exact ⟨_, (APath.chunk 2 (by kernel_rfl) (APath.one (.val 91 (.eqB true) [.t 89, .t 90]) (by kernel_rfl) (st_bool (c := (r48.1 != r49.1)) (by kernel_rfl) hc53) (APath.chunk 3 (by kernel_rfl) (APath.oneG (.val 95 (.bin .neq) [.t 93, .t 94]) 92 false (by kernel_rfl) (by kernel_rfl) (st_bool (c := (r48.2 != r49.2)) (by kernel_rfl) hc55) (APath.chunk 4 (by kernel_rfl) (APath.oneG (.val 100 (.bin .neq) [.t 98, .t 99]) 97 false (by kernel_rfl) (by kernel_rfl) (st_bool (c := (r50.1 != r51.1)) (by kernel_rfl) hc57) (APath.chunk 4 (by kernel_rfl) (APath.oneG (.val 105 (.bin .neq) [.t 103, .t 104]) 102 false (by kernel_rfl) (by kernel_rfl) (st_bool (c := (r50.2.1 != r51.2.1)) (by kernel_rfl) hc59) (APath.chunk 4 (by kernel_rfl) (APath.oneG (.val 110 (.bin .neq) [.t 108, .t 109]) 107 false (by kernel_rfl) (by kernel_rfl) (st_bool (c := (r50.2.2.1 != r51.2.2.1)) (by kernel_rfl) hc60) (APath.fin (by kernel_rfl)))))))))))), by simp only [hc53, hc55, hc57, hc59, hc60]; kernel_rfl⟩
                        · exact ⟨_, (APath.chunk 2 (by kernel_rfl) (APath.one (.val 91 (.eqB true) [.t 89, .t 90]) (by kernel_rfl) (st_bool (c := (r48.1 != r49.1)) (by kernel_rfl) hc53) (APath.chunk 3 (by kernel_rfl) (APath.oneG (.val 95 (.bin .neq) [.t 93, .t 94]) 92 false (by kernel_rfl) (by kernel_rfl) (st_bool (c := (r48.2 != r49.2)) (by kernel_rfl) hc55) (APath.chunk 4 (by kernel_rfl) (APath.oneG (.val 100 (.bin .neq) [.t 98, .t 99]) 97 false (by kernel_rfl) (by kernel_rfl) (st_bool (c := (r50.1 != r51.1)) (by kernel_rfl) hc57) (APath.chunk 4 (by kernel_rfl) (APath.oneG (.val 105 (.bin .neq) [.t 103, .t 104]) 102 false (by kernel_rfl) (by kernel_rfl) (st_bool (c := (r50.2.1 != r51.2.1)) (by kernel_rfl) hc59) (APath.chunk 4 (by kernel_rfl) (APath.oneG (.val 110 (.bin .neq) [.t 108, .t 109]) 107 false (by kernel_rfl) (by kernel_rfl) (st_bool (c := (r50.2.2.1 != r51.2.2.1)) (by kernel_rfl) hc61) (APath.fin (by kernel_rfl)))))))))))), by simp only [hc53, hc55, hc57, hc59, hc61]; kernel_rfl⟩
              · refine vc_ite (by kernel_rfl) h (fun hc62 h => ?_) (fun hc62 h => ?_)
                · refine vc_seq ?_
                  refine vc_reg (S := ⟨[(6, .p (.bool false))], [], []⟩) (APath.fin (by kernel_rfl)) (by kernel_rfl) ?_
                  refine vc_ret ?_
                  obtain rfl := some_inj h
                  exact ret_of (by kernel_rfl)
                · refine vc_skip ?_
                  refine vc_kp ?_
                  refine vc_reg (S := ⟨[(49, .agg [.p (.int .i64 a0_.Period), .p (.int .i64 a0_.From), .p (.int .i64 a0_.Long), .p (.int .i64 a1_.Period), .p (.int .i64 a1_.From), .p (.int .i64 a1_.Long), .p (.int .i64 r1.Period), .p (.int .i64 r1.From), .p (.int .i64 r1.Long), .p (.int .i64 r2.Period), .p (.int .i64 r2.From), .p (.int .i64 r2.Long), .p (.int .i64 r1.Period), .p (.int .i64 r1.From), .p (.int .i64 r1.Long), .p (.int .i64 a1_.Period), .p (.int .i64 a1_.From), .p (.int .i64 a1_.Long), .p (.int .i64 a0_.Period), .p (.int .i64 a0_.From), .p (.int .i64 a0_.Long), .p (.int .i64 r2.Period), .p (.int .i64 r2.From), .p (.int .i64 r2.Long)]), (50, .p (.int .i64 4))], [], []⟩) (APath.fin (by kernel_rfl)) (by kernel_rfl) ?_
                  refine unr_step ?_
                  refine vc_seq ?_
                  refine vc_reg (S := ⟨[(49, .agg [.p (.int .i64 a0_.Period), .p (.int .i64 a0_.From), .p (.int .i64 a0_.Long), .p (.int .i64 a1_.Period), .p (.int .i64 a1_.From), .p (.int .i64 a1_.Long), .p (.int .i64 r1.Period), .p (.int .i64 r1.From), .p (.int .i64 r1.Long), .p (.int .i64 r2.Period), .p (.int .i64 r2.From), .p (.int .i64 r2.Long), .p (.int .i64 r1.Period), .p (.int .i64 r1.From), .p (.int .i64 r1.Long), .p (.int .i64 a1_.Period), .p (.int .i64 a1_.From), .p (.int .i64 a1_.Long), .p (.int .i64 a0_.Period), .p (.int .i64 a0_.From), .p (.int .i64 a0_.Long), .p (.int .i64 r2.Period), .p (.int .i64 r2.From), .p (.int .i64 r2.Long)]), (50, .p (.int .i64 4)), (51, .p (.bool false))], [], []⟩) (APath.fin (by kernel_rfl)) (by kernel_rfl) ?_
                  refine vc_seq ?_
                  refine vc_false (by kernel_rfl) ?_
                  refine vc_exit ?_
                  try show vc _ _ _ _ _
                  refine vc_seq ?_
                  obtain ⟨r63, hr63, h⟩ := bind_some h
                  refine vc_reg (S := ⟨[(6, .p (.bool r63))], [], []⟩) (APath.one (.call (some 118) 15 []) (by kernel_rfl) (st_call (by kernel_rfl) (law23_works_ok N  r63 hr63)) (APath.fin (by kernel_rfl))) (by kernel_rfl) ?_
                  refine vc_ret ?_
                  obtain rfl := some_inj h
                  exact ret_of (by kernel_rfl)
/- isochronlaw23.ResidueNexts -/
theorem law23_ResidueNexts_ok (N : Nat) (a0_ : (List Arr3_u8)) (a1_ : api_Span) (a2_ : Int) (a3_ : api_Span) (a4_ : Arr3_u8) (r : Bool) (h : law23_ResidueNexts N a0_ a1_ a2_ a3_ a4_ = some r) : PCall Try.prog 5 [.p (.sl 3 false (List.map e_Arr3_u8 a0_)), .agg [.p (.int .i64 a1_.Period), .p (.int .i64 a1_.From), .p (.int .i64 a1_.Long)], .p (.int .u8 a2_), .agg [.p (.int .i64 a3_.Period), .p (.int .i64 a3_.From), .p (.int .i64 a3_.Long)], .agg [.p (.int .u8 a4_.x0), .p (.int .u8 a4_.x1), .p (.int .u8 a4_.x2)]] (.p (.bool r)) := by
  unfold law23_ResidueNexts at h
  have hH : HP ([] : List HO) [] := trivial
  refine pcall_of chk5 rfl rfl (vc_sound _ _ _ ?_) rfl
  refine vc_seq ?_
  refine vc_reg (S := ⟨[(0, .p (.sl 3 false (List.map e_Arr3_u8 a0_))), (2, .p (.int .u8 a2_)), (6, .loc 6 0), (8, .loc 8 0), (9, .loc 9 0)], [(6, [.p (.int .i64 a1_.Period), .p (.int .i64 a1_.From), .p (.int .i64 a1_.Long)]), (8, [.p (.int .i64 a3_.Period), .p (.int .i64 a3_.From), .p (.int .i64 a3_.Long)]), (9, [.p (.int .u8 a4_.x0), .p (.int .u8 a4_.x1), .p (.int .u8 a4_.x2)])], []⟩) (APath.fin (by kernel_rfl)) (by kernel_rfl) ?_
  refine vc_seq ?_
  obtain ⟨r1, hr1, h⟩ := bind_some h
  refine vc_reg (S := ⟨[(2, .p (.int .u8 a2_)), (6, .loc 6 0), (8, .loc 8 0), (9, .loc 9 0), (11, .p (.sl 3 false (List.map e_api_Span r1)))], [(6, [.p (.int .i64 a1_.Period), .p (.int .i64 a1_.From), .p (.int .i64 a1_.Long)]), (8, [.p (.int .i64 a3_.Period), .p (.int .i64 a3_.From), .p (.int .i64 a3_.Long)]), (9, [.p (.int .u8 a4_.x0), .p (.int .u8 a4_.x1), .p (.int .u8 a4_.x2)])], []⟩) (APath.chunk 1 (by kernel_rfl) (APath.one (.call (some 26) 20 [.t 25, .k (.p (.int .i64 34))]) (by kernel_rfl) (st_call (by kernel_rfl) (law23_drafts_ok N a0_ 34 r1 hr1)) (APath.fin (by kernel_rfl)))) (by kernel_rfl) ?_
  refine vc_seq ?_
  obtain ⟨l4, hl4, h⟩ := bind_some h
  obtain ⟨a2, H3, ha2, hH⟩ := app_nil (sz := 3) e_api_Span hH hl4
  replace hH : HP H3 [.arr a2 3 false (List.map e_api_Span l4)] := hH
  have hfa2 := own_form (HP.get hH 0 rfl)
  refine vc_reg (S := ⟨[(2, .p (.int .u8 a2_)), (6, .loc 6 0), (8, .loc 8 0), (9, .loc 9 0), (11, .p (.sl 3 false (List.map e_api_Span r1))), (12, a2)], [(6, [.p (.int .i64 a1_.Period), .p (.int .i64 a1_.From), .p (.int .i64 a1_.Long)]), (8, [.p (.int .i64 a3_.Period), .p (.int .i64 a3_.From), .p (.int .i64 a3_.Long)]), (9, [.p (.int .u8 a4_.x0), .p (.int .u8 a4_.x1), .p (.int .u8 a4_.x2)])], H3⟩) (APath.chunk 2 (by rcases hfa2 with ha2e | ⟨_, _, ha2e⟩ <;> subst ha2e <;> kernel_rfl) (APath.one (.app 29 (.t 27) (.t 28) 3 24) (by kernel_rfl) (st_app (H := []) (a := .p (.sl 3 true (List.map e_api_Span []))) (b := .p (.sl 3 false (List.map e_api_Span r1))) (by rcases hfa2 with ha2e | ⟨_, _, ha2e⟩ <;> subst ha2e <;> kernel_rfl) (by rcases hfa2 with ha2e | ⟨_, _, ha2e⟩ <;> subst ha2e <;> kernel_rfl) (by rcases hfa2 with ha2e | ⟨_, _, ha2e⟩ <;> subst ha2e <;> kernel_rfl) (by rcases hfa2 with ha2e | ⟨_, _, ha2e⟩ <;> subst ha2e <;> kernel_rfl) ha2) (APath.fin (by rcases hfa2 with ha2e | ⟨_, _, ha2e⟩ <;> subst ha2e <;> kernel_rfl)))) (by rcases hfa2 with ha2e | ⟨_, _, ha2e⟩ <;> subst ha2e <;> kernel_rfl) ?_
  obtain ⟨j507, hj507, h⟩ := bind_some h
  refine vc_joinK [8, 9, 11, 12] (fun s => ∃ (a505 : AV) (H506 : List HO), s = ⟨[(8, .loc 8 0), (9, .loc 9 0), (11, .p (.sl 3 false (List.map e_api_Span r1))), (12, a505)], [(8, [.p (.int .i64 a3_.Period), .p (.int .i64 a3_.From), .p (.int .i64 a3_.Long)]), (9, [.p (.int .u8 a4_.x0), .p (.int .u8 a4_.x1), .p (.int .u8 a4_.x2)])], H506⟩ ∧ HP H506 [.arr a505 3 false (List.map e_api_Span j507)]) ?_ ?_
  · clear h
    have h := hj507
    refine vc_seq ?_
    have hln508 := HP.len (k := 0) (a := a2) (sz := 3) (frz := false) (l := l4) e_api_Span hH rfl
    refine vc_reg (S := ⟨[(2, .p (.int .u8 a2_)), (6, .loc 6 0), (8, .loc 8 0), (9, .loc 9 0), (11, .p (.sl 3 false (List.map e_api_Span r1))), (12, a2), (32, .p (.bool (decide (((List.length l4 : Nat) : Int) > 0))))], [(6, [.p (.int .i64 a1_.Period), .p (.int .i64 a1_.From), .p (.int .i64 a1_.Long)]), (8, [.p (.int .i64 a3_.Period), .p (.int .i64 a3_.From), .p (.int .i64 a3_.Long)]), (9, [.p (.int .u8 a4_.x0), .p (.int .u8 a4_.x1), .p (.int .u8 a4_.x2)])], H3⟩) (APath.chunk 1 (by rcases hfa2 with ha2e | ⟨_, _, ha2e⟩ <;> subst ha2e <;> kernel_rfl) (APath.one (.val 31 .len [.t 30]) (by kernel_rfl) (st_val (ys := [a2]) (by rcases hfa2 with ha2e | ⟨_, _, ha2e⟩ <;> subst ha2e <;> kernel_rfl) hln508) (APath.fin (by rcases hfa2 with ha2e | ⟨_, _, ha2e⟩ <;> subst ha2e <;> kernel_rfl)))) (by rcases hfa2 with ha2e | ⟨_, _, ha2e⟩ <;> subst ha2e <;> kernel_rfl) ?_
    refine vc_ite (by kernel_rfl) h (fun hc509 h => ?_) (fun hc509 h => ?_)
    · have hln510 := HP.len (k := 0) (a := a2) (sz := 3) (frz := false) (l := l4) e_api_Span hH rfl
      obtain ⟨m511, hm511, h⟩ := bind_some h
      obtain ⟨e512, he512, h⟩ := bind_some h
      obtain ⟨id513, ver514, _, hid513f, hid513, hid513a, hid513v⟩ := HP.elem (k := 0) (a := a2) (sz := 3) (frz := false) e_api_Span hH rfl he512
      obtain ⟨H515, hH515, hH⟩ := HP.setRow (k := 0) (off := 0) (cs := [.p (.int .i64 a1_.Period), .p (.int .i64 a1_.From), .p (.int .i64 a1_.Long)]) (ps := [.int .i64 a1_.Period, .int .i64 a1_.From, .int .i64 a1_.Long]) (e' := a1_) e_api_Span hH rfl hid513a hid513 (hid513f rfl) he512 (by kernel_rfl) (by kernel_rfl)
      replace hH : HP H515 [.arr a2 3 false (List.map e_api_Span (List.set l4 (Int.toNat m511) a1_))] := hH
      refine vc_regD (S := ⟨[(8, .loc 8 0), (9, .loc 9 0), (11, .p (.sl 3 false (List.map e_api_Span r1))), (12, a2)], [(8, [.p (.int .i64 a3_.Period), .p (.int .i64 a3_.From), .p (.int .i64 a3_.Long)]), (9, [.p (.int .u8 a4_.x0), .p (.int .u8 a4_.x1), .p (.int .u8 a4_.x2)])], H515⟩) (by rcases hfa2 with ha2e | ⟨_, _, ha2e⟩ <;> subst ha2e <;> kernel_rfl) (APath.chunk 4 (by rcases hfa2 with ha2e | ⟨_, _, ha2e⟩ <;> subst ha2e <;> kernel_rfl) (APath.one (.val 37 .len [.t 36]) (by kernel_rfl) (st_val (ys := [a2]) (by rcases hfa2 with ha2e | ⟨_, _, ha2e⟩ <;> subst ha2e <;> kernel_rfl) hln510) (APath.one (.val 38 (.bin .rem) [.t 35, .t 37]) (by kernel_rfl) (st_val (ys := [.p (.int .i64 (w64 (a2_))), .p (.int .i64 ((List.length l4 : Nat) : Int))]) (by rcases hfa2 with ha2e | ⟨_, _, ha2e⟩ <;> subst ha2e <;> kernel_rfl) (vexec_rem hm511)) (APath.chunk 1 (by rcases hfa2 with ha2e | ⟨_, _, ha2e⟩ <;> subst ha2e <;> kernel_rfl) (APath.one (.val 40 (.iaddrS 3) [.t 33, .t 38]) (by kernel_rfl) (st_val (ys := [a2, .p (.int .i64 m511)]) (by rcases hfa2 with ha2e | ⟨_, _, ha2e⟩ <;> subst ha2e <;> kernel_rfl) (hid513v .i64)) (APath.one (.store (.t 40) (.t 39) 3) (by kernel_rfl) (st_storeH (H := H3) (v := .agg [.p (.int .i64 a1_.Period), .p (.int .i64 a1_.From), .p (.int .i64 a1_.Long)]) (by rcases hfa2 with ha2e | ⟨_, _, ha2e⟩ <;> subst ha2e <;> kernel_rfl) (by rcases hfa2 with ha2e | ⟨_, _, ha2e⟩ <;> subst ha2e <;> kernel_rfl) (by rcases hfa2 with ha2e | ⟨_, _, ha2e⟩ <;> subst ha2e <;> kernel_rfl) (by rcases hfa2 with ha2e | ⟨_, _, ha2e⟩ <;> subst ha2e <;> kernel_rfl) hH515) APath.done)))))) (by rcases hfa2 with ha2e | ⟨_, _, ha2e⟩ <;> subst ha2e <;> kernel_rfl) ?_
      obtain rfl := some_inj h
      exact ⟨rfl, ⟨a2, H515, (by show _ = _; rcases hfa2 with ha2e | ⟨_, _, ha2e⟩ <;> subst ha2e <;> kernel_rfl), (HP.pick hH [0] rfl)⟩⟩
    · refine vc_skip ?_
      obtain rfl := some_inj h
      exact ⟨rfl, ⟨a2, H3, (by show _ = _; rcases hfa2 with ha2e | ⟨_, _, ha2e⟩ <;> subst ha2e <;> kernel_rfl), (HP.pick hH [0] rfl)⟩⟩
  · clear hj507
    rintro s hR
    obtain ⟨a505, H506, rfl, hH⟩ := hR
    replace hH : HP H506 [.arr a505 3 false (List.map e_api_Span j507)] := hH
    have hfa505 := own_form (HP.get hH 0 rfl)
    refine vc_seq ?_
    refine vc_seq ?_
    refine vc_reg (S := ⟨[(8, .loc 8 0), (9, .loc 9 0), (43, .agg [.p (.sl 3 false (List.map e_api_Span r1)), a505]), (44, .p (.int .i64 0))], [(8, [.p (.int .i64 a3_.Period), .p (.int .i64 a3_.From), .p (.int .i64 a3_.Long)]), (9, [.p (.int .u8 a4_.x0), .p (.int .u8 a4_.x1), .p (.int .u8 a4_.x2)])], H506⟩) (APath.fin (by rcases hfa505 with ha505e | ⟨_, _, ha505e⟩ <;> subst ha505e <;> kernel_rfl)) (by rcases hfa505 with ha505e | ⟨_, _, ha505e⟩ <;> subst ha505e <;> kernel_rfl) ?_
    refine vc_block ?_
    refine vc_unroll 14 ?_
    refine unr_step ?_
    refine vc_seq ?_
    refine vc_reg (S := ⟨[(8, .loc 8 0), (9, .loc 9 0), (43, .agg [.p (.sl 3 false (List.map e_api_Span r1)), a505]), (44, .p (.int .i64 0)), (45, .p (.bool true))], [(8, [.p (.int .i64 a3_.Period), .p (.int .i64 a3_.From), .p (.int .i64 a3_.Long)]), (9, [.p (.int .u8 a4_.x0), .p (.int .u8 a4_.x1), .p (.int .u8 a4_.x2)])], H506⟩) (APath.fin (by rcases hfa505 with ha505e | ⟨_, _, ha505e⟩ <;> subst ha505e <;> kernel_rfl)) (by rcases hfa505 with ha505e | ⟨_, _, ha505e⟩ <;> subst ha505e <;> kernel_rfl) ?_
    refine vc_seq ?_
    refine vc_true (by kernel_rfl) ?_
    refine vc_skip ?_
    refine vc_kp ?_
    refine vc_seq ?_
    refine vc_block ?_
    refine vc_seq ?_
    refine vc_reg (S := ⟨[(8, .loc 8 0), (9, .loc 9 0), (14, .p (.sl 3 false (List.map e_api_Span r1))), (43, .agg [.p (.sl 3 false (List.map e_api_Span r1)), a505]), (44, .p (.int .i64 0))], [(8, [.p (.int .i64 a3_.Period), .p (.int .i64 a3_.From), .p (.int .i64 a3_.Long)]), (9, [.p (.int .u8 a4_.x0), .p (.int .u8 a4_.x1), .p (.int .u8 a4_.x2)])], H506⟩) (APath.fin (by rcases hfa505 with ha505e | ⟨_, _, ha505e⟩ <;> subst ha505e <;> kernel_rfl)) (by rcases hfa505 with ha505e | ⟨_, _, ha505e⟩ <;> subst ha505e <;> kernel_rfl) ?_
    refine vc_seq ?_
    refine vc_seq ?_
    obtain ⟨r516, hr516, h⟩ := bind_some h
    refine vc_regD (S := ⟨[(8, .loc 8 0), (9, .loc 9 0), (14, .p (.sl 3 false (List.map e_api_Span r1))), (43, .agg [.p (.sl 3 false (List.map e_api_Span r1)), a505]), (44, .p (.int .i64 0)), (55, .agg [.p (.int .i64 a3_.Period), .p (.int .i64 a3_.From), .p (.int .i64 a3_.Long), .p (.int .i64 r516.Period), .p (.int .i64 r516.From), .p (.int .i64 r516.Long)]), (56, .p (.int .i64 0))], [(8, [.p (.int .i64 a3_.Period), .p (.int .i64 a3_.From), .p (.int .i64 a3_.Long)]), (9, [.p (.int .u8 a4_.x0), .p (.int .u8 a4_.x1), .p (.int .u8 a4_.x2)])], H506⟩) (by rcases hfa505 with ha505e | ⟨_, _, ha505e⟩ <;> subst ha505e <;> kernel_rfl) (APath.chunk 7 (by rcases hfa505 with ha505e | ⟨_, _, ha505e⟩ <;> subst ha505e <;> kernel_rfl) (APath.one (.callP 54 10 [.t 49, .t 51, .t 53]) (by kernel_rfl) (st_callP (by rcases hfa505 with ha505e | ⟨_, _, ha505e⟩ <;> subst ha505e <;> kernel_rfl) (ref23_Of_ok N a4_.x0 a4_.x1 a4_.x2 r516 hr516)) (APath.fin (by rcases hfa505 with ha505e | ⟨_, _, ha505e⟩ <;> subst ha505e <;> kernel_rfl)))) (by rcases hfa505 with ha505e | ⟨_, _, ha505e⟩ <;> subst ha505e <;> kernel_rfl) ?_
    refine vc_block ?_
    refine vc_unroll 14 ?_
    refine unr_step ?_
    refine vc_seq ?_
    refine vc_reg (S := ⟨[(8, .loc 8 0), (9, .loc 9 0), (14, .p (.sl 3 false (List.map e_api_Span r1))), (43, .agg [.p (.sl 3 false (List.map e_api_Span r1)), a505]), (44, .p (.int .i64 0)), (55, .agg [.p (.int .i64 a3_.Period), .p (.int .i64 a3_.From), .p (.int .i64 a3_.Long), .p (.int .i64 r516.Period), .p (.int .i64 r516.From), .p (.int .i64 r516.Long)]), (56, .p (.int .i64 0)), (57, .p (.bool true))], [(8, [.p (.int .i64 a3_.Period), .p (.int .i64 a3_.From), .p (.int .i64 a3_.Long)]), (9, [.p (.int .u8 a4_.x0), .p (.int .u8 a4_.x1), .p (.int .u8 a4_.x2)])], H506⟩) (APath.fin (by rcases hfa505 with ha505e | ⟨_, _, ha505e⟩ <;> subst ha505e <;> kernel_rfl)) (by rcases hfa505 with ha505e | ⟨_, _, ha505e⟩ <;> subst ha505e <;> kernel_rfl) ?_
    refine vc_seq ?_
    refine vc_true (by kernel_rfl) ?_
    refine vc_skip ?_
    refine vc_kp ?_
    refine vc_seq ?_
    refine vc_block ?_
    refine vc_seq ?_
    refine vc_reg (S := ⟨[(8, .loc 8 0), (9, .loc 9 0), (14, .p (.sl 3 false (List.map e_api_Span r1))), (16, .loc 16 0), (43, .agg [.p (.sl 3 false (List.map e_api_Span r1)), a505]), (44, .p (.int .i64 0)), (55, .agg [.p (.int .i64 a3_.Period), .p (.int .i64 a3_.From), .p (.int .i64 a3_.Long), .p (.int .i64 r516.Period), .p (.int .i64 r516.From), .p (.int .i64 r516.Long)]), (56, .p (.int .i64 0))], [(8, [.p (.int .i64 a3_.Period), .p (.int .i64 a3_.From), .p (.int .i64 a3_.Long)]), (9, [.p (.int .u8 a4_.x0), .p (.int .u8 a4_.x1), .p (.int .u8 a4_.x2)]), (16, [.p (.int .i64 a3_.Period), .p (.int .i64 a3_.From), .p (.int .i64 a3_.Long)])], H506⟩) (APath.fin (by rcases hfa505 with ha505e | ⟨_, _, ha505e⟩ <;> subst ha505e <;> kernel_rfl)) (by rcases hfa505 with ha505e | ⟨_, _, ha505e⟩ <;> subst ha505e <;> kernel_rfl) ?_
    refine vc_seq ?_
    obtain ⟨r517, hr517, h⟩ := bind_some h
    refine vc_reg (S := ⟨[(8, .loc 8 0), (9, .loc 9 0), (14, .p (.sl 3 false (List.map e_api_Span r1))), (16, .loc 16 0), (17, .p (.int .i64 r517.1)), (18, .p (.int .i64 r517.2)), (43, .agg [.p (.sl 3 false (List.map e_api_Span r1)), a505]), (44, .p (.int .i64 0)), (55, .agg [.p (.int .i64 a3_.Period), .p (.int .i64 a3_.From), .p (.int .i64 a3_.Long), .p (.int .i64 r516.Period), .p (.int .i64 r516.From), .p (.int .i64 r516.Long)]), (56, .p (.int .i64 0))], [(8, [.p (.int .i64 a3_.Period), .p (.int .i64 a3_.From), .p (.int .i64 a3_.Long)]), (9, [.p (.int .u8 a4_.x0), .p (.int .u8 a4_.x1), .p (.int .u8 a4_.x2)]), (16, [.p (.int .i64 a3_.Period), .p (.int .i64 a3_.From), .p (.int .i64 a3_.Long)])], H506⟩) (APath.chunk 2 (by rcases hfa505 with ha505e | ⟨_, _, ha505e⟩ <;> subst ha505e <;> kernel_rfl) (APath.one (.call (some 62) 21 [.t 60, .t 61]) (by kernel_rfl) (st_call (by rcases hfa505 with ha505e | ⟨_, _, ha505e⟩ <;> subst ha505e <;> kernel_rfl) (residue_Next_ok N r1 a3_ r517 hr517)) (APath.fin (by rcases hfa505 with ha505e | ⟨_, _, ha505e⟩ <;> subst ha505e <;> kernel_rfl)))) (by rcases hfa505 with ha505e | ⟨_, _, ha505e⟩ <;> subst ha505e <;> kernel_rfl) ?_
    refine vc_seq ?_
    obtain ⟨r518, hr518, h⟩ := bind_some h
    refine vc_reg (S := ⟨[(8, .loc 8 0), (9, .loc 9 0), (14, .p (.sl 3 false (List.map e_api_Span r1))), (17, .p (.int .i64 r517.1)), (18, .p (.int .i64 r517.2)), (19, .p (.int .i64 r518.1)), (20, .p (.int .i64 r518.2)), (43, .agg [.p (.sl 3 false (List.map e_api_Span r1)), a505]), (44, .p (.int .i64 0)), (55, .agg [.p (.int .i64 a3_.Period), .p (.int .i64 a3_.From), .p (.int .i64 a3_.Long), .p (.int .i64 r516.Period), .p (.int .i64 r516.From), .p (.int .i64 r516.Long)]), (56, .p (.int .i64 0))], [(8, [.p (.int .i64 a3_.Period), .p (.int .i64 a3_.From), .p (.int .i64 a3_.Long)]), (9, [.p (.int .u8 a4_.x0), .p (.int .u8 a4_.x1), .p (.int .u8 a4_.x2)])], H506⟩) (APath.chunk 2 (by rcases hfa505 with ha505e | ⟨_, _, ha505e⟩ <;> subst ha505e <;> kernel_rfl) (APath.one (.call (some 68) 22 [.t 66, .t 67]) (by kernel_rfl) (st_call (by rcases hfa505 with ha505e | ⟨_, _, ha505e⟩ <;> subst ha505e <;> kernel_rfl) (ref23_Next_ok N r1 a3_ r518 hr518)) (APath.fin (by rcases hfa505 with ha505e | ⟨_, _, ha505e⟩ <;> subst ha505e <;> kernel_rfl)))) (by rcases hfa505 with ha505e | ⟨_, _, ha505e⟩ <;> subst ha505e <;> kernel_rfl) ?_
    refine vc_seq ?_
    refine vc_regX ⟨[(8, .loc 8 0), (9, .loc 9 0), (14, .p (.sl 3 false (List.map e_api_Span r1))), (43, .agg [.p (.sl 3 false (List.map e_api_Span r1)), a505]), (44, .p (.int .i64 0)), (55, .agg [.p (.int .i64 a3_.Period), .p (.int .i64 a3_.From), .p (.int .i64 a3_.Long), .p (.int .i64 r516.Period), .p (.int .i64 r516.From), .p (.int .i64 r516.Long)]), (56, .p (.int .i64 0)), (78, .p (.bool ((r517.1 != r518.1) || (r517.2 != r518.2))))], [(8, [.p (.int .i64 a3_.Period), .p (.int .i64 a3_.From), .p (.int .i64 a3_.Long)]), (9, [.p (.int .u8 a4_.x0), .p (.int .u8 a4_.x1), .p (.int .u8 a4_.x2)])], H506⟩ ?_ ?_
    · rcases Bool.eq_false_or_eq_true (r517.1 != r518.1) with hc519 | hc520
      · exact ⟨_, (APath.chunk 2 (by rcases hfa505 with ha505e | ⟨_, _, ha505e⟩ <;> subst ha505e <;> kernel_rfl) (APath.one (.val 73 (.bin .neq) [.t 71, .t 72]) (by kernel_rfl) (st_bool (c := (r517.1 != r518.1)) (by rcases hfa505 with ha505e | ⟨_, _, ha505e⟩ <;> subst ha505e <;> kernel_rfl) hc519) (APath.fin (by rcases hfa505 with ha505e | ⟨_, _, ha505e⟩ <;> subst ha505e <;> kernel_rfl)))), by simp only [hc519]; rcases hfa505 with ha505e | ⟨_, _, ha505e⟩ <;> subst ha505e <;> kernel_rfl⟩
      · exact ⟨_, (APath.chunk 2 (by rcases hfa505 with ha505e | ⟨_, _, ha505e⟩ <;> subst ha505e <;> kernel_rfl) (APath.one (.val 73 (.bin .neq) [.t 71, .t 72]) (by kernel_rfl) (st_bool (c := (r517.1 != r518.1)) (by rcases hfa505 with ha505e | ⟨_, _, ha505e⟩ <;> subst ha505e <;> kernel_rfl) hc520) (APath.fin (by rcases hfa505 with ha505e | ⟨_, _, ha505e⟩ <;> subst ha505e <;> kernel_rfl)))), by simp only [hc520]; rcases hfa505 with ha505e | ⟨_, _, ha505e⟩ <;> subst ha505e <;> kernel_rfl⟩
    · refine vc_ite (by kernel_rfl) h (fun hc521 h => ?_) (fun hc521 h => ?_)
      · refine vc_seq ?_
        refine vc_reg (S := ⟨[(10, .p (.bool false))], [], H506⟩) (APath.fin (by rcases hfa505 with ha505e | ⟨_, _, ha505e⟩ <;> subst ha505e <;> kernel_rfl)) (by rcases hfa505 with ha505e | ⟨_, _, ha505e⟩ <;> subst ha505e <;> kernel_rfl) ?_
        replace hH : HP H506 [] := HP.pick hH [] rfl
        refine vc_ret ?_
        obtain rfl := some_inj h
        exact ret_of (by kernel_rfl)
      · refine vc_skip ?_
        refine vc_kp ?_
        refine vc_reg (S := ⟨[(8, .loc 8 0), (9, .loc 9 0), (14, .p (.sl 3 false (List.map e_api_Span r1))), (43, .agg [.p (.sl 3 false (List.map e_api_Span r1)), a505]), (44, .p (.int .i64 0)), (55, .agg [.p (.int .i64 a3_.Period), .p (.int .i64 a3_.From), .p (.int .i64 a3_.Long), .p (.int .i64 r516.Period), .p (.int .i64 r516.From), .p (.int .i64 r516.Long)]), (56, .p (.int .i64 1))], [(8, [.p (.int .i64 a3_.Period), .p (.int .i64 a3_.From), .p (.int .i64 a3_.Long)]), (9, [.p (.int .u8 a4_.x0), .p (.int .u8 a4_.x1), .p (.int .u8 a4_.x2)])], H506⟩) (APath.fin (by rcases hfa505 with ha505e | ⟨_, _, ha505e⟩ <;> subst ha505e <;> kernel_rfl)) (by rcases hfa505 with ha505e | ⟨_, _, ha505e⟩ <;> subst ha505e <;> kernel_rfl) ?_
        refine unr_step ?_
        refine vc_seq ?_
        refine vc_reg (S := ⟨[(8, .loc 8 0), (9, .loc 9 0), (14, .p (.sl 3 false (List.map e_api_Span r1))), (43, .agg [.p (.sl 3 false (List.map e_api_Span r1)), a505]), (44, .p (.int .i64 0)), (55, .agg [.p (.int .i64 a3_.Period), .p (.int .i64 a3_.From), .p (.int .i64 a3_.Long), .p (.int .i64 r516.Period), .p (.int .i64 r516.From), .p (.int .i64 r516.Long)]), (56, .p (.int .i64 1)), (57, .p (.bool true))], [(8, [.p (.int .i64 a3_.Period), .p (.int .i64 a3_.From), .p (.int .i64 a3_.Long)]), (9, [.p (.int .u8 a4_.x0), .p (.int .u8 a4_.x1), .p (.int .u8 a4_.x2)])], H506⟩) (APath.fin (by rcases hfa505 with ha505e | ⟨_, _, ha505e⟩ <;> subst ha505e <;> kernel_rfl)) (by rcases hfa505 with ha505e | ⟨_, _, ha505e⟩ <;> subst ha505e <;> kernel_rfl) ?_
        refine vc_seq ?_
        refine vc_true (by kernel_rfl) ?_
        refine vc_skip ?_
        refine vc_kp ?_
        refine vc_seq ?_
        refine vc_block ?_
        refine vc_seq ?_
        refine vc_reg (S := ⟨[(8, .loc 8 0), (9, .loc 9 0), (14, .p (.sl 3 false (List.map e_api_Span r1))), (16, .loc 16 0), (43, .agg [.p (.sl 3 false (List.map e_api_Span r1)), a505]), (44, .p (.int .i64 0)), (55, .agg [.p (.int .i64 a3_.Period), .p (.int .i64 a3_.From), .p (.int .i64 a3_.Long), .p (.int .i64 r516.Period), .p (.int .i64 r516.From), .p (.int .i64 r516.Long)]), (56, .p (.int .i64 1))], [(8, [.p (.int .i64 a3_.Period), .p (.int .i64 a3_.From), .p (.int .i64 a3_.Long)]), (9, [.p (.int .u8 a4_.x0), .p (.int .u8 a4_.x1), .p (.int .u8 a4_.x2)]), (16, [.p (.int .i64 r516.Period), .p (.int .i64 r516.From), .p (.int .i64 r516.Long)])], H506⟩) (APath.fin (by rcases hfa505 with ha505e | ⟨_, _, ha505e⟩ <;> subst ha505e <;> kernel_rfl)) (by rcases hfa505 with ha505e | ⟨_, _, ha505e⟩ <;> subst ha505e <;> kernel_rfl) ?_
        refine vc_seq ?_
        obtain ⟨r522, hr522, h⟩ := bind_some h
        refine vc_reg (S := ⟨[(8, .loc 8 0), (9, .loc 9 0), (14, .p (.sl 3 false (List.map e_api_Span r1))), (16, .loc 16 0), (17, .p (.int .i64 r522.1)), (18, .p (.int .i64 r522.2)), (43, .agg [.p (.sl 3 false (List.map e_api_Span r1)), a505]), (44, .p (.int .i64 0)), (55, .agg [.p (.int .i64 a3_.Period), .p (.int .i64 a3_.From), .p (.int .i64 a3_.Long), .p (.int .i64 r516.Period), .p (.int .i64 r516.From), .p (.int .i64 r516.Long)]), (56, .p (.int .i64 1))], [(8, [.p (.int .i64 a3_.Period), .p (.int .i64 a3_.From), .p (.int .i64 a3_.Long)]), (9, [.p (.int .u8 a4_.x0), .p (.int .u8 a4_.x1), .p (.int .u8 a4_.x2)]), (16, [.p (.int .i64 r516.Period), .p (.int .i64 r516.From), .p (.int .i64 r516.Long)])], H506⟩) (APath.chunk 2 (by rcases hfa505 with ha505e | ⟨_, _, ha505e⟩ <;> subst ha505e <;> kernel_rfl) (APath.one (.call (some 62) 21 [.t 60, .t 61]) (by kernel_rfl) (st_call (by rcases hfa505 with ha505e | ⟨_, _, ha505e⟩ <;> subst ha505e <;> kernel_rfl) (residue_Next_ok N r1 r516 r522 hr522)) (APath.fin (by rcases hfa505 with ha505e | ⟨_, _, ha505e⟩ <;> subst ha505e <;> kernel_rfl)))) (by rcases hfa505 with ha505e | ⟨_, _, ha505e⟩ <;> subst ha505e <;> kernel_rfl) ?_
        refine vc_seq ?_
        obtain ⟨r523, hr523, h⟩ := bind_some h
        refine vc_reg (S := ⟨[(8, .loc 8 0), (9, .loc 9 0), (14, .p (.sl 3 false (List.map e_api_Span r1))), (17, .p (.int .i64 r522.1)), (18, .p (.int .i64 r522.2)), (19, .p (.int .i64 r523.1)), (20, .p (.int .i64 r523.2)), (43, .agg [.p (.sl 3 false (List.map e_api_Span r1)), a505]), (44, .p (.int .i64 0)), (55, .agg [.p (.int .i64 a3_.Period), .p (.int .i64 a3_.From), .p (.int .i64 a3_.Long), .p (.int .i64 r516.Period), .p (.int .i64 r516.From), .p (.int .i64 r516.Long)]), (56, .p (.int .i64 1))], [(8, [.p (.int .i64 a3_.Period), .p (.int .i64 a3_.From), .p (.int .i64 a3_.Long)]), (9, [.p (.int .u8 a4_.x0), .p (.int .u8 a4_.x1), .p (.int .u8 a4_.x2)])], H506⟩) (APath.chunk 2 (by rcases hfa505 with ha505e | ⟨_, _, ha505e⟩ <;> subst ha505e <;> kernel_rfl) (APath.one (.call (some 68) 22 [.t 66, .t 67]) (by kernel_rfl) (st_call (by rcases hfa505 with ha505e | ⟨_, _, ha505e⟩ <;> subst ha505e <;> kernel_rfl) (ref23_Next_ok N r1 r516 r523 hr523)) (APath.fin (by rcases hfa505 with ha505e | ⟨_, _, ha505e⟩ <;> subst ha505e <;> kernel_rfl)))) (by rcases hfa505 with ha505e | ⟨_, _, ha505e⟩ <;> subst ha505e <;> kernel_rfl) ?_
        refine vc_seq ?_
        refine vc_regX ⟨[(8, .loc 8 0), (9, .loc 9 0), (14, .p (.sl 3 false (List.map e_api_Span r1))), (43, .agg [.p (.sl 3 false (List.map e_api_Span r1)), a505]), (44, .p (.int .i64 0)), (55, .agg [.p (.int .i64 a3_.Period), .p (.int .i64 a3_.From), .p (.int .i64 a3_.Long), .p (.int .i64 r516.Period), .p (.int .i64 r516.From), .p (.int .i64 r516.Long)]), (56, .p (.int .i64 1)), (78, .p (.bool ((r522.1 != r523.1) || (r522.2 != r523.2))))], [(8, [.p (.int .i64 a3_.Period), .p (.int .i64 a3_.From), .p (.int .i64 a3_.Long)]), (9, [.p (.int .u8 a4_.x0), .p (.int .u8 a4_.x1), .p (.int .u8 a4_.x2)])], H506⟩ ?_ ?_
        · rcases Bool.eq_false_or_eq_true (r522.1 != r523.1) with hc524 | hc525
          · exact ⟨_, (APath.chunk 2 (by rcases hfa505 with ha505e | ⟨_, _, ha505e⟩ <;> subst ha505e <;> kernel_rfl) (APath.one (.val 73 (.bin .neq) [.t 71, .t 72]) (by kernel_rfl) (st_bool (c := (r522.1 != r523.1)) (by rcases hfa505 with ha505e | ⟨_, _, ha505e⟩ <;> subst ha505e <;> kernel_rfl) hc524) (APath.fin (by rcases hfa505 with ha505e | ⟨_, _, ha505e⟩ <;> subst ha505e <;> kernel_rfl)))), by simp only [hc524]; rcases hfa505 with ha505e | ⟨_, _, ha505e⟩ <;> subst ha505e <;> kernel_rfl⟩
          · exact ⟨_, (APath.chunk 2 (by rcases hfa505 with ha505e | ⟨_, _, ha505e⟩ <;> subst ha505e <;> kernel_rfl) (APath.one (.val 73 (.bin .neq) [.t 71, .t 72]) (by kernel_rfl) (st_bool (c := (r522.1 != r523.1)) (by rcases hfa505 with ha505e | ⟨_, _, ha505e⟩ <;> subst ha505e <;> kernel_rfl) hc525) (APath.fin (by rcases hfa505 with ha505e | ⟨_, _, ha505e⟩ <;> subst ha505e <;> kernel_rfl)))), by simp only [hc525]; rcases hfa505 with ha505e | ⟨_, _, ha505e⟩ <;> subst ha505e <;> kernel_rfl⟩
        · refine vc_ite (by kernel_rfl) h (fun hc526 h => ?_) (fun hc526 h => ?_)
          · refine vc_seq ?_
            refine vc_reg (S := ⟨[(10, .p (.bool false))], [], H506⟩) (APath.fin (by rcases hfa505 with ha505e | ⟨_, _, ha505e⟩ <;> subst ha505e <;> kernel_rfl)) (by rcases hfa505 with ha505e | ⟨_, _, ha505e⟩ <;> subst ha505e <;> kernel_rfl) ?_
            replace hH : HP H506 [] := HP.pick hH [] rfl
            refine vc_ret ?_
            obtain rfl := some_inj h
            exact ret_of (by kernel_rfl)
          · refine vc_skip ?_
            refine vc_kp ?_
            refine vc_reg (S := ⟨[(8, .loc 8 0), (9, .loc 9 0), (14, .p (.sl 3 false (List.map e_api_Span r1))), (43, .agg [.p (.sl 3 false (List.map e_api_Span r1)), a505]), (44, .p (.int .i64 0)), (55, .agg [.p (.int .i64 a3_.Period), .p (.int .i64 a3_.From), .p (.int .i64 a3_.Long), .p (.int .i64 r516.Period), .p (.int .i64 r516.From), .p (.int .i64 r516.Long)]), (56, .p (.int .i64 2))], [(8, [.p (.int .i64 a3_.Period), .p (.int .i64 a3_.From), .p (.int .i64 a3_.Long)]), (9, [.p (.int .u8 a4_.x0), .p (.int .u8 a4_.x1), .p (.int .u8 a4_.x2)])], H506⟩) (APath.fin (by rcases hfa505 with ha505e | ⟨_, _, ha505e⟩ <;> subst ha505e <;> kernel_rfl)) (by rcases hfa505 with ha505e | ⟨_, _, ha505e⟩ <;> subst ha505e <;> kernel_rfl) ?_
            refine unr_step ?_
            refine vc_seq ?_
            refine vc_reg (S := ⟨[(8, .loc 8 0), (9, .loc 9 0), (14, .p (.sl 3 false (List.map e_api_Span r1))), (43, .agg [.p (.sl 3 false (List.map e_api_Span r1)), a505]), (44, .p (.int .i64 0)), (55, .agg [.p (.int .i64 a3_.Period), .p (.int .i64 a3_.From), .p (.int .i64 a3_.Long), .p (.int .i64 r516.Period), .p (.int .i64 r516.From), .p (.int .i64 r516.Long)]), (56, .p (.int .i64 2)), (57, .p (.bool false))], [(8, [.p (.int .i64 a3_.Period), .p (.int .i64 a3_.From), .p (.int .i64 a3_.Long)]), (9, [.p (.int .u8 a4_.x0), .p (.int .u8 a4_.x1), .p (.int .u8 a4_.x2)])], H506⟩) (APath.fin (by rcases hfa505 with ha505e | ⟨_, _, ha505e⟩ <;> subst ha505e <;> kernel_rfl)) (by rcases hfa505 with ha505e | ⟨_, _, ha505e⟩ <;> subst ha505e <;> kernel_rfl) ?_
            refine vc_seq ?_
            refine vc_false (by kernel_rfl) ?_
            refine vc_exit ?_
            try show vc _ _ _ _ _
            refine vc_seq ?_
            obtain ⟨r527, hr527, h⟩ := bind_some h
            refine vc_reg (S := ⟨[(8, .loc 8 0), (9, .loc 9 0), (14, .p (.sl 3 false (List.map e_api_Span r1))), (21, .p (.int .i64 r527.1)), (22, .p (.int .i64 r527.2)), (43, .agg [.p (.sl 3 false (List.map e_api_Span r1)), a505]), (44, .p (.int .i64 0))], [(8, [.p (.int .i64 a3_.Period), .p (.int .i64 a3_.From), .p (.int .i64 a3_.Long)]), (9, [.p (.int .u8 a4_.x0), .p (.int .u8 a4_.x1), .p (.int .u8 a4_.x2)])], H506⟩) (APath.chunk 1 (by rcases hfa505 with ha505e | ⟨_, _, ha505e⟩ <;> subst ha505e <;> kernel_rfl) (APath.one (.call (some 82) 23 [.t 81]) (by kernel_rfl) (st_call (by rcases hfa505 with ha505e | ⟨_, _, ha505e⟩ <;> subst ha505e <;> kernel_rfl) (residue_Cycle_ok N r1 r527 hr527)) (APath.fin (by rcases hfa505 with ha505e | ⟨_, _, ha505e⟩ <;> subst ha505e <;> kernel_rfl)))) (by rcases hfa505 with ha505e | ⟨_, _, ha505e⟩ <;> subst ha505e <;> kernel_rfl) ?_
            refine vc_seq ?_
            obtain ⟨r528, hr528, h⟩ := bind_some h
            refine vc_reg (S := ⟨[(8, .loc 8 0), (9, .loc 9 0), (21, .p (.int .i64 r527.1)), (22, .p (.int .i64 r527.2)), (23, .p (.int .i64 r528.1)), (24, .p (.int .i64 r528.2)), (43, .agg [.p (.sl 3 false (List.map e_api_Span r1)), a505]), (44, .p (.int .i64 0))], [(8, [.p (.int .i64 a3_.Period), .p (.int .i64 a3_.From), .p (.int .i64 a3_.Long)]), (9, [.p (.int .u8 a4_.x0), .p (.int .u8 a4_.x1), .p (.int .u8 a4_.x2)])], H506⟩) (APath.chunk 1 (by rcases hfa505 with ha505e | ⟨_, _, ha505e⟩ <;> subst ha505e <;> kernel_rfl) (APath.one (.call (some 87) 24 [.t 86]) (by kernel_rfl) (st_call (by rcases hfa505 with ha505e | ⟨_, _, ha505e⟩ <;> subst ha505e <;> kernel_rfl) (ref23_Cycle_ok N r1 r528 hr528)) (APath.fin (by rcases hfa505 with ha505e | ⟨_, _, ha505e⟩ <;> subst ha505e <;> kernel_rfl)))) (by rcases hfa505 with ha505e | ⟨_, _, ha505e⟩ <;> subst ha505e <;> kernel_rfl) ?_
            refine vc_seq ?_
            refine vc_regX ⟨[(8, .loc 8 0), (9, .loc 9 0), (43, .agg [.p (.sl 3 false (List.map e_api_Span r1)), a505]), (44, .p (.int .i64 0)), (97, .p (.bool ((r527.1 != r528.1) || (r527.2 != r528.2))))], [(8, [.p (.int .i64 a3_.Period), .p (.int .i64 a3_.From), .p (.int .i64 a3_.Long)]), (9, [.p (.int .u8 a4_.x0), .p (.int .u8 a4_.x1), .p (.int .u8 a4_.x2)])], H506⟩ ?_ ?_
            · rcases Bool.eq_false_or_eq_true (r527.1 != r528.1) with hc529 | hc530
              · exact ⟨_, (APath.chunk 2 (by rcases hfa505 with ha505e | ⟨_, _, ha505e⟩ <;> subst ha505e <;> kernel_rfl) (APath.one (.val 92 (.bin .neq) [.t 90, .t 91]) (by kernel_rfl) (st_bool (c := (r527.1 != r528.1)) (by rcases hfa505 with ha505e | ⟨_, _, ha505e⟩ <;> subst ha505e <;> kernel_rfl) hc529) (APath.fin (by rcases hfa505 with ha505e | ⟨_, _, ha505e⟩ <;> subst ha505e <;> kernel_rfl)))), by simp only [hc529]; rcases hfa505 with ha505e | ⟨_, _, ha505e⟩ <;> subst ha505e <;> kernel_rfl⟩
              · exact ⟨_, (APath.chunk 2 (by rcases hfa505 with ha505e | ⟨_, _, ha505e⟩ <;> subst ha505e <;> kernel_rfl) (APath.one (.val 92 (.bin .neq) [.t 90, .t 91]) (by kernel_rfl) (st_bool (c := (r527.1 != r528.1)) (by rcases hfa505 with ha505e | ⟨_, _, ha505e⟩ <;> subst ha505e <;> kernel_rfl) hc530) (APath.fin (by rcases hfa505 with ha505e | ⟨_, _, ha505e⟩ <;> subst ha505e <;> kernel_rfl)))), by simp only [hc530]; rcases hfa505 with ha505e | ⟨_, _, ha505e⟩ <;> subst ha505e <;> kernel_rfl⟩
            · refine vc_ite (by kernel_rfl) h (fun hc531 h => ?_) (fun hc531 h => ?_)
              · refine vc_seq ?_
                refine vc_reg (S := ⟨[(10, .p (.bool false))], [], H506⟩) (APath.fin (by rcases hfa505 with ha505e | ⟨_, _, ha505e⟩ <;> subst ha505e <;> kernel_rfl)) (by rcases hfa505 with ha505e | ⟨_, _, ha505e⟩ <;> subst ha505e <;> kernel_rfl) ?_
                replace hH : HP H506 [] := HP.pick hH [] rfl
                refine vc_ret ?_
                obtain rfl := some_inj h
                exact ret_of (by kernel_rfl)
              · refine vc_skip ?_
                refine vc_kp ?_
                refine vc_reg (S := ⟨[(8, .loc 8 0), (9, .loc 9 0), (43, .agg [.p (.sl 3 false (List.map e_api_Span r1)), a505]), (44, .p (.int .i64 1))], [(8, [.p (.int .i64 a3_.Period), .p (.int .i64 a3_.From), .p (.int .i64 a3_.Long)]), (9, [.p (.int .u8 a4_.x0), .p (.int .u8 a4_.x1), .p (.int .u8 a4_.x2)])], H506⟩) (APath.fin (by rcases hfa505 with ha505e | ⟨_, _, ha505e⟩ <;> subst ha505e <;> kernel_rfl)) (by rcases hfa505 with ha505e | ⟨_, _, ha505e⟩ <;> subst ha505e <;> kernel_rfl) ?_
                refine unr_step ?_
                refine vc_seq ?_
                refine vc_reg (S := ⟨[(8, .loc 8 0), (9, .loc 9 0), (43, .agg [.p (.sl 3 false (List.map e_api_Span r1)), a505]), (44, .p (.int .i64 1)), (45, .p (.bool true))], [(8, [.p (.int .i64 a3_.Period), .p (.int .i64 a3_.From), .p (.int .i64 a3_.Long)]), (9, [.p (.int .u8 a4_.x0), .p (.int .u8 a4_.x1), .p (.int .u8 a4_.x2)])], H506⟩) (APath.fin (by rcases hfa505 with ha505e | ⟨_, _, ha505e⟩ <;> subst ha505e <;> kernel_rfl)) (by rcases hfa505 with ha505e | ⟨_, _, ha505e⟩ <;> subst ha505e <;> kernel_rfl) ?_
                refine vc_seq ?_
                refine vc_true (by kernel_rfl) ?_
                refine vc_skip ?_
                refine vc_kp ?_
                refine vc_seq ?_
                refine vc_block ?_
                refine vc_seq ?_
                refine vc_reg (S := ⟨[(8, .loc 8 0), (9, .loc 9 0), (14, a505), (43, .agg [.p (.sl 3 false (List.map e_api_Span r1)), a505]), (44, .p (.int .i64 1))], [(8, [.p (.int .i64 a3_.Period), .p (.int .i64 a3_.From), .p (.int .i64 a3_.Long)]), (9, [.p (.int .u8 a4_.x0), .p (.int .u8 a4_.x1), .p (.int .u8 a4_.x2)])], H506⟩) (APath.fin (by rcases hfa505 with ha505e | ⟨_, _, ha505e⟩ <;> subst ha505e <;> kernel_rfl)) (by rcases hfa505 with ha505e | ⟨_, _, ha505e⟩ <;> subst ha505e <;> kernel_rfl) ?_
                refine vc_seq ?_
                refine vc_seq ?_
                obtain ⟨r532, hr532, h⟩ := bind_some h
                refine vc_regD (S := ⟨[(8, .loc 8 0), (9, .loc 9 0), (14, a505), (43, .agg [.p (.sl 3 false (List.map e_api_Span r1)), a505]), (44, .p (.int .i64 1)), (55, .agg [.p (.int .i64 a3_.Period), .p (.int .i64 a3_.From), .p (.int .i64 a3_.Long), .p (.int .i64 r532.Period), .p (.int .i64 r532.From), .p (.int .i64 r532.Long)]), (56, .p (.int .i64 0))], [(8, [.p (.int .i64 a3_.Period), .p (.int .i64 a3_.From), .p (.int .i64 a3_.Long)]), (9, [.p (.int .u8 a4_.x0), .p (.int .u8 a4_.x1), .p (.int .u8 a4_.x2)])], H506⟩) (by rcases hfa505 with ha505e | ⟨_, _, ha505e⟩ <;> subst ha505e <;> kernel_rfl) (APath.chunk 7 (by rcases hfa505 with ha505e | ⟨_, _, ha505e⟩ <;> subst ha505e <;> kernel_rfl) (APath.one (.callP 54 10 [.t 49, .t 51, .t 53]) (by kernel_rfl) (st_callP (by rcases hfa505 with ha505e | ⟨_, _, ha505e⟩ <;> subst ha505e <;> kernel_rfl) (ref23_Of_ok N a4_.x0 a4_.x1 a4_.x2 r532 hr532)) (APath.fin (by rcases hfa505 with ha505e | ⟨_, _, ha505e⟩ <;> subst ha505e <;> kernel_rfl)))) (by rcases hfa505 with ha505e | ⟨_, _, ha505e⟩ <;> subst ha505e <;> kernel_rfl) ?_
                refine vc_block ?_
                refine vc_unroll 14 ?_
                refine unr_step ?_
                refine vc_seq ?_
                refine vc_reg (S := ⟨[(8, .loc 8 0), (9, .loc 9 0), (14, a505), (43, .agg [.p (.sl 3 false (List.map e_api_Span r1)), a505]), (44, .p (.int .i64 1)), (55, .agg [.p (.int .i64 a3_.Period), .p (.int .i64 a3_.From), .p (.int .i64 a3_.Long), .p (.int .i64 r532.Period), .p (.int .i64 r532.From), .p (.int .i64 r532.Long)]), (56, .p (.int .i64 0)), (57, .p (.bool true))], [(8, [.p (.int .i64 a3_.Period), .p (.int .i64 a3_.From), .p (.int .i64 a3_.Long)]), (9, [.p (.int .u8 a4_.x0), .p (.int .u8 a4_.x1), .p (.int .u8 a4_.x2)])], H506⟩) (APath.fin (by rcases hfa505 with ha505e | ⟨_, _, ha505e⟩ <;> subst ha505e <;> kernel_rfl)) (by rcases hfa505 with ha505e | ⟨_, _, ha505e⟩ <;> subst ha505e <;> kernel_rfl) ?_
                refine vc_seq ?_
                refine vc_true (by kernel_rfl) ?_
                refine vc_skip ?_
                refine vc_kp ?_
                refine vc_seq ?_
                refine vc_block ?_
                refine vc_seq ?_
                refine vc_reg (S := ⟨[(8, .loc 8 0), (9, .loc 9 0), (14, a505), (16, .loc 16 0), (43, .agg [.p (.sl 3 false (List.map e_api_Span r1)), a505]), (44, .p (.int .i64 1)), (55, .agg [.p (.int .i64 a3_.Period), .p (.int .i64 a3_.From), .p (.int .i64 a3_.Long), .p (.int .i64 r532.Period), .p (.int .i64 r532.From), .p (.int .i64 r532.Long)]), (56, .p (.int .i64 0))], [(8, [.p (.int .i64 a3_.Period), .p (.int .i64 a3_.From), .p (.int .i64 a3_.Long)]), (9, [.p (.int .u8 a4_.x0), .p (.int .u8 a4_.x1), .p (.int .u8 a4_.x2)]), (16, [.p (.int .i64 a3_.Period), .p (.int .i64 a3_.From), .p (.int .i64 a3_.Long)])], H506⟩) (APath.fin (by rcases hfa505 with ha505e | ⟨_, _, ha505e⟩ <;> subst ha505e <;> kernel_rfl)) (by rcases hfa505 with ha505e | ⟨_, _, ha505e⟩ <;> subst ha505e <;> kernel_rfl) ?_
                refine vc_seq ?_
                obtain ⟨r533, hr533, h⟩ := bind_some h
                obtain ⟨H534, hzH534, hzH534v, hH⟩ := HP.frz (k := 0) (a := a505) (sz := 3) (frz := false) e_api_Span hH rfl
                replace hH : HP H534 [.arr a505 3 true (List.map e_api_Span j507)] := hH
                refine vc_reg (S := ⟨[(8, .loc 8 0), (9, .loc 9 0), (14, a505), (16, .loc 16 0), (17, .p (.int .i64 r533.1)), (18, .p (.int .i64 r533.2)), (43, .agg [.p (.sl 3 false (List.map e_api_Span r1)), a505]), (44, .p (.int .i64 1)), (55, .agg [.p (.int .i64 a3_.Period), .p (.int .i64 a3_.From), .p (.int .i64 a3_.Long), .p (.int .i64 r532.Period), .p (.int .i64 r532.From), .p (.int .i64 r532.Long)]), (56, .p (.int .i64 0))], [(8, [.p (.int .i64 a3_.Period), .p (.int .i64 a3_.From), .p (.int .i64 a3_.Long)]), (9, [.p (.int .u8 a4_.x0), .p (.int .u8 a4_.x1), .p (.int .u8 a4_.x2)]), (16, [.p (.int .i64 a3_.Period), .p (.int .i64 a3_.From), .p (.int .i64 a3_.Long)])], H534⟩) (APath.chunk 2 (by rcases hfa505 with ha505e | ⟨_, _, ha505e⟩ <;> subst ha505e <;> kernel_rfl) (APath.one (.call (some 62) 21 [.t 60, .t 61]) (by kernel_rfl) (st_callF (H := H506) (ys := [a505, .agg [.p (.int .i64 a3_.Period), .p (.int .i64 a3_.From), .p (.int .i64 a3_.Long)]]) (by rcases hfa505 with ha505e | ⟨_, _, ha505e⟩ <;> subst ha505e <;> kernel_rfl) (by rcases hfa505 with ha505e | ⟨_, _, ha505e⟩ <;> subst ha505e <;> kernel_rfl) (frzL_cons hzH534v (frzL_cons rfl frzL_nil)) (residue_Next_ok N j507 a3_ r533 hr533)) (APath.fin (by rcases hfa505 with ha505e | ⟨_, _, ha505e⟩ <;> subst ha505e <;> kernel_rfl)))) (by rcases hfa505 with ha505e | ⟨_, _, ha505e⟩ <;> subst ha505e <;> kernel_rfl) ?_
                refine vc_seq ?_
                obtain ⟨r535, hr535, h⟩ := bind_some h
                obtain ⟨H536, hzH536, hzH536v, hH⟩ := HP.frz (k := 0) (a := a505) (sz := 3) (frz := true) e_api_Span hH rfl
                replace hH : HP H536 [.arr a505 3 true (List.map e_api_Span j507)] := hH
                refine vc_reg (S := ⟨[(8, .loc 8 0), (9, .loc 9 0), (14, a505), (17, .p (.int .i64 r533.1)), (18, .p (.int .i64 r533.2)), (19, .p (.int .i64 r535.1)), (20, .p (.int .i64 r535.2)), (43, .agg [.p (.sl 3 false (List.map e_api_Span r1)), a505]), (44, .p (.int .i64 1)), (55, .agg [.p (.int .i64 a3_.Period), .p (.int .i64 a3_.From), .p (.int .i64 a3_.Long), .p (.int .i64 r532.Period), .p (.int .i64 r532.From), .p (.int .i64 r532.Long)]), (56, .p (.int .i64 0))], [(8, [.p (.int .i64 a3_.Period), .p (.int .i64 a3_.From), .p (.int .i64 a3_.Long)]), (9, [.p (.int .u8 a4_.x0), .p (.int .u8 a4_.x1), .p (.int .u8 a4_.x2)])], H536⟩) (APath.chunk 2 (by rcases hfa505 with ha505e | ⟨_, _, ha505e⟩ <;> subst ha505e <;> kernel_rfl) (APath.one (.call (some 68) 22 [.t 66, .t 67]) (by kernel_rfl) (st_callF (H := H534) (ys := [a505, .agg [.p (.int .i64 a3_.Period), .p (.int .i64 a3_.From), .p (.int .i64 a3_.Long)]]) (by rcases hfa505 with ha505e | ⟨_, _, ha505e⟩ <;> subst ha505e <;> kernel_rfl) (by rcases hfa505 with ha505e | ⟨_, _, ha505e⟩ <;> subst ha505e <;> kernel_rfl) (frzL_cons hzH536v (frzL_cons rfl frzL_nil)) (ref23_Next_ok N j507 a3_ r535 hr535)) (APath.fin (by rcases hfa505 with ha505e | ⟨_, _, ha505e⟩ <;> subst ha505e <;> kernel_rfl)))) (by rcases hfa505 with ha505e | ⟨_, _, ha505e⟩ <;> subst ha505e <;> kernel_rfl) ?_
                refine vc_seq ?_
                refine vc_regX ⟨[(8, .loc 8 0), (9, .loc 9 0), (14, a505), (43, .agg [.p (.sl 3 false (List.map e_api_Span r1)), a505]), (44, .p (.int .i64 1)), (55, .agg [.p (.int .i64 a3_.Period), .p (.int .i64 a3_.From), .p (.int .i64 a3_.Long), .p (.int .i64 r532.Period), .p (.int .i64 r532.From), .p (.int .i64 r532.Long)]), (56, .p (.int .i64 0)), (78, .p (.bool ((r533.1 != r535.1) || (r533.2 != r535.2))))], [(8, [.p (.int .i64 a3_.Period), .p (.int .i64 a3_.From), .p (.int .i64 a3_.Long)]), (9, [.p (.int .u8 a4_.x0), .p (.int .u8 a4_.x1), .p (.int .u8 a4_.x2)])], H536⟩ ?_ ?_
                · rcases Bool.eq_false_or_eq_true (r533.1 != r535.1) with hc537 | hc538
                  · exact ⟨_, (APath.chunk 2 (by rcases hfa505 with ha505e | ⟨_, _, ha505e⟩ <;> subst ha505e <;> kernel_rfl) (APath.one (.val 73 (.bin .neq) [.t 71, .t 72]) (by kernel_rfl) (st_bool (c := (r533.1 != r535.1)) (by rcases hfa505 with ha505e | ⟨_, _, ha505e⟩ <;> subst ha505e <;> kernel_rfl) hc537) (APath.fin (by rcases hfa505 with ha505e | ⟨_, _, ha505e⟩ <;> subst ha505e <;> kernel_rfl)))), by simp only [hc537]; rcases hfa505 with ha505e | ⟨_, _, ha505e⟩ <;> subst ha505e <;> kernel_rfl⟩
                  · exact ⟨_, (APath.chunk 2 (by rcases hfa505 with ha505e | ⟨_, _, ha505e⟩ <;> subst ha505e <;> kernel_rfl) (APath.one (.val 73 (.bin .neq) [.t 71, .t 72]) (by kernel_rfl) (st_bool (c := (r533.1 != r535.1)) (by rcases hfa505 with ha505e | ⟨_, _, ha505e⟩ <;> subst ha505e <;> kernel_rfl) hc538) (APath.fin (by rcases hfa505 with ha505e | ⟨_, _, ha505e⟩ <;> subst ha505e <;> kernel_rfl)))), by simp only [hc538]; rcases hfa505 with ha505e | ⟨_, _, ha505e⟩ <;> subst ha505e <;> kernel_rfl⟩
                · refine vc_ite (by kernel_rfl) h (fun hc539 h => ?_) (fun hc539 h => ?_)
                  · refine vc_seq ?_
                    refine vc_reg (S := ⟨[(10, .p (.bool false))], [], H536⟩) (APath.fin (by rcases hfa505 with ha505e | ⟨_, _, ha505e⟩ <;> subst ha505e <;> kernel_rfl)) (by rcases hfa505 with ha505e | ⟨_, _, ha505e⟩ <;> subst ha505e <;> kernel_rfl) ?_
                    replace hH : HP H536 [] := HP.pick hH [] rfl
                    refine vc_ret ?_
                    obtain rfl := some_inj h
                    exact ret_of (by kernel_rfl)
                  · refine vc_skip ?_
                    refine vc_kp ?_
                    refine vc_reg (S := ⟨[(8, .loc 8 0), (9, .loc 9 0), (14, a505), (43, .agg [.p (.sl 3 false (List.map e_api_Span r1)), a505]), (44, .p (.int .i64 1)), (55, .agg [.p (.int .i64 a3_.Period), .p (.int .i64 a3_.From), .p (.int .i64 a3_.Long), .p (.int .i64 r532.Period), .p (.int .i64 r532.From), .p (.int .i64 r532.Long)]), (56, .p (.int .i64 1))], [(8, [.p (.int .i64 a3_.Period), .p (.int .i64 a3_.From), .p (.int .i64 a3_.Long)]), (9, [.p (.int .u8 a4_.x0), .p (.int .u8 a4_.x1), .p (.int .u8 a4_.x2)])], H536⟩) (APath.fin (by rcases hfa505 with ha505e | ⟨_, _, ha505e⟩ <;> subst ha505e <;> kernel_rfl)) (by rcases hfa505 with ha505e | ⟨_, _, ha505e⟩ <;> subst ha505e <;> kernel_rfl) ?_
                    refine unr_step ?_
                    refine vc_seq ?_
                    refine vc_reg (S := ⟨[(8, .loc 8 0), (9, .loc 9 0), (14, a505), (43, .agg [.p (.sl 3 false (List.map e_api_Span r1)), a505]), (44, .p (.int .i64 1)), (55, .agg [.p (.int .i64 a3_.Period), .p (.int .i64 a3_.From), .p (.int .i64 a3_.Long), .p (.int .i64 r532.Period), .p (.int .i64 r532.From), .p (.int .i64 r532.Long)]), (56, .p (.int .i64 1)), (57, .p (.bool true))], [(8, [.p (.int .i64 a3_.Period), .p (.int .i64 a3_.From), .p (.int .i64 a3_.Long)]), (9, [.p (.int .u8 a4_.x0), .p (.int .u8 a4_.x1), .p (.int .u8 a4_.x2)])], H536⟩) (APath.fin (by rcases hfa505 with ha505e | ⟨_, _, ha505e⟩ <;> subst ha505e <;> kernel_rfl)) (by rcases hfa505 with ha505e | ⟨_, _, ha505e⟩ <;> subst ha505e <;> kernel_rfl) ?_
                    refine vc_seq ?_
                    refine vc_true (by kernel_rfl) ?_
                    refine vc_skip ?_
                    refine vc_kp ?_
                    refine vc_seq ?_
                    refine vc_block ?_
                    refine vc_seq ?_
                    refine vc_reg (S := ⟨[(8, .loc 8 0), (9, .loc 9 0), (14, a505), (16, .loc 16 0), (43, .agg [.p (.sl 3 false (List.map e_api_Span r1)), a505]), (44, .p (.int .i64 1)), (55, .agg [.p (.int .i64 a3_.Period), .p (.int .i64 a3_.From), .p (.int .i64 a3_.Long), .p (.int .i64 r532.Period), .p (.int .i64 r532.From), .p (.int .i64 r532.Long)]), (56, .p (.int .i64 1))], [(8, [.p (.int .i64 a3_.Period), .p (.int .i64 a3_.From), .p (.int .i64 a3_.Long)]), (9, [.p (.int .u8 a4_.x0), .p (.int .u8 a4_.x1), .p (.int .u8 a4_.x2)]), (16, [.p (.int .i64 r532.Period), .p (.int .i64 r532.From), .p (.int .i64 r532.Long)])], H536⟩) (APath.fin (by rcases hfa505 with ha505e | ⟨_, _, ha505e⟩ <;> subst ha505e <;> kernel_rfl)) (by rcases hfa505 with ha505e | ⟨_, _, ha505e⟩ <;> subst ha505e <;> kernel_rfl) ?_
                    refine vc_seq ?_
                    obtain ⟨r540, hr540, h⟩ := bind_some h
                    obtain ⟨H541, hzH541, hzH541v, hH⟩ := HP.frz (k := 0) (a := a505) (sz := 3) (frz := true) e_api_Span hH rfl
                    replace hH : HP H541 [.arr a505 3 true (List.map e_api_Span j507)] := hH
                    refine vc_reg (S := ⟨[(8, .loc 8 0), (9, .loc 9 0), (14, a505), (16, .loc 16 0), (17, .p (.int .i64 r540.1)), (18, .p (.int .i64 r540.2)), (43, .agg [.p (.sl 3 false (List.map e_api_Span r1)), a505]), (44, .p (.int .i64 1)), (55, .agg [.p (.int .i64 a3_.Period), .p (.int .i64 a3_.From), .p (.int .i64 a3_.Long), .p (.int .i64 r532.Period), .p (.int .i64 r532.From), .p (.int .i64 r532.Long)]), (56, .p (.int .i64 1))], [(8, [.p (.int .i64 a3_.Period), .p (.int .i64 a3_.From), .p (.int .i64 a3_.Long)]), (9, [.p (.int .u8 a4_.x0), .p (.int .u8 a4_.x1), .p (.int .u8 a4_.x2)]), (16, [.p (.int .i64 r532.Period), .p (.int .i64 r532.From), .p (.int .i64 r532.Long)])], H541⟩) (APath.chunk 2 (by rcases hfa505 with ha505e | ⟨_, _, ha505e⟩ <;> subst ha505e <;> kernel_rfl) (APath.one (.call (some 62) 21 [.t 60, .t 61]) (by kernel_rfl) (st_callF (H := H536) (ys := [a505, .agg [.p (.int .i64 r532.Period), .p (.int .i64 r532.From), .p (.int .i64 r532.Long)]]) (by rcases hfa505 with ha505e | ⟨_, _, ha505e⟩ <;> subst ha505e <;> kernel_rfl) (by rcases hfa505 with ha505e | ⟨_, _, ha505e⟩ <;> subst ha505e <;> kernel_rfl) (frzL_cons hzH541v (frzL_cons rfl frzL_nil)) (residue_Next_ok N j507 r532 r540 hr540)) (APath.fin (by rcases hfa505 with ha505e | ⟨_, _, ha505e⟩ <;> subst ha505e <;> kernel_rfl)))) (by rcases hfa505 with ha505e | ⟨_, _, ha505e⟩ <;> subst ha505e <;> kernel_rfl) ?_
                    refine vc_seq ?_
                    obtain ⟨r542, hr542, h⟩ := bind_some h
                    obtain ⟨H543, hzH543, hzH543v, hH⟩ := HP.frz (k := 0) (a := a505) (sz := 3) (frz := true) e_api_Span hH rfl
                    replace hH : HP H543 [.arr a505 3 true (List.map e_api_Span j507)] := hH
                    refine vc_reg (S := ⟨[(8, .loc 8 0), (9, .loc 9 0), (14, a505), (17, .p (.int .i64 r540.1)), (18, .p (.int .i64 r540.2)), (19, .p (.int .i64 r542.1)), (20, .p (.int .i64 r542.2)), (43, .agg [.p (.sl 3 false (List.map e_api_Span r1)), a505]), (44, .p (.int .i64 1)), (55, .agg [.p (.int .i64 a3_.Period), .p (.int .i64 a3_.From), .p (.int .i64 a3_.Long), .p (.int .i64 r532.Period), .p (.int .i64 r532.From), .p (.int .i64 r532.Long)]), (56, .p (.int .i64 1))], [(8, [.p (.int .i64 a3_.Period), .p (.int .i64 a3_.From), .p (.int .i64 a3_.Long)]), (9, [.p (.int .u8 a4_.x0), .p (.int .u8 a4_.x1), .p (.int .u8 a4_.x2)])], H543⟩) (APath.chunk 2 (by rcases hfa505 with ha505e | ⟨_, _, ha505e⟩ <;> subst ha505e <;> kernel_rfl) (APath.one (.call (some 68) 22 [.t 66, .t 67]) (by kernel_rfl) (st_callF (H := H541) (ys := [a505, .agg [.p (.int .i64 r532.Period), .p (.int .i64 r532.From), .p (.int .i64 r532.Long)]]) (by rcases hfa505 with ha505e | ⟨_, _, ha505e⟩ <;> subst ha505e <;> kernel_rfl) (by rcases hfa505 with ha505e | ⟨_, _, ha505e⟩ <;> subst ha505e <;> kernel_rfl) (frzL_cons hzH543v (frzL_cons rfl frzL_nil)) (ref23_Next_ok N j507 r532 r542 hr542)) (APath.fin (by rcases hfa505 with ha505e | ⟨_, _, ha505e⟩ <;> subst ha505e <;> kernel_rfl)))) (by rcases hfa505 with ha505e | ⟨_, _, ha505e⟩ <;> subst ha505e <;> kernel_rfl) ?_
                    refine vc_seq ?_
                    refine vc_regX ⟨[(8, .loc 8 0), (9, .loc 9 0), (14, a505), (43, .agg [.p (.sl 3 false (List.map e_api_Span r1)), a505]), (44, .p (.int .i64 1)), (55, .agg [.p (.int .i64 a3_.Period), .p (.int .i64 a3_.From), .p (.int .i64 a3_.Long), .p (.int .i64 r532.Period), .p (.int .i64 r532.From), .p (.int .i64 r532.Long)]), (56, .p (.int .i64 1)), (78, .p (.bool ((r540.1 != r542.1) || (r540.2 != r542.2))))], [(8, [.p (.int .i64 a3_.Period), .p (.int .i64 a3_.From), .p (.int .i64 a3_.Long)]), (9, [.p (.int .u8 a4_.x0), .p (.int .u8 a4_.x1), .p (.int .u8 a4_.x2)])], H543⟩ ?_ ?_
                    · rcases Bool.eq_false_or_eq_true (r540.1 != r542.1) with hc544 | hc545
                      · exact ⟨_, (APath.chunk 2 (by rcases hfa505 with ha505e | ⟨_, _, ha505e⟩ <;> subst ha505e <;> kernel_rfl) (APath.one (.val 73 (.bin .neq) [.t 71, .t 72]) (by kernel_rfl) (st_bool (c := (r540.1 != r542.1)) (by rcases hfa505 with ha505e | ⟨_, _, ha505e⟩ <;> subst ha505e <;> kernel_rfl) hc544) (APath.fin (by rcases hfa505 with ha505e | ⟨_, _, ha505e⟩ <;> subst ha505e <;> kernel_rfl)))), by simp only [hc544]; rcases hfa505 with ha505e | ⟨_, _, ha505e⟩ <;> subst ha505e <;> kernel_rfl⟩
                      · exact ⟨_, (APath.chunk 2 (by rcases hfa505 with ha505e | ⟨_, _, ha505e⟩ <;> subst ha505e <;> kernel_rfl) (APath.one (.val 73 (.bin .neq) [.t 71, .t 72]) (by kernel_rfl) (st_bool (c := (r540.1 != r542.1)) (by rcases hfa505 with ha505e | ⟨_, _, ha505e⟩ <;> subst ha505e <;> kernel_rfl) hc545) (APath.fin (by rcases hfa505 with ha505e | ⟨_, _, ha505e⟩ <;> subst ha505e <;> kernel_rfl)))), by simp only [hc545]; rcases hfa505 with ha505e | ⟨_, _, ha505e⟩ <;> subst ha505e <;> kernel_rfl⟩
                    · refine vc_ite (by kernel_rfl) h (fun hc546 h => ?_) (fun hc546 h => ?_)
                      · refine vc_seq ?_
                        refine vc_reg (S := ⟨[(10, .p (.bool false))], [], H543⟩) (APath.fin (by rcases hfa505 with ha505e | ⟨_, _, ha505e⟩ <;> subst ha505e <;> kernel_rfl)) (by rcases hfa505 with ha505e | ⟨_, _, ha505e⟩ <;> subst ha505e <;> kernel_rfl) ?_
                        replace hH : HP H543 [] := HP.pick hH [] rfl
                        refine vc_ret ?_
                        obtain rfl := some_inj h
                        exact ret_of (by kernel_rfl)
                      · refine vc_skip ?_
                        refine vc_kp ?_
                        refine vc_reg (S := ⟨[(8, .loc 8 0), (9, .loc 9 0), (14, a505), (43, .agg [.p (.sl 3 false (List.map e_api_Span r1)), a505]), (44, .p (.int .i64 1)), (55, .agg [.p (.int .i64 a3_.Period), .p (.int .i64 a3_.From), .p (.int .i64 a3_.Long), .p (.int .i64 r532.Period), .p (.int .i64 r532.From), .p (.int .i64 r532.Long)]), (56, .p (.int .i64 2))], [(8, [.p (.int .i64 a3_.Period), .p (.int .i64 a3_.From), .p (.int .i64 a3_.Long)]), (9, [.p (.int .u8 a4_.x0), .p (.int .u8 a4_.x1), .p (.int .u8 a4_.x2)])], H543⟩) (APath.fin (by rcases hfa505 with ha505e | ⟨_, _, ha505e⟩ <;> subst ha505e <;> kernel_rfl)) (by rcases hfa505 with ha505e | ⟨_, _, ha505e⟩ <;> subst ha505e <;> kernel_rfl) ?_
                        refine unr_step ?_
                        refine vc_seq ?_
                        refine vc_reg (S := ⟨[(8, .loc 8 0), (9, .loc 9 0), (14, a505), (43, .agg [.p (.sl 3 false (List.map e_api_Span r1)), a505]), (44, .p (.int .i64 1)), (55, .agg [.p (.int .i64 a3_.Period), .p (.int .i64 a3_.From), .p (.int .i64 a3_.Long), .p (.int .i64 r532.Period), .p (.int .i64 r532.From), .p (.int .i64 r532.Long)]), (56, .p (.int .i64 2)), (57, .p (.bool false))], [(8, [.p (.int .i64 a3_.Period), .p (.int .i64 a3_.From), .p (.int .i64 a3_.Long)]), (9, [.p (.int .u8 a4_.x0), .p (.int .u8 a4_.x1), .p (.int .u8 a4_.x2)])], H543⟩) (APath.fin (by rcases hfa505 with ha505e | ⟨_, _, ha505e⟩ <;> subst ha505e <;> kernel_rfl)) (by rcases hfa505 with ha505e | ⟨_, _, ha505e⟩ <;> subst ha505e <;> kernel_rfl) ?_
                        refine vc_seq ?_
                        refine vc_false (by kernel_rfl) ?_
                        refine vc_exit ?_
                        try show vc _ _ _ _ _
                        refine vc_seq ?_
                        obtain ⟨r547, hr547, h⟩ := bind_some h
                        obtain ⟨H548, hzH548, hzH548v, hH⟩ := HP.frz (k := 0) (a := a505) (sz := 3) (frz := true) e_api_Span hH rfl
                        replace hH : HP H548 [.arr a505 3 true (List.map e_api_Span j507)] := hH
                        refine vc_reg (S := ⟨[(8, .loc 8 0), (9, .loc 9 0), (14, a505), (21, .p (.int .i64 r547.1)), (22, .p (.int .i64 r547.2)), (43, .agg [.p (.sl 3 false (List.map e_api_Span r1)), a505]), (44, .p (.int .i64 1))], [(8, [.p (.int .i64 a3_.Period), .p (.int .i64 a3_.From), .p (.int .i64 a3_.Long)]), (9, [.p (.int .u8 a4_.x0), .p (.int .u8 a4_.x1), .p (.int .u8 a4_.x2)])], H548⟩) (APath.chunk 1 (by rcases hfa505 with ha505e | ⟨_, _, ha505e⟩ <;> subst ha505e <;> kernel_rfl) (APath.one (.call (some 82) 23 [.t 81]) (by kernel_rfl) (st_callF (H := H543) (ys := [a505]) (by rcases hfa505 with ha505e | ⟨_, _, ha505e⟩ <;> subst ha505e <;> kernel_rfl) (by rcases hfa505 with ha505e | ⟨_, _, ha505e⟩ <;> subst ha505e <;> kernel_rfl) (frzL_cons hzH548v frzL_nil) (residue_Cycle_ok N j507 r547 hr547)) (APath.fin (by rcases hfa505 with ha505e | ⟨_, _, ha505e⟩ <;> subst ha505e <;> kernel_rfl)))) (by rcases hfa505 with ha505e | ⟨_, _, ha505e⟩ <;> subst ha505e <;> kernel_rfl) ?_
                        refine vc_seq ?_
                        obtain ⟨r549, hr549, h⟩ := bind_some h
                        obtain ⟨H550, hzH550, hzH550v, hH⟩ := HP.frz (k := 0) (a := a505) (sz := 3) (frz := true) e_api_Span hH rfl
                        replace hH : HP H550 [.arr a505 3 true (List.map e_api_Span j507)] := hH
                        refine vc_reg (S := ⟨[(8, .loc 8 0), (9, .loc 9 0), (21, .p (.int .i64 r547.1)), (22, .p (.int .i64 r547.2)), (23, .p (.int .i64 r549.1)), (24, .p (.int .i64 r549.2)), (43, .agg [.p (.sl 3 false (List.map e_api_Span r1)), a505]), (44, .p (.int .i64 1))], [(8, [.p (.int .i64 a3_.Period), .p (.int .i64 a3_.From), .p (.int .i64 a3_.Long)]), (9, [.p (.int .u8 a4_.x0), .p (.int .u8 a4_.x1), .p (.int .u8 a4_.x2)])], H550⟩) (APath.chunk 1 (by rcases hfa505 with ha505e | ⟨_, _, ha505e⟩ <;> subst ha505e <;> kernel_rfl) (APath.one (.call (some 87) 24 [.t 86]) (by kernel_rfl) (st_callF (H := H548) (ys := [a505]) (by rcases hfa505 with ha505e | ⟨_, _, ha505e⟩ <;> subst ha505e <;> kernel_rfl) (by rcases hfa505 with ha505e | ⟨_, _, ha505e⟩ <;> subst ha505e <;> kernel_rfl) (frzL_cons hzH550v frzL_nil) (ref23_Cycle_ok N j507 r549 hr549)) (APath.fin (by rcases hfa505 with ha505e | ⟨_, _, ha505e⟩ <;> subst ha505e <;> kernel_rfl)))) (by rcases hfa505 with ha505e | ⟨_, _, ha505e⟩ <;> subst ha505e <;> kernel_rfl) ?_
                        refine vc_seq ?_
                        refine vc_regX ⟨[(8, .loc 8 0), (9, .loc 9 0), (43, .agg [.p (.sl 3 false (List.map e_api_Span r1)), a505]), (44, .p (.int .i64 1)), (97, .p (.bool ((r547.1 != r549.1) || (r547.2 != r549.2))))], [(8, [.p (.int .i64 a3_.Period), .p (.int .i64 a3_.From), .p (.int .i64 a3_.Long)]), (9, [.p (.int .u8 a4_.x0), .p (.int .u8 a4_.x1), .p (.int .u8 a4_.x2)])], H550⟩ ?_ ?_
                        · rcases Bool.eq_false_or_eq_true (r547.1 != r549.1) with hc551 | hc552
                          · exact ⟨_, (APath.chunk 2 (by rcases hfa505 with ha505e | ⟨_, _, ha505e⟩ <;> subst ha505e <;> kernel_rfl) (APath.one (.val 92 (.bin .neq) [.t 90, .t 91]) (by kernel_rfl) (st_bool (c := (r547.1 != r549.1)) (by rcases hfa505 with ha505e | ⟨_, _, ha505e⟩ <;> subst ha505e <;> kernel_rfl) hc551) (APath.fin (by rcases hfa505 with ha505e | ⟨_, _, ha505e⟩ <;> subst ha505e <;> kernel_rfl)))), by simp only [hc551]; rcases hfa505 with ha505e | ⟨_, _, ha505e⟩ <;> subst ha505e <;> kernel_rfl⟩
                          · exact ⟨_, (APath.chunk 2 (by rcases hfa505 with ha505e | ⟨_, _, ha505e⟩ <;> subst ha505e <;> kernel_rfl) (APath.one (.val 92 (.bin .neq) [.t 90, .t 91]) (by kernel_rfl) (st_bool (c := (r547.1 != r549.1)) (by rcases hfa505 with ha505e | ⟨_, _, ha505e⟩ <;> subst ha505e <;> kernel_rfl) hc552) (APath.fin (by rcases hfa505 with ha505e | ⟨_, _, ha505e⟩ <;> subst ha505e <;> kernel_rfl)))), by simp only [hc552]; rcases hfa505 with ha505e | ⟨_, _, ha505e⟩ <;> subst ha505e <;> kernel_rfl⟩
                        · refine vc_ite (by kernel_rfl) h (fun hc553 h => ?_) (fun hc553 h => ?_)
                          · refine vc_seq ?_
                            refine vc_reg (S := ⟨[(10, .p (.bool false))], [], H550⟩) (APath.fin (by rcases hfa505 with ha505e | ⟨_, _, ha505e⟩ <;> subst ha505e <;> kernel_rfl)) (by rcases hfa505 with ha505e | ⟨_, _, ha505e⟩ <;> subst ha505e <;> kernel_rfl) ?_
                            replace hH : HP H550 [] := HP.pick hH [] rfl
                            refine vc_ret ?_
                            obtain rfl := some_inj h
                            exact ret_of (by kernel_rfl)
                          · refine vc_skip ?_
                            refine vc_kp ?_
                            refine vc_reg (S := ⟨[(8, .loc 8 0), (9, .loc 9 0), (43, .agg [.p (.sl 3 false (List.map e_api_Span r1)), a505]), (44, .p (.int .i64 2))], [(8, [.p (.int .i64 a3_.Period), .p (.int .i64 a3_.From), .p (.int .i64 a3_.Long)]), (9, [.p (.int .u8 a4_.x0), .p (.int .u8 a4_.x1), .p (.int .u8 a4_.x2)])], H550⟩) (APath.fin (by rcases hfa505 with ha505e | ⟨_, _, ha505e⟩ <;> subst ha505e <;> kernel_rfl)) (by rcases hfa505 with ha505e | ⟨_, _, ha505e⟩ <;> subst ha505e <;> kernel_rfl) ?_
                            refine unr_step ?_
                            refine vc_seq ?_
                            refine vc_reg (S := ⟨[(8, .loc 8 0), (9, .loc 9 0), (43, .agg [.p (.sl 3 false (List.map e_api_Span r1)), a505]), (44, .p (.int .i64 2)), (45, .p (.bool false))], [(8, [.p (.int .i64 a3_.Period), .p (.int .i64 a3_.From), .p (.int .i64 a3_.Long)]), (9, [.p (.int .u8 a4_.x0), .p (.int .u8 a4_.x1), .p (.int .u8 a4_.x2)])], H550⟩) (APath.fin (by rcases hfa505 with ha505e | ⟨_, _, ha505e⟩ <;> subst ha505e <;> kernel_rfl)) (by rcases hfa505 with ha505e | ⟨_, _, ha505e⟩ <;> subst ha505e <;> kernel_rfl) ?_
                            refine vc_seq ?_
                            refine vc_false (by kernel_rfl) ?_
                            refine vc_exit ?_
                            try show vc _ _ _ _ _
                            refine vc_seq ?_
                            obtain ⟨r554, hr554, h⟩ := bind_some h
                            refine vc_reg (S := ⟨[(10, .p (.bool r554))], [], H550⟩) (APath.one (.call (some 99) 15 []) (by kernel_rfl) (st_call (by rcases hfa505 with ha505e | ⟨_, _, ha505e⟩ <;> subst ha505e <;> kernel_rfl) (law23_works_ok N  r554 hr554)) (APath.fin (by rcases hfa505 with ha505e | ⟨_, _, ha505e⟩ <;> subst ha505e <;> kernel_rfl))) (by rcases hfa505 with ha505e | ⟨_, _, ha505e⟩ <;> subst ha505e <;> kernel_rfl) ?_
                            replace hH : HP H550 [] := HP.pick hH [] rfl
                            refine vc_ret ?_
                            obtain rfl := some_inj h
                            exact ret_of (by kernel_rfl)
/- isochronlaw23.ResidueMeans -/
theorem law23_ResidueMeans_ok (N : Nat) (a0_ : Arr6_u8) (a1_ : Int) (r : Bool) (h : law23_ResidueMeans N a0_ a1_ = some r) : PCall Try.prog 6 [.agg [.p (.int .u8 a0_.x0), .p (.int .u8 a0_.x1), .p (.int .u8 a0_.x2), .p (.int .u8 a0_.x3), .p (.int .u8 a0_.x4), .p (.int .u8 a0_.x5)], .p (.int .i64 a1_)] (.p (.bool r)) := by
  unfold law23_ResidueMeans at h
  have hH : HP ([] : List HO) [] := trivial
  refine pcall_of chk6 rfl rfl (vc_sound _ _ _ ?_) rfl
  refine vc_seq ?_
  refine vc_reg (S := ⟨[(1, .p (.int .i64 a1_)), (2, .loc 2 0)], [(2, [.p (.int .u8 a0_.x0), .p (.int .u8 a0_.x1), .p (.int .u8 a0_.x2), .p (.int .u8 a0_.x3), .p (.int .u8 a0_.x4), .p (.int .u8 a0_.x5)])], []⟩) (APath.fin (by kernel_rfl)) (by kernel_rfl) ?_
  refine vc_seq ?_
  refine vc_seq ?_
  obtain ⟨r1, hr1, h⟩ := bind_some h
  refine vc_reg (S := ⟨[(1, .p (.int .i64 a1_)), (2, .loc 2 0), (11, .p (.bool (!r1)))], [(2, [.p (.int .u8 a0_.x0), .p (.int .u8 a0_.x1), .p (.int .u8 a0_.x2), .p (.int .u8 a0_.x3), .p (.int .u8 a0_.x4), .p (.int .u8 a0_.x5)])], []⟩) (APath.one (.call (some 10) 15 []) (by kernel_rfl) (st_call (by kernel_rfl) (law23_works_ok N  r1 hr1)) (APath.fin (by kernel_rfl))) (by kernel_rfl) ?_
  refine vc_ite (by kernel_rfl) h (fun hc2 h => ?_) (fun hc2 h => ?_)
  · refine vc_seq ?_
    refine vc_reg (S := ⟨[(4, .p (.bool false))], [], []⟩) (APath.fin (by kernel_rfl)) (by kernel_rfl) ?_
    refine vc_ret ?_
    obtain rfl := some_inj h
    exact ret_of (by kernel_rfl)
  · refine vc_skip ?_
    refine vc_kp ?_
    refine vc_seq ?_
    obtain ⟨r3, hr3, h⟩ := bind_some h
    obtain ⟨r4, hr4, h⟩ := bind_some h
    refine vc_regD (S := ⟨[(1, .p (.int .i64 a1_)), (5, .loc 5 0), (6, .loc 6 0)], [(5, [.p (.int .i64 r3.Period), .p (.int .i64 r3.From), .p (.int .i64 r3.Long)]), (6, [.p (.int .i64 r4.Period), .p (.int .i64 r4.From), .p (.int .i64 r4.Long)])], []⟩) (by kernel_rfl) (APath.chunk 6 (by kernel_rfl) (APath.one (.callP 18 10 [.t 13, .t 15, .t 17]) (by kernel_rfl) (st_callP (by kernel_rfl) (ref23_Of_ok N a0_.x0 a0_.x1 a0_.x2 r3 hr3)) (APath.chunk 6 (by kernel_rfl) (APath.one (.callP 25 10 [.t 20, .t 22, .t 24]) (by kernel_rfl) (st_callP (by kernel_rfl) (ref23_Of_ok N a0_.x3 a0_.x4 a0_.x5 r4 hr4)) (APath.fin (by kernel_rfl)))))) (by kernel_rfl) ?_
    refine vc_seq ?_
    refine vc_reg (S := ⟨[(1, .p (.int .i64 a1_)), (5, .loc 5 0), (6, .loc 6 0), (7, .p (.bool false))], [(5, [.p (.int .i64 r3.Period), .p (.int .i64 r3.From), .p (.int .i64 r3.Long)]), (6, [.p (.int .i64 r4.Period), .p (.int .i64 r4.From), .p (.int .i64 r4.Long)])], []⟩) (APath.fin (by kernel_rfl)) (by kernel_rfl) ?_
    refine vc_seq ?_
    refine vc_seq ?_
    refine vc_reg (S := ⟨[(1, .p (.int .i64 a1_)), (5, .loc 5 0), (6, .loc 6 0), (7, .p (.bool false)), (8, .p (.int .i64 0))], [(5, [.p (.int .i64 r3.Period), .p (.int .i64 r3.From), .p (.int .i64 r3.Long)]), (6, [.p (.int .i64 r4.Period), .p (.int .i64 r4.From), .p (.int .i64 r4.Long)])], []⟩) (APath.fin (by kernel_rfl)) (by kernel_rfl) ?_
    refine vc_block ?_
    obtain ⟨o517, ho517, h⟩ := bind_some h
    refine vc_loop ((loop_sim (fun (x : Bool × Int) s => s = ⟨[(1, .p (.int .i64 a1_)), (5, .loc 5 0), (6, .loc 6 0), (7, .p (.bool x.1)), (8, .p (.int .i64 x.2))], [(5, [.p (.int .i64 r3.Period), .p (.int .i64 r3.From), .p (.int .i64 r3.Long)]), (6, [.p (.int .i64 r4.Period), .p (.int .i64 r4.From), .p (.int .i64 r4.Long)])], []⟩) (fun x : Bool × Int => law23_ResidueMeans_L1 N r3 r4 x.1 x.2) (fun (p : Bool × Int) e s => e = .exit 0 ∧ (s = ⟨[(1, .p (.int .i64 a1_)), (5, .loc 5 0), (6, .loc 6 0), (7, .p (.bool p.1)), (8, .p (.int .i64 p.2))], [(5, [.p (.int .i64 r3.Period), .p (.int .i64 r3.From), .p (.int .i64 r3.Long)]), (6, [.p (.int .i64 r4.Period), .p (.int .i64 r4.From), .p (.int .i64 r4.Long)])], []⟩)) ?_ N _ o517 _ ho517 (by show _ = _; kernel_rfl)).mono ?_)
    · clear h ho517
      rintro ⟨b5, i6⟩ o s h hR
      obtain rfl := hR
      replace h : law23_ResidueMeans_L1 N r3 r4 b5 i6 = some o := h
      unfold law23_ResidueMeans_L1 at h
      refine vc_seq ?_
      refine vc_seq ?_
      refine vc_reg (S := ⟨[(1, .p (.int .i64 a1_)), (5, .loc 5 0), (6, .loc 6 0), (7, .p (.bool b5)), (8, .p (.int .i64 i6)), (32, .p (.bool (decide (i6 < (w64 (r3.Period * r4.Period))))))], [(5, [.p (.int .i64 r3.Period), .p (.int .i64 r3.From), .p (.int .i64 r3.Long)]), (6, [.p (.int .i64 r4.Period), .p (.int .i64 r4.From), .p (.int .i64 r4.Long)])], []⟩) (APath.fin (by kernel_rfl)) (by kernel_rfl) ?_
      refine vc_ite (by kernel_rfl) h (fun hc507 h => ?_) (fun hc507 h => ?_)
      · refine vc_skip ?_
        refine vc_kp ?_
        refine vc_seq ?_
        refine vc_block ?_
        obtain ⟨j516, hj, h⟩ := bind_some h
        refine vc_regXR (fun s => s = ⟨[(1, .p (.int .i64 a1_)), (5, .loc 5 0), (6, .loc 6 0), (7, .p (.bool j516)), (8, .p (.int .i64 i6))], [(5, [.p (.int .i64 r3.Period), .p (.int .i64 r3.From), .p (.int .i64 r3.Long)]), (6, [.p (.int .i64 r4.Period), .p (.int .i64 r4.From), .p (.int .i64 r4.Long)])], []⟩) ?_ ?_
        · clear h
          rcases ite_some hj with ⟨hc508, hj⟩ | ⟨hc509, hj⟩
          · obtain rfl := some_inj hj
            exact ⟨_, (APath.one (.val 35 .mov [.t 7]) (by kernel_rfl) (st_bool (c := b5) (by kernel_rfl) hc508) (APath.fin (by kernel_rfl))), (by show _ = _; kernel_rfl)⟩
          · obtain ⟨r510, hr510, hj⟩ := bind_some hj
            rcases ite_some hj with ⟨hc511, hj⟩ | ⟨hc515, hj⟩
            · obtain ⟨r512, hr512, hj⟩ := bind_some hj
              rcases ite_some hj with ⟨hc513, hj⟩ | ⟨hc514, hj⟩
              · obtain rfl := some_inj hj
                exact ⟨_, (APath.one (.val 35 .mov [.t 7]) (by kernel_rfl) (st_bool (c := b5) (by kernel_rfl) hc509) (APath.chunk 3 (by kernel_rfl) (APath.oneG (.call (some 39) 25 [.t 37, .t 38]) 36 false (by kernel_rfl) (by kernel_rfl) (st_callB (by kernel_rfl) (law23_covers_ok N r3 i6 r510 hr510) hc511) (APath.chunk 3 (by kernel_rfl) (APath.oneG (.call (some 43) 25 [.t 41, .t 42]) 40 true (by kernel_rfl) (by kernel_rfl) (st_call (by kernel_rfl) (law23_covers_ok N r4 i6 r512 hr512)) (APath.chunk 2 (by kernel_rfl) (APath.one (.val 7 .mov [.t 45]) (by kernel_rfl) (st_bool (c := r512) (by kernel_rfl) hc513) APath.done))))))), (by show _ = _; kernel_rfl)⟩
              · obtain rfl := some_inj hj
                exact ⟨_, (APath.one (.val 35 .mov [.t 7]) (by kernel_rfl) (st_bool (c := b5) (by kernel_rfl) hc509) (APath.chunk 3 (by kernel_rfl) (APath.oneG (.call (some 39) 25 [.t 37, .t 38]) 36 false (by kernel_rfl) (by kernel_rfl) (st_callB (by kernel_rfl) (law23_covers_ok N r3 i6 r510 hr510) hc511) (APath.chunk 3 (by kernel_rfl) (APath.oneG (.call (some 43) 25 [.t 41, .t 42]) 40 true (by kernel_rfl) (by kernel_rfl) (st_call (by kernel_rfl) (law23_covers_ok N r4 i6 r512 hr512)) (APath.chunk 2 (by kernel_rfl) (APath.one (.val 7 .mov [.t 45]) (by kernel_rfl) (st_bool (c := r512) (by kernel_rfl) hc514) APath.done))))))), (by show _ = _; kernel_rfl)⟩
            · obtain rfl := some_inj hj
              exact ⟨_, (APath.one (.val 35 .mov [.t 7]) (by kernel_rfl) (st_bool (c := b5) (by kernel_rfl) hc509) (APath.chunk 3 (by kernel_rfl) (APath.oneG (.call (some 39) 25 [.t 37, .t 38]) 36 false (by kernel_rfl) (by kernel_rfl) (st_callB (by kernel_rfl) (law23_covers_ok N r3 i6 r510 hr510) hc515) (APath.fin (by kernel_rfl))))), (by show _ = _; kernel_rfl)⟩
        · clear hj
          rintro s hR
          obtain rfl := hR
          refine vc_reg (S := ⟨[(1, .p (.int .i64 a1_)), (5, .loc 5 0), (6, .loc 6 0), (7, .p (.bool j516)), (8, .p (.int .i64 (w64 (i6 + 1))))], [(5, [.p (.int .i64 r3.Period), .p (.int .i64 r3.From), .p (.int .i64 r3.Long)]), (6, [.p (.int .i64 r4.Period), .p (.int .i64 r4.From), .p (.int .i64 r4.Long)])], []⟩) (APath.fin (by kernel_rfl)) (by kernel_rfl) ?_
          obtain rfl := some_inj h
          exact ⟨_, rfl, (by show _ = _; kernel_rfl)⟩
      · refine vc_exit ?_
        try show vc _ _ _ _ _
        obtain rfl := some_inj h
        exact ⟨_, rfl, rfl, (by show _ = _; kernel_rfl)⟩
    · rintro e s hq
      obtain ⟨rfl, hR⟩ := hq
      obtain rfl := hR
      try show vc _ _ _ _ _
      refine vc_seq ?_
      refine vc_reg (S := ⟨[(1, .p (.int .i64 (Int.tmod a1_ 100000))), (5, .loc 5 0), (6, .loc 6 0), (7, .p (.bool o517.1))], [(5, [.p (.int .i64 r3.Period), .p (.int .i64 r3.From), .p (.int .i64 r3.Long)]), (6, [.p (.int .i64 r4.Period), .p (.int .i64 r4.From), .p (.int .i64 r4.Long)])], []⟩) (APath.fin (by kernel_rfl)) (by kernel_rfl) ?_
      refine vc_seq ?_
      obtain ⟨j524, hj, h⟩ := bind_some h
      refine vc_regDXR (fun s => s = ⟨[(5, .loc 5 0), (6, .loc 6 0), (7, .p (.bool o517.1)), (9, .p (.bool j524))], [(5, [.p (.int .i64 r3.Period), .p (.int .i64 r3.From), .p (.int .i64 r3.Long)]), (6, [.p (.int .i64 r4.Period), .p (.int .i64 r4.From), .p (.int .i64 r4.Long)])], []⟩) (by kernel_rfl) ?_ ?_
      · clear h
        obtain ⟨r518, hr518, hj⟩ := bind_some hj
        obtain ⟨r519, hr519, hj⟩ := bind_some hj
        rcases ite_some hj with ⟨hc520, hj⟩ | ⟨hc523, hj⟩
        · obtain ⟨r521, hr521, hj⟩ := bind_some hj
          obtain ⟨r522, hr522, hj⟩ := bind_some hj
          obtain rfl := some_inj hj
          exact ⟨_, (APath.chunk 2 (by kernel_rfl) (APath.one (.callP 50 25 [.t 48, .t 49]) (by kernel_rfl) (st_callP (by kernel_rfl) (law23_covers_ok N r3 (Int.tmod a1_ 100000) r518 hr518)) (APath.chunk 5 (by kernel_rfl) (APath.one (.callP 56 25 [.t 51, .t 55]) (by kernel_rfl) (st_callP (by kernel_rfl) (law23_covers_ok N r3 (w64 ((Int.tmod a1_ 100000) + r3.Period)) r519 hr519)) (APath.one (.val 57 (.eqB false) [.t 50, .t 56]) (by kernel_rfl) (st_bool (c := (r518 == r519)) (by kernel_rfl) hc520) (APath.chunk 3 (by kernel_rfl) (APath.oneG (.callP 61 25 [.t 59, .t 60]) 58 true (by kernel_rfl) (by kernel_rfl) (st_callP (by kernel_rfl) (law23_covers_ok N r3 (Int.tmod a1_ 100000) r521 hr521)) (APath.chunk 6 (by kernel_rfl) (APath.oneG (.callP 68 25 [.t 62, .t 67]) 58 true (by kernel_rfl) (by kernel_rfl) (st_callP (by kernel_rfl) (law23_covers_ok N r3 (w64 ((Int.tmod a1_ 100000) - (w64 (3 * r3.Period)))) r522 hr522)) (APath.fin (by kernel_rfl))))))))))), (by show _ = _; kernel_rfl)⟩
        · obtain rfl := some_inj hj
          exact ⟨_, (APath.chunk 2 (by kernel_rfl) (APath.one (.callP 50 25 [.t 48, .t 49]) (by kernel_rfl) (st_callP (by kernel_rfl) (law23_covers_ok N r3 (Int.tmod a1_ 100000) r518 hr518)) (APath.chunk 5 (by kernel_rfl) (APath.one (.callP 56 25 [.t 51, .t 55]) (by kernel_rfl) (st_callP (by kernel_rfl) (law23_covers_ok N r3 (w64 ((Int.tmod a1_ 100000) + r3.Period)) r519 hr519)) (APath.one (.val 57 (.eqB false) [.t 50, .t 56]) (by kernel_rfl) (st_bool (c := (r518 == r519)) (by kernel_rfl) hc523) (APath.fin (by kernel_rfl))))))), (by show _ = _; kernel_rfl)⟩
      · clear hj
        rintro s hR
        obtain rfl := hR
        refine vc_seq ?_
        obtain ⟨j528, hj, h⟩ := bind_some h
        refine vc_regXR (fun s => s = ⟨[(4, .p (.bool j528))], [], []⟩) ?_ ?_
        · clear h
          obtain ⟨r525, hr525, hj⟩ := bind_some hj
          rcases ite_some hj with ⟨hc526, hj⟩ | ⟨hc527, hj⟩
          · obtain rfl := some_inj hj
            exact ⟨_, (APath.chunk 2 (by kernel_rfl) (APath.one (.call (some 73) 26 [.t 71, .t 72]) (by kernel_rfl) (st_call (by kernel_rfl) (law23_apart_ok N r3 r4 r525 hr525)) (APath.chunk 2 (by kernel_rfl) (APath.one (.val 76 (.eqB false) [.t 73, .t 75]) (by kernel_rfl) (st_bool (c := (r525 == (!o517.1))) (by kernel_rfl) hc526) (APath.fin (by kernel_rfl)))))), (by show _ = _; kernel_rfl)⟩
          · obtain rfl := some_inj hj
            exact ⟨_, (APath.chunk 2 (by kernel_rfl) (APath.one (.call (some 73) 26 [.t 71, .t 72]) (by kernel_rfl) (st_call (by kernel_rfl) (law23_apart_ok N r3 r4 r525 hr525)) (APath.chunk 2 (by kernel_rfl) (APath.one (.val 76 (.eqB false) [.t 73, .t 75]) (by kernel_rfl) (st_bool (c := (r525 == (!o517.1))) (by kernel_rfl) hc527) (APath.fin (by kernel_rfl)))))), (by show _ = _; kernel_rfl)⟩
        · clear hj
          rintro s hR
          obtain rfl := hR
          refine vc_ret ?_
          obtain rfl := some_inj h
          exact ret_of (by kernel_rfl)
/- isochronlaw23.ResidueMoves -/
theorem law23_ResidueMoves_ok (N : Nat) (a0_ : Arr6_u8) (a1_ : Int) (r : Bool) (h : law23_ResidueMoves N a0_ a1_ = some r) : PCall Try.prog 7 [.agg [.p (.int .u8 a0_.x0), .p (.int .u8 a0_.x1), .p (.int .u8 a0_.x2), .p (.int .u8 a0_.x3), .p (.int .u8 a0_.x4), .p (.int .u8 a0_.x5)], .p (.int .u8 a1_)] (.p (.bool r)) := by
  unfold law23_ResidueMoves at h
  have hH : HP ([] : List HO) [] := trivial
  refine pcall_of chk7 rfl rfl (vc_sound _ _ _ ?_) rfl
  refine vc_seq ?_
  refine vc_reg (S := ⟨[(1, .p (.int .u8 a1_)), (2, .loc 2 0)], [(2, [.p (.int .u8 a0_.x0), .p (.int .u8 a0_.x1), .p (.int .u8 a0_.x2), .p (.int .u8 a0_.x3), .p (.int .u8 a0_.x4), .p (.int .u8 a0_.x5)])], []⟩) (APath.fin (by kernel_rfl)) (by kernel_rfl) ?_
  refine vc_seq ?_
  refine vc_seq ?_
  obtain ⟨r1, hr1, h⟩ := bind_some h
  refine vc_reg (S := ⟨[(1, .p (.int .u8 a1_)), (2, .loc 2 0), (18, .p (.bool (!r1)))], [(2, [.p (.int .u8 a0_.x0), .p (.int .u8 a0_.x1), .p (.int .u8 a0_.x2), .p (.int .u8 a0_.x3), .p (.int .u8 a0_.x4), .p (.int .u8 a0_.x5)])], []⟩) (APath.one (.call (some 17) 15 []) (by kernel_rfl) (st_call (by kernel_rfl) (law23_works_ok N  r1 hr1)) (APath.fin (by kernel_rfl))) (by kernel_rfl) ?_
  refine vc_ite (by kernel_rfl) h (fun hc2 h => ?_) (fun hc2 h => ?_)
  · refine vc_seq ?_
    refine vc_reg (S := ⟨[(4, .p (.bool false))], [], []⟩) (APath.fin (by kernel_rfl)) (by kernel_rfl) ?_
    refine vc_ret ?_
    obtain rfl := some_inj h
    exact ret_of (by kernel_rfl)
  · refine vc_skip ?_
    refine vc_kp ?_
    refine vc_seq ?_
    obtain ⟨r3, hr3, h⟩ := bind_some h
    obtain ⟨r4, hr4, h⟩ := bind_some h
    refine vc_regD (S := ⟨[(1, .p (.int .u8 a1_)), (5, .loc 5 0), (6, .loc 6 0)], [(5, [.p (.int .i64 r3.Period), .p (.int .i64 r3.From), .p (.int .i64 r3.Long)]), (6, [.p (.int .i64 r4.Period), .p (.int .i64 r4.From), .p (.int .i64 r4.Long)])], []⟩) (by kernel_rfl) (APath.chunk 6 (by kernel_rfl) (APath.one (.callP 25 10 [.t 20, .t 22, .t 24]) (by kernel_rfl) (st_callP (by kernel_rfl) (ref23_Of_ok N a0_.x0 a0_.x1 a0_.x2 r3 hr3)) (APath.chunk 6 (by kernel_rfl) (APath.one (.callP 32 10 [.t 27, .t 29, .t 31]) (by kernel_rfl) (st_callP (by kernel_rfl) (ref23_Of_ok N a0_.x3 a0_.x4 a0_.x5 r4 hr4)) (APath.fin (by kernel_rfl)))))) (by kernel_rfl) ?_
    refine vc_seq ?_
    obtain ⟨r5, hr5, h⟩ := bind_some h
    obtain ⟨r6, hr6, h⟩ := bind_some h
    refine vc_regD (S := ⟨[(5, .loc 5 0), (6, .loc 6 0), (7, .loc 7 0), (8, .loc 8 0)], [(5, [.p (.int .i64 r3.Period), .p (.int .i64 r3.From), .p (.int .i64 r3.Long)]), (6, [.p (.int .i64 r4.Period), .p (.int .i64 r4.From), .p (.int .i64 r4.Long)]), (7, [.p (.int .i64 r5.Period), .p (.int .i64 r5.From), .p (.int .i64 r5.Long)]), (8, [.p (.int .i64 r6.Period), .p (.int .i64 r6.From), .p (.int .i64 r6.Long)])], []⟩) (by kernel_rfl) (APath.chunk 3 (by kernel_rfl) (APath.one (.callP 36 27 [.t 33, .t 35]) (by kernel_rfl) (st_callP (by kernel_rfl) (ref23_Shifted_ok N r3 (w64 (a1_)) r5 hr5)) (APath.chunk 3 (by kernel_rfl) (APath.one (.callP 40 27 [.t 37, .t 39]) (by kernel_rfl) (st_callP (by kernel_rfl) (ref23_Shifted_ok N r4 (w64 (a1_)) r6 hr6)) (APath.fin (by kernel_rfl)))))) (by kernel_rfl) ?_
    refine vc_seq ?_
    refine vc_seq ?_
    obtain ⟨j13, hj, h⟩ := bind_some h
    refine vc_regDXR (fun s => s = ⟨[(5, .loc 5 0), (6, .loc 6 0), (56, .p (.bool j13))], [(5, [.p (.int .i64 r3.Period), .p (.int .i64 r3.From), .p (.int .i64 r3.Long)]), (6, [.p (.int .i64 r4.Period), .p (.int .i64 r4.From), .p (.int .i64 r4.Long)])], []⟩) (by kernel_rfl) ?_ ?_
    · clear h
      obtain ⟨r7, hr7, hj⟩ := bind_some hj
      obtain ⟨r8, hr8, hj⟩ := bind_some hj
      rcases ite_some hj with ⟨hc9, hj⟩ | ⟨hc10, hj⟩
      · obtain rfl := some_inj hj
        exact ⟨_, (APath.chunk 2 (by kernel_rfl) (APath.one (.callP 43 26 [.t 41, .t 42]) (by kernel_rfl) (st_callP (by kernel_rfl) (law23_apart_ok N r3 r4 r7 hr7)) (APath.chunk 2 (by kernel_rfl) (APath.one (.callP 46 26 [.t 44, .t 45]) (by kernel_rfl) (st_callP (by kernel_rfl) (law23_apart_ok N r4 r3 r8 hr8)) (APath.one (.val 47 (.eqB true) [.t 43, .t 46]) (by kernel_rfl) (st_bool (c := (r7 != r8)) (by kernel_rfl) hc9) (APath.fin (by kernel_rfl))))))), (by show _ = _; kernel_rfl)⟩
      · obtain ⟨r11, hr11, hj⟩ := bind_some hj
        obtain ⟨r12, hr12, hj⟩ := bind_some hj
        obtain rfl := some_inj hj
        exact ⟨_, (APath.chunk 2 (by kernel_rfl) (APath.one (.callP 43 26 [.t 41, .t 42]) (by kernel_rfl) (st_callP (by kernel_rfl) (law23_apart_ok N r3 r4 r7 hr7)) (APath.chunk 2 (by kernel_rfl) (APath.one (.callP 46 26 [.t 44, .t 45]) (by kernel_rfl) (st_callP (by kernel_rfl) (law23_apart_ok N r4 r3 r8 hr8)) (APath.one (.val 47 (.eqB true) [.t 43, .t 46]) (by kernel_rfl) (st_bool (c := (r7 != r8)) (by kernel_rfl) hc10) (APath.chunk 3 (by kernel_rfl) (APath.oneG (.callP 51 26 [.t 49, .t 50]) 48 false (by kernel_rfl) (by kernel_rfl) (st_callP (by kernel_rfl) (law23_apart_ok N r3 r4 r11 hr11)) (APath.chunk 2 (by kernel_rfl) (APath.oneG (.callP 54 26 [.t 52, .t 53]) 48 false (by kernel_rfl) (by kernel_rfl) (st_callP (by kernel_rfl) (law23_apart_ok N r5 r6 r12 hr12)) (APath.fin (by kernel_rfl))))))))))), (by show _ = _; kernel_rfl)⟩
    · clear hj
      rintro s hR
      obtain rfl := hR
      refine vc_ite (by kernel_rfl) h (fun hc14 h => ?_) (fun hc14 h => ?_)
      · refine vc_seq ?_
        refine vc_reg (S := ⟨[(4, .p (.bool false))], [], []⟩) (APath.fin (by kernel_rfl)) (by kernel_rfl) ?_
        refine vc_ret ?_
        obtain rfl := some_inj h
        exact ret_of (by kernel_rfl)
      · refine vc_skip ?_
        refine vc_kp ?_
        refine vc_seq ?_
        obtain ⟨r15, hr15, h⟩ := bind_some h
        refine vc_reg (S := ⟨[(5, .loc 5 0), (6, .loc 6 0), (9, .p (.int .i64 r15.1)), (10, .p (.int .i64 r15.2.1)), (11, .p (.int .i64 r15.2.2.1)), (12, .p (.int .i64 r15.2.2.2))], [(5, [.p (.int .i64 r3.Period), .p (.int .i64 r3.From), .p (.int .i64 r3.Long)]), (6, [.p (.int .i64 r4.Period), .p (.int .i64 r4.From), .p (.int .i64 r4.Long)])], []⟩) (APath.chunk 2 (by kernel_rfl) (APath.one (.call (some 60) 18 [.t 58, .t 59]) (by kernel_rfl) (st_call (by kernel_rfl) (residue_Room_ok N r3 r4 r15 hr15)) (APath.fin (by kernel_rfl)))) (by kernel_rfl) ?_
        refine vc_seq ?_
        refine vc_seq ?_
        refine vc_reg (S := ⟨[(5, .loc 5 0), (6, .loc 6 0), (9, .p (.int .i64 r15.1)), (10, .p (.int .i64 r15.2.1)), (11, .p (.int .i64 r15.2.2.1)), (12, .p (.int .i64 r15.2.2.2)), (66, .p (.bool (r15.2.2.2 == 4)))], [(5, [.p (.int .i64 r3.Period), .p (.int .i64 r3.From), .p (.int .i64 r3.Long)]), (6, [.p (.int .i64 r4.Period), .p (.int .i64 r4.From), .p (.int .i64 r4.Long)])], []⟩) (APath.fin (by kernel_rfl)) (by kernel_rfl) ?_
        refine vc_ite (by kernel_rfl) h (fun hc16 h => ?_) (fun hc16 h => ?_)
        · refine vc_seq ?_
          refine vc_seq ?_
          refine vc_reg (S := ⟨[(5, .loc 5 0), (6, .loc 6 0), (13, .p (.int .i64 0))], [(5, [.p (.int .i64 r3.Period), .p (.int .i64 r3.From), .p (.int .i64 r3.Long)]), (6, [.p (.int .i64 r4.Period), .p (.int .i64 r4.From), .p (.int .i64 r4.Long)])], []⟩) (APath.fin (by kernel_rfl)) (by kernel_rfl) ?_
          refine vc_block ?_
          obtain ⟨o522, ho522, h⟩ := bind_some h
          refine vc_loop ((loop_sim (fun (x : Int) s => s = ⟨[(5, .loc 5 0), (6, .loc 6 0), (13, .p (.int .i64 x))], [(5, [.p (.int .i64 r3.Period), .p (.int .i64 r3.From), .p (.int .i64 r3.Long)]), (6, [.p (.int .i64 r4.Period), .p (.int .i64 r4.From), .p (.int .i64 r4.Long)])], []⟩) (fun x : Int => law23_ResidueMoves_L1 N r3 r4 x) (fun (p : (Int) ⊕ (Bool)) e s => match p with | (.inl p) => e = .exit 0 ∧ (s = ⟨[(5, .loc 5 0), (6, .loc 6 0), (13, .p (.int .i64 p))], [(5, [.p (.int .i64 r3.Period), .p (.int .i64 r3.From), .p (.int .i64 r3.Long)]), (6, [.p (.int .i64 r4.Period), .p (.int .i64 r4.From), .p (.int .i64 r4.Long)])], []⟩) | (.inr p) => e = .ret ∧ ∃ xs, resL s i7.res = some xs ∧ tupOf xs = .p (.bool p)) ?_ N _ o522 _ ho522 (by show _ = _; kernel_rfl)).mono ?_)
          · clear h ho522
            rintro i17 o s h hR
            obtain rfl := hR
            replace h : law23_ResidueMoves_L1 N r3 r4 i17 = some o := h
            unfold law23_ResidueMoves_L1 at h
            refine vc_seq ?_
            refine vc_seq ?_
            refine vc_reg (S := ⟨[(5, .loc 5 0), (6, .loc 6 0), (13, .p (.int .i64 i17)), (70, .p (.bool (decide (i17 < r4.Period))))], [(5, [.p (.int .i64 r3.Period), .p (.int .i64 r3.From), .p (.int .i64 r3.Long)]), (6, [.p (.int .i64 r4.Period), .p (.int .i64 r4.From), .p (.int .i64 r4.Long)])], []⟩) (APath.fin (by kernel_rfl)) (by kernel_rfl) ?_
            refine vc_ite (by kernel_rfl) h (fun hc518 h => ?_) (fun hc518 h => ?_)
            · refine vc_skip ?_
              refine vc_kp ?_
              refine vc_seq ?_
              refine vc_block ?_
              refine vc_seq ?_
              obtain ⟨r519, hr519, h⟩ := bind_some h
              obtain ⟨r520, hr520, h⟩ := bind_some h
              refine vc_regD (S := ⟨[(5, .loc 5 0), (6, .loc 6 0), (13, .p (.int .i64 i17)), (77, .p (.bool r520))], [(5, [.p (.int .i64 r3.Period), .p (.int .i64 r3.From), .p (.int .i64 r3.Long)]), (6, [.p (.int .i64 r4.Period), .p (.int .i64 r4.From), .p (.int .i64 r4.Long)])], []⟩) (by kernel_rfl) (APath.chunk 3 (by kernel_rfl) (APath.one (.callP 76 27 [.t 74, .t 75]) (by kernel_rfl) (st_callP (by kernel_rfl) (ref23_Shifted_ok N r4 i17 r519 hr519)) (APath.one (.callP 77 26 [.t 73, .t 76]) (by kernel_rfl) (st_callP (by kernel_rfl) (law23_apart_ok N r3 r519 r520 hr520)) APath.done))) (by kernel_rfl) ?_
              refine vc_ite (by kernel_rfl) h (fun hc521 h => ?_) (fun hc521 h => ?_)
              · refine vc_seq ?_
                refine vc_reg (S := ⟨[(4, .p (.bool false))], [], []⟩) (APath.fin (by kernel_rfl)) (by kernel_rfl) ?_
                refine vc_ret ?_
                obtain rfl := some_inj h
                exact ⟨_, rfl, rfl, ret_of (by kernel_rfl)⟩
              · refine vc_skip ?_
                refine vc_kp ?_
                refine vc_reg (S := ⟨[(5, .loc 5 0), (6, .loc 6 0), (13, .p (.int .i64 (w64 (i17 + 1))))], [(5, [.p (.int .i64 r3.Period), .p (.int .i64 r3.From), .p (.int .i64 r3.Long)]), (6, [.p (.int .i64 r4.Period), .p (.int .i64 r4.From), .p (.int .i64 r4.Long)])], []⟩) (APath.fin (by kernel_rfl)) (by kernel_rfl) ?_
                obtain rfl := some_inj h
                exact ⟨_, rfl, (by show _ = _; kernel_rfl)⟩
            · refine vc_exit ?_
              try show vc _ _ _ _ _
              obtain rfl := some_inj h
              exact ⟨_, rfl, rfl, (by show _ = _; kernel_rfl)⟩
          · rintro e s hq
            rcases o522 with p523 | p524
            · dsimp only at h hq
              obtain ⟨rfl, hR⟩ := hq
              obtain rfl := hR
              try show vc _ _ _ _ _
              refine vc_seq ?_
              refine vc_reg (S := ⟨[(4, .p (.bool true))], [], []⟩) (APath.fin (by kernel_rfl)) (by kernel_rfl) ?_
              refine vc_ret ?_
              obtain rfl := some_inj h
              exact ret_of (by kernel_rfl)
            · dsimp only at h hq
              obtain ⟨rfl, hq⟩ := hq
              obtain rfl := some_inj h
              exact hq
        · refine vc_skip ?_
          refine vc_kp ?_
          refine vc_seq ?_
          refine vc_seq ?_
          obtain ⟨j537, hj, h⟩ := bind_some h
          refine vc_regXR (fun s => s = ⟨[(5, .loc 5 0), (6, .loc 6 0), (9, .p (.int .i64 r15.1)), (10, .p (.int .i64 r15.2.1)), (11, .p (.int .i64 r15.2.2.1)), (111, .p (.bool j537))], [(5, [.p (.int .i64 r3.Period), .p (.int .i64 r3.From), .p (.int .i64 r3.Long)]), (6, [.p (.int .i64 r4.Period), .p (.int .i64 r4.From), .p (.int .i64 r4.Long)])], []⟩) ?_ ?_
          · clear h
            rcases ite_some hj with ⟨hc525, hj⟩ | ⟨hc526, hj⟩
            · obtain rfl := some_inj hj
              exact ⟨_, (APath.chunk 1 (by kernel_rfl) (APath.one (.val 79 (.bin .neq) [.t 78, .k (.p (.int .i64 0))]) (by kernel_rfl) (st_bool (c := (r15.2.2.2 != 0)) (by kernel_rfl) hc525) (APath.fin (by kernel_rfl)))), (by show _ = _; kernel_rfl)⟩
            · rcases ite_some hj with ⟨hc527, hj⟩ | ⟨hc528, hj⟩
              · obtain rfl := some_inj hj
                exact ⟨_, (APath.chunk 1 (by kernel_rfl) (APath.one (.val 79 (.bin .neq) [.t 78, .k (.p (.int .i64 0))]) (by kernel_rfl) (st_bool (c := (r15.2.2.2 != 0)) (by kernel_rfl) hc526) (APath.chunk 2 (by kernel_rfl) (APath.oneG (.val 82 (.bin .lss) [.t 81, .k (.p (.int .i64 1))]) 80 false (by kernel_rfl) (by kernel_rfl) (st_bool (c := (decide (r15.2.2.1 < 1))) (by kernel_rfl) hc527) (APath.fin (by kernel_rfl)))))), (by show _ = _; kernel_rfl)⟩
              · obtain ⟨m529, hm529, hj⟩ := bind_some hj
                rcases ite_some hj with ⟨hc530, hj⟩ | ⟨hc531, hj⟩
                · obtain rfl := some_inj hj
                  exact ⟨_, (APath.chunk 1 (by kernel_rfl) (APath.one (.val 79 (.bin .neq) [.t 78, .k (.p (.int .i64 0))]) (by kernel_rfl) (st_bool (c := (r15.2.2.2 != 0)) (by kernel_rfl) hc526) (APath.chunk 2 (by kernel_rfl) (APath.oneG (.val 82 (.bin .lss) [.t 81, .k (.p (.int .i64 1))]) 80 false (by kernel_rfl) (by kernel_rfl) (st_bool (c := (decide (r15.2.2.1 < 1))) (by kernel_rfl) hc528) (APath.chunk 5 (by kernel_rfl) (APath.oneG (.val 88 (.bin .rem) [.t 86, .t 87]) 84 false (by kernel_rfl) (by kernel_rfl) (st_val (ys := [.p (.int .i64 r3.Period), .p (.int .i64 r15.2.2.1)]) (by kernel_rfl) (vexec_rem hm529)) (APath.oneG (.val 89 (.bin .neq) [.t 88, .k (.p (.int .i64 0))]) 84 false (by kernel_rfl) (by kernel_rfl) (st_bool (c := (m529 != 0)) (by kernel_rfl) hc530) (APath.fin (by kernel_rfl))))))))), (by show _ = _; kernel_rfl)⟩
                · obtain ⟨m532, hm532, hj⟩ := bind_some hj
                  rcases ite_some hj with ⟨hc533, hj⟩ | ⟨hc534, hj⟩
                  · obtain rfl := some_inj hj
                    exact ⟨_, (APath.chunk 1 (by kernel_rfl) (APath.one (.val 79 (.bin .neq) [.t 78, .k (.p (.int .i64 0))]) (by kernel_rfl) (st_bool (c := (r15.2.2.2 != 0)) (by kernel_rfl) hc526) (APath.chunk 2 (by kernel_rfl) (APath.oneG (.val 82 (.bin .lss) [.t 81, .k (.p (.int .i64 1))]) 80 false (by kernel_rfl) (by kernel_rfl) (st_bool (c := (decide (r15.2.2.1 < 1))) (by kernel_rfl) hc528) (APath.chunk 5 (by kernel_rfl) (APath.oneG (.val 88 (.bin .rem) [.t 86, .t 87]) 84 false (by kernel_rfl) (by kernel_rfl) (st_val (ys := [.p (.int .i64 r3.Period), .p (.int .i64 r15.2.2.1)]) (by kernel_rfl) (vexec_rem hm529)) (APath.oneG (.val 89 (.bin .neq) [.t 88, .k (.p (.int .i64 0))]) 84 false (by kernel_rfl) (by kernel_rfl) (st_bool (c := (m529 != 0)) (by kernel_rfl) hc531) (APath.chunk 5 (by kernel_rfl) (APath.oneG (.val 95 (.bin .rem) [.t 93, .t 94]) 91 false (by kernel_rfl) (by kernel_rfl) (st_val (ys := [.p (.int .i64 r4.Period), .p (.int .i64 r15.2.2.1)]) (by kernel_rfl) (vexec_rem hm532)) (APath.oneG (.val 96 (.bin .neq) [.t 95, .k (.p (.int .i64 0))]) 91 false (by kernel_rfl) (by kernel_rfl) (st_bool (c := (m532 != 0)) (by kernel_rfl) hc533) (APath.fin (by kernel_rfl)))))))))))), (by show _ = _; kernel_rfl)⟩
                  · rcases ite_some hj with ⟨hc535, hj⟩ | ⟨hc536, hj⟩
                    · obtain rfl := some_inj hj
                      exact ⟨_, (APath.chunk 1 (by kernel_rfl) (APath.one (.val 79 (.bin .neq) [.t 78, .k (.p (.int .i64 0))]) (by kernel_rfl) (st_bool (c := (r15.2.2.2 != 0)) (by kernel_rfl) hc526) (APath.chunk 2 (by kernel_rfl) (APath.oneG (.val 82 (.bin .lss) [.t 81, .k (.p (.int .i64 1))]) 80 false (by kernel_rfl) (by kernel_rfl) (st_bool (c := (decide (r15.2.2.1 < 1))) (by kernel_rfl) hc528) (APath.chunk 5 (by kernel_rfl) (APath.oneG (.val 88 (.bin .rem) [.t 86, .t 87]) 84 false (by kernel_rfl) (by kernel_rfl) (st_val (ys := [.p (.int .i64 r3.Period), .p (.int .i64 r15.2.2.1)]) (by kernel_rfl) (vexec_rem hm529)) (APath.oneG (.val 89 (.bin .neq) [.t 88, .k (.p (.int .i64 0))]) 84 false (by kernel_rfl) (by kernel_rfl) (st_bool (c := (m529 != 0)) (by kernel_rfl) hc531) (APath.chunk 5 (by kernel_rfl) (APath.oneG (.val 95 (.bin .rem) [.t 93, .t 94]) 91 false (by kernel_rfl) (by kernel_rfl) (st_val (ys := [.p (.int .i64 r4.Period), .p (.int .i64 r15.2.2.1)]) (by kernel_rfl) (vexec_rem hm532)) (APath.oneG (.val 96 (.bin .neq) [.t 95, .k (.p (.int .i64 0))]) 91 false (by kernel_rfl) (by kernel_rfl) (st_bool (c := (m532 != 0)) (by kernel_rfl) hc534) (APath.chunk 8 (by kernel_rfl) (APath.oneG (.val 105 (.bin .gtr) [.t 103, .t 104]) 98 false (by kernel_rfl) (by kernel_rfl) (st_bool (c := (decide ((w64 (r3.Long + r4.Long)) > r15.2.2.1))) (by kernel_rfl) hc535) (APath.fin (by kernel_rfl)))))))))))))), (by show _ = _; kernel_rfl)⟩
                    · obtain rfl := some_inj hj
                      exact ⟨_, (APath.chunk 1 (by kernel_rfl) (APath.one (.val 79 (.bin .neq) [.t 78, .k (.p (.int .i64 0))]) (by kernel_rfl) (st_bool (c := (r15.2.2.2 != 0)) (by kernel_rfl) hc526) (APath.chunk 2 (by kernel_rfl) (APath.oneG (.val 82 (.bin .lss) [.t 81, .k (.p (.int .i64 1))]) 80 false (by kernel_rfl) (by kernel_rfl) (st_bool (c := (decide (r15.2.2.1 < 1))) (by kernel_rfl) hc528) (APath.chunk 5 (by kernel_rfl) (APath.oneG (.val 88 (.bin .rem) [.t 86, .t 87]) 84 false (by kernel_rfl) (by kernel_rfl) (st_val (ys := [.p (.int .i64 r3.Period), .p (.int .i64 r15.2.2.1)]) (by kernel_rfl) (vexec_rem hm529)) (APath.oneG (.val 89 (.bin .neq) [.t 88, .k (.p (.int .i64 0))]) 84 false (by kernel_rfl) (by kernel_rfl) (st_bool (c := (m529 != 0)) (by kernel_rfl) hc531) (APath.chunk 5 (by kernel_rfl) (APath.oneG (.val 95 (.bin .rem) [.t 93, .t 94]) 91 false (by kernel_rfl) (by kernel_rfl) (st_val (ys := [.p (.int .i64 r4.Period), .p (.int .i64 r15.2.2.1)]) (by kernel_rfl) (vexec_rem hm532)) (APath.oneG (.val 96 (.bin .neq) [.t 95, .k (.p (.int .i64 0))]) 91 false (by kernel_rfl) (by kernel_rfl) (st_bool (c := (m532 != 0)) (by kernel_rfl) hc534) (APath.chunk 8 (by kernel_rfl) (APath.oneG (.val 105 (.bin .gtr) [.t 103, .t 104]) 98 false (by kernel_rfl) (by kernel_rfl) (st_bool (c := (decide ((w64 (r3.Long + r4.Long)) > r15.2.2.1))) (by kernel_rfl) hc536) (APath.fin (by kernel_rfl)))))))))))))), (by show _ = _; kernel_rfl)⟩
          · clear hj
            rintro s hR
            obtain rfl := hR
            refine vc_ite (by kernel_rfl) h (fun hc538 h => ?_) (fun hc538 h => ?_)
            · refine vc_seq ?_
              refine vc_reg (S := ⟨[(4, .p (.bool false))], [], []⟩) (APath.fin (by kernel_rfl)) (by kernel_rfl) ?_
              refine vc_ret ?_
              obtain rfl := some_inj h
              exact ret_of (by kernel_rfl)
            · refine vc_skip ?_
              refine vc_kp ?_
              refine vc_seq ?_
              refine vc_seq ?_
              refine vc_reg (S := ⟨[(5, .loc 5 0), (6, .loc 6 0), (9, .p (.int .i64 r15.1)), (10, .p (.int .i64 r15.2.1)), (11, .p (.int .i64 r15.2.2.1)), (14, .p (.int .i64 0))], [(5, [.p (.int .i64 r3.Period), .p (.int .i64 r3.From), .p (.int .i64 r3.Long)]), (6, [.p (.int .i64 r4.Period), .p (.int .i64 r4.From), .p (.int .i64 r4.Long)])], []⟩) (APath.fin (by kernel_rfl)) (by kernel_rfl) ?_
              refine vc_block ?_
              obtain ⟨o1048, ho1048, h⟩ := bind_some h
              refine vc_loop ((loop_sim (fun (x : Int) s => s = ⟨[(5, .loc 5 0), (6, .loc 6 0), (9, .p (.int .i64 r15.1)), (10, .p (.int .i64 r15.2.1)), (11, .p (.int .i64 r15.2.2.1)), (14, .p (.int .i64 x))], [(5, [.p (.int .i64 r3.Period), .p (.int .i64 r3.From), .p (.int .i64 r3.Long)]), (6, [.p (.int .i64 r4.Period), .p (.int .i64 r4.From), .p (.int .i64 r4.Long)])], []⟩) (fun x : Int => law23_ResidueMoves_L2 N r3 r4 r15 x) (fun (p : (Int) ⊕ (Bool)) e s => match p with | (.inl p) => e = .exit 2 ∧ (s = ⟨[(5, .loc 5 0), (6, .loc 6 0), (9, .p (.int .i64 r15.1)), (10, .p (.int .i64 r15.2.1)), (11, .p (.int .i64 r15.2.2.1)), (14, .p (.int .i64 p))], [(5, [.p (.int .i64 r3.Period), .p (.int .i64 r3.From), .p (.int .i64 r3.Long)]), (6, [.p (.int .i64 r4.Period), .p (.int .i64 r4.From), .p (.int .i64 r4.Long)])], []⟩) | (.inr p) => e = .ret ∧ ∃ xs, resL s i7.res = some xs ∧ tupOf xs = .p (.bool p)) ?_ N _ o1048 _ ho1048 (by show _ = _; kernel_rfl)).mono ?_)
              · clear h ho1048
                rintro i539 o s h hR
                obtain rfl := hR
                replace h : law23_ResidueMoves_L2 N r3 r4 r15 i539 = some o := h
                unfold law23_ResidueMoves_L2 at h
                refine vc_seq ?_
                refine vc_seq ?_
                refine vc_reg (S := ⟨[(5, .loc 5 0), (6, .loc 6 0), (9, .p (.int .i64 r15.1)), (10, .p (.int .i64 r15.2.1)), (11, .p (.int .i64 r15.2.2.1)), (14, .p (.int .i64 i539)), (115, .p (.bool (decide (i539 < r4.Period))))], [(5, [.p (.int .i64 r3.Period), .p (.int .i64 r3.From), .p (.int .i64 r3.Long)]), (6, [.p (.int .i64 r4.Period), .p (.int .i64 r4.From), .p (.int .i64 r4.Long)])], []⟩) (APath.fin (by kernel_rfl)) (by kernel_rfl) ?_
                refine vc_ite (by kernel_rfl) h (fun hc1040 h => ?_) (fun hc1040 h => ?_)
                · refine vc_skip ?_
                  refine vc_kp ?_
                  refine vc_seq ?_
                  refine vc_block ?_
                  refine vc_seq ?_
                  obtain ⟨r1041, hr1041, h⟩ := bind_some h
                  refine vc_reg (S := ⟨[(5, .loc 5 0), (6, .loc 6 0), (9, .p (.int .i64 r15.1)), (10, .p (.int .i64 r15.2.1)), (11, .p (.int .i64 r15.2.2.1)), (14, .p (.int .i64 i539)), (15, .loc 15 0)], [(5, [.p (.int .i64 r3.Period), .p (.int .i64 r3.From), .p (.int .i64 r3.Long)]), (6, [.p (.int .i64 r4.Period), .p (.int .i64 r4.From), .p (.int .i64 r4.Long)]), (15, [.p (.int .i64 r1041.Period), .p (.int .i64 r1041.From), .p (.int .i64 r1041.Long)])], []⟩) (APath.chunk 2 (by kernel_rfl) (APath.one (.call (some 120) 27 [.t 118, .t 119]) (by kernel_rfl) (st_call (by kernel_rfl) (ref23_Shifted_ok N r4 i539 r1041 hr1041)) (APath.fin (by kernel_rfl)))) (by kernel_rfl) ?_
                  refine vc_seq ?_
                  obtain ⟨r1042, hr1042, h⟩ := bind_some h
                  refine vc_reg (S := ⟨[(5, .loc 5 0), (6, .loc 6 0), (9, .p (.int .i64 r15.1)), (10, .p (.int .i64 r15.2.1)), (11, .p (.int .i64 r15.2.2.1)), (14, .p (.int .i64 i539)), (15, .loc 15 0), (16, .p (.int .i64 r1042))], [(5, [.p (.int .i64 r3.Period), .p (.int .i64 r3.From), .p (.int .i64 r3.Long)]), (6, [.p (.int .i64 r4.Period), .p (.int .i64 r4.From), .p (.int .i64 r4.Long)]), (15, [.p (.int .i64 r1041.Period), .p (.int .i64 r1041.From), .p (.int .i64 r1041.Long)])], []⟩) (APath.chunk 6 (by kernel_rfl) (APath.one (.call (some 127) 28 [.t 125, .t 126]) (by kernel_rfl) (st_call (by kernel_rfl) (ref23_Mod_ok N (w64 (r1041.From - r3.From)) r15.2.2.1 r1042 hr1042)) (APath.fin (by kernel_rfl)))) (by kernel_rfl) ?_
                  refine vc_seq ?_
                  obtain ⟨j1046, hj, h⟩ := bind_some h
                  refine vc_regXR (fun s => s = ⟨[(5, .loc 5 0), (6, .loc 6 0), (9, .p (.int .i64 r15.1)), (10, .p (.int .i64 r15.2.1)), (11, .p (.int .i64 r15.2.2.1)), (14, .p (.int .i64 i539)), (139, .p (.bool j1046))], [(5, [.p (.int .i64 r3.Period), .p (.int .i64 r3.From), .p (.int .i64 r3.Long)]), (6, [.p (.int .i64 r4.Period), .p (.int .i64 r4.From), .p (.int .i64 r4.Long)])], []⟩) ?_ ?_
                  · clear h
                    obtain ⟨r1043, hr1043, hj⟩ := bind_some hj
                    rcases ite_some hj with ⟨hc1044, hj⟩ | ⟨hc1045, hj⟩
                    · obtain rfl := some_inj hj
                      exact ⟨_, (APath.chunk 2 (by kernel_rfl) (APath.one (.call (some 130) 26 [.t 128, .t 129]) (by kernel_rfl) (st_call (by kernel_rfl) (law23_apart_ok N r3 r1041 r1043 hr1043)) (APath.chunk 2 (by kernel_rfl) (APath.one (.val 133 (.bin .geq) [.t 131, .t 132]) (by kernel_rfl) (st_bool (c := (decide (r1042 ≥ r15.1))) (by kernel_rfl) hc1044) (APath.fin (by kernel_rfl)))))), (by show _ = _; kernel_rfl)⟩
                    · obtain rfl := some_inj hj
                      exact ⟨_, (APath.chunk 2 (by kernel_rfl) (APath.one (.call (some 130) 26 [.t 128, .t 129]) (by kernel_rfl) (st_call (by kernel_rfl) (law23_apart_ok N r3 r1041 r1043 hr1043)) (APath.chunk 2 (by kernel_rfl) (APath.one (.val 133 (.bin .geq) [.t 131, .t 132]) (by kernel_rfl) (st_bool (c := (decide (r1042 ≥ r15.1))) (by kernel_rfl) hc1045) (APath.fin (by kernel_rfl)))))), (by show _ = _; kernel_rfl)⟩
                  · clear hj
                    rintro s hR
                    obtain rfl := hR
                    refine vc_ite (by kernel_rfl) h (fun hc1047 h => ?_) (fun hc1047 h => ?_)
                    · refine vc_seq ?_
                      refine vc_reg (S := ⟨[(4, .p (.bool false))], [], []⟩) (APath.fin (by kernel_rfl)) (by kernel_rfl) ?_
                      refine vc_ret ?_
                      obtain rfl := some_inj h
                      exact ⟨_, rfl, rfl, ret_of (by kernel_rfl)⟩
                    · refine vc_skip ?_
                      refine vc_kp ?_
                      refine vc_reg (S := ⟨[(5, .loc 5 0), (6, .loc 6 0), (9, .p (.int .i64 r15.1)), (10, .p (.int .i64 r15.2.1)), (11, .p (.int .i64 r15.2.2.1)), (14, .p (.int .i64 (w64 (i539 + 1))))], [(5, [.p (.int .i64 r3.Period), .p (.int .i64 r3.From), .p (.int .i64 r3.Long)]), (6, [.p (.int .i64 r4.Period), .p (.int .i64 r4.From), .p (.int .i64 r4.Long)])], []⟩) (APath.fin (by kernel_rfl)) (by kernel_rfl) ?_
                      obtain rfl := some_inj h
                      exact ⟨_, rfl, (by show _ = _; kernel_rfl)⟩
                · refine vc_exit ?_
                  try show vc _ _ _ _ _
                  obtain rfl := some_inj h
                  exact ⟨_, rfl, rfl, (by show _ = _; kernel_rfl)⟩
              · rintro e s hq
                rcases o1048 with p1049 | p1050
                · dsimp only at h hq
                  obtain ⟨rfl, hR⟩ := hq
                  obtain rfl := hR
                  try show vc _ _ _ _ _
                  refine vc_seq ?_
                  refine vc_reg (S := ⟨[(4, .p (.bool true))], [], []⟩) (APath.fin (by kernel_rfl)) (by kernel_rfl) ?_
                  refine vc_ret ?_
                  obtain rfl := some_inj h
                  exact ret_of (by kernel_rfl)
                · dsimp only at h hq
                  obtain ⟨rfl, hq⟩ := hq
                  obtain rfl := some_inj h
                  exact hq
/- isochronlaw23.ResidueLeast -/
theorem law23_ResidueLeast_ok (N : Nat) (a0_ : (List Arr3_u8)) (a1_ : Arr3_u8) (r : Bool) (h : law23_ResidueLeast N a0_ a1_ = some r) : PCall Try.prog 8 [.p (.sl 3 false (List.map e_Arr3_u8 a0_)), .agg [.p (.int .u8 a1_.x0), .p (.int .u8 a1_.x1), .p (.int .u8 a1_.x2)]] (.p (.bool r)) := by
  unfold law23_ResidueLeast at h
  have hH : HP ([] : List HO) [] := trivial
  refine pcall_of chk8 rfl rfl (vc_sound _ _ _ ?_) rfl
  refine vc_seq ?_
  refine vc_reg (S := ⟨[(0, .p (.sl 3 false (List.map e_Arr3_u8 a0_))), (3, .loc 3 0)], [(3, [.p (.int .u8 a1_.x0), .p (.int .u8 a1_.x1), .p (.int .u8 a1_.x2)])], []⟩) (APath.fin (by kernel_rfl)) (by kernel_rfl) ?_
  refine vc_seq ?_
  refine vc_seq ?_
  obtain ⟨r1, hr1, h⟩ := bind_some h
  refine vc_reg (S := ⟨[(0, .p (.sl 3 false (List.map e_Arr3_u8 a0_))), (3, .loc 3 0), (14, .p (.bool (!r1)))], [(3, [.p (.int .u8 a1_.x0), .p (.int .u8 a1_.x1), .p (.int .u8 a1_.x2)])], []⟩) (APath.one (.call (some 13) 15 []) (by kernel_rfl) (st_call (by kernel_rfl) (law23_works_ok N  r1 hr1)) (APath.fin (by kernel_rfl))) (by kernel_rfl) ?_
  refine vc_ite (by kernel_rfl) h (fun hc2 h => ?_) (fun hc2 h => ?_)
  · refine vc_seq ?_
    refine vc_reg (S := ⟨[(4, .p (.bool false))], [], []⟩) (APath.fin (by kernel_rfl)) (by kernel_rfl) ?_
    refine vc_ret ?_
    obtain rfl := some_inj h
    exact ret_of (by kernel_rfl)
  · refine vc_skip ?_
    refine vc_kp ?_
    refine vc_seq ?_
    obtain ⟨r3, hr3, h⟩ := bind_some h
    obtain ⟨r4, hr4, h⟩ := bind_some h
    refine vc_regD (S := ⟨[(5, .p (.sl 3 false (List.map e_api_Span r3))), (6, .loc 6 0)], [(6, [.p (.int .i64 r4.Period), .p (.int .i64 r4.From), .p (.int .i64 r4.Long)])], []⟩) (by kernel_rfl) (APath.chunk 1 (by kernel_rfl) (APath.one (.callP 16 20 [.t 15, .k (.p (.int .i64 12))]) (by kernel_rfl) (st_callP (by kernel_rfl) (law23_drafts_ok N a0_ 12 r3 hr3)) (APath.chunk 6 (by kernel_rfl) (APath.one (.callP 23 10 [.t 18, .t 20, .t 22]) (by kernel_rfl) (st_callP (by kernel_rfl) (ref23_Of_ok N a1_.x0 a1_.x1 a1_.x2 r4 hr4)) (APath.fin (by kernel_rfl)))))) (by kernel_rfl) ?_
    refine vc_seq ?_
    obtain ⟨r5, hr5, h⟩ := bind_some h
    refine vc_reg (S := ⟨[(5, .p (.sl 3 false (List.map e_api_Span r3))), (6, .loc 6 0), (7, .p (.int .i64 r5.1)), (8, .p (.int .i64 r5.2))], [(6, [.p (.int .i64 r4.Period), .p (.int .i64 r4.From), .p (.int .i64 r4.Long)])], []⟩) (APath.chunk 2 (by kernel_rfl) (APath.one (.call (some 27) 21 [.t 25, .t 26]) (by kernel_rfl) (st_call (by kernel_rfl) (residue_Next_ok N r3 r4 r5 hr5)) (APath.fin (by kernel_rfl)))) (by kernel_rfl) ?_
    refine vc_seq ?_
    refine vc_reg (S := ⟨[(5, .p (.sl 3 false (List.map e_api_Span r3))), (6, .loc 6 0), (7, .p (.int .i64 r5.1)), (8, .p (.int .i64 r5.2)), (9, .p (.int .i64 r5.1))], [(6, [.p (.int .i64 r4.Period), .p (.int .i64 r4.From), .p (.int .i64 r4.Long)])], []⟩) (APath.fin (by kernel_rfl)) (by kernel_rfl) ?_
    refine vc_seq ?_
    refine vc_seq ?_
    refine vc_reg (S := ⟨[(5, .p (.sl 3 false (List.map e_api_Span r3))), (6, .loc 6 0), (7, .p (.int .i64 r5.1)), (8, .p (.int .i64 r5.2)), (9, .p (.int .i64 r5.1)), (32, .p (.bool (r5.2 == 4)))], [(6, [.p (.int .i64 r4.Period), .p (.int .i64 r4.From), .p (.int .i64 r4.Long)])], []⟩) (APath.fin (by kernel_rfl)) (by kernel_rfl) ?_
    refine vc_ite (by kernel_rfl) h (fun hc6 h => ?_) (fun hc6 h => ?_)
    · refine vc_reg (S := ⟨[(5, .p (.sl 3 false (List.map e_api_Span r3))), (6, .loc 6 0), (7, .p (.int .i64 r5.1)), (8, .p (.int .i64 r5.2)), (9, .p (.int .i64 r4.Period))], [(6, [.p (.int .i64 r4.Period), .p (.int .i64 r4.From), .p (.int .i64 r4.Long)])], []⟩) (APath.fin (by kernel_rfl)) (by kernel_rfl) ?_
      refine vc_kp ?_
      refine vc_seq ?_
      refine vc_seq ?_
      refine vc_reg (S := ⟨[(5, .p (.sl 3 false (List.map e_api_Span r3))), (6, .loc 6 0), (7, .p (.int .i64 r5.1)), (8, .p (.int .i64 r5.2)), (9, .p (.int .i64 r4.Period)), (10, .p (.int .i64 0))], [(6, [.p (.int .i64 r4.Period), .p (.int .i64 r4.From), .p (.int .i64 r4.Long)])], []⟩) (APath.fin (by kernel_rfl)) (by kernel_rfl) ?_
      refine vc_block ?_
      obtain ⟨o1026, ho1026, h⟩ := bind_some h
      refine vc_loop ((loop_sim (fun (x : Int) s => s = ⟨[(5, .p (.sl 3 false (List.map e_api_Span r3))), (6, .loc 6 0), (7, .p (.int .i64 r5.1)), (8, .p (.int .i64 r5.2)), (9, .p (.int .i64 r4.Period)), (10, .p (.int .i64 x))], [(6, [.p (.int .i64 r4.Period), .p (.int .i64 r4.From), .p (.int .i64 r4.Long)])], []⟩) (fun x : Int => law23_ResidueLeast_L1 N r3 r4 r5 x) (fun (p : (Int) ⊕ (Bool)) e s => match p with | (.inl p) => e = .exit 0 ∧ (s = ⟨[(5, .p (.sl 3 false (List.map e_api_Span r3))), (6, .loc 6 0), (7, .p (.int .i64 r5.1)), (8, .p (.int .i64 r5.2)), (9, .p (.int .i64 r4.Period)), (10, .p (.int .i64 p))], [(6, [.p (.int .i64 r4.Period), .p (.int .i64 r4.From), .p (.int .i64 r4.Long)])], []⟩) | (.inr p) => e = .ret ∧ ∃ xs, resL s i8.res = some xs ∧ tupOf xs = .p (.bool p)) ?_ N _ o1026 _ ho1026 (by show _ = _; kernel_rfl)).mono ?_)
      · clear h ho1026
        rintro i7 o s h hR
        obtain rfl := hR
        replace h : law23_ResidueLeast_L1 N r3 r4 r5 i7 = some o := h
        unfold law23_ResidueLeast_L1 at h
        refine vc_seq ?_
        refine vc_seq ?_
        refine vc_regX ⟨[(5, .p (.sl 3 false (List.map e_api_Span r3))), (6, .loc 6 0), (7, .p (.int .i64 r5.1)), (8, .p (.int .i64 r5.2)), (9, .p (.int .i64 r4.Period)), (10, .p (.int .i64 i7)), (55, .p (.bool ((decide (i7 ≤ r4.Period)) && (decide (i7 < r4.Period)))))], [(6, [.p (.int .i64 r4.Period), .p (.int .i64 r4.From), .p (.int .i64 r4.Long)])], []⟩ ?_ ?_
        · rcases Bool.eq_false_or_eq_true (decide (i7 ≤ r4.Period)) with hc508 | hc509
          · exact ⟨_, (APath.chunk 2 (by kernel_rfl) (APath.one (.val 49 (.bin .leq) [.t 47, .t 48]) (by kernel_rfl) (st_bool (c := (decide (i7 ≤ r4.Period))) (by kernel_rfl) hc508) (APath.fin (by kernel_rfl)))), by simp only [hc508]; kernel_rfl⟩
          · exact ⟨_, (APath.chunk 2 (by kernel_rfl) (APath.one (.val 49 (.bin .leq) [.t 47, .t 48]) (by kernel_rfl) (st_bool (c := (decide (i7 ≤ r4.Period))) (by kernel_rfl) hc509) (APath.fin (by kernel_rfl)))), by simp only [hc509]; kernel_rfl⟩
        · refine vc_ite (by kernel_rfl) h (fun hc510 h => ?_) (fun hc510 h => ?_)
          · refine vc_skip ?_
            refine vc_kp ?_
            refine vc_seq ?_
            refine vc_block ?_
            refine vc_seq ?_
            refine vc_reg (S := ⟨[(5, .p (.sl 3 false (List.map e_api_Span r3))), (6, .loc 6 0), (7, .p (.int .i64 r5.1)), (8, .p (.int .i64 r5.2)), (9, .p (.int .i64 r4.Period)), (10, .p (.int .i64 i7)), (11, .p (.bool true))], [(6, [.p (.int .i64 r4.Period), .p (.int .i64 r4.From), .p (.int .i64 r4.Long)])], []⟩) (APath.fin (by kernel_rfl)) (by kernel_rfl) ?_
            refine vc_seq ?_
            refine vc_seq ?_
            refine vc_reg (S := ⟨[(5, .p (.sl 3 false (List.map e_api_Span r3))), (6, .loc 6 0), (7, .p (.int .i64 r5.1)), (8, .p (.int .i64 r5.2)), (9, .p (.int .i64 r4.Period)), (10, .p (.int .i64 i7)), (11, .p (.bool true)), (12, .p (.int .i64 0))], [(6, [.p (.int .i64 r4.Period), .p (.int .i64 r4.From), .p (.int .i64 r4.Long)])], []⟩) (APath.fin (by kernel_rfl)) (by kernel_rfl) ?_
            refine vc_block ?_
            obtain ⟨o1022, ho1022, h⟩ := bind_some h
            refine vc_loop ((loop_sim (fun (x : Bool × Int) s => s = ⟨[(5, .p (.sl 3 false (List.map e_api_Span r3))), (6, .loc 6 0), (7, .p (.int .i64 r5.1)), (8, .p (.int .i64 r5.2)), (9, .p (.int .i64 r4.Period)), (10, .p (.int .i64 i7)), (11, .p (.bool x.1)), (12, .p (.int .i64 x.2))], [(6, [.p (.int .i64 r4.Period), .p (.int .i64 r4.From), .p (.int .i64 r4.Long)])], []⟩) (fun x : Bool × Int => law23_ResidueLeast_L2 N r3 r4 i7 x.1 x.2) (fun (p : Bool × Int) e s => e = .exit 2 ∧ (s = ⟨[(5, .p (.sl 3 false (List.map e_api_Span r3))), (6, .loc 6 0), (7, .p (.int .i64 r5.1)), (8, .p (.int .i64 r5.2)), (9, .p (.int .i64 r4.Period)), (10, .p (.int .i64 i7)), (11, .p (.bool p.1)), (12, .p (.int .i64 p.2))], [(6, [.p (.int .i64 r4.Period), .p (.int .i64 r4.From), .p (.int .i64 r4.Long)])], []⟩)) ?_ N _ o1022 _ ho1022 (by show _ = _; kernel_rfl)).mono ?_)
            · clear h ho1022
              rintro ⟨b511, i512⟩ o s h hR
              obtain rfl := hR
              replace h : law23_ResidueLeast_L2 N r3 r4 i7 b511 i512 = some o := h
              unfold law23_ResidueLeast_L2 at h
              refine vc_seq ?_
              refine vc_seq ?_
              refine vc_reg (S := ⟨[(5, .p (.sl 3 false (List.map e_api_Span r3))), (6, .loc 6 0), (7, .p (.int .i64 r5.1)), (8, .p (.int .i64 r5.2)), (9, .p (.int .i64 r4.Period)), (10, .p (.int .i64 i7)), (11, .p (.bool b511)), (12, .p (.int .i64 i512)), (61, .p (.bool (decide (i512 < ((List.length r3 : Nat) : Int)))))], [(6, [.p (.int .i64 r4.Period), .p (.int .i64 r4.From), .p (.int .i64 r4.Long)])], []⟩) (APath.chunk 2 (by kernel_rfl) (APath.one (.val 60 .len [.t 59]) (by kernel_rfl) (st_val (ys := [.p (.sl 3 false (List.map e_api_Span r3))]) (by kernel_rfl) (vexec_len e_api_Span)) (APath.fin (by kernel_rfl)))) (by kernel_rfl) ?_
              refine vc_ite (by kernel_rfl) h (fun hc1013 h => ?_) (fun hc1013 h => ?_)
              · refine vc_skip ?_
                refine vc_kp ?_
                refine vc_seq ?_
                refine vc_block ?_
                obtain ⟨j1021, hj, h⟩ := bind_some h
                refine vc_regDXR (fun s => s = ⟨[(5, .p (.sl 3 false (List.map e_api_Span r3))), (6, .loc 6 0), (7, .p (.int .i64 r5.1)), (8, .p (.int .i64 r5.2)), (9, .p (.int .i64 r4.Period)), (10, .p (.int .i64 i7)), (11, .p (.bool j1021)), (12, .p (.int .i64 i512))], [(6, [.p (.int .i64 r4.Period), .p (.int .i64 r4.From), .p (.int .i64 r4.Long)])], []⟩) (by kernel_rfl) ?_ ?_
                · clear h
                  rcases ite_some hj with ⟨hc1014, hj⟩ | ⟨hc1020, hj⟩
                  · obtain ⟨e1015, he1015, hj⟩ := bind_some hj
                    obtain ⟨r1016, hr1016, hj⟩ := bind_some hj
                    obtain ⟨r1017, hr1017, hj⟩ := bind_some hj
                    rcases ite_some hj with ⟨hc1018, hj⟩ | ⟨hc1019, hj⟩
                    · obtain rfl := some_inj hj
                      exact ⟨_, (APath.one (.val 64 .mov [.t 11]) (by kernel_rfl) (st_bool (c := b511) (by kernel_rfl) hc1014) (APath.chunk 3 (by kernel_rfl) (APath.oneG (.val 68 (.iaddrS 3) [.t 66, .t 67]) 65 true (by kernel_rfl) (by kernel_rfl) (st_val (ys := [.p (.sl 3 false (List.map e_api_Span r3)), .p (.int .i64 i512)]) (by kernel_rfl) (vexec_iaddrS e_api_Span he1015)) (APath.oneG (.load 69 (.t 68) 3 true) 65 true (by kernel_rfl) (by kernel_rfl) (st_loadP (sz := 3) (off := 0) (cs := [.int .i64 e1015.Period, .int .i64 e1015.From, .int .i64 e1015.Long]) (r := .agg [.p (.int .i64 e1015.Period), .p (.int .i64 e1015.From), .p (.int .i64 e1015.Long)]) e_api_Span he1015 (by kernel_rfl) (by kernel_rfl) (by kernel_rfl)) (APath.chunk 2 (by kernel_rfl) (APath.oneG (.callP 72 27 [.t 70, .t 71]) 65 true (by kernel_rfl) (by kernel_rfl) (st_callP (by kernel_rfl) (ref23_Shifted_ok N r4 i7 r1016 hr1016)) (APath.oneG (.callP 73 26 [.t 69, .t 72]) 65 true (by kernel_rfl) (by kernel_rfl) (st_callP (by kernel_rfl) (law23_apart_ok N e1015 r1016 r1017 hr1017)) (APath.chunk 1 (by kernel_rfl) (APath.one (.val 11 .mov [.t 74]) (by kernel_rfl) (st_bool (c := r1017) (by kernel_rfl) hc1018) APath.done))))))))), (by show _ = _; kernel_rfl)⟩
                    · obtain rfl := some_inj hj
                      exact ⟨_, (APath.one (.val 64 .mov [.t 11]) (by kernel_rfl) (st_bool (c := b511) (by kernel_rfl) hc1014) (APath.chunk 3 (by kernel_rfl) (APath.oneG (.val 68 (.iaddrS 3) [.t 66, .t 67]) 65 true (by kernel_rfl) (by kernel_rfl) (st_val (ys := [.p (.sl 3 false (List.map e_api_Span r3)), .p (.int .i64 i512)]) (by kernel_rfl) (vexec_iaddrS e_api_Span he1015)) (APath.oneG (.load 69 (.t 68) 3 true) 65 true (by kernel_rfl) (by kernel_rfl) (st_loadP (sz := 3) (off := 0) (cs := [.int .i64 e1015.Period, .int .i64 e1015.From, .int .i64 e1015.Long]) (r := .agg [.p (.int .i64 e1015.Period), .p (.int .i64 e1015.From), .p (.int .i64 e1015.Long)]) e_api_Span he1015 (by kernel_rfl) (by kernel_rfl) (by kernel_rfl)) (APath.chunk 2 (by kernel_rfl) (APath.oneG (.callP 72 27 [.t 70, .t 71]) 65 true (by kernel_rfl) (by kernel_rfl) (st_callP (by kernel_rfl) (ref23_Shifted_ok N r4 i7 r1016 hr1016)) (APath.oneG (.callP 73 26 [.t 69, .t 72]) 65 true (by kernel_rfl) (by kernel_rfl) (st_callP (by kernel_rfl) (law23_apart_ok N e1015 r1016 r1017 hr1017)) (APath.chunk 1 (by kernel_rfl) (APath.one (.val 11 .mov [.t 74]) (by kernel_rfl) (st_bool (c := r1017) (by kernel_rfl) hc1019) APath.done))))))))), (by show _ = _; kernel_rfl)⟩
                  · obtain rfl := some_inj hj
                    exact ⟨_, (APath.one (.val 64 .mov [.t 11]) (by kernel_rfl) (st_bool (c := b511) (by kernel_rfl) hc1020) (APath.fin (by kernel_rfl))), (by show _ = _; kernel_rfl)⟩
                · clear hj
                  rintro s hR
                  obtain rfl := hR
                  refine vc_reg (S := ⟨[(5, .p (.sl 3 false (List.map e_api_Span r3))), (6, .loc 6 0), (7, .p (.int .i64 r5.1)), (8, .p (.int .i64 r5.2)), (9, .p (.int .i64 r4.Period)), (10, .p (.int .i64 i7)), (11, .p (.bool j1021)), (12, .p (.int .i64 (w64 (i512 + 1))))], [(6, [.p (.int .i64 r4.Period), .p (.int .i64 r4.From), .p (.int .i64 r4.Long)])], []⟩) (APath.fin (by kernel_rfl)) (by kernel_rfl) ?_
                  obtain rfl := some_inj h
                  exact ⟨_, rfl, (by show _ = _; kernel_rfl)⟩
              · refine vc_exit ?_
                try show vc _ _ _ _ _
                obtain rfl := some_inj h
                exact ⟨_, rfl, rfl, (by show _ = _; kernel_rfl)⟩
            · rintro e s hq
              obtain ⟨rfl, hR⟩ := hq
              obtain rfl := hR
              try show vc _ _ _ _ _
              refine vc_seq ?_
              refine vc_regX ⟨[(5, .p (.sl 3 false (List.map e_api_Span r3))), (6, .loc 6 0), (7, .p (.int .i64 r5.1)), (8, .p (.int .i64 r5.2)), (9, .p (.int .i64 r4.Period)), (10, .p (.int .i64 i7)), (83, .p (.bool (if (r5.2 == 0) then (o1022.1 != (i7 == r5.1)) else (o1022.1 != false))))], [(6, [.p (.int .i64 r4.Period), .p (.int .i64 r4.From), .p (.int .i64 r4.Long)])], []⟩ ?_ ?_
              · rcases Bool.eq_false_or_eq_true (r5.2 == 0) with hc1023 | hc1024
                · exact ⟨_, (APath.chunk 2 (by kernel_rfl) (APath.one (.val 77 (.bin .eql) [.t 76, .k (.p (.int .i64 0))]) (by kernel_rfl) (st_bool (c := (r5.2 == 0)) (by kernel_rfl) hc1023) (APath.fin (by kernel_rfl)))), by simp only [hc1023]; kernel_rfl⟩
                · exact ⟨_, (APath.chunk 2 (by kernel_rfl) (APath.one (.val 77 (.bin .eql) [.t 76, .k (.p (.int .i64 0))]) (by kernel_rfl) (st_bool (c := (r5.2 == 0)) (by kernel_rfl) hc1024) (APath.fin (by kernel_rfl)))), by simp only [hc1024]; kernel_rfl⟩
              · refine vc_ite (by kernel_rfl) h (fun hc1025 h => ?_) (fun hc1025 h => ?_)
                · refine vc_seq ?_
                  refine vc_reg (S := ⟨[(4, .p (.bool false))], [], []⟩) (APath.fin (by kernel_rfl)) (by kernel_rfl) ?_
                  refine vc_ret ?_
                  obtain rfl := some_inj h
                  exact ⟨_, rfl, rfl, ret_of (by kernel_rfl)⟩
                · refine vc_skip ?_
                  refine vc_kp ?_
                  refine vc_reg (S := ⟨[(5, .p (.sl 3 false (List.map e_api_Span r3))), (6, .loc 6 0), (7, .p (.int .i64 r5.1)), (8, .p (.int .i64 r5.2)), (9, .p (.int .i64 r4.Period)), (10, .p (.int .i64 (w64 (i7 + 1))))], [(6, [.p (.int .i64 r4.Period), .p (.int .i64 r4.From), .p (.int .i64 r4.Long)])], []⟩) (APath.fin (by kernel_rfl)) (by kernel_rfl) ?_
                  obtain rfl := some_inj h
                  exact ⟨_, rfl, (by show _ = _; kernel_rfl)⟩
          · refine vc_exit ?_
            try show vc _ _ _ _ _
            obtain rfl := some_inj h
            exact ⟨_, rfl, rfl, (by show _ = _; kernel_rfl)⟩
      · rintro e s hq
        rcases o1026 with p1027 | p1028
        · dsimp only at h hq
          obtain ⟨rfl, hR⟩ := hq
          obtain rfl := hR
          try show vc _ _ _ _ _
          refine vc_seq ?_
          refine vc_reg (S := ⟨[(4, .p (.bool true))], [], []⟩) (APath.fin (by kernel_rfl)) (by kernel_rfl) ?_
          refine vc_ret ?_
          obtain rfl := some_inj h
          exact ret_of (by kernel_rfl)
        · dsimp only at h hq
          obtain ⟨rfl, hq⟩ := hq
          obtain rfl := some_inj h
          exact hq
    · refine vc_seq ?_
      refine vc_regX ⟨[(5, .p (.sl 3 false (List.map e_api_Span r3))), (6, .loc 6 0), (7, .p (.int .i64 r5.1)), (8, .p (.int .i64 r5.2)), (9, .p (.int .i64 r5.1)), (46, .p (.bool ((r5.2 != 0) || ((decide (r5.1 < 0)) || (decide (r5.1 ≥ r4.Period))))))], [(6, [.p (.int .i64 r4.Period), .p (.int .i64 r4.From), .p (.int .i64 r4.Long)])], []⟩ ?_ ?_
      · rcases Bool.eq_false_or_eq_true (r5.2 != 0) with hc1029 | hc1030
        · exact ⟨_, (APath.chunk 1 (by kernel_rfl) (APath.one (.val 36 (.bin .neq) [.t 35, .k (.p (.int .i64 0))]) (by kernel_rfl) (st_bool (c := (r5.2 != 0)) (by kernel_rfl) hc1029) (APath.fin (by kernel_rfl)))), by simp only [hc1029]; kernel_rfl⟩
        · rcases Bool.eq_false_or_eq_true (decide (r5.1 < 0)) with hc1031 | hc1032
          · exact ⟨_, (APath.chunk 1 (by kernel_rfl) (APath.one (.val 36 (.bin .neq) [.t 35, .k (.p (.int .i64 0))]) (by kernel_rfl) (st_bool (c := (r5.2 != 0)) (by kernel_rfl) hc1030) (APath.chunk 2 (by kernel_rfl) (APath.oneG (.val 39 (.bin .lss) [.t 38, .k (.p (.int .i64 0))]) 37 false (by kernel_rfl) (by kernel_rfl) (st_bool (c := (decide (r5.1 < 0))) (by kernel_rfl) hc1031) (APath.fin (by kernel_rfl)))))), by simp only [hc1030, hc1031]; kernel_rfl⟩
          · exact ⟨_, (APath.chunk 1 (by kernel_rfl) (APath.one (.val 36 (.bin .neq) [.t 35, .k (.p (.int .i64 0))]) (by kernel_rfl) (st_bool (c := (r5.2 != 0)) (by kernel_rfl) hc1030) (APath.chunk 2 (by kernel_rfl) (APath.oneG (.val 39 (.bin .lss) [.t 38, .k (.p (.int .i64 0))]) 37 false (by kernel_rfl) (by kernel_rfl) (st_bool (c := (decide (r5.1 < 0))) (by kernel_rfl) hc1032) (APath.fin (by kernel_rfl)))))), by simp only [hc1030, hc1032]; kernel_rfl⟩
      · refine vc_ite (by kernel_rfl) h (fun hc1033 h => ?_) (fun hc1033 h => ?_)
        · refine vc_seq ?_
          refine vc_reg (S := ⟨[(4, .p (.bool false))], [], []⟩) (APath.fin (by kernel_rfl)) (by kernel_rfl) ?_
          refine vc_ret ?_
          obtain rfl := some_inj h
          exact ret_of (by kernel_rfl)
        · refine vc_skip ?_
          refine vc_kp ?_
          refine vc_seq ?_
          refine vc_seq ?_
          refine vc_reg (S := ⟨[(5, .p (.sl 3 false (List.map e_api_Span r3))), (6, .loc 6 0), (7, .p (.int .i64 r5.1)), (8, .p (.int .i64 r5.2)), (9, .p (.int .i64 r5.1)), (10, .p (.int .i64 0))], [(6, [.p (.int .i64 r4.Period), .p (.int .i64 r4.From), .p (.int .i64 r4.Long)])], []⟩) (APath.fin (by kernel_rfl)) (by kernel_rfl) ?_
          refine vc_block ?_
          obtain ⟨o2053, ho2053, h⟩ := bind_some h
          refine vc_loop ((loop_sim (fun (x : Int) s => s = ⟨[(5, .p (.sl 3 false (List.map e_api_Span r3))), (6, .loc 6 0), (7, .p (.int .i64 r5.1)), (8, .p (.int .i64 r5.2)), (9, .p (.int .i64 r5.1)), (10, .p (.int .i64 x))], [(6, [.p (.int .i64 r4.Period), .p (.int .i64 r4.From), .p (.int .i64 r4.Long)])], []⟩) (fun x : Int => law23_ResidueLeast_L3 N r3 r4 r5 x) (fun (p : (Int) ⊕ (Bool)) e s => match p with | (.inl p) => e = .exit 0 ∧ (s = ⟨[(5, .p (.sl 3 false (List.map e_api_Span r3))), (6, .loc 6 0), (7, .p (.int .i64 r5.1)), (8, .p (.int .i64 r5.2)), (9, .p (.int .i64 r5.1)), (10, .p (.int .i64 p))], [(6, [.p (.int .i64 r4.Period), .p (.int .i64 r4.From), .p (.int .i64 r4.Long)])], []⟩) | (.inr p) => e = .ret ∧ ∃ xs, resL s i8.res = some xs ∧ tupOf xs = .p (.bool p)) ?_ N _ o2053 _ ho2053 (by show _ = _; kernel_rfl)).mono ?_)
          · clear h ho2053
            rintro i1034 o s h hR
            obtain rfl := hR
            replace h : law23_ResidueLeast_L3 N r3 r4 r5 i1034 = some o := h
            unfold law23_ResidueLeast_L3 at h
            refine vc_seq ?_
            refine vc_seq ?_
            refine vc_regX ⟨[(5, .p (.sl 3 false (List.map e_api_Span r3))), (6, .loc 6 0), (7, .p (.int .i64 r5.1)), (8, .p (.int .i64 r5.2)), (9, .p (.int .i64 r5.1)), (10, .p (.int .i64 i1034)), (55, .p (.bool ((decide (i1034 ≤ r5.1)) && (decide (i1034 < r4.Period)))))], [(6, [.p (.int .i64 r4.Period), .p (.int .i64 r4.From), .p (.int .i64 r4.Long)])], []⟩ ?_ ?_
            · rcases Bool.eq_false_or_eq_true (decide (i1034 ≤ r5.1)) with hc1535 | hc1536
              · exact ⟨_, (APath.chunk 2 (by kernel_rfl) (APath.one (.val 49 (.bin .leq) [.t 47, .t 48]) (by kernel_rfl) (st_bool (c := (decide (i1034 ≤ r5.1))) (by kernel_rfl) hc1535) (APath.fin (by kernel_rfl)))), by simp only [hc1535]; kernel_rfl⟩
              · exact ⟨_, (APath.chunk 2 (by kernel_rfl) (APath.one (.val 49 (.bin .leq) [.t 47, .t 48]) (by kernel_rfl) (st_bool (c := (decide (i1034 ≤ r5.1))) (by kernel_rfl) hc1536) (APath.fin (by kernel_rfl)))), by simp only [hc1536]; kernel_rfl⟩
            · refine vc_ite (by kernel_rfl) h (fun hc1537 h => ?_) (fun hc1537 h => ?_)
              · refine vc_skip ?_
                refine vc_kp ?_
                refine vc_seq ?_
                refine vc_block ?_
                refine vc_seq ?_
                refine vc_reg (S := ⟨[(5, .p (.sl 3 false (List.map e_api_Span r3))), (6, .loc 6 0), (7, .p (.int .i64 r5.1)), (8, .p (.int .i64 r5.2)), (9, .p (.int .i64 r5.1)), (10, .p (.int .i64 i1034)), (11, .p (.bool true))], [(6, [.p (.int .i64 r4.Period), .p (.int .i64 r4.From), .p (.int .i64 r4.Long)])], []⟩) (APath.fin (by kernel_rfl)) (by kernel_rfl) ?_
                refine vc_seq ?_
                refine vc_seq ?_
                refine vc_reg (S := ⟨[(5, .p (.sl 3 false (List.map e_api_Span r3))), (6, .loc 6 0), (7, .p (.int .i64 r5.1)), (8, .p (.int .i64 r5.2)), (9, .p (.int .i64 r5.1)), (10, .p (.int .i64 i1034)), (11, .p (.bool true)), (12, .p (.int .i64 0))], [(6, [.p (.int .i64 r4.Period), .p (.int .i64 r4.From), .p (.int .i64 r4.Long)])], []⟩) (APath.fin (by kernel_rfl)) (by kernel_rfl) ?_
                refine vc_block ?_
                obtain ⟨o2049, ho2049, h⟩ := bind_some h
                refine vc_loop ((loop_sim (fun (x : Bool × Int) s => s = ⟨[(5, .p (.sl 3 false (List.map e_api_Span r3))), (6, .loc 6 0), (7, .p (.int .i64 r5.1)), (8, .p (.int .i64 r5.2)), (9, .p (.int .i64 r5.1)), (10, .p (.int .i64 i1034)), (11, .p (.bool x.1)), (12, .p (.int .i64 x.2))], [(6, [.p (.int .i64 r4.Period), .p (.int .i64 r4.From), .p (.int .i64 r4.Long)])], []⟩) (fun x : Bool × Int => law23_ResidueLeast_L4 N r3 r4 i1034 x.1 x.2) (fun (p : Bool × Int) e s => e = .exit 2 ∧ (s = ⟨[(5, .p (.sl 3 false (List.map e_api_Span r3))), (6, .loc 6 0), (7, .p (.int .i64 r5.1)), (8, .p (.int .i64 r5.2)), (9, .p (.int .i64 r5.1)), (10, .p (.int .i64 i1034)), (11, .p (.bool p.1)), (12, .p (.int .i64 p.2))], [(6, [.p (.int .i64 r4.Period), .p (.int .i64 r4.From), .p (.int .i64 r4.Long)])], []⟩)) ?_ N _ o2049 _ ho2049 (by show _ = _; kernel_rfl)).mono ?_)
                · clear h ho2049
                  rintro ⟨b1538, i1539⟩ o s h hR
                  obtain rfl := hR
                  replace h : law23_ResidueLeast_L4 N r3 r4 i1034 b1538 i1539 = some o := h
                  unfold law23_ResidueLeast_L4 at h
                  refine vc_seq ?_
                  refine vc_seq ?_
                  refine vc_reg (S := ⟨[(5, .p (.sl 3 false (List.map e_api_Span r3))), (6, .loc 6 0), (7, .p (.int .i64 r5.1)), (8, .p (.int .i64 r5.2)), (9, .p (.int .i64 r5.1)), (10, .p (.int .i64 i1034)), (11, .p (.bool b1538)), (12, .p (.int .i64 i1539)), (61, .p (.bool (decide (i1539 < ((List.length r3 : Nat) : Int)))))], [(6, [.p (.int .i64 r4.Period), .p (.int .i64 r4.From), .p (.int .i64 r4.Long)])], []⟩) (APath.chunk 2 (by kernel_rfl) (APath.one (.val 60 .len [.t 59]) (by kernel_rfl) (st_val (ys := [.p (.sl 3 false (List.map e_api_Span r3))]) (by kernel_rfl) (vexec_len e_api_Span)) (APath.fin (by kernel_rfl)))) (by kernel_rfl) ?_
                  refine vc_ite (by kernel_rfl) h (fun hc2040 h => ?_) (fun hc2040 h => ?_)
                  · refine vc_skip ?_
                    refine vc_kp ?_
                    refine vc_seq ?_
                    refine vc_block ?_
                    obtain ⟨j2048, hj, h⟩ := bind_some h
                    refine vc_regDXR (fun s => s = ⟨[(5, .p (.sl 3 false (List.map e_api_Span r3))), (6, .loc 6 0), (7, .p (.int .i64 r5.1)), (8, .p (.int .i64 r5.2)), (9, .p (.int .i64 r5.1)), (10, .p (.int .i64 i1034)), (11, .p (.bool j2048)), (12, .p (.int .i64 i1539))], [(6, [.p (.int .i64 r4.Period), .p (.int .i64 r4.From), .p (.int .i64 r4.Long)])], []⟩) (by kernel_rfl) ?_ ?_
                    · clear h
                      rcases ite_some hj with ⟨hc2041, hj⟩ | ⟨hc2047, hj⟩
                      · obtain ⟨e2042, he2042, hj⟩ := bind_some hj
                        obtain ⟨r2043, hr2043, hj⟩ := bind_some hj
                        obtain ⟨r2044, hr2044, hj⟩ := bind_some hj
                        rcases ite_some hj with ⟨hc2045, hj⟩ | ⟨hc2046, hj⟩
                        · obtain rfl := some_inj hj
                          exact ⟨_, (APath.one (.val 64 .mov [.t 11]) (by kernel_rfl) (st_bool (c := b1538) (by kernel_rfl) hc2041) (APath.chunk 3 (by kernel_rfl) (APath.oneG (.val 68 (.iaddrS 3) [.t 66, .t 67]) 65 true (by kernel_rfl) (by kernel_rfl) (st_val (ys := [.p (.sl 3 false (List.map e_api_Span r3)), .p (.int .i64 i1539)]) (by kernel_rfl) (vexec_iaddrS e_api_Span he2042)) (APath.oneG (.load 69 (.t 68) 3 true) 65 true (by kernel_rfl) (by kernel_rfl) (st_loadP (sz := 3) (off := 0) (cs := [.int .i64 e2042.Period, .int .i64 e2042.From, .int .i64 e2042.Long]) (r := .agg [.p (.int .i64 e2042.Period), .p (.int .i64 e2042.From), .p (.int .i64 e2042.Long)]) e_api_Span he2042 (by kernel_rfl) (by kernel_rfl) (by kernel_rfl)) (APath.chunk 2 (by kernel_rfl) (APath.oneG (.callP 72 27 [.t 70, .t 71]) 65 true (by kernel_rfl) (by kernel_rfl) (st_callP (by kernel_rfl) (ref23_Shifted_ok N r4 i1034 r2043 hr2043)) (APath.oneG (.callP 73 26 [.t 69, .t 72]) 65 true (by kernel_rfl) (by kernel_rfl) (st_callP (by kernel_rfl) (law23_apart_ok N e2042 r2043 r2044 hr2044)) (APath.chunk 1 (by kernel_rfl) (APath.one (.val 11 .mov [.t 74]) (by kernel_rfl) (st_bool (c := r2044) (by kernel_rfl) hc2045) APath.done))))))))), (by show _ = _; kernel_rfl)⟩
                        · obtain rfl := some_inj hj
                          exact ⟨_, (APath.one (.val 64 .mov [.t 11]) (by kernel_rfl) (st_bool (c := b1538) (by kernel_rfl) hc2041) (APath.chunk 3 (by kernel_rfl) (APath.oneG (.val 68 (.iaddrS 3) [.t 66, .t 67]) 65 true (by kernel_rfl) (by kernel_rfl) (st_val (ys := [.p (.sl 3 false (List.map e_api_Span r3)), .p (.int .i64 i1539)]) (by kernel_rfl) (vexec_iaddrS e_api_Span he2042)) (APath.oneG (.load 69 (.t 68) 3 true) 65 true (by kernel_rfl) (by kernel_rfl) (st_loadP (sz := 3) (off := 0) (cs := [.int .i64 e2042.Period, .int .i64 e2042.From, .int .i64 e2042.Long]) (r := .agg [.p (.int .i64 e2042.Period), .p (.int .i64 e2042.From), .p (.int .i64 e2042.Long)]) e_api_Span he2042 (by kernel_rfl) (by kernel_rfl) (by kernel_rfl)) (APath.chunk 2 (by kernel_rfl) (APath.oneG (.callP 72 27 [.t 70, .t 71]) 65 true (by kernel_rfl) (by kernel_rfl) (st_callP (by kernel_rfl) (ref23_Shifted_ok N r4 i1034 r2043 hr2043)) (APath.oneG (.callP 73 26 [.t 69, .t 72]) 65 true (by kernel_rfl) (by kernel_rfl) (st_callP (by kernel_rfl) (law23_apart_ok N e2042 r2043 r2044 hr2044)) (APath.chunk 1 (by kernel_rfl) (APath.one (.val 11 .mov [.t 74]) (by kernel_rfl) (st_bool (c := r2044) (by kernel_rfl) hc2046) APath.done))))))))), (by show _ = _; kernel_rfl)⟩
                      · obtain rfl := some_inj hj
                        exact ⟨_, (APath.one (.val 64 .mov [.t 11]) (by kernel_rfl) (st_bool (c := b1538) (by kernel_rfl) hc2047) (APath.fin (by kernel_rfl))), (by show _ = _; kernel_rfl)⟩
                    · clear hj
                      rintro s hR
                      obtain rfl := hR
                      refine vc_reg (S := ⟨[(5, .p (.sl 3 false (List.map e_api_Span r3))), (6, .loc 6 0), (7, .p (.int .i64 r5.1)), (8, .p (.int .i64 r5.2)), (9, .p (.int .i64 r5.1)), (10, .p (.int .i64 i1034)), (11, .p (.bool j2048)), (12, .p (.int .i64 (w64 (i1539 + 1))))], [(6, [.p (.int .i64 r4.Period), .p (.int .i64 r4.From), .p (.int .i64 r4.Long)])], []⟩) (APath.fin (by kernel_rfl)) (by kernel_rfl) ?_
                      obtain rfl := some_inj h
                      exact ⟨_, rfl, (by show _ = _; kernel_rfl)⟩
                  · refine vc_exit ?_
                    try show vc _ _ _ _ _
                    obtain rfl := some_inj h
                    exact ⟨_, rfl, rfl, (by show _ = _; kernel_rfl)⟩
                · rintro e s hq
                  obtain ⟨rfl, hR⟩ := hq
                  obtain rfl := hR
                  try show vc _ _ _ _ _
                  refine vc_seq ?_
                  refine vc_regX ⟨[(5, .p (.sl 3 false (List.map e_api_Span r3))), (6, .loc 6 0), (7, .p (.int .i64 r5.1)), (8, .p (.int .i64 r5.2)), (9, .p (.int .i64 r5.1)), (10, .p (.int .i64 i1034)), (83, .p (.bool (if (r5.2 == 0) then (o2049.1 != (i1034 == r5.1)) else (o2049.1 != false))))], [(6, [.p (.int .i64 r4.Period), .p (.int .i64 r4.From), .p (.int .i64 r4.Long)])], []⟩ ?_ ?_
                  · rcases Bool.eq_false_or_eq_true (r5.2 == 0) with hc2050 | hc2051
                    · exact ⟨_, (APath.chunk 2 (by kernel_rfl) (APath.one (.val 77 (.bin .eql) [.t 76, .k (.p (.int .i64 0))]) (by kernel_rfl) (st_bool (c := (r5.2 == 0)) (by kernel_rfl) hc2050) (APath.fin (by kernel_rfl)))), by simp only [hc2050]; kernel_rfl⟩
                    · exact ⟨_, (APath.chunk 2 (by kernel_rfl) (APath.one (.val 77 (.bin .eql) [.t 76, .k (.p (.int .i64 0))]) (by kernel_rfl) (st_bool (c := (r5.2 == 0)) (by kernel_rfl) hc2051) (APath.fin (by kernel_rfl)))), by simp only [hc2051]; kernel_rfl⟩
                  · refine vc_ite (by kernel_rfl) h (fun hc2052 h => ?_) (fun hc2052 h => ?_)
                    · refine vc_seq ?_
                      refine vc_reg (S := ⟨[(4, .p (.bool false))], [], []⟩) (APath.fin (by kernel_rfl)) (by kernel_rfl) ?_
                      refine vc_ret ?_
                      obtain rfl := some_inj h
                      exact ⟨_, rfl, rfl, ret_of (by kernel_rfl)⟩
                    · refine vc_skip ?_
                      refine vc_kp ?_
                      refine vc_reg (S := ⟨[(5, .p (.sl 3 false (List.map e_api_Span r3))), (6, .loc 6 0), (7, .p (.int .i64 r5.1)), (8, .p (.int .i64 r5.2)), (9, .p (.int .i64 r5.1)), (10, .p (.int .i64 (w64 (i1034 + 1))))], [(6, [.p (.int .i64 r4.Period), .p (.int .i64 r4.From), .p (.int .i64 r4.Long)])], []⟩) (APath.fin (by kernel_rfl)) (by kernel_rfl) ?_
                      obtain rfl := some_inj h
                      exact ⟨_, rfl, (by show _ = _; kernel_rfl)⟩
              · refine vc_exit ?_
                try show vc _ _ _ _ _
                obtain rfl := some_inj h
                exact ⟨_, rfl, rfl, (by show _ = _; kernel_rfl)⟩
          · rintro e s hq
            rcases o2053 with p2054 | p2055
            · dsimp only at h hq
              obtain ⟨rfl, hR⟩ := hq
              obtain rfl := hR
              try show vc _ _ _ _ _
              refine vc_seq ?_
              refine vc_reg (S := ⟨[(4, .p (.bool true))], [], []⟩) (APath.fin (by kernel_rfl)) (by kernel_rfl) ?_
              refine vc_ret ?_
              obtain rfl := some_inj h
              exact ret_of (by kernel_rfl)
            · dsimp only at h hq
              obtain ⟨rfl, hq⟩ := hq
              obtain rfl := some_inj h
              exact hq
end Go.Sh
