/- The Go functions compute them; written by sym.py. -/
import Derived.Test.YtjmcikjcknddbaaOk2
namespace Go.Sh
open Go Go.Eng Go.Proofs
set_option linter.unusedVariables false
set_option linter.unusedSimpArgs false
set_option maxRecDepth 100000
/- isochronlaw27.GatesFinds -/
theorem law27_GatesFinds_ok (N : Nat) (a0_ : ref27_Draft) (a1_ : api_Gates) (a2_ : Int) (a3_ : Arr3_i64) (r : Bool) (h : law27_GatesFinds N a0_ a1_ a2_ a3_ = some r) : PCall Try.prog 5 [.agg [.p (.sl 1 false (List.map (eI .u8) a0_.Masks)), .p (.sl 1 false (List.map (eI .u8) a0_.Longs))], .agg [.p (.sl 2 false (List.map e_api_Entry a1_.Entries)), .p (.int .i64 a1_.Cycle)], .p (.int .u8 a2_), .agg [.p (.int .i64 a3_.x0), .p (.int .i64 a3_.x1), .p (.int .i64 a3_.x2)]] (.p (.bool r)) := by
  unfold law27_GatesFinds at h
  have hH : HP ([] : List HO) [] := trivial
  refine pcall_of chk5 rfl rfl (vc_sound _ _ _ ?_) rfl
  refine vc_seq ?_
  refine vc_reg (S := ⟨[(2, .p (.int .u8 a2_)), (4, .loc 4 0), (5, .loc 5 0), (7, .loc 7 0)], [(4, [.p (.sl 1 false (List.map (eI .u8) a0_.Masks)), .p (.sl 1 false (List.map (eI .u8) a0_.Longs))]), (5, [.p (.sl 2 false (List.map e_api_Entry a1_.Entries)), .p (.int .i64 a1_.Cycle)]), (7, [.p (.int .i64 a3_.x0), .p (.int .i64 a3_.x1), .p (.int .i64 a3_.x2)])], []⟩) (APath.fin (by kernel_rfl)) (by kernel_rfl) ?_
  refine vc_seq ?_
  refine vc_seq ?_
  obtain ⟨r1, hr1, h⟩ := bind_some h
  refine vc_reg (S := ⟨[(7, .loc 7 0), (20, .agg [.p (.sl 2 false (List.map e_api_Entry r1.x0.Entries)), .p (.int .i64 r1.x0.Cycle), .p (.sl 2 false (List.map e_api_Entry r1.x1.Entries)), .p (.int .i64 r1.x1.Cycle), .p (.sl 2 false (List.map e_api_Entry r1.x2.Entries)), .p (.int .i64 r1.x2.Cycle)]), (21, .p (.int .i64 0))], [(7, [.p (.int .i64 a3_.x0), .p (.int .i64 a3_.x1), .p (.int .i64 a3_.x2)])], []⟩) (APath.chunk 3 (by kernel_rfl) (APath.one (.call (some 20) 10 [.t 17, .t 18, .t 19]) (by kernel_rfl) (st_call (by kernel_rfl) (law27_lists_ok N a0_ a1_ a2_ r1 hr1)) (APath.fin (by kernel_rfl)))) (by kernel_rfl) ?_
  refine vc_block ?_
  refine vc_unroll 14 ?_
  refine unr_step ?_
  refine vc_seq ?_
  refine vc_reg (S := ⟨[(7, .loc 7 0), (20, .agg [.p (.sl 2 false (List.map e_api_Entry r1.x0.Entries)), .p (.int .i64 r1.x0.Cycle), .p (.sl 2 false (List.map e_api_Entry r1.x1.Entries)), .p (.int .i64 r1.x1.Cycle), .p (.sl 2 false (List.map e_api_Entry r1.x2.Entries)), .p (.int .i64 r1.x2.Cycle)]), (21, .p (.int .i64 0)), (22, .p (.bool true))], [(7, [.p (.int .i64 a3_.x0), .p (.int .i64 a3_.x1), .p (.int .i64 a3_.x2)])], []⟩) (APath.fin (by kernel_rfl)) (by kernel_rfl) ?_
  refine vc_seq ?_
  refine vc_true (by kernel_rfl) ?_
  refine vc_skip ?_
  refine vc_kp ?_
  refine vc_seq ?_
  refine vc_block ?_
  refine vc_seq ?_
  refine vc_reg (S := ⟨[(7, .loc 7 0), (10, .loc 10 0), (20, .agg [.p (.sl 2 false (List.map e_api_Entry r1.x0.Entries)), .p (.int .i64 r1.x0.Cycle), .p (.sl 2 false (List.map e_api_Entry r1.x1.Entries)), .p (.int .i64 r1.x1.Cycle), .p (.sl 2 false (List.map e_api_Entry r1.x2.Entries)), .p (.int .i64 r1.x2.Cycle)]), (21, .p (.int .i64 0))], [(7, [.p (.int .i64 a3_.x0), .p (.int .i64 a3_.x1), .p (.int .i64 a3_.x2)]), (10, [.p (.sl 2 false (List.map e_api_Entry r1.x0.Entries)), .p (.int .i64 r1.x0.Cycle)])], []⟩) (APath.fin (by kernel_rfl)) (by kernel_rfl) ?_
  refine vc_seq ?_
  refine vc_reg (S := ⟨[(7, .loc 7 0), (10, .loc 10 0), (20, .agg [.p (.sl 2 false (List.map e_api_Entry r1.x0.Entries)), .p (.int .i64 r1.x0.Cycle), .p (.sl 2 false (List.map e_api_Entry r1.x1.Entries)), .p (.int .i64 r1.x1.Cycle), .p (.sl 2 false (List.map e_api_Entry r1.x2.Entries)), .p (.int .i64 r1.x2.Cycle)]), (21, .p (.int .i64 0)), (49, .agg [.p (.int .i64 a3_.x0), .p (.int .i64 a3_.x1), .p (.int .i64 a3_.x2), .p (.int .i64 (Int.tmod a3_.x0 8)), .p (.int .i64 (Int.tmod a3_.x1 1000)), .p (.int .i64 (Int.tmod a3_.x2 50)), .p (.int .i64 6), .p (.int .i64 (Int.tmod a3_.x1 1000)), .p (.int .i64 (Int.tmod a3_.x2 50)), .p (.int .i64 7), .p (.int .i64 (Int.tmod a3_.x1 1000)), .p (.int .i64 (Int.tmod a3_.x2 25))]), (50, .p (.int .i64 0))], [(7, [.p (.int .i64 a3_.x0), .p (.int .i64 a3_.x1), .p (.int .i64 a3_.x2)]), (10, [.p (.sl 2 false (List.map e_api_Entry r1.x0.Entries)), .p (.int .i64 r1.x0.Cycle)])], []⟩) (APath.fin (by kernel_rfl)) (by kernel_rfl) ?_
  refine vc_block ?_
  refine vc_unroll 14 ?_
  refine unr_step ?_
  refine vc_seq ?_
  refine vc_reg (S := ⟨[(7, .loc 7 0), (10, .loc 10 0), (20, .agg [.p (.sl 2 false (List.map e_api_Entry r1.x0.Entries)), .p (.int .i64 r1.x0.Cycle), .p (.sl 2 false (List.map e_api_Entry r1.x1.Entries)), .p (.int .i64 r1.x1.Cycle), .p (.sl 2 false (List.map e_api_Entry r1.x2.Entries)), .p (.int .i64 r1.x2.Cycle)]), (21, .p (.int .i64 0)), (49, .agg [.p (.int .i64 a3_.x0), .p (.int .i64 a3_.x1), .p (.int .i64 a3_.x2), .p (.int .i64 (Int.tmod a3_.x0 8)), .p (.int .i64 (Int.tmod a3_.x1 1000)), .p (.int .i64 (Int.tmod a3_.x2 50)), .p (.int .i64 6), .p (.int .i64 (Int.tmod a3_.x1 1000)), .p (.int .i64 (Int.tmod a3_.x2 50)), .p (.int .i64 7), .p (.int .i64 (Int.tmod a3_.x1 1000)), .p (.int .i64 (Int.tmod a3_.x2 25))]), (50, .p (.int .i64 0)), (51, .p (.bool true))], [(7, [.p (.int .i64 a3_.x0), .p (.int .i64 a3_.x1), .p (.int .i64 a3_.x2)]), (10, [.p (.sl 2 false (List.map e_api_Entry r1.x0.Entries)), .p (.int .i64 r1.x0.Cycle)])], []⟩) (APath.fin (by kernel_rfl)) (by kernel_rfl) ?_
  refine vc_seq ?_
  refine vc_true (by kernel_rfl) ?_
  refine vc_skip ?_
  refine vc_kp ?_
  refine vc_seq ?_
  refine vc_block ?_
  refine vc_seq ?_
  refine vc_reg (S := ⟨[(7, .loc 7 0), (10, .loc 10 0), (12, .loc 12 0), (20, .agg [.p (.sl 2 false (List.map e_api_Entry r1.x0.Entries)), .p (.int .i64 r1.x0.Cycle), .p (.sl 2 false (List.map e_api_Entry r1.x1.Entries)), .p (.int .i64 r1.x1.Cycle), .p (.sl 2 false (List.map e_api_Entry r1.x2.Entries)), .p (.int .i64 r1.x2.Cycle)]), (21, .p (.int .i64 0)), (49, .agg [.p (.int .i64 a3_.x0), .p (.int .i64 a3_.x1), .p (.int .i64 a3_.x2), .p (.int .i64 (Int.tmod a3_.x0 8)), .p (.int .i64 (Int.tmod a3_.x1 1000)), .p (.int .i64 (Int.tmod a3_.x2 50)), .p (.int .i64 6), .p (.int .i64 (Int.tmod a3_.x1 1000)), .p (.int .i64 (Int.tmod a3_.x2 50)), .p (.int .i64 7), .p (.int .i64 (Int.tmod a3_.x1 1000)), .p (.int .i64 (Int.tmod a3_.x2 25))]), (50, .p (.int .i64 0))], [(7, [.p (.int .i64 a3_.x0), .p (.int .i64 a3_.x1), .p (.int .i64 a3_.x2)]), (10, [.p (.sl 2 false (List.map e_api_Entry r1.x0.Entries)), .p (.int .i64 r1.x0.Cycle)]), (12, [.p (.int .i64 a3_.x0), .p (.int .i64 a3_.x1), .p (.int .i64 a3_.x2)])], []⟩) (APath.fin (by kernel_rfl)) (by kernel_rfl) ?_
  refine vc_seq ?_
  obtain ⟨r2, hr2, h⟩ := bind_some h
  refine vc_reg (S := ⟨[(7, .loc 7 0), (10, .loc 10 0), (12, .loc 12 0), (13, .p (.int .i64 r2.1)), (14, .p (.int .i64 r2.2)), (20, .agg [.p (.sl 2 false (List.map e_api_Entry r1.x0.Entries)), .p (.int .i64 r1.x0.Cycle), .p (.sl 2 false (List.map e_api_Entry r1.x1.Entries)), .p (.int .i64 r1.x1.Cycle), .p (.sl 2 false (List.map e_api_Entry r1.x2.Entries)), .p (.int .i64 r1.x2.Cycle)]), (21, .p (.int .i64 0)), (49, .agg [.p (.int .i64 a3_.x0), .p (.int .i64 a3_.x1), .p (.int .i64 a3_.x2), .p (.int .i64 (Int.tmod a3_.x0 8)), .p (.int .i64 (Int.tmod a3_.x1 1000)), .p (.int .i64 (Int.tmod a3_.x2 50)), .p (.int .i64 6), .p (.int .i64 (Int.tmod a3_.x1 1000)), .p (.int .i64 (Int.tmod a3_.x2 50)), .p (.int .i64 7), .p (.int .i64 (Int.tmod a3_.x1 1000)), .p (.int .i64 (Int.tmod a3_.x2 25))]), (50, .p (.int .i64 0))], [(7, [.p (.int .i64 a3_.x0), .p (.int .i64 a3_.x1), .p (.int .i64 a3_.x2)]), (10, [.p (.sl 2 false (List.map e_api_Entry r1.x0.Entries)), .p (.int .i64 r1.x0.Cycle)]), (12, [.p (.int .i64 a3_.x0), .p (.int .i64 a3_.x1), .p (.int .i64 a3_.x2)])], []⟩) (APath.chunk 7 (by kernel_rfl) (APath.one (.call (some 61) 22 [.t 54, .t 56, .t 58, .t 60]) (by kernel_rfl) (st_call (by kernel_rfl) (gates_Fit_ok N r1.x0 a3_.x0 a3_.x1 a3_.x2 r2 hr2)) (APath.fin (by kernel_rfl)))) (by kernel_rfl) ?_
  refine vc_seq ?_
  obtain ⟨r3, hr3, h⟩ := bind_some h
  refine vc_reg (S := ⟨[(7, .loc 7 0), (10, .loc 10 0), (13, .p (.int .i64 r2.1)), (14, .p (.int .i64 r2.2)), (15, .p (.int .i64 r3.1)), (16, .p (.int .i64 r3.2)), (20, .agg [.p (.sl 2 false (List.map e_api_Entry r1.x0.Entries)), .p (.int .i64 r1.x0.Cycle), .p (.sl 2 false (List.map e_api_Entry r1.x1.Entries)), .p (.int .i64 r1.x1.Cycle), .p (.sl 2 false (List.map e_api_Entry r1.x2.Entries)), .p (.int .i64 r1.x2.Cycle)]), (21, .p (.int .i64 0)), (49, .agg [.p (.int .i64 a3_.x0), .p (.int .i64 a3_.x1), .p (.int .i64 a3_.x2), .p (.int .i64 (Int.tmod a3_.x0 8)), .p (.int .i64 (Int.tmod a3_.x1 1000)), .p (.int .i64 (Int.tmod a3_.x2 50)), .p (.int .i64 6), .p (.int .i64 (Int.tmod a3_.x1 1000)), .p (.int .i64 (Int.tmod a3_.x2 50)), .p (.int .i64 7), .p (.int .i64 (Int.tmod a3_.x1 1000)), .p (.int .i64 (Int.tmod a3_.x2 25))]), (50, .p (.int .i64 0))], [(7, [.p (.int .i64 a3_.x0), .p (.int .i64 a3_.x1), .p (.int .i64 a3_.x2)]), (10, [.p (.sl 2 false (List.map e_api_Entry r1.x0.Entries)), .p (.int .i64 r1.x0.Cycle)])], []⟩) (APath.chunk 7 (by kernel_rfl) (APath.one (.call (some 72) 23 [.t 65, .t 67, .t 69, .t 71]) (by kernel_rfl) (st_call (by kernel_rfl) (ref27_Fit_ok N r1.x0 a3_.x0 a3_.x1 a3_.x2 r3 hr3)) (APath.fin (by kernel_rfl)))) (by kernel_rfl) ?_
  refine vc_seq ?_
  refine vc_regX ⟨[(7, .loc 7 0), (10, .loc 10 0), (20, .agg [.p (.sl 2 false (List.map e_api_Entry r1.x0.Entries)), .p (.int .i64 r1.x0.Cycle), .p (.sl 2 false (List.map e_api_Entry r1.x1.Entries)), .p (.int .i64 r1.x1.Cycle), .p (.sl 2 false (List.map e_api_Entry r1.x2.Entries)), .p (.int .i64 r1.x2.Cycle)]), (21, .p (.int .i64 0)), (49, .agg [.p (.int .i64 a3_.x0), .p (.int .i64 a3_.x1), .p (.int .i64 a3_.x2), .p (.int .i64 (Int.tmod a3_.x0 8)), .p (.int .i64 (Int.tmod a3_.x1 1000)), .p (.int .i64 (Int.tmod a3_.x2 50)), .p (.int .i64 6), .p (.int .i64 (Int.tmod a3_.x1 1000)), .p (.int .i64 (Int.tmod a3_.x2 50)), .p (.int .i64 7), .p (.int .i64 (Int.tmod a3_.x1 1000)), .p (.int .i64 (Int.tmod a3_.x2 25))]), (50, .p (.int .i64 0)), (82, .p (.bool ((r2.1 != r3.1) || (r2.2 != r3.2))))], [(7, [.p (.int .i64 a3_.x0), .p (.int .i64 a3_.x1), .p (.int .i64 a3_.x2)]), (10, [.p (.sl 2 false (List.map e_api_Entry r1.x0.Entries)), .p (.int .i64 r1.x0.Cycle)])], []⟩ ?_ ?_
  · rcases Bool.eq_false_or_eq_true (r2.1 != r3.1) with hc4 | hc5
    · exact ⟨_, (APath.chunk 2 (by kernel_rfl) (APath.one (.val 77 (.bin .neq) [.t 75, .t 76]) (by kernel_rfl) (st_bool (c := (r2.1 != r3.1)) (by kernel_rfl) hc4) (APath.fin (by kernel_rfl)))), by simp only [hc4]; kernel_rfl⟩
    · exact ⟨_, (APath.chunk 2 (by kernel_rfl) (APath.one (.val 77 (.bin .neq) [.t 75, .t 76]) (by kernel_rfl) (st_bool (c := (r2.1 != r3.1)) (by kernel_rfl) hc5) (APath.fin (by kernel_rfl)))), by simp only [hc5]; kernel_rfl⟩
  · refine vc_ite (by kernel_rfl) h (fun hc6 h => ?_) (fun hc6 h => ?_)
    · refine vc_seq ?_
      refine vc_reg (S := ⟨[(8, .p (.bool false))], [], []⟩) (APath.fin (by kernel_rfl)) (by kernel_rfl) ?_
      refine vc_ret ?_
      obtain rfl := some_inj h
      exact ret_of (by kernel_rfl)
    · refine vc_skip ?_
      refine vc_kp ?_
      refine vc_reg (S := ⟨[(7, .loc 7 0), (10, .loc 10 0), (20, .agg [.p (.sl 2 false (List.map e_api_Entry r1.x0.Entries)), .p (.int .i64 r1.x0.Cycle), .p (.sl 2 false (List.map e_api_Entry r1.x1.Entries)), .p (.int .i64 r1.x1.Cycle), .p (.sl 2 false (List.map e_api_Entry r1.x2.Entries)), .p (.int .i64 r1.x2.Cycle)]), (21, .p (.int .i64 0)), (49, .agg [.p (.int .i64 a3_.x0), .p (.int .i64 a3_.x1), .p (.int .i64 a3_.x2), .p (.int .i64 (Int.tmod a3_.x0 8)), .p (.int .i64 (Int.tmod a3_.x1 1000)), .p (.int .i64 (Int.tmod a3_.x2 50)), .p (.int .i64 6), .p (.int .i64 (Int.tmod a3_.x1 1000)), .p (.int .i64 (Int.tmod a3_.x2 50)), .p (.int .i64 7), .p (.int .i64 (Int.tmod a3_.x1 1000)), .p (.int .i64 (Int.tmod a3_.x2 25))]), (50, .p (.int .i64 1))], [(7, [.p (.int .i64 a3_.x0), .p (.int .i64 a3_.x1), .p (.int .i64 a3_.x2)]), (10, [.p (.sl 2 false (List.map e_api_Entry r1.x0.Entries)), .p (.int .i64 r1.x0.Cycle)])], []⟩) (APath.fin (by kernel_rfl)) (by kernel_rfl) ?_
      refine unr_step ?_
      refine vc_seq ?_
      refine vc_reg (S := ⟨[(7, .loc 7 0), (10, .loc 10 0), (20, .agg [.p (.sl 2 false (List.map e_api_Entry r1.x0.Entries)), .p (.int .i64 r1.x0.Cycle), .p (.sl 2 false (List.map e_api_Entry r1.x1.Entries)), .p (.int .i64 r1.x1.Cycle), .p (.sl 2 false (List.map e_api_Entry r1.x2.Entries)), .p (.int .i64 r1.x2.Cycle)]), (21, .p (.int .i64 0)), (49, .agg [.p (.int .i64 a3_.x0), .p (.int .i64 a3_.x1), .p (.int .i64 a3_.x2), .p (.int .i64 (Int.tmod a3_.x0 8)), .p (.int .i64 (Int.tmod a3_.x1 1000)), .p (.int .i64 (Int.tmod a3_.x2 50)), .p (.int .i64 6), .p (.int .i64 (Int.tmod a3_.x1 1000)), .p (.int .i64 (Int.tmod a3_.x2 50)), .p (.int .i64 7), .p (.int .i64 (Int.tmod a3_.x1 1000)), .p (.int .i64 (Int.tmod a3_.x2 25))]), (50, .p (.int .i64 1)), (51, .p (.bool true))], [(7, [.p (.int .i64 a3_.x0), .p (.int .i64 a3_.x1), .p (.int .i64 a3_.x2)]), (10, [.p (.sl 2 false (List.map e_api_Entry r1.x0.Entries)), .p (.int .i64 r1.x0.Cycle)])], []⟩) (APath.fin (by kernel_rfl)) (by kernel_rfl) ?_
      refine vc_seq ?_
      refine vc_true (by kernel_rfl) ?_
      refine vc_skip ?_
      refine vc_kp ?_
      refine vc_seq ?_
      refine vc_block ?_
      refine vc_seq ?_
      refine vc_reg (S := ⟨[(7, .loc 7 0), (10, .loc 10 0), (12, .loc 12 0), (20, .agg [.p (.sl 2 false (List.map e_api_Entry r1.x0.Entries)), .p (.int .i64 r1.x0.Cycle), .p (.sl 2 false (List.map e_api_Entry r1.x1.Entries)), .p (.int .i64 r1.x1.Cycle), .p (.sl 2 false (List.map e_api_Entry r1.x2.Entries)), .p (.int .i64 r1.x2.Cycle)]), (21, .p (.int .i64 0)), (49, .agg [.p (.int .i64 a3_.x0), .p (.int .i64 a3_.x1), .p (.int .i64 a3_.x2), .p (.int .i64 (Int.tmod a3_.x0 8)), .p (.int .i64 (Int.tmod a3_.x1 1000)), .p (.int .i64 (Int.tmod a3_.x2 50)), .p (.int .i64 6), .p (.int .i64 (Int.tmod a3_.x1 1000)), .p (.int .i64 (Int.tmod a3_.x2 50)), .p (.int .i64 7), .p (.int .i64 (Int.tmod a3_.x1 1000)), .p (.int .i64 (Int.tmod a3_.x2 25))]), (50, .p (.int .i64 1))], [(7, [.p (.int .i64 a3_.x0), .p (.int .i64 a3_.x1), .p (.int .i64 a3_.x2)]), (10, [.p (.sl 2 false (List.map e_api_Entry r1.x0.Entries)), .p (.int .i64 r1.x0.Cycle)]), (12, [.p (.int .i64 (Int.tmod a3_.x0 8)), .p (.int .i64 (Int.tmod a3_.x1 1000)), .p (.int .i64 (Int.tmod a3_.x2 50))])], []⟩) (APath.fin (by kernel_rfl)) (by kernel_rfl) ?_
      refine vc_seq ?_
      obtain ⟨r7, hr7, h⟩ := bind_some h
      refine vc_reg (S := ⟨[(7, .loc 7 0), (10, .loc 10 0), (12, .loc 12 0), (13, .p (.int .i64 r7.1)), (14, .p (.int .i64 r7.2)), (20, .agg [.p (.sl 2 false (List.map e_api_Entry r1.x0.Entries)), .p (.int .i64 r1.x0.Cycle), .p (.sl 2 false (List.map e_api_Entry r1.x1.Entries)), .p (.int .i64 r1.x1.Cycle), .p (.sl 2 false (List.map e_api_Entry r1.x2.Entries)), .p (.int .i64 r1.x2.Cycle)]), (21, .p (.int .i64 0)), (49, .agg [.p (.int .i64 a3_.x0), .p (.int .i64 a3_.x1), .p (.int .i64 a3_.x2), .p (.int .i64 (Int.tmod a3_.x0 8)), .p (.int .i64 (Int.tmod a3_.x1 1000)), .p (.int .i64 (Int.tmod a3_.x2 50)), .p (.int .i64 6), .p (.int .i64 (Int.tmod a3_.x1 1000)), .p (.int .i64 (Int.tmod a3_.x2 50)), .p (.int .i64 7), .p (.int .i64 (Int.tmod a3_.x1 1000)), .p (.int .i64 (Int.tmod a3_.x2 25))]), (50, .p (.int .i64 1))], [(7, [.p (.int .i64 a3_.x0), .p (.int .i64 a3_.x1), .p (.int .i64 a3_.x2)]), (10, [.p (.sl 2 false (List.map e_api_Entry r1.x0.Entries)), .p (.int .i64 r1.x0.Cycle)]), (12, [.p (.int .i64 (Int.tmod a3_.x0 8)), .p (.int .i64 (Int.tmod a3_.x1 1000)), .p (.int .i64 (Int.tmod a3_.x2 50))])], []⟩) (APath.chunk 7 (by kernel_rfl) (APath.one (.call (some 61) 22 [.t 54, .t 56, .t 58, .t 60]) (by kernel_rfl) (st_call (by kernel_rfl) (gates_Fit_ok N r1.x0 (Int.tmod a3_.x0 8) (Int.tmod a3_.x1 1000) (Int.tmod a3_.x2 50) r7 hr7)) (APath.fin (by kernel_rfl)))) (by kernel_rfl) ?_
      refine vc_seq ?_
      obtain ⟨r8, hr8, h⟩ := bind_some h
      refine vc_reg (S := ⟨[(7, .loc 7 0), (10, .loc 10 0), (13, .p (.int .i64 r7.1)), (14, .p (.int .i64 r7.2)), (15, .p (.int .i64 r8.1)), (16, .p (.int .i64 r8.2)), (20, .agg [.p (.sl 2 false (List.map e_api_Entry r1.x0.Entries)), .p (.int .i64 r1.x0.Cycle), .p (.sl 2 false (List.map e_api_Entry r1.x1.Entries)), .p (.int .i64 r1.x1.Cycle), .p (.sl 2 false (List.map e_api_Entry r1.x2.Entries)), .p (.int .i64 r1.x2.Cycle)]), (21, .p (.int .i64 0)), (49, .agg [.p (.int .i64 a3_.x0), .p (.int .i64 a3_.x1), .p (.int .i64 a3_.x2), .p (.int .i64 (Int.tmod a3_.x0 8)), .p (.int .i64 (Int.tmod a3_.x1 1000)), .p (.int .i64 (Int.tmod a3_.x2 50)), .p (.int .i64 6), .p (.int .i64 (Int.tmod a3_.x1 1000)), .p (.int .i64 (Int.tmod a3_.x2 50)), .p (.int .i64 7), .p (.int .i64 (Int.tmod a3_.x1 1000)), .p (.int .i64 (Int.tmod a3_.x2 25))]), (50, .p (.int .i64 1))], [(7, [.p (.int .i64 a3_.x0), .p (.int .i64 a3_.x1), .p (.int .i64 a3_.x2)]), (10, [.p (.sl 2 false (List.map e_api_Entry r1.x0.Entries)), .p (.int .i64 r1.x0.Cycle)])], []⟩) (APath.chunk 7 (by kernel_rfl) (APath.one (.call (some 72) 23 [.t 65, .t 67, .t 69, .t 71]) (by kernel_rfl) (st_call (by kernel_rfl) (ref27_Fit_ok N r1.x0 (Int.tmod a3_.x0 8) (Int.tmod a3_.x1 1000) (Int.tmod a3_.x2 50) r8 hr8)) (APath.fin (by kernel_rfl)))) (by kernel_rfl) ?_
      refine vc_seq ?_
      refine vc_regX ⟨[(7, .loc 7 0), (10, .loc 10 0), (20, .agg [.p (.sl 2 false (List.map e_api_Entry r1.x0.Entries)), .p (.int .i64 r1.x0.Cycle), .p (.sl 2 false (List.map e_api_Entry r1.x1.Entries)), .p (.int .i64 r1.x1.Cycle), .p (.sl 2 false (List.map e_api_Entry r1.x2.Entries)), .p (.int .i64 r1.x2.Cycle)]), (21, .p (.int .i64 0)), (49, .agg [.p (.int .i64 a3_.x0), .p (.int .i64 a3_.x1), .p (.int .i64 a3_.x2), .p (.int .i64 (Int.tmod a3_.x0 8)), .p (.int .i64 (Int.tmod a3_.x1 1000)), .p (.int .i64 (Int.tmod a3_.x2 50)), .p (.int .i64 6), .p (.int .i64 (Int.tmod a3_.x1 1000)), .p (.int .i64 (Int.tmod a3_.x2 50)), .p (.int .i64 7), .p (.int .i64 (Int.tmod a3_.x1 1000)), .p (.int .i64 (Int.tmod a3_.x2 25))]), (50, .p (.int .i64 1)), (82, .p (.bool ((r7.1 != r8.1) || (r7.2 != r8.2))))], [(7, [.p (.int .i64 a3_.x0), .p (.int .i64 a3_.x1), .p (.int .i64 a3_.x2)]), (10, [.p (.sl 2 false (List.map e_api_Entry r1.x0.Entries)), .p (.int .i64 r1.x0.Cycle)])], []⟩ ?_ ?_
      · rcases Bool.eq_false_or_eq_true (r7.1 != r8.1) with hc9 | hc10
        · exact ⟨_, (APath.chunk 2 (by kernel_rfl) (APath.one (.val 77 (.bin .neq) [.t 75, .t 76]) (by kernel_rfl) (st_bool (c := (r7.1 != r8.1)) (by kernel_rfl) hc9) (APath.fin (by kernel_rfl)))), by simp only [hc9]; kernel_rfl⟩
        · exact ⟨_, (APath.chunk 2 (by kernel_rfl) (APath.one (.val 77 (.bin .neq) [.t 75, .t 76]) (by kernel_rfl) (st_bool (c := (r7.1 != r8.1)) (by kernel_rfl) hc10) (APath.fin (by kernel_rfl)))), by simp only [hc10]; kernel_rfl⟩
      · refine vc_ite (by kernel_rfl) h (fun hc11 h => ?_) (fun hc11 h => ?_)
        · refine vc_seq ?_
          refine vc_reg (S := ⟨[(8, .p (.bool false))], [], []⟩) (APath.fin (by kernel_rfl)) (by kernel_rfl) ?_
          refine vc_ret ?_
          obtain rfl := some_inj h
          exact ret_of (by kernel_rfl)
        · refine vc_skip ?_
          refine vc_kp ?_
          refine vc_reg (S := ⟨[(7, .loc 7 0), (10, .loc 10 0), (20, .agg [.p (.sl 2 false (List.map e_api_Entry r1.x0.Entries)), .p (.int .i64 r1.x0.Cycle), .p (.sl 2 false (List.map e_api_Entry r1.x1.Entries)), .p (.int .i64 r1.x1.Cycle), .p (.sl 2 false (List.map e_api_Entry r1.x2.Entries)), .p (.int .i64 r1.x2.Cycle)]), (21, .p (.int .i64 0)), (49, .agg [.p (.int .i64 a3_.x0), .p (.int .i64 a3_.x1), .p (.int .i64 a3_.x2), .p (.int .i64 (Int.tmod a3_.x0 8)), .p (.int .i64 (Int.tmod a3_.x1 1000)), .p (.int .i64 (Int.tmod a3_.x2 50)), .p (.int .i64 6), .p (.int .i64 (Int.tmod a3_.x1 1000)), .p (.int .i64 (Int.tmod a3_.x2 50)), .p (.int .i64 7), .p (.int .i64 (Int.tmod a3_.x1 1000)), .p (.int .i64 (Int.tmod a3_.x2 25))]), (50, .p (.int .i64 2))], [(7, [.p (.int .i64 a3_.x0), .p (.int .i64 a3_.x1), .p (.int .i64 a3_.x2)]), (10, [.p (.sl 2 false (List.map e_api_Entry r1.x0.Entries)), .p (.int .i64 r1.x0.Cycle)])], []⟩) (APath.fin (by kernel_rfl)) (by kernel_rfl) ?_
          refine unr_step ?_
          refine vc_seq ?_
          refine vc_reg (S := ⟨[(7, .loc 7 0), (10, .loc 10 0), (20, .agg [.p (.sl 2 false (List.map e_api_Entry r1.x0.Entries)), .p (.int .i64 r1.x0.Cycle), .p (.sl 2 false (List.map e_api_Entry r1.x1.Entries)), .p (.int .i64 r1.x1.Cycle), .p (.sl 2 false (List.map e_api_Entry r1.x2.Entries)), .p (.int .i64 r1.x2.Cycle)]), (21, .p (.int .i64 0)), (49, .agg [.p (.int .i64 a3_.x0), .p (.int .i64 a3_.x1), .p (.int .i64 a3_.x2), .p (.int .i64 (Int.tmod a3_.x0 8)), .p (.int .i64 (Int.tmod a3_.x1 1000)), .p (.int .i64 (Int.tmod a3_.x2 50)), .p (.int .i64 6), .p (.int .i64 (Int.tmod a3_.x1 1000)), .p (.int .i64 (Int.tmod a3_.x2 50)), .p (.int .i64 7), .p (.int .i64 (Int.tmod a3_.x1 1000)), .p (.int .i64 (Int.tmod a3_.x2 25))]), (50, .p (.int .i64 2)), (51, .p (.bool true))], [(7, [.p (.int .i64 a3_.x0), .p (.int .i64 a3_.x1), .p (.int .i64 a3_.x2)]), (10, [.p (.sl 2 false (List.map e_api_Entry r1.x0.Entries)), .p (.int .i64 r1.x0.Cycle)])], []⟩) (APath.fin (by kernel_rfl)) (by kernel_rfl) ?_
          refine vc_seq ?_
          refine vc_true (by kernel_rfl) ?_
          refine vc_skip ?_
          refine vc_kp ?_
          refine vc_seq ?_
          refine vc_block ?_
          refine vc_seq ?_
          refine vc_reg (S := ⟨[(7, .loc 7 0), (10, .loc 10 0), (12, .loc 12 0), (20, .agg [.p (.sl 2 false (List.map e_api_Entry r1.x0.Entries)), .p (.int .i64 r1.x0.Cycle), .p (.sl 2 false (List.map e_api_Entry r1.x1.Entries)), .p (.int .i64 r1.x1.Cycle), .p (.sl 2 false (List.map e_api_Entry r1.x2.Entries)), .p (.int .i64 r1.x2.Cycle)]), (21, .p (.int .i64 0)), (49, .agg [.p (.int .i64 a3_.x0), .p (.int .i64 a3_.x1), .p (.int .i64 a3_.x2), .p (.int .i64 (Int.tmod a3_.x0 8)), .p (.int .i64 (Int.tmod a3_.x1 1000)), .p (.int .i64 (Int.tmod a3_.x2 50)), .p (.int .i64 6), .p (.int .i64 (Int.tmod a3_.x1 1000)), .p (.int .i64 (Int.tmod a3_.x2 50)), .p (.int .i64 7), .p (.int .i64 (Int.tmod a3_.x1 1000)), .p (.int .i64 (Int.tmod a3_.x2 25))]), (50, .p (.int .i64 2))], [(7, [.p (.int .i64 a3_.x0), .p (.int .i64 a3_.x1), .p (.int .i64 a3_.x2)]), (10, [.p (.sl 2 false (List.map e_api_Entry r1.x0.Entries)), .p (.int .i64 r1.x0.Cycle)]), (12, [.p (.int .i64 6), .p (.int .i64 (Int.tmod a3_.x1 1000)), .p (.int .i64 (Int.tmod a3_.x2 50))])], []⟩) (APath.fin (by kernel_rfl)) (by kernel_rfl) ?_
          refine vc_seq ?_
          obtain ⟨r12, hr12, h⟩ := bind_some h
          refine vc_reg (S := ⟨[(7, .loc 7 0), (10, .loc 10 0), (12, .loc 12 0), (13, .p (.int .i64 r12.1)), (14, .p (.int .i64 r12.2)), (20, .agg [.p (.sl 2 false (List.map e_api_Entry r1.x0.Entries)), .p (.int .i64 r1.x0.Cycle), .p (.sl 2 false (List.map e_api_Entry r1.x1.Entries)), .p (.int .i64 r1.x1.Cycle), .p (.sl 2 false (List.map e_api_Entry r1.x2.Entries)), .p (.int .i64 r1.x2.Cycle)]), (21, .p (.int .i64 0)), (49, .agg [.p (.int .i64 a3_.x0), .p (.int .i64 a3_.x1), .p (.int .i64 a3_.x2), .p (.int .i64 (Int.tmod a3_.x0 8)), .p (.int .i64 (Int.tmod a3_.x1 1000)), .p (.int .i64 (Int.tmod a3_.x2 50)), .p (.int .i64 6), .p (.int .i64 (Int.tmod a3_.x1 1000)), .p (.int .i64 (Int.tmod a3_.x2 50)), .p (.int .i64 7), .p (.int .i64 (Int.tmod a3_.x1 1000)), .p (.int .i64 (Int.tmod a3_.x2 25))]), (50, .p (.int .i64 2))], [(7, [.p (.int .i64 a3_.x0), .p (.int .i64 a3_.x1), .p (.int .i64 a3_.x2)]), (10, [.p (.sl 2 false (List.map e_api_Entry r1.x0.Entries)), .p (.int .i64 r1.x0.Cycle)]), (12, [.p (.int .i64 6), .p (.int .i64 (Int.tmod a3_.x1 1000)), .p (.int .i64 (Int.tmod a3_.x2 50))])], []⟩) (APath.chunk 7 (by kernel_rfl) (APath.one (.call (some 61) 22 [.t 54, .t 56, .t 58, .t 60]) (by kernel_rfl) (st_call (by kernel_rfl) (gates_Fit_ok N r1.x0 6 (Int.tmod a3_.x1 1000) (Int.tmod a3_.x2 50) r12 hr12)) (APath.fin (by kernel_rfl)))) (by kernel_rfl) ?_
          refine vc_seq ?_
          obtain ⟨r13, hr13, h⟩ := bind_some h
          refine vc_reg (S := ⟨[(7, .loc 7 0), (10, .loc 10 0), (13, .p (.int .i64 r12.1)), (14, .p (.int .i64 r12.2)), (15, .p (.int .i64 r13.1)), (16, .p (.int .i64 r13.2)), (20, .agg [.p (.sl 2 false (List.map e_api_Entry r1.x0.Entries)), .p (.int .i64 r1.x0.Cycle), .p (.sl 2 false (List.map e_api_Entry r1.x1.Entries)), .p (.int .i64 r1.x1.Cycle), .p (.sl 2 false (List.map e_api_Entry r1.x2.Entries)), .p (.int .i64 r1.x2.Cycle)]), (21, .p (.int .i64 0)), (49, .agg [.p (.int .i64 a3_.x0), .p (.int .i64 a3_.x1), .p (.int .i64 a3_.x2), .p (.int .i64 (Int.tmod a3_.x0 8)), .p (.int .i64 (Int.tmod a3_.x1 1000)), .p (.int .i64 (Int.tmod a3_.x2 50)), .p (.int .i64 6), .p (.int .i64 (Int.tmod a3_.x1 1000)), .p (.int .i64 (Int.tmod a3_.x2 50)), .p (.int .i64 7), .p (.int .i64 (Int.tmod a3_.x1 1000)), .p (.int .i64 (Int.tmod a3_.x2 25))]), (50, .p (.int .i64 2))], [(7, [.p (.int .i64 a3_.x0), .p (.int .i64 a3_.x1), .p (.int .i64 a3_.x2)]), (10, [.p (.sl 2 false (List.map e_api_Entry r1.x0.Entries)), .p (.int .i64 r1.x0.Cycle)])], []⟩) (APath.chunk 7 (by kernel_rfl) (APath.one (.call (some 72) 23 [.t 65, .t 67, .t 69, .t 71]) (by kernel_rfl) (st_call (by kernel_rfl) (ref27_Fit_ok N r1.x0 6 (Int.tmod a3_.x1 1000) (Int.tmod a3_.x2 50) r13 hr13)) (APath.fin (by kernel_rfl)))) (by kernel_rfl) ?_
          refine vc_seq ?_
          refine vc_regX ⟨[(7, .loc 7 0), (10, .loc 10 0), (20, .agg [.p (.sl 2 false (List.map e_api_Entry r1.x0.Entries)), .p (.int .i64 r1.x0.Cycle), .p (.sl 2 false (List.map e_api_Entry r1.x1.Entries)), .p (.int .i64 r1.x1.Cycle), .p (.sl 2 false (List.map e_api_Entry r1.x2.Entries)), .p (.int .i64 r1.x2.Cycle)]), (21, .p (.int .i64 0)), (49, .agg [.p (.int .i64 a3_.x0), .p (.int .i64 a3_.x1), .p (.int .i64 a3_.x2), .p (.int .i64 (Int.tmod a3_.x0 8)), .p (.int .i64 (Int.tmod a3_.x1 1000)), .p (.int .i64 (Int.tmod a3_.x2 50)), .p (.int .i64 6), .p (.int .i64 (Int.tmod a3_.x1 1000)), .p (.int .i64 (Int.tmod a3_.x2 50)), .p (.int .i64 7), .p (.int .i64 (Int.tmod a3_.x1 1000)), .p (.int .i64 (Int.tmod a3_.x2 25))]), (50, .p (.int .i64 2)), (82, .p (.bool ((r12.1 != r13.1) || (r12.2 != r13.2))))], [(7, [.p (.int .i64 a3_.x0), .p (.int .i64 a3_.x1), .p (.int .i64 a3_.x2)]), (10, [.p (.sl 2 false (List.map e_api_Entry r1.x0.Entries)), .p (.int .i64 r1.x0.Cycle)])], []⟩ ?_ ?_
          · rcases Bool.eq_false_or_eq_true (r12.1 != r13.1) with hc14 | hc15
            · exact ⟨_, (APath.chunk 2 (by kernel_rfl) (APath.one (.val 77 (.bin .neq) [.t 75, .t 76]) (by kernel_rfl) (st_bool (c := (r12.1 != r13.1)) (by kernel_rfl) hc14) (APath.fin (by kernel_rfl)))), by simp only [hc14]; kernel_rfl⟩
            · exact ⟨_, (APath.chunk 2 (by kernel_rfl) (APath.one (.val 77 (.bin .neq) [.t 75, .t 76]) (by kernel_rfl) (st_bool (c := (r12.1 != r13.1)) (by kernel_rfl) hc15) (APath.fin (by kernel_rfl)))), by simp only [hc15]; kernel_rfl⟩
          · refine vc_ite (by kernel_rfl) h (fun hc16 h => ?_) (fun hc16 h => ?_)
            · refine vc_seq ?_
              refine vc_reg (S := ⟨[(8, .p (.bool false))], [], []⟩) (APath.fin (by kernel_rfl)) (by kernel_rfl) ?_
              refine vc_ret ?_
              obtain rfl := some_inj h
              exact ret_of (by kernel_rfl)
            · refine vc_skip ?_
              refine vc_kp ?_
              refine vc_reg (S := ⟨[(7, .loc 7 0), (10, .loc 10 0), (20, .agg [.p (.sl 2 false (List.map e_api_Entry r1.x0.Entries)), .p (.int .i64 r1.x0.Cycle), .p (.sl 2 false (List.map e_api_Entry r1.x1.Entries)), .p (.int .i64 r1.x1.Cycle), .p (.sl 2 false (List.map e_api_Entry r1.x2.Entries)), .p (.int .i64 r1.x2.Cycle)]), (21, .p (.int .i64 0)), (49, .agg [.p (.int .i64 a3_.x0), .p (.int .i64 a3_.x1), .p (.int .i64 a3_.x2), .p (.int .i64 (Int.tmod a3_.x0 8)), .p (.int .i64 (Int.tmod a3_.x1 1000)), .p (.int .i64 (Int.tmod a3_.x2 50)), .p (.int .i64 6), .p (.int .i64 (Int.tmod a3_.x1 1000)), .p (.int .i64 (Int.tmod a3_.x2 50)), .p (.int .i64 7), .p (.int .i64 (Int.tmod a3_.x1 1000)), .p (.int .i64 (Int.tmod a3_.x2 25))]), (50, .p (.int .i64 3))], [(7, [.p (.int .i64 a3_.x0), .p (.int .i64 a3_.x1), .p (.int .i64 a3_.x2)]), (10, [.p (.sl 2 false (List.map e_api_Entry r1.x0.Entries)), .p (.int .i64 r1.x0.Cycle)])], []⟩) (APath.fin (by kernel_rfl)) (by kernel_rfl) ?_
              refine unr_step ?_
              refine vc_seq ?_
              refine vc_reg (S := ⟨[(7, .loc 7 0), (10, .loc 10 0), (20, .agg [.p (.sl 2 false (List.map e_api_Entry r1.x0.Entries)), .p (.int .i64 r1.x0.Cycle), .p (.sl 2 false (List.map e_api_Entry r1.x1.Entries)), .p (.int .i64 r1.x1.Cycle), .p (.sl 2 false (List.map e_api_Entry r1.x2.Entries)), .p (.int .i64 r1.x2.Cycle)]), (21, .p (.int .i64 0)), (49, .agg [.p (.int .i64 a3_.x0), .p (.int .i64 a3_.x1), .p (.int .i64 a3_.x2), .p (.int .i64 (Int.tmod a3_.x0 8)), .p (.int .i64 (Int.tmod a3_.x1 1000)), .p (.int .i64 (Int.tmod a3_.x2 50)), .p (.int .i64 6), .p (.int .i64 (Int.tmod a3_.x1 1000)), .p (.int .i64 (Int.tmod a3_.x2 50)), .p (.int .i64 7), .p (.int .i64 (Int.tmod a3_.x1 1000)), .p (.int .i64 (Int.tmod a3_.x2 25))]), (50, .p (.int .i64 3)), (51, .p (.bool true))], [(7, [.p (.int .i64 a3_.x0), .p (.int .i64 a3_.x1), .p (.int .i64 a3_.x2)]), (10, [.p (.sl 2 false (List.map e_api_Entry r1.x0.Entries)), .p (.int .i64 r1.x0.Cycle)])], []⟩) (APath.fin (by kernel_rfl)) (by kernel_rfl) ?_
              refine vc_seq ?_
              refine vc_true (by kernel_rfl) ?_
              refine vc_skip ?_
              refine vc_kp ?_
              refine vc_seq ?_
              refine vc_block ?_
              refine vc_seq ?_
              refine vc_reg (S := ⟨[(7, .loc 7 0), (10, .loc 10 0), (12, .loc 12 0), (20, .agg [.p (.sl 2 false (List.map e_api_Entry r1.x0.Entries)), .p (.int .i64 r1.x0.Cycle), .p (.sl 2 false (List.map e_api_Entry r1.x1.Entries)), .p (.int .i64 r1.x1.Cycle), .p (.sl 2 false (List.map e_api_Entry r1.x2.Entries)), .p (.int .i64 r1.x2.Cycle)]), (21, .p (.int .i64 0)), (49, .agg [.p (.int .i64 a3_.x0), .p (.int .i64 a3_.x1), .p (.int .i64 a3_.x2), .p (.int .i64 (Int.tmod a3_.x0 8)), .p (.int .i64 (Int.tmod a3_.x1 1000)), .p (.int .i64 (Int.tmod a3_.x2 50)), .p (.int .i64 6), .p (.int .i64 (Int.tmod a3_.x1 1000)), .p (.int .i64 (Int.tmod a3_.x2 50)), .p (.int .i64 7), .p (.int .i64 (Int.tmod a3_.x1 1000)), .p (.int .i64 (Int.tmod a3_.x2 25))]), (50, .p (.int .i64 3))], [(7, [.p (.int .i64 a3_.x0), .p (.int .i64 a3_.x1), .p (.int .i64 a3_.x2)]), (10, [.p (.sl 2 false (List.map e_api_Entry r1.x0.Entries)), .p (.int .i64 r1.x0.Cycle)]), (12, [.p (.int .i64 7), .p (.int .i64 (Int.tmod a3_.x1 1000)), .p (.int .i64 (Int.tmod a3_.x2 25))])], []⟩) (APath.fin (by kernel_rfl)) (by kernel_rfl) ?_
              refine vc_seq ?_
              obtain ⟨r17, hr17, h⟩ := bind_some h
              refine vc_reg (S := ⟨[(7, .loc 7 0), (10, .loc 10 0), (12, .loc 12 0), (13, .p (.int .i64 r17.1)), (14, .p (.int .i64 r17.2)), (20, .agg [.p (.sl 2 false (List.map e_api_Entry r1.x0.Entries)), .p (.int .i64 r1.x0.Cycle), .p (.sl 2 false (List.map e_api_Entry r1.x1.Entries)), .p (.int .i64 r1.x1.Cycle), .p (.sl 2 false (List.map e_api_Entry r1.x2.Entries)), .p (.int .i64 r1.x2.Cycle)]), (21, .p (.int .i64 0)), (49, .agg [.p (.int .i64 a3_.x0), .p (.int .i64 a3_.x1), .p (.int .i64 a3_.x2), .p (.int .i64 (Int.tmod a3_.x0 8)), .p (.int .i64 (Int.tmod a3_.x1 1000)), .p (.int .i64 (Int.tmod a3_.x2 50)), .p (.int .i64 6), .p (.int .i64 (Int.tmod a3_.x1 1000)), .p (.int .i64 (Int.tmod a3_.x2 50)), .p (.int .i64 7), .p (.int .i64 (Int.tmod a3_.x1 1000)), .p (.int .i64 (Int.tmod a3_.x2 25))]), (50, .p (.int .i64 3))], [(7, [.p (.int .i64 a3_.x0), .p (.int .i64 a3_.x1), .p (.int .i64 a3_.x2)]), (10, [.p (.sl 2 false (List.map e_api_Entry r1.x0.Entries)), .p (.int .i64 r1.x0.Cycle)]), (12, [.p (.int .i64 7), .p (.int .i64 (Int.tmod a3_.x1 1000)), .p (.int .i64 (Int.tmod a3_.x2 25))])], []⟩) (APath.chunk 7 (by kernel_rfl) (APath.one (.call (some 61) 22 [.t 54, .t 56, .t 58, .t 60]) (by kernel_rfl) (st_call (by kernel_rfl) (gates_Fit_ok N r1.x0 7 (Int.tmod a3_.x1 1000) (Int.tmod a3_.x2 25) r17 hr17)) (APath.fin (by kernel_rfl)))) (by kernel_rfl) ?_
              refine vc_seq ?_
              obtain ⟨r18, hr18, h⟩ := bind_some h
              refine vc_reg (S := ⟨[(7, .loc 7 0), (10, .loc 10 0), (13, .p (.int .i64 r17.1)), (14, .p (.int .i64 r17.2)), (15, .p (.int .i64 r18.1)), (16, .p (.int .i64 r18.2)), (20, .agg [.p (.sl 2 false (List.map e_api_Entry r1.x0.Entries)), .p (.int .i64 r1.x0.Cycle), .p (.sl 2 false (List.map e_api_Entry r1.x1.Entries)), .p (.int .i64 r1.x1.Cycle), .p (.sl 2 false (List.map e_api_Entry r1.x2.Entries)), .p (.int .i64 r1.x2.Cycle)]), (21, .p (.int .i64 0)), (49, .agg [.p (.int .i64 a3_.x0), .p (.int .i64 a3_.x1), .p (.int .i64 a3_.x2), .p (.int .i64 (Int.tmod a3_.x0 8)), .p (.int .i64 (Int.tmod a3_.x1 1000)), .p (.int .i64 (Int.tmod a3_.x2 50)), .p (.int .i64 6), .p (.int .i64 (Int.tmod a3_.x1 1000)), .p (.int .i64 (Int.tmod a3_.x2 50)), .p (.int .i64 7), .p (.int .i64 (Int.tmod a3_.x1 1000)), .p (.int .i64 (Int.tmod a3_.x2 25))]), (50, .p (.int .i64 3))], [(7, [.p (.int .i64 a3_.x0), .p (.int .i64 a3_.x1), .p (.int .i64 a3_.x2)]), (10, [.p (.sl 2 false (List.map e_api_Entry r1.x0.Entries)), .p (.int .i64 r1.x0.Cycle)])], []⟩) (APath.chunk 7 (by kernel_rfl) (APath.one (.call (some 72) 23 [.t 65, .t 67, .t 69, .t 71]) (by kernel_rfl) (st_call (by kernel_rfl) (ref27_Fit_ok N r1.x0 7 (Int.tmod a3_.x1 1000) (Int.tmod a3_.x2 25) r18 hr18)) (APath.fin (by kernel_rfl)))) (by kernel_rfl) ?_
              refine vc_seq ?_
              refine vc_regX ⟨[(7, .loc 7 0), (10, .loc 10 0), (20, .agg [.p (.sl 2 false (List.map e_api_Entry r1.x0.Entries)), .p (.int .i64 r1.x0.Cycle), .p (.sl 2 false (List.map e_api_Entry r1.x1.Entries)), .p (.int .i64 r1.x1.Cycle), .p (.sl 2 false (List.map e_api_Entry r1.x2.Entries)), .p (.int .i64 r1.x2.Cycle)]), (21, .p (.int .i64 0)), (49, .agg [.p (.int .i64 a3_.x0), .p (.int .i64 a3_.x1), .p (.int .i64 a3_.x2), .p (.int .i64 (Int.tmod a3_.x0 8)), .p (.int .i64 (Int.tmod a3_.x1 1000)), .p (.int .i64 (Int.tmod a3_.x2 50)), .p (.int .i64 6), .p (.int .i64 (Int.tmod a3_.x1 1000)), .p (.int .i64 (Int.tmod a3_.x2 50)), .p (.int .i64 7), .p (.int .i64 (Int.tmod a3_.x1 1000)), .p (.int .i64 (Int.tmod a3_.x2 25))]), (50, .p (.int .i64 3)), (82, .p (.bool ((r17.1 != r18.1) || (r17.2 != r18.2))))], [(7, [.p (.int .i64 a3_.x0), .p (.int .i64 a3_.x1), .p (.int .i64 a3_.x2)]), (10, [.p (.sl 2 false (List.map e_api_Entry r1.x0.Entries)), .p (.int .i64 r1.x0.Cycle)])], []⟩ ?_ ?_
              · rcases Bool.eq_false_or_eq_true (r17.1 != r18.1) with hc19 | hc20
                · exact ⟨_, (APath.chunk 2 (by kernel_rfl) (APath.one (.val 77 (.bin .neq) [.t 75, .t 76]) (by kernel_rfl) (st_bool (c := (r17.1 != r18.1)) (by kernel_rfl) hc19) (APath.fin (by kernel_rfl)))), by simp only [hc19]; kernel_rfl⟩
                · exact ⟨_, (APath.chunk 2 (by kernel_rfl) (APath.one (.val 77 (.bin .neq) [.t 75, .t 76]) (by kernel_rfl) (st_bool (c := (r17.1 != r18.1)) (by kernel_rfl) hc20) (APath.fin (by kernel_rfl)))), by simp only [hc20]; kernel_rfl⟩
              · refine vc_ite (by kernel_rfl) h (fun hc21 h => ?_) (fun hc21 h => ?_)
                · refine vc_seq ?_
                  refine vc_reg (S := ⟨[(8, .p (.bool false))], [], []⟩) (APath.fin (by kernel_rfl)) (by kernel_rfl) ?_
                  refine vc_ret ?_
                  obtain rfl := some_inj h
                  exact ret_of (by kernel_rfl)
                · refine vc_skip ?_
                  refine vc_kp ?_
                  refine vc_reg (S := ⟨[(7, .loc 7 0), (10, .loc 10 0), (20, .agg [.p (.sl 2 false (List.map e_api_Entry r1.x0.Entries)), .p (.int .i64 r1.x0.Cycle), .p (.sl 2 false (List.map e_api_Entry r1.x1.Entries)), .p (.int .i64 r1.x1.Cycle), .p (.sl 2 false (List.map e_api_Entry r1.x2.Entries)), .p (.int .i64 r1.x2.Cycle)]), (21, .p (.int .i64 0)), (49, .agg [.p (.int .i64 a3_.x0), .p (.int .i64 a3_.x1), .p (.int .i64 a3_.x2), .p (.int .i64 (Int.tmod a3_.x0 8)), .p (.int .i64 (Int.tmod a3_.x1 1000)), .p (.int .i64 (Int.tmod a3_.x2 50)), .p (.int .i64 6), .p (.int .i64 (Int.tmod a3_.x1 1000)), .p (.int .i64 (Int.tmod a3_.x2 50)), .p (.int .i64 7), .p (.int .i64 (Int.tmod a3_.x1 1000)), .p (.int .i64 (Int.tmod a3_.x2 25))]), (50, .p (.int .i64 4))], [(7, [.p (.int .i64 a3_.x0), .p (.int .i64 a3_.x1), .p (.int .i64 a3_.x2)]), (10, [.p (.sl 2 false (List.map e_api_Entry r1.x0.Entries)), .p (.int .i64 r1.x0.Cycle)])], []⟩) (APath.fin (by kernel_rfl)) (by kernel_rfl) ?_
                  refine unr_step ?_
                  refine vc_seq ?_
                  refine vc_reg (S := ⟨[(7, .loc 7 0), (10, .loc 10 0), (20, .agg [.p (.sl 2 false (List.map e_api_Entry r1.x0.Entries)), .p (.int .i64 r1.x0.Cycle), .p (.sl 2 false (List.map e_api_Entry r1.x1.Entries)), .p (.int .i64 r1.x1.Cycle), .p (.sl 2 false (List.map e_api_Entry r1.x2.Entries)), .p (.int .i64 r1.x2.Cycle)]), (21, .p (.int .i64 0)), (49, .agg [.p (.int .i64 a3_.x0), .p (.int .i64 a3_.x1), .p (.int .i64 a3_.x2), .p (.int .i64 (Int.tmod a3_.x0 8)), .p (.int .i64 (Int.tmod a3_.x1 1000)), .p (.int .i64 (Int.tmod a3_.x2 50)), .p (.int .i64 6), .p (.int .i64 (Int.tmod a3_.x1 1000)), .p (.int .i64 (Int.tmod a3_.x2 50)), .p (.int .i64 7), .p (.int .i64 (Int.tmod a3_.x1 1000)), .p (.int .i64 (Int.tmod a3_.x2 25))]), (50, .p (.int .i64 4)), (51, .p (.bool false))], [(7, [.p (.int .i64 a3_.x0), .p (.int .i64 a3_.x1), .p (.int .i64 a3_.x2)]), (10, [.p (.sl 2 false (List.map e_api_Entry r1.x0.Entries)), .p (.int .i64 r1.x0.Cycle)])], []⟩) (APath.fin (by kernel_rfl)) (by kernel_rfl) ?_
                  refine vc_seq ?_
                  refine vc_false (by kernel_rfl) ?_
                  refine vc_exit ?_
                  try show vc _ _ _ _ _
                  refine vc_reg (S := ⟨[(7, .loc 7 0), (20, .agg [.p (.sl 2 false (List.map e_api_Entry r1.x0.Entries)), .p (.int .i64 r1.x0.Cycle), .p (.sl 2 false (List.map e_api_Entry r1.x1.Entries)), .p (.int .i64 r1.x1.Cycle), .p (.sl 2 false (List.map e_api_Entry r1.x2.Entries)), .p (.int .i64 r1.x2.Cycle)]), (21, .p (.int .i64 1))], [(7, [.p (.int .i64 a3_.x0), .p (.int .i64 a3_.x1), .p (.int .i64 a3_.x2)])], []⟩) (APath.fin (by kernel_rfl)) (by kernel_rfl) ?_
                  refine unr_step ?_
                  refine vc_seq ?_
                  refine vc_reg (S := ⟨[(7, .loc 7 0), (20, .agg [.p (.sl 2 false (List.map e_api_Entry r1.x0.Entries)), .p (.int .i64 r1.x0.Cycle), .p (.sl 2 false (List.map e_api_Entry r1.x1.Entries)), .p (.int .i64 r1.x1.Cycle), .p (.sl 2 false (List.map e_api_Entry r1.x2.Entries)), .p (.int .i64 r1.x2.Cycle)]), (21, .p (.int .i64 1)), (22, .p (.bool true))], [(7, [.p (.int .i64 a3_.x0), .p (.int .i64 a3_.x1), .p (.int .i64 a3_.x2)])], []⟩) (APath.fin (by kernel_rfl)) (by kernel_rfl) ?_
                  refine vc_seq ?_
                  refine vc_true (by kernel_rfl) ?_
                  refine vc_skip ?_
                  refine vc_kp ?_
                  refine vc_seq ?_
                  refine vc_block ?_
                  refine vc_seq ?_
                  refine vc_reg (S := ⟨[(7, .loc 7 0), (10, .loc 10 0), (20, .agg [.p (.sl 2 false (List.map e_api_Entry r1.x0.Entries)), .p (.int .i64 r1.x0.Cycle), .p (.sl 2 false (List.map e_api_Entry r1.x1.Entries)), .p (.int .i64 r1.x1.Cycle), .p (.sl 2 false (List.map e_api_Entry r1.x2.Entries)), .p (.int .i64 r1.x2.Cycle)]), (21, .p (.int .i64 1))], [(7, [.p (.int .i64 a3_.x0), .p (.int .i64 a3_.x1), .p (.int .i64 a3_.x2)]), (10, [.p (.sl 2 false (List.map e_api_Entry r1.x1.Entries)), .p (.int .i64 r1.x1.Cycle)])], []⟩) (APath.fin (by kernel_rfl)) (by kernel_rfl) ?_
                  refine vc_seq ?_
                  refine vc_reg (S := ⟨[(7, .loc 7 0), (10, .loc 10 0), (20, .agg [.p (.sl 2 false (List.map e_api_Entry r1.x0.Entries)), .p (.int .i64 r1.x0.Cycle), .p (.sl 2 false (List.map e_api_Entry r1.x1.Entries)), .p (.int .i64 r1.x1.Cycle), .p (.sl 2 false (List.map e_api_Entry r1.x2.Entries)), .p (.int .i64 r1.x2.Cycle)]), (21, .p (.int .i64 1)), (49, .agg [.p (.int .i64 a3_.x0), .p (.int .i64 a3_.x1), .p (.int .i64 a3_.x2), .p (.int .i64 (Int.tmod a3_.x0 8)), .p (.int .i64 (Int.tmod a3_.x1 1000)), .p (.int .i64 (Int.tmod a3_.x2 50)), .p (.int .i64 6), .p (.int .i64 (Int.tmod a3_.x1 1000)), .p (.int .i64 (Int.tmod a3_.x2 50)), .p (.int .i64 7), .p (.int .i64 (Int.tmod a3_.x1 1000)), .p (.int .i64 (Int.tmod a3_.x2 25))]), (50, .p (.int .i64 0))], [(7, [.p (.int .i64 a3_.x0), .p (.int .i64 a3_.x1), .p (.int .i64 a3_.x2)]), (10, [.p (.sl 2 false (List.map e_api_Entry r1.x1.Entries)), .p (.int .i64 r1.x1.Cycle)])], []⟩) (APath.fin (by kernel_rfl)) (by kernel_rfl) ?_
                  refine vc_block ?_
                  refine vc_unroll 14 ?_
                  refine unr_step ?_
                  refine vc_seq ?_
                  refine vc_reg (S := ⟨[(7, .loc 7 0), (10, .loc 10 0), (20, .agg [.p (.sl 2 false (List.map e_api_Entry r1.x0.Entries)), .p (.int .i64 r1.x0.Cycle), .p (.sl 2 false (List.map e_api_Entry r1.x1.Entries)), .p (.int .i64 r1.x1.Cycle), .p (.sl 2 false (List.map e_api_Entry r1.x2.Entries)), .p (.int .i64 r1.x2.Cycle)]), (21, .p (.int .i64 1)), (49, .agg [.p (.int .i64 a3_.x0), .p (.int .i64 a3_.x1), .p (.int .i64 a3_.x2), .p (.int .i64 (Int.tmod a3_.x0 8)), .p (.int .i64 (Int.tmod a3_.x1 1000)), .p (.int .i64 (Int.tmod a3_.x2 50)), .p (.int .i64 6), .p (.int .i64 (Int.tmod a3_.x1 1000)), .p (.int .i64 (Int.tmod a3_.x2 50)), .p (.int .i64 7), .p (.int .i64 (Int.tmod a3_.x1 1000)), .p (.int .i64 (Int.tmod a3_.x2 25))]), (50, .p (.int .i64 0)), (51, .p (.bool true))], [(7, [.p (.int .i64 a3_.x0), .p (.int .i64 a3_.x1), .p (.int .i64 a3_.x2)]), (10, [.p (.sl 2 false (List.map e_api_Entry r1.x1.Entries)), .p (.int .i64 r1.x1.Cycle)])], []⟩) (APath.fin (by kernel_rfl)) (by kernel_rfl) ?_
                  refine vc_seq ?_
                  refine vc_true (by kernel_rfl) ?_
                  refine vc_skip ?_
                  refine vc_kp ?_
                  refine vc_seq ?_
                  refine vc_block ?_
                  refine vc_seq ?_
                  refine vc_reg (S := ⟨[(7, .loc 7 0), (10, .loc 10 0), (12, .loc 12 0), (20, .agg [.p (.sl 2 false (List.map e_api_Entry r1.x0.Entries)), .p (.int .i64 r1.x0.Cycle), .p (.sl 2 false (List.map e_api_Entry r1.x1.Entries)), .p (.int .i64 r1.x1.Cycle), .p (.sl 2 false (List.map e_api_Entry r1.x2.Entries)), .p (.int .i64 r1.x2.Cycle)]), (21, .p (.int .i64 1)), (49, .agg [.p (.int .i64 a3_.x0), .p (.int .i64 a3_.x1), .p (.int .i64 a3_.x2), .p (.int .i64 (Int.tmod a3_.x0 8)), .p (.int .i64 (Int.tmod a3_.x1 1000)), .p (.int .i64 (Int.tmod a3_.x2 50)), .p (.int .i64 6), .p (.int .i64 (Int.tmod a3_.x1 1000)), .p (.int .i64 (Int.tmod a3_.x2 50)), .p (.int .i64 7), .p (.int .i64 (Int.tmod a3_.x1 1000)), .p (.int .i64 (Int.tmod a3_.x2 25))]), (50, .p (.int .i64 0))], [(7, [.p (.int .i64 a3_.x0), .p (.int .i64 a3_.x1), .p (.int .i64 a3_.x2)]), (10, [.p (.sl 2 false (List.map e_api_Entry r1.x1.Entries)), .p (.int .i64 r1.x1.Cycle)]), (12, [.p (.int .i64 a3_.x0), .p (.int .i64 a3_.x1), .p (.int .i64 a3_.x2)])], []⟩) (APath.fin (by kernel_rfl)) (by kernel_rfl) ?_
                  refine vc_seq ?_
                  obtain ⟨r22, hr22, h⟩ := bind_some h
                  refine vc_reg (S := ⟨[(7, .loc 7 0), (10, .loc 10 0), (12, .loc 12 0), (13, .p (.int .i64 r22.1)), (14, .p (.int .i64 r22.2)), (20, .agg [.p (.sl 2 false (List.map e_api_Entry r1.x0.Entries)), .p (.int .i64 r1.x0.Cycle), .p (.sl 2 false (List.map e_api_Entry r1.x1.Entries)), .p (.int .i64 r1.x1.Cycle), .p (.sl 2 false (List.map e_api_Entry r1.x2.Entries)), .p (.int .i64 r1.x2.Cycle)]), (21, .p (.int .i64 1)), (49, .agg [.p (.int .i64 a3_.x0), .p (.int .i64 a3_.x1), .p (.int .i64 a3_.x2), .p (.int .i64 (Int.tmod a3_.x0 8)), .p (.int .i64 (Int.tmod a3_.x1 1000)), .p (.int .i64 (Int.tmod a3_.x2 50)), .p (.int .i64 6), .p (.int .i64 (Int.tmod a3_.x1 1000)), .p (.int .i64 (Int.tmod a3_.x2 50)), .p (.int .i64 7), .p (.int .i64 (Int.tmod a3_.x1 1000)), .p (.int .i64 (Int.tmod a3_.x2 25))]), (50, .p (.int .i64 0))], [(7, [.p (.int .i64 a3_.x0), .p (.int .i64 a3_.x1), .p (.int .i64 a3_.x2)]), (10, [.p (.sl 2 false (List.map e_api_Entry r1.x1.Entries)), .p (.int .i64 r1.x1.Cycle)]), (12, [.p (.int .i64 a3_.x0), .p (.int .i64 a3_.x1), .p (.int .i64 a3_.x2)])], []⟩) (APath.chunk 7 (by kernel_rfl) (APath.one (.call (some 61) 22 [.t 54, .t 56, .t 58, .t 60]) (by kernel_rfl) (st_call (by kernel_rfl) (gates_Fit_ok N r1.x1 a3_.x0 a3_.x1 a3_.x2 r22 hr22)) (APath.fin (by kernel_rfl)))) (by kernel_rfl) ?_
                  refine vc_seq ?_
                  obtain ⟨r23, hr23, h⟩ := bind_some h
                  refine vc_reg (S := ⟨[(7, .loc 7 0), (10, .loc 10 0), (13, .p (.int .i64 r22.1)), (14, .p (.int .i64 r22.2)), (15, .p (.int .i64 r23.1)), (16, .p (.int .i64 r23.2)), (20, .agg [.p (.sl 2 false (List.map e_api_Entry r1.x0.Entries)), .p (.int .i64 r1.x0.Cycle), .p (.sl 2 false (List.map e_api_Entry r1.x1.Entries)), .p (.int .i64 r1.x1.Cycle), .p (.sl 2 false (List.map e_api_Entry r1.x2.Entries)), .p (.int .i64 r1.x2.Cycle)]), (21, .p (.int .i64 1)), (49, .agg [.p (.int .i64 a3_.x0), .p (.int .i64 a3_.x1), .p (.int .i64 a3_.x2), .p (.int .i64 (Int.tmod a3_.x0 8)), .p (.int .i64 (Int.tmod a3_.x1 1000)), .p (.int .i64 (Int.tmod a3_.x2 50)), .p (.int .i64 6), .p (.int .i64 (Int.tmod a3_.x1 1000)), .p (.int .i64 (Int.tmod a3_.x2 50)), .p (.int .i64 7), .p (.int .i64 (Int.tmod a3_.x1 1000)), .p (.int .i64 (Int.tmod a3_.x2 25))]), (50, .p (.int .i64 0))], [(7, [.p (.int .i64 a3_.x0), .p (.int .i64 a3_.x1), .p (.int .i64 a3_.x2)]), (10, [.p (.sl 2 false (List.map e_api_Entry r1.x1.Entries)), .p (.int .i64 r1.x1.Cycle)])], []⟩) (APath.chunk 7 (by kernel_rfl) (APath.one (.call (some 72) 23 [.t 65, .t 67, .t 69, .t 71]) (by kernel_rfl) (st_call (by kernel_rfl) (ref27_Fit_ok N r1.x1 a3_.x0 a3_.x1 a3_.x2 r23 hr23)) (APath.fin (by kernel_rfl)))) (by kernel_rfl) ?_
                  refine vc_seq ?_
                  refine vc_regX ⟨[(7, .loc 7 0), (10, .loc 10 0), (20, .agg [.p (.sl 2 false (List.map e_api_Entry r1.x0.Entries)), .p (.int .i64 r1.x0.Cycle), .p (.sl 2 false (List.map e_api_Entry r1.x1.Entries)), .p (.int .i64 r1.x1.Cycle), .p (.sl 2 false (List.map e_api_Entry r1.x2.Entries)), .p (.int .i64 r1.x2.Cycle)]), (21, .p (.int .i64 1)), (49, .agg [.p (.int .i64 a3_.x0), .p (.int .i64 a3_.x1), .p (.int .i64 a3_.x2), .p (.int .i64 (Int.tmod a3_.x0 8)), .p (.int .i64 (Int.tmod a3_.x1 1000)), .p (.int .i64 (Int.tmod a3_.x2 50)), .p (.int .i64 6), .p (.int .i64 (Int.tmod a3_.x1 1000)), .p (.int .i64 (Int.tmod a3_.x2 50)), .p (.int .i64 7), .p (.int .i64 (Int.tmod a3_.x1 1000)), .p (.int .i64 (Int.tmod a3_.x2 25))]), (50, .p (.int .i64 0)), (82, .p (.bool ((r22.1 != r23.1) || (r22.2 != r23.2))))], [(7, [.p (.int .i64 a3_.x0), .p (.int .i64 a3_.x1), .p (.int .i64 a3_.x2)]), (10, [.p (.sl 2 false (List.map e_api_Entry r1.x1.Entries)), .p (.int .i64 r1.x1.Cycle)])], []⟩ ?_ ?_
                  · rcases Bool.eq_false_or_eq_true (r22.1 != r23.1) with hc24 | hc25
                    · exact ⟨_, (APath.chunk 2 (by kernel_rfl) (APath.one (.val 77 (.bin .neq) [.t 75, .t 76]) (by kernel_rfl) (st_bool (c := (r22.1 != r23.1)) (by kernel_rfl) hc24) (APath.fin (by kernel_rfl)))), by simp only [hc24]; kernel_rfl⟩
                    · exact ⟨_, (APath.chunk 2 (by kernel_rfl) (APath.one (.val 77 (.bin .neq) [.t 75, .t 76]) (by kernel_rfl) (st_bool (c := (r22.1 != r23.1)) (by kernel_rfl) hc25) (APath.fin (by kernel_rfl)))), by simp only [hc25]; kernel_rfl⟩
                  · refine vc_ite (by kernel_rfl) h (fun hc26 h => ?_) (fun hc26 h => ?_)
                    · refine vc_seq ?_
                      refine vc_reg (S := ⟨[(8, .p (.bool false))], [], []⟩) (APath.fin (by kernel_rfl)) (by kernel_rfl) ?_
                      refine vc_ret ?_
                      obtain rfl := some_inj h
                      exact ret_of (by kernel_rfl)
                    · refine vc_skip ?_
                      refine vc_kp ?_
                      refine vc_reg (S := ⟨[(7, .loc 7 0), (10, .loc 10 0), (20, .agg [.p (.sl 2 false (List.map e_api_Entry r1.x0.Entries)), .p (.int .i64 r1.x0.Cycle), .p (.sl 2 false (List.map e_api_Entry r1.x1.Entries)), .p (.int .i64 r1.x1.Cycle), .p (.sl 2 false (List.map e_api_Entry r1.x2.Entries)), .p (.int .i64 r1.x2.Cycle)]), (21, .p (.int .i64 1)), (49, .agg [.p (.int .i64 a3_.x0), .p (.int .i64 a3_.x1), .p (.int .i64 a3_.x2), .p (.int .i64 (Int.tmod a3_.x0 8)), .p (.int .i64 (Int.tmod a3_.x1 1000)), .p (.int .i64 (Int.tmod a3_.x2 50)), .p (.int .i64 6), .p (.int .i64 (Int.tmod a3_.x1 1000)), .p (.int .i64 (Int.tmod a3_.x2 50)), .p (.int .i64 7), .p (.int .i64 (Int.tmod a3_.x1 1000)), .p (.int .i64 (Int.tmod a3_.x2 25))]), (50, .p (.int .i64 1))], [(7, [.p (.int .i64 a3_.x0), .p (.int .i64 a3_.x1), .p (.int .i64 a3_.x2)]), (10, [.p (.sl 2 false (List.map e_api_Entry r1.x1.Entries)), .p (.int .i64 r1.x1.Cycle)])], []⟩) (APath.fin (by kernel_rfl)) (by kernel_rfl) ?_
                      refine unr_step ?_
                      refine vc_seq ?_
                      refine vc_reg (S := ⟨[(7, .loc 7 0), (10, .loc 10 0), (20, .agg [.p (.sl 2 false (List.map e_api_Entry r1.x0.Entries)), .p (.int .i64 r1.x0.Cycle), .p (.sl 2 false (List.map e_api_Entry r1.x1.Entries)), .p (.int .i64 r1.x1.Cycle), .p (.sl 2 false (List.map e_api_Entry r1.x2.Entries)), .p (.int .i64 r1.x2.Cycle)]), (21, .p (.int .i64 1)), (49, .agg [.p (.int .i64 a3_.x0), .p (.int .i64 a3_.x1), .p (.int .i64 a3_.x2), .p (.int .i64 (Int.tmod a3_.x0 8)), .p (.int .i64 (Int.tmod a3_.x1 1000)), .p (.int .i64 (Int.tmod a3_.x2 50)), .p (.int .i64 6), .p (.int .i64 (Int.tmod a3_.x1 1000)), .p (.int .i64 (Int.tmod a3_.x2 50)), .p (.int .i64 7), .p (.int .i64 (Int.tmod a3_.x1 1000)), .p (.int .i64 (Int.tmod a3_.x2 25))]), (50, .p (.int .i64 1)), (51, .p (.bool true))], [(7, [.p (.int .i64 a3_.x0), .p (.int .i64 a3_.x1), .p (.int .i64 a3_.x2)]), (10, [.p (.sl 2 false (List.map e_api_Entry r1.x1.Entries)), .p (.int .i64 r1.x1.Cycle)])], []⟩) (APath.fin (by kernel_rfl)) (by kernel_rfl) ?_
                      refine vc_seq ?_
                      refine vc_true (by kernel_rfl) ?_
                      refine vc_skip ?_
                      refine vc_kp ?_
                      refine vc_seq ?_
                      refine vc_block ?_
                      refine vc_seq ?_
                      refine vc_reg (S := ⟨[(7, .loc 7 0), (10, .loc 10 0), (12, .loc 12 0), (20, .agg [.p (.sl 2 false (List.map e_api_Entry r1.x0.Entries)), .p (.int .i64 r1.x0.Cycle), .p (.sl 2 false (List.map e_api_Entry r1.x1.Entries)), .p (.int .i64 r1.x1.Cycle), .p (.sl 2 false (List.map e_api_Entry r1.x2.Entries)), .p (.int .i64 r1.x2.Cycle)]), (21, .p (.int .i64 1)), (49, .agg [.p (.int .i64 a3_.x0), .p (.int .i64 a3_.x1), .p (.int .i64 a3_.x2), .p (.int .i64 (Int.tmod a3_.x0 8)), .p (.int .i64 (Int.tmod a3_.x1 1000)), .p (.int .i64 (Int.tmod a3_.x2 50)), .p (.int .i64 6), .p (.int .i64 (Int.tmod a3_.x1 1000)), .p (.int .i64 (Int.tmod a3_.x2 50)), .p (.int .i64 7), .p (.int .i64 (Int.tmod a3_.x1 1000)), .p (.int .i64 (Int.tmod a3_.x2 25))]), (50, .p (.int .i64 1))], [(7, [.p (.int .i64 a3_.x0), .p (.int .i64 a3_.x1), .p (.int .i64 a3_.x2)]), (10, [.p (.sl 2 false (List.map e_api_Entry r1.x1.Entries)), .p (.int .i64 r1.x1.Cycle)]), (12, [.p (.int .i64 (Int.tmod a3_.x0 8)), .p (.int .i64 (Int.tmod a3_.x1 1000)), .p (.int .i64 (Int.tmod a3_.x2 50))])], []⟩) (APath.fin (by kernel_rfl)) (by kernel_rfl) ?_
                      refine vc_seq ?_
                      obtain ⟨r27, hr27, h⟩ := bind_some h
                      refine vc_reg (S := ⟨[(7, .loc 7 0), (10, .loc 10 0), (12, .loc 12 0), (13, .p (.int .i64 r27.1)), (14, .p (.int .i64 r27.2)), (20, .agg [.p (.sl 2 false (List.map e_api_Entry r1.x0.Entries)), .p (.int .i64 r1.x0.Cycle), .p (.sl 2 false (List.map e_api_Entry r1.x1.Entries)), .p (.int .i64 r1.x1.Cycle), .p (.sl 2 false (List.map e_api_Entry r1.x2.Entries)), .p (.int .i64 r1.x2.Cycle)]), (21, .p (.int .i64 1)), (49, .agg [.p (.int .i64 a3_.x0), .p (.int .i64 a3_.x1), .p (.int .i64 a3_.x2), .p (.int .i64 (Int.tmod a3_.x0 8)), .p (.int .i64 (Int.tmod a3_.x1 1000)), .p (.int .i64 (Int.tmod a3_.x2 50)), .p (.int .i64 6), .p (.int .i64 (Int.tmod a3_.x1 1000)), .p (.int .i64 (Int.tmod a3_.x2 50)), .p (.int .i64 7), .p (.int .i64 (Int.tmod a3_.x1 1000)), .p (.int .i64 (Int.tmod a3_.x2 25))]), (50, .p (.int .i64 1))], [(7, [.p (.int .i64 a3_.x0), .p (.int .i64 a3_.x1), .p (.int .i64 a3_.x2)]), (10, [.p (.sl 2 false (List.map e_api_Entry r1.x1.Entries)), .p (.int .i64 r1.x1.Cycle)]), (12, [.p (.int .i64 (Int.tmod a3_.x0 8)), .p (.int .i64 (Int.tmod a3_.x1 1000)), .p (.int .i64 (Int.tmod a3_.x2 50))])], []⟩) (APath.chunk 7 (by kernel_rfl) (APath.one (.call (some 61) 22 [.t 54, .t 56, .t 58, .t 60]) (by kernel_rfl) (st_call (by kernel_rfl) (gates_Fit_ok N r1.x1 (Int.tmod a3_.x0 8) (Int.tmod a3_.x1 1000) (Int.tmod a3_.x2 50) r27 hr27)) (APath.fin (by kernel_rfl)))) (by kernel_rfl) ?_
                      refine vc_seq ?_
                      obtain ⟨r28, hr28, h⟩ := bind_some h
                      refine vc_reg (S := ⟨[(7, .loc 7 0), (10, .loc 10 0), (13, .p (.int .i64 r27.1)), (14, .p (.int .i64 r27.2)), (15, .p (.int .i64 r28.1)), (16, .p (.int .i64 r28.2)), (20, .agg [.p (.sl 2 false (List.map e_api_Entry r1.x0.Entries)), .p (.int .i64 r1.x0.Cycle), .p (.sl 2 false (List.map e_api_Entry r1.x1.Entries)), .p (.int .i64 r1.x1.Cycle), .p (.sl 2 false (List.map e_api_Entry r1.x2.Entries)), .p (.int .i64 r1.x2.Cycle)]), (21, .p (.int .i64 1)), (49, .agg [.p (.int .i64 a3_.x0), .p (.int .i64 a3_.x1), .p (.int .i64 a3_.x2), .p (.int .i64 (Int.tmod a3_.x0 8)), .p (.int .i64 (Int.tmod a3_.x1 1000)), .p (.int .i64 (Int.tmod a3_.x2 50)), .p (.int .i64 6), .p (.int .i64 (Int.tmod a3_.x1 1000)), .p (.int .i64 (Int.tmod a3_.x2 50)), .p (.int .i64 7), .p (.int .i64 (Int.tmod a3_.x1 1000)), .p (.int .i64 (Int.tmod a3_.x2 25))]), (50, .p (.int .i64 1))], [(7, [.p (.int .i64 a3_.x0), .p (.int .i64 a3_.x1), .p (.int .i64 a3_.x2)]), (10, [.p (.sl 2 false (List.map e_api_Entry r1.x1.Entries)), .p (.int .i64 r1.x1.Cycle)])], []⟩) (APath.chunk 7 (by kernel_rfl) (APath.one (.call (some 72) 23 [.t 65, .t 67, .t 69, .t 71]) (by kernel_rfl) (st_call (by kernel_rfl) (ref27_Fit_ok N r1.x1 (Int.tmod a3_.x0 8) (Int.tmod a3_.x1 1000) (Int.tmod a3_.x2 50) r28 hr28)) (APath.fin (by kernel_rfl)))) (by kernel_rfl) ?_
                      refine vc_seq ?_
                      refine vc_regX ⟨[(7, .loc 7 0), (10, .loc 10 0), (20, .agg [.p (.sl 2 false (List.map e_api_Entry r1.x0.Entries)), .p (.int .i64 r1.x0.Cycle), .p (.sl 2 false (List.map e_api_Entry r1.x1.Entries)), .p (.int .i64 r1.x1.Cycle), .p (.sl 2 false (List.map e_api_Entry r1.x2.Entries)), .p (.int .i64 r1.x2.Cycle)]), (21, .p (.int .i64 1)), (49, .agg [.p (.int .i64 a3_.x0), .p (.int .i64 a3_.x1), .p (.int .i64 a3_.x2), .p (.int .i64 (Int.tmod a3_.x0 8)), .p (.int .i64 (Int.tmod a3_.x1 1000)), .p (.int .i64 (Int.tmod a3_.x2 50)), .p (.int .i64 6), .p (.int .i64 (Int.tmod a3_.x1 1000)), .p (.int .i64 (Int.tmod a3_.x2 50)), .p (.int .i64 7), .p (.int .i64 (Int.tmod a3_.x1 1000)), .p (.int .i64 (Int.tmod a3_.x2 25))]), (50, .p (.int .i64 1)), (82, .p (.bool ((r27.1 != r28.1) || (r27.2 != r28.2))))], [(7, [.p (.int .i64 a3_.x0), .p (.int .i64 a3_.x1), .p (.int .i64 a3_.x2)]), (10, [.p (.sl 2 false (List.map e_api_Entry r1.x1.Entries)), .p (.int .i64 r1.x1.Cycle)])], []⟩ ?_ ?_
                      · rcases Bool.eq_false_or_eq_true (r27.1 != r28.1) with hc29 | hc30
                        · exact ⟨_, (APath.chunk 2 (by kernel_rfl) (APath.one (.val 77 (.bin .neq) [.t 75, .t 76]) (by kernel_rfl) (st_bool (c := (r27.1 != r28.1)) (by kernel_rfl) hc29) (APath.fin (by kernel_rfl)))), by simp only [hc29]; kernel_rfl⟩
                        · exact ⟨_, (APath.chunk 2 (by kernel_rfl) (APath.one (.val 77 (.bin .neq) [.t 75, .t 76]) (by kernel_rfl) (st_bool (c := (r27.1 != r28.1)) (by kernel_rfl) hc30) (APath.fin (by kernel_rfl)))), by simp only [hc30]; kernel_rfl⟩
                      · refine vc_ite (by kernel_rfl) h (fun hc31 h => ?_) (fun hc31 h => ?_)
                        · refine vc_seq ?_
                          refine vc_reg (S := ⟨[(8, .p (.bool false))], [], []⟩) (APath.fin (by kernel_rfl)) (by kernel_rfl) ?_
                          refine vc_ret ?_
                          obtain rfl := some_inj h
                          exact ret_of (by kernel_rfl)
                        · refine vc_skip ?_
                          refine vc_kp ?_
                          refine vc_reg (S := ⟨[(7, .loc 7 0), (10, .loc 10 0), (20, .agg [.p (.sl 2 false (List.map e_api_Entry r1.x0.Entries)), .p (.int .i64 r1.x0.Cycle), .p (.sl 2 false (List.map e_api_Entry r1.x1.Entries)), .p (.int .i64 r1.x1.Cycle), .p (.sl 2 false (List.map e_api_Entry r1.x2.Entries)), .p (.int .i64 r1.x2.Cycle)]), (21, .p (.int .i64 1)), (49, .agg [.p (.int .i64 a3_.x0), .p (.int .i64 a3_.x1), .p (.int .i64 a3_.x2), .p (.int .i64 (Int.tmod a3_.x0 8)), .p (.int .i64 (Int.tmod a3_.x1 1000)), .p (.int .i64 (Int.tmod a3_.x2 50)), .p (.int .i64 6), .p (.int .i64 (Int.tmod a3_.x1 1000)), .p (.int .i64 (Int.tmod a3_.x2 50)), .p (.int .i64 7), .p (.int .i64 (Int.tmod a3_.x1 1000)), .p (.int .i64 (Int.tmod a3_.x2 25))]), (50, .p (.int .i64 2))], [(7, [.p (.int .i64 a3_.x0), .p (.int .i64 a3_.x1), .p (.int .i64 a3_.x2)]), (10, [.p (.sl 2 false (List.map e_api_Entry r1.x1.Entries)), .p (.int .i64 r1.x1.Cycle)])], []⟩) (APath.fin (by kernel_rfl)) (by kernel_rfl) ?_
                          refine unr_step ?_
                          refine vc_seq ?_
                          refine vc_reg (S := ⟨[(7, .loc 7 0), (10, .loc 10 0), (20, .agg [.p (.sl 2 false (List.map e_api_Entry r1.x0.Entries)), .p (.int .i64 r1.x0.Cycle), .p (.sl 2 false (List.map e_api_Entry r1.x1.Entries)), .p (.int .i64 r1.x1.Cycle), .p (.sl 2 false (List.map e_api_Entry r1.x2.Entries)), .p (.int .i64 r1.x2.Cycle)]), (21, .p (.int .i64 1)), (49, .agg [.p (.int .i64 a3_.x0), .p (.int .i64 a3_.x1), .p (.int .i64 a3_.x2), .p (.int .i64 (Int.tmod a3_.x0 8)), .p (.int .i64 (Int.tmod a3_.x1 1000)), .p (.int .i64 (Int.tmod a3_.x2 50)), .p (.int .i64 6), .p (.int .i64 (Int.tmod a3_.x1 1000)), .p (.int .i64 (Int.tmod a3_.x2 50)), .p (.int .i64 7), .p (.int .i64 (Int.tmod a3_.x1 1000)), .p (.int .i64 (Int.tmod a3_.x2 25))]), (50, .p (.int .i64 2)), (51, .p (.bool true))], [(7, [.p (.int .i64 a3_.x0), .p (.int .i64 a3_.x1), .p (.int .i64 a3_.x2)]), (10, [.p (.sl 2 false (List.map e_api_Entry r1.x1.Entries)), .p (.int .i64 r1.x1.Cycle)])], []⟩) (APath.fin (by kernel_rfl)) (by kernel_rfl) ?_
                          refine vc_seq ?_
                          refine vc_true (by kernel_rfl) ?_
                          refine vc_skip ?_
                          refine vc_kp ?_
                          refine vc_seq ?_
                          refine vc_block ?_
                          refine vc_seq ?_
                          refine vc_reg (S := ⟨[(7, .loc 7 0), (10, .loc 10 0), (12, .loc 12 0), (20, .agg [.p (.sl 2 false (List.map e_api_Entry r1.x0.Entries)), .p (.int .i64 r1.x0.Cycle), .p (.sl 2 false (List.map e_api_Entry r1.x1.Entries)), .p (.int .i64 r1.x1.Cycle), .p (.sl 2 false (List.map e_api_Entry r1.x2.Entries)), .p (.int .i64 r1.x2.Cycle)]), (21, .p (.int .i64 1)), (49, .agg [.p (.int .i64 a3_.x0), .p (.int .i64 a3_.x1), .p (.int .i64 a3_.x2), .p (.int .i64 (Int.tmod a3_.x0 8)), .p (.int .i64 (Int.tmod a3_.x1 1000)), .p (.int .i64 (Int.tmod a3_.x2 50)), .p (.int .i64 6), .p (.int .i64 (Int.tmod a3_.x1 1000)), .p (.int .i64 (Int.tmod a3_.x2 50)), .p (.int .i64 7), .p (.int .i64 (Int.tmod a3_.x1 1000)), .p (.int .i64 (Int.tmod a3_.x2 25))]), (50, .p (.int .i64 2))], [(7, [.p (.int .i64 a3_.x0), .p (.int .i64 a3_.x1), .p (.int .i64 a3_.x2)]), (10, [.p (.sl 2 false (List.map e_api_Entry r1.x1.Entries)), .p (.int .i64 r1.x1.Cycle)]), (12, [.p (.int .i64 6), .p (.int .i64 (Int.tmod a3_.x1 1000)), .p (.int .i64 (Int.tmod a3_.x2 50))])], []⟩) (APath.fin (by kernel_rfl)) (by kernel_rfl) ?_
                          refine vc_seq ?_
                          obtain ⟨r32, hr32, h⟩ := bind_some h
                          refine vc_reg (S := ⟨[(7, .loc 7 0), (10, .loc 10 0), (12, .loc 12 0), (13, .p (.int .i64 r32.1)), (14, .p (.int .i64 r32.2)), (20, .agg [.p (.sl 2 false (List.map e_api_Entry r1.x0.Entries)), .p (.int .i64 r1.x0.Cycle), .p (.sl 2 false (List.map e_api_Entry r1.x1.Entries)), .p (.int .i64 r1.x1.Cycle), .p (.sl 2 false (List.map e_api_Entry r1.x2.Entries)), .p (.int .i64 r1.x2.Cycle)]), (21, .p (.int .i64 1)), (49, .agg [.p (.int .i64 a3_.x0), .p (.int .i64 a3_.x1), .p (.int .i64 a3_.x2), .p (.int .i64 (Int.tmod a3_.x0 8)), .p (.int .i64 (Int.tmod a3_.x1 1000)), .p (.int .i64 (Int.tmod a3_.x2 50)), .p (.int .i64 6), .p (.int .i64 (Int.tmod a3_.x1 1000)), .p (.int .i64 (Int.tmod a3_.x2 50)), .p (.int .i64 7), .p (.int .i64 (Int.tmod a3_.x1 1000)), .p (.int .i64 (Int.tmod a3_.x2 25))]), (50, .p (.int .i64 2))], [(7, [.p (.int .i64 a3_.x0), .p (.int .i64 a3_.x1), .p (.int .i64 a3_.x2)]), (10, [.p (.sl 2 false (List.map e_api_Entry r1.x1.Entries)), .p (.int .i64 r1.x1.Cycle)]), (12, [.p (.int .i64 6), .p (.int .i64 (Int.tmod a3_.x1 1000)), .p (.int .i64 (Int.tmod a3_.x2 50))])], []⟩) (APath.chunk 7 (by kernel_rfl) (APath.one (.call (some 61) 22 [.t 54, .t 56, .t 58, .t 60]) (by kernel_rfl) (st_call (by kernel_rfl) (gates_Fit_ok N r1.x1 6 (Int.tmod a3_.x1 1000) (Int.tmod a3_.x2 50) r32 hr32)) (APath.fin (by kernel_rfl)))) (by kernel_rfl) ?_
                          refine vc_seq ?_
                          obtain ⟨r33, hr33, h⟩ := bind_some h
                          refine vc_reg (S := ⟨[(7, .loc 7 0), (10, .loc 10 0), (13, .p (.int .i64 r32.1)), (14, .p (.int .i64 r32.2)), (15, .p (.int .i64 r33.1)), (16, .p (.int .i64 r33.2)), (20, .agg [.p (.sl 2 false (List.map e_api_Entry r1.x0.Entries)), .p (.int .i64 r1.x0.Cycle), .p (.sl 2 false (List.map e_api_Entry r1.x1.Entries)), .p (.int .i64 r1.x1.Cycle), .p (.sl 2 false (List.map e_api_Entry r1.x2.Entries)), .p (.int .i64 r1.x2.Cycle)]), (21, .p (.int .i64 1)), (49, .agg [.p (.int .i64 a3_.x0), .p (.int .i64 a3_.x1), .p (.int .i64 a3_.x2), .p (.int .i64 (Int.tmod a3_.x0 8)), .p (.int .i64 (Int.tmod a3_.x1 1000)), .p (.int .i64 (Int.tmod a3_.x2 50)), .p (.int .i64 6), .p (.int .i64 (Int.tmod a3_.x1 1000)), .p (.int .i64 (Int.tmod a3_.x2 50)), .p (.int .i64 7), .p (.int .i64 (Int.tmod a3_.x1 1000)), .p (.int .i64 (Int.tmod a3_.x2 25))]), (50, .p (.int .i64 2))], [(7, [.p (.int .i64 a3_.x0), .p (.int .i64 a3_.x1), .p (.int .i64 a3_.x2)]), (10, [.p (.sl 2 false (List.map e_api_Entry r1.x1.Entries)), .p (.int .i64 r1.x1.Cycle)])], []⟩) (APath.chunk 7 (by kernel_rfl) (APath.one (.call (some 72) 23 [.t 65, .t 67, .t 69, .t 71]) (by kernel_rfl) (st_call (by kernel_rfl) (ref27_Fit_ok N r1.x1 6 (Int.tmod a3_.x1 1000) (Int.tmod a3_.x2 50) r33 hr33)) (APath.fin (by kernel_rfl)))) (by kernel_rfl) ?_
                          refine vc_seq ?_
                          refine vc_regX ⟨[(7, .loc 7 0), (10, .loc 10 0), (20, .agg [.p (.sl 2 false (List.map e_api_Entry r1.x0.Entries)), .p (.int .i64 r1.x0.Cycle), .p (.sl 2 false (List.map e_api_Entry r1.x1.Entries)), .p (.int .i64 r1.x1.Cycle), .p (.sl 2 false (List.map e_api_Entry r1.x2.Entries)), .p (.int .i64 r1.x2.Cycle)]), (21, .p (.int .i64 1)), (49, .agg [.p (.int .i64 a3_.x0), .p (.int .i64 a3_.x1), .p (.int .i64 a3_.x2), .p (.int .i64 (Int.tmod a3_.x0 8)), .p (.int .i64 (Int.tmod a3_.x1 1000)), .p (.int .i64 (Int.tmod a3_.x2 50)), .p (.int .i64 6), .p (.int .i64 (Int.tmod a3_.x1 1000)), .p (.int .i64 (Int.tmod a3_.x2 50)), .p (.int .i64 7), .p (.int .i64 (Int.tmod a3_.x1 1000)), .p (.int .i64 (Int.tmod a3_.x2 25))]), (50, .p (.int .i64 2)), (82, .p (.bool ((r32.1 != r33.1) || (r32.2 != r33.2))))], [(7, [.p (.int .i64 a3_.x0), .p (.int .i64 a3_.x1), .p (.int .i64 a3_.x2)]), (10, [.p (.sl 2 false (List.map e_api_Entry r1.x1.Entries)), .p (.int .i64 r1.x1.Cycle)])], []⟩ ?_ ?_
                          · rcases Bool.eq_false_or_eq_true (r32.1 != r33.1) with hc34 | hc35
                            · exact ⟨_, (APath.chunk 2 (by kernel_rfl) (APath.one (.val 77 (.bin .neq) [.t 75, .t 76]) (by kernel_rfl) (st_bool (c := (r32.1 != r33.1)) (by kernel_rfl) hc34) (APath.fin (by kernel_rfl)))), by simp only [hc34]; kernel_rfl⟩
                            · exact ⟨_, (APath.chunk 2 (by kernel_rfl) (APath.one (.val 77 (.bin .neq) [.t 75, .t 76]) (by kernel_rfl) (st_bool (c := (r32.1 != r33.1)) (by kernel_rfl) hc35) (APath.fin (by kernel_rfl)))), by simp only [hc35]; kernel_rfl⟩
                          · refine vc_ite (by kernel_rfl) h (fun hc36 h => ?_) (fun hc36 h => ?_)
                            · refine vc_seq ?_
                              refine vc_reg (S := ⟨[(8, .p (.bool false))], [], []⟩) (APath.fin (by kernel_rfl)) (by kernel_rfl) ?_
                              refine vc_ret ?_
                              obtain rfl := some_inj h
                              exact ret_of (by kernel_rfl)
                            · refine vc_skip ?_
                              refine vc_kp ?_
                              refine vc_reg (S := ⟨[(7, .loc 7 0), (10, .loc 10 0), (20, .agg [.p (.sl 2 false (List.map e_api_Entry r1.x0.Entries)), .p (.int .i64 r1.x0.Cycle), .p (.sl 2 false (List.map e_api_Entry r1.x1.Entries)), .p (.int .i64 r1.x1.Cycle), .p (.sl 2 false (List.map e_api_Entry r1.x2.Entries)), .p (.int .i64 r1.x2.Cycle)]), (21, .p (.int .i64 1)), (49, .agg [.p (.int .i64 a3_.x0), .p (.int .i64 a3_.x1), .p (.int .i64 a3_.x2), .p (.int .i64 (Int.tmod a3_.x0 8)), .p (.int .i64 (Int.tmod a3_.x1 1000)), .p (.int .i64 (Int.tmod a3_.x2 50)), .p (.int .i64 6), .p (.int .i64 (Int.tmod a3_.x1 1000)), .p (.int .i64 (Int.tmod a3_.x2 50)), .p (.int .i64 7), .p (.int .i64 (Int.tmod a3_.x1 1000)), .p (.int .i64 (Int.tmod a3_.x2 25))]), (50, .p (.int .i64 3))], [(7, [.p (.int .i64 a3_.x0), .p (.int .i64 a3_.x1), .p (.int .i64 a3_.x2)]), (10, [.p (.sl 2 false (List.map e_api_Entry r1.x1.Entries)), .p (.int .i64 r1.x1.Cycle)])], []⟩) (APath.fin (by kernel_rfl)) (by kernel_rfl) ?_
                              refine unr_step ?_
                              refine vc_seq ?_
                              refine vc_reg (S := ⟨[(7, .loc 7 0), (10, .loc 10 0), (20, .agg [.p (.sl 2 false (List.map e_api_Entry r1.x0.Entries)), .p (.int .i64 r1.x0.Cycle), .p (.sl 2 false (List.map e_api_Entry r1.x1.Entries)), .p (.int .i64 r1.x1.Cycle), .p (.sl 2 false (List.map e_api_Entry r1.x2.Entries)), .p (.int .i64 r1.x2.Cycle)]), (21, .p (.int .i64 1)), (49, .agg [.p (.int .i64 a3_.x0), .p (.int .i64 a3_.x1), .p (.int .i64 a3_.x2), .p (.int .i64 (Int.tmod a3_.x0 8)), .p (.int .i64 (Int.tmod a3_.x1 1000)), .p (.int .i64 (Int.tmod a3_.x2 50)), .p (.int .i64 6), .p (.int .i64 (Int.tmod a3_.x1 1000)), .p (.int .i64 (Int.tmod a3_.x2 50)), .p (.int .i64 7), .p (.int .i64 (Int.tmod a3_.x1 1000)), .p (.int .i64 (Int.tmod a3_.x2 25))]), (50, .p (.int .i64 3)), (51, .p (.bool true))], [(7, [.p (.int .i64 a3_.x0), .p (.int .i64 a3_.x1), .p (.int .i64 a3_.x2)]), (10, [.p (.sl 2 false (List.map e_api_Entry r1.x1.Entries)), .p (.int .i64 r1.x1.Cycle)])], []⟩) (APath.fin (by kernel_rfl)) (by kernel_rfl) ?_
                              refine vc_seq ?_
                              refine vc_true (by kernel_rfl) ?_
                              refine vc_skip ?_
                              refine vc_kp ?_
                              refine vc_seq ?_
                              refine vc_block ?_
                              refine vc_seq ?_
                              refine vc_reg (S := ⟨[(7, .loc 7 0), (10, .loc 10 0), (12, .loc 12 0), (20, .agg [.p (.sl 2 false (List.map e_api_Entry r1.x0.Entries)), .p (.int .i64 r1.x0.Cycle), .p (.sl 2 false (List.map e_api_Entry r1.x1.Entries)), .p (.int .i64 r1.x1.Cycle), .p (.sl 2 false (List.map e_api_Entry r1.x2.Entries)), .p (.int .i64 r1.x2.Cycle)]), (21, .p (.int .i64 1)), (49, .agg [.p (.int .i64 a3_.x0), .p (.int .i64 a3_.x1), .p (.int .i64 a3_.x2), .p (.int .i64 (Int.tmod a3_.x0 8)), .p (.int .i64 (Int.tmod a3_.x1 1000)), .p (.int .i64 (Int.tmod a3_.x2 50)), .p (.int .i64 6), .p (.int .i64 (Int.tmod a3_.x1 1000)), .p (.int .i64 (Int.tmod a3_.x2 50)), .p (.int .i64 7), .p (.int .i64 (Int.tmod a3_.x1 1000)), .p (.int .i64 (Int.tmod a3_.x2 25))]), (50, .p (.int .i64 3))], [(7, [.p (.int .i64 a3_.x0), .p (.int .i64 a3_.x1), .p (.int .i64 a3_.x2)]), (10, [.p (.sl 2 false (List.map e_api_Entry r1.x1.Entries)), .p (.int .i64 r1.x1.Cycle)]), (12, [.p (.int .i64 7), .p (.int .i64 (Int.tmod a3_.x1 1000)), .p (.int .i64 (Int.tmod a3_.x2 25))])], []⟩) (APath.fin (by kernel_rfl)) (by kernel_rfl) ?_
                              refine vc_seq ?_
                              obtain ⟨r37, hr37, h⟩ := bind_some h
                              refine vc_reg (S := ⟨[(7, .loc 7 0), (10, .loc 10 0), (12, .loc 12 0), (13, .p (.int .i64 r37.1)), (14, .p (.int .i64 r37.2)), (20, .agg [.p (.sl 2 false (List.map e_api_Entry r1.x0.Entries)), .p (.int .i64 r1.x0.Cycle), .p (.sl 2 false (List.map e_api_Entry r1.x1.Entries)), .p (.int .i64 r1.x1.Cycle), .p (.sl 2 false (List.map e_api_Entry r1.x2.Entries)), .p (.int .i64 r1.x2.Cycle)]), (21, .p (.int .i64 1)), (49, .agg [.p (.int .i64 a3_.x0), .p (.int .i64 a3_.x1), .p (.int .i64 a3_.x2), .p (.int .i64 (Int.tmod a3_.x0 8)), .p (.int .i64 (Int.tmod a3_.x1 1000)), .p (.int .i64 (Int.tmod a3_.x2 50)), .p (.int .i64 6), .p (.int .i64 (Int.tmod a3_.x1 1000)), .p (.int .i64 (Int.tmod a3_.x2 50)), .p (.int .i64 7), .p (.int .i64 (Int.tmod a3_.x1 1000)), .p (.int .i64 (Int.tmod a3_.x2 25))]), (50, .p (.int .i64 3))], [(7, [.p (.int .i64 a3_.x0), .p (.int .i64 a3_.x1), .p (.int .i64 a3_.x2)]), (10, [.p (.sl 2 false (List.map e_api_Entry r1.x1.Entries)), .p (.int .i64 r1.x1.Cycle)]), (12, [.p (.int .i64 7), .p (.int .i64 (Int.tmod a3_.x1 1000)), .p (.int .i64 (Int.tmod a3_.x2 25))])], []⟩) (APath.chunk 7 (by kernel_rfl) (APath.one (.call (some 61) 22 [.t 54, .t 56, .t 58, .t 60]) (by kernel_rfl) (st_call (by kernel_rfl) (gates_Fit_ok N r1.x1 7 (Int.tmod a3_.x1 1000) (Int.tmod a3_.x2 25) r37 hr37)) (APath.fin (by kernel_rfl)))) (by kernel_rfl) ?_
                              refine vc_seq ?_
                              obtain ⟨r38, hr38, h⟩ := bind_some h
                              refine vc_reg (S := ⟨[(7, .loc 7 0), (10, .loc 10 0), (13, .p (.int .i64 r37.1)), (14, .p (.int .i64 r37.2)), (15, .p (.int .i64 r38.1)), (16, .p (.int .i64 r38.2)), (20, .agg [.p (.sl 2 false (List.map e_api_Entry r1.x0.Entries)), .p (.int .i64 r1.x0.Cycle), .p (.sl 2 false (List.map e_api_Entry r1.x1.Entries)), .p (.int .i64 r1.x1.Cycle), .p (.sl 2 false (List.map e_api_Entry r1.x2.Entries)), .p (.int .i64 r1.x2.Cycle)]), (21, .p (.int .i64 1)), (49, .agg [.p (.int .i64 a3_.x0), .p (.int .i64 a3_.x1), .p (.int .i64 a3_.x2), .p (.int .i64 (Int.tmod a3_.x0 8)), .p (.int .i64 (Int.tmod a3_.x1 1000)), .p (.int .i64 (Int.tmod a3_.x2 50)), .p (.int .i64 6), .p (.int .i64 (Int.tmod a3_.x1 1000)), .p (.int .i64 (Int.tmod a3_.x2 50)), .p (.int .i64 7), .p (.int .i64 (Int.tmod a3_.x1 1000)), .p (.int .i64 (Int.tmod a3_.x2 25))]), (50, .p (.int .i64 3))], [(7, [.p (.int .i64 a3_.x0), .p (.int .i64 a3_.x1), .p (.int .i64 a3_.x2)]), (10, [.p (.sl 2 false (List.map e_api_Entry r1.x1.Entries)), .p (.int .i64 r1.x1.Cycle)])], []⟩) (APath.chunk 7 (by kernel_rfl) (APath.one (.call (some 72) 23 [.t 65, .t 67, .t 69, .t 71]) (by kernel_rfl) (st_call (by kernel_rfl) (ref27_Fit_ok N r1.x1 7 (Int.tmod a3_.x1 1000) (Int.tmod a3_.x2 25) r38 hr38)) (APath.fin (by kernel_rfl)))) (by kernel_rfl) ?_
                              refine vc_seq ?_
                              refine vc_regX ⟨[(7, .loc 7 0), (10, .loc 10 0), (20, .agg [.p (.sl 2 false (List.map e_api_Entry r1.x0.Entries)), .p (.int .i64 r1.x0.Cycle), .p (.sl 2 false (List.map e_api_Entry r1.x1.Entries)), .p (.int .i64 r1.x1.Cycle), .p (.sl 2 false (List.map e_api_Entry r1.x2.Entries)), .p (.int .i64 r1.x2.Cycle)]), (21, .p (.int .i64 1)), (49, .agg [.p (.int .i64 a3_.x0), .p (.int .i64 a3_.x1), .p (.int .i64 a3_.x2), .p (.int .i64 (Int.tmod a3_.x0 8)), .p (.int .i64 (Int.tmod a3_.x1 1000)), .p (.int .i64 (Int.tmod a3_.x2 50)), .p (.int .i64 6), .p (.int .i64 (Int.tmod a3_.x1 1000)), .p (.int .i64 (Int.tmod a3_.x2 50)), .p (.int .i64 7), .p (.int .i64 (Int.tmod a3_.x1 1000)), .p (.int .i64 (Int.tmod a3_.x2 25))]), (50, .p (.int .i64 3)), (82, .p (.bool ((r37.1 != r38.1) || (r37.2 != r38.2))))], [(7, [.p (.int .i64 a3_.x0), .p (.int .i64 a3_.x1), .p (.int .i64 a3_.x2)]), (10, [.p (.sl 2 false (List.map e_api_Entry r1.x1.Entries)), .p (.int .i64 r1.x1.Cycle)])], []⟩ ?_ ?_
                              · rcases Bool.eq_false_or_eq_true (r37.1 != r38.1) with hc39 | hc40
                                · exact ⟨_, (APath.chunk 2 (by kernel_rfl) (APath.one (.val 77 (.bin .neq) [.t 75, .t 76]) (by kernel_rfl) (st_bool (c := (r37.1 != r38.1)) (by kernel_rfl) hc39) (APath.fin (by kernel_rfl)))), by simp only [hc39]; kernel_rfl⟩
                                · exact ⟨_, (APath.chunk 2 (by kernel_rfl) (APath.one (.val 77 (.bin .neq) [.t 75, .t 76]) (by kernel_rfl) (st_bool (c := (r37.1 != r38.1)) (by kernel_rfl) hc40) (APath.fin (by kernel_rfl)))), by simp only [hc40]; kernel_rfl⟩
                              · refine vc_ite (by kernel_rfl) h (fun hc41 h => ?_) (fun hc41 h => ?_)
                                · refine vc_seq ?_
                                  refine vc_reg (S := ⟨[(8, .p (.bool false))], [], []⟩) (APath.fin (by kernel_rfl)) (by kernel_rfl) ?_
                                  refine vc_ret ?_
                                  obtain rfl := some_inj h
                                  exact ret_of (by kernel_rfl)
                                · refine vc_skip ?_
                                  refine vc_kp ?_
                                  refine vc_reg (S := ⟨[(7, .loc 7 0), (10, .loc 10 0), (20, .agg [.p (.sl 2 false (List.map e_api_Entry r1.x0.Entries)), .p (.int .i64 r1.x0.Cycle), .p (.sl 2 false (List.map e_api_Entry r1.x1.Entries)), .p (.int .i64 r1.x1.Cycle), .p (.sl 2 false (List.map e_api_Entry r1.x2.Entries)), .p (.int .i64 r1.x2.Cycle)]), (21, .p (.int .i64 1)), (49, .agg [.p (.int .i64 a3_.x0), .p (.int .i64 a3_.x1), .p (.int .i64 a3_.x2), .p (.int .i64 (Int.tmod a3_.x0 8)), .p (.int .i64 (Int.tmod a3_.x1 1000)), .p (.int .i64 (Int.tmod a3_.x2 50)), .p (.int .i64 6), .p (.int .i64 (Int.tmod a3_.x1 1000)), .p (.int .i64 (Int.tmod a3_.x2 50)), .p (.int .i64 7), .p (.int .i64 (Int.tmod a3_.x1 1000)), .p (.int .i64 (Int.tmod a3_.x2 25))]), (50, .p (.int .i64 4))], [(7, [.p (.int .i64 a3_.x0), .p (.int .i64 a3_.x1), .p (.int .i64 a3_.x2)]), (10, [.p (.sl 2 false (List.map e_api_Entry r1.x1.Entries)), .p (.int .i64 r1.x1.Cycle)])], []⟩) (APath.fin (by kernel_rfl)) (by kernel_rfl) ?_
                                  refine unr_step ?_
                                  refine vc_seq ?_
                                  refine vc_reg (S := ⟨[(7, .loc 7 0), (10, .loc 10 0), (20, .agg [.p (.sl 2 false (List.map e_api_Entry r1.x0.Entries)), .p (.int .i64 r1.x0.Cycle), .p (.sl 2 false (List.map e_api_Entry r1.x1.Entries)), .p (.int .i64 r1.x1.Cycle), .p (.sl 2 false (List.map e_api_Entry r1.x2.Entries)), .p (.int .i64 r1.x2.Cycle)]), (21, .p (.int .i64 1)), (49, .agg [.p (.int .i64 a3_.x0), .p (.int .i64 a3_.x1), .p (.int .i64 a3_.x2), .p (.int .i64 (Int.tmod a3_.x0 8)), .p (.int .i64 (Int.tmod a3_.x1 1000)), .p (.int .i64 (Int.tmod a3_.x2 50)), .p (.int .i64 6), .p (.int .i64 (Int.tmod a3_.x1 1000)), .p (.int .i64 (Int.tmod a3_.x2 50)), .p (.int .i64 7), .p (.int .i64 (Int.tmod a3_.x1 1000)), .p (.int .i64 (Int.tmod a3_.x2 25))]), (50, .p (.int .i64 4)), (51, .p (.bool false))], [(7, [.p (.int .i64 a3_.x0), .p (.int .i64 a3_.x1), .p (.int .i64 a3_.x2)]), (10, [.p (.sl 2 false (List.map e_api_Entry r1.x1.Entries)), .p (.int .i64 r1.x1.Cycle)])], []⟩) (APath.fin (by kernel_rfl)) (by kernel_rfl) ?_
                                  refine vc_seq ?_
                                  refine vc_false (by kernel_rfl) ?_
                                  refine vc_exit ?_
                                  try show vc _ _ _ _ _
                                  refine vc_reg (S := ⟨[(7, .loc 7 0), (20, .agg [.p (.sl 2 false (List.map e_api_Entry r1.x0.Entries)), .p (.int .i64 r1.x0.Cycle), .p (.sl 2 false (List.map e_api_Entry r1.x1.Entries)), .p (.int .i64 r1.x1.Cycle), .p (.sl 2 false (List.map e_api_Entry r1.x2.Entries)), .p (.int .i64 r1.x2.Cycle)]), (21, .p (.int .i64 2))], [(7, [.p (.int .i64 a3_.x0), .p (.int .i64 a3_.x1), .p (.int .i64 a3_.x2)])], []⟩) (APath.fin (by kernel_rfl)) (by kernel_rfl) ?_
                                  refine unr_step ?_
                                  refine vc_seq ?_
                                  refine vc_reg (S := ⟨[(7, .loc 7 0), (20, .agg [.p (.sl 2 false (List.map e_api_Entry r1.x0.Entries)), .p (.int .i64 r1.x0.Cycle), .p (.sl 2 false (List.map e_api_Entry r1.x1.Entries)), .p (.int .i64 r1.x1.Cycle), .p (.sl 2 false (List.map e_api_Entry r1.x2.Entries)), .p (.int .i64 r1.x2.Cycle)]), (21, .p (.int .i64 2)), (22, .p (.bool true))], [(7, [.p (.int .i64 a3_.x0), .p (.int .i64 a3_.x1), .p (.int .i64 a3_.x2)])], []⟩) (APath.fin (by kernel_rfl)) (by kernel_rfl) ?_
                                  refine vc_seq ?_
                                  refine vc_true (by kernel_rfl) ?_
                                  refine vc_skip ?_
                                  refine vc_kp ?_
                                  refine vc_seq ?_
                                  refine vc_block ?_
                                  refine vc_seq ?_
                                  refine vc_reg (S := ⟨[(7, .loc 7 0), (10, .loc 10 0), (20, .agg [.p (.sl 2 false (List.map e_api_Entry r1.x0.Entries)), .p (.int .i64 r1.x0.Cycle), .p (.sl 2 false (List.map e_api_Entry r1.x1.Entries)), .p (.int .i64 r1.x1.Cycle), .p (.sl 2 false (List.map e_api_Entry r1.x2.Entries)), .p (.int .i64 r1.x2.Cycle)]), (21, .p (.int .i64 2))], [(7, [.p (.int .i64 a3_.x0), .p (.int .i64 a3_.x1), .p (.int .i64 a3_.x2)]), (10, [.p (.sl 2 false (List.map e_api_Entry r1.x2.Entries)), .p (.int .i64 r1.x2.Cycle)])], []⟩) (APath.fin (by kernel_rfl)) (by kernel_rfl) ?_
                                  refine vc_seq ?_
                                  refine vc_reg (S := ⟨[(7, .loc 7 0), (10, .loc 10 0), (20, .agg [.p (.sl 2 false (List.map e_api_Entry r1.x0.Entries)), .p (.int .i64 r1.x0.Cycle), .p (.sl 2 false (List.map e_api_Entry r1.x1.Entries)), .p (.int .i64 r1.x1.Cycle), .p (.sl 2 false (List.map e_api_Entry r1.x2.Entries)), .p (.int .i64 r1.x2.Cycle)]), (21, .p (.int .i64 2)), (49, .agg [.p (.int .i64 a3_.x0), .p (.int .i64 a3_.x1), .p (.int .i64 a3_.x2), .p (.int .i64 (Int.tmod a3_.x0 8)), .p (.int .i64 (Int.tmod a3_.x1 1000)), .p (.int .i64 (Int.tmod a3_.x2 50)), .p (.int .i64 6), .p (.int .i64 (Int.tmod a3_.x1 1000)), .p (.int .i64 (Int.tmod a3_.x2 50)), .p (.int .i64 7), .p (.int .i64 (Int.tmod a3_.x1 1000)), .p (.int .i64 (Int.tmod a3_.x2 25))]), (50, .p (.int .i64 0))], [(7, [.p (.int .i64 a3_.x0), .p (.int .i64 a3_.x1), .p (.int .i64 a3_.x2)]), (10, [.p (.sl 2 false (List.map e_api_Entry r1.x2.Entries)), .p (.int .i64 r1.x2.Cycle)])], []⟩) (APath.fin (by kernel_rfl)) (by kernel_rfl) ?_
                                  refine vc_block ?_
                                  refine vc_unroll 14 ?_
                                  refine unr_step ?_
                                  refine vc_seq ?_
                                  refine vc_reg (S := ⟨[(7, .loc 7 0), (10, .loc 10 0), (20, .agg [.p (.sl 2 false (List.map e_api_Entry r1.x0.Entries)), .p (.int .i64 r1.x0.Cycle), .p (.sl 2 false (List.map e_api_Entry r1.x1.Entries)), .p (.int .i64 r1.x1.Cycle), .p (.sl 2 false (List.map e_api_Entry r1.x2.Entries)), .p (.int .i64 r1.x2.Cycle)]), (21, .p (.int .i64 2)), (49, .agg [.p (.int .i64 a3_.x0), .p (.int .i64 a3_.x1), .p (.int .i64 a3_.x2), .p (.int .i64 (Int.tmod a3_.x0 8)), .p (.int .i64 (Int.tmod a3_.x1 1000)), .p (.int .i64 (Int.tmod a3_.x2 50)), .p (.int .i64 6), .p (.int .i64 (Int.tmod a3_.x1 1000)), .p (.int .i64 (Int.tmod a3_.x2 50)), .p (.int .i64 7), .p (.int .i64 (Int.tmod a3_.x1 1000)), .p (.int .i64 (Int.tmod a3_.x2 25))]), (50, .p (.int .i64 0)), (51, .p (.bool true))], [(7, [.p (.int .i64 a3_.x0), .p (.int .i64 a3_.x1), .p (.int .i64 a3_.x2)]), (10, [.p (.sl 2 false (List.map e_api_Entry r1.x2.Entries)), .p (.int .i64 r1.x2.Cycle)])], []⟩) (APath.fin (by kernel_rfl)) (by kernel_rfl) ?_
                                  refine vc_seq ?_
                                  refine vc_true (by kernel_rfl) ?_
                                  refine vc_skip ?_
                                  refine vc_kp ?_
                                  refine vc_seq ?_
                                  refine vc_block ?_
                                  refine vc_seq ?_
                                  refine vc_reg (S := ⟨[(7, .loc 7 0), (10, .loc 10 0), (12, .loc 12 0), (20, .agg [.p (.sl 2 false (List.map e_api_Entry r1.x0.Entries)), .p (.int .i64 r1.x0.Cycle), .p (.sl 2 false (List.map e_api_Entry r1.x1.Entries)), .p (.int .i64 r1.x1.Cycle), .p (.sl 2 false (List.map e_api_Entry r1.x2.Entries)), .p (.int .i64 r1.x2.Cycle)]), (21, .p (.int .i64 2)), (49, .agg [.p (.int .i64 a3_.x0), .p (.int .i64 a3_.x1), .p (.int .i64 a3_.x2), .p (.int .i64 (Int.tmod a3_.x0 8)), .p (.int .i64 (Int.tmod a3_.x1 1000)), .p (.int .i64 (Int.tmod a3_.x2 50)), .p (.int .i64 6), .p (.int .i64 (Int.tmod a3_.x1 1000)), .p (.int .i64 (Int.tmod a3_.x2 50)), .p (.int .i64 7), .p (.int .i64 (Int.tmod a3_.x1 1000)), .p (.int .i64 (Int.tmod a3_.x2 25))]), (50, .p (.int .i64 0))], [(7, [.p (.int .i64 a3_.x0), .p (.int .i64 a3_.x1), .p (.int .i64 a3_.x2)]), (10, [.p (.sl 2 false (List.map e_api_Entry r1.x2.Entries)), .p (.int .i64 r1.x2.Cycle)]), (12, [.p (.int .i64 a3_.x0), .p (.int .i64 a3_.x1), .p (.int .i64 a3_.x2)])], []⟩) (APath.fin (by kernel_rfl)) (by kernel_rfl) ?_
                                  refine vc_seq ?_
                                  obtain ⟨r42, hr42, h⟩ := bind_some h
                                  refine vc_reg (S := ⟨[(7, .loc 7 0), (10, .loc 10 0), (12, .loc 12 0), (13, .p (.int .i64 r42.1)), (14, .p (.int .i64 r42.2)), (20, .agg [.p (.sl 2 false (List.map e_api_Entry r1.x0.Entries)), .p (.int .i64 r1.x0.Cycle), .p (.sl 2 false (List.map e_api_Entry r1.x1.Entries)), .p (.int .i64 r1.x1.Cycle), .p (.sl 2 false (List.map e_api_Entry r1.x2.Entries)), .p (.int .i64 r1.x2.Cycle)]), (21, .p (.int .i64 2)), (49, .agg [.p (.int .i64 a3_.x0), .p (.int .i64 a3_.x1), .p (.int .i64 a3_.x2), .p (.int .i64 (Int.tmod a3_.x0 8)), .p (.int .i64 (Int.tmod a3_.x1 1000)), .p (.int .i64 (Int.tmod a3_.x2 50)), .p (.int .i64 6), .p (.int .i64 (Int.tmod a3_.x1 1000)), .p (.int .i64 (Int.tmod a3_.x2 50)), .p (.int .i64 7), .p (.int .i64 (Int.tmod a3_.x1 1000)), .p (.int .i64 (Int.tmod a3_.x2 25))]), (50, .p (.int .i64 0))], [(7, [.p (.int .i64 a3_.x0), .p (.int .i64 a3_.x1), .p (.int .i64 a3_.x2)]), (10, [.p (.sl 2 false (List.map e_api_Entry r1.x2.Entries)), .p (.int .i64 r1.x2.Cycle)]), (12, [.p (.int .i64 a3_.x0), .p (.int .i64 a3_.x1), .p (.int .i64 a3_.x2)])], []⟩) (APath.chunk 7 (by kernel_rfl) (APath.one (.call (some 61) 22 [.t 54, .t 56, .t 58, .t 60]) (by kernel_rfl) (st_call (by kernel_rfl) (gates_Fit_ok N r1.x2 a3_.x0 a3_.x1 a3_.x2 r42 hr42)) (APath.fin (by kernel_rfl)))) (by kernel_rfl) ?_
                                  refine vc_seq ?_
                                  obtain ⟨r43, hr43, h⟩ := bind_some h
                                  refine vc_reg (S := ⟨[(7, .loc 7 0), (10, .loc 10 0), (13, .p (.int .i64 r42.1)), (14, .p (.int .i64 r42.2)), (15, .p (.int .i64 r43.1)), (16, .p (.int .i64 r43.2)), (20, .agg [.p (.sl 2 false (List.map e_api_Entry r1.x0.Entries)), .p (.int .i64 r1.x0.Cycle), .p (.sl 2 false (List.map e_api_Entry r1.x1.Entries)), .p (.int .i64 r1.x1.Cycle), .p (.sl 2 false (List.map e_api_Entry r1.x2.Entries)), .p (.int .i64 r1.x2.Cycle)]), (21, .p (.int .i64 2)), (49, .agg [.p (.int .i64 a3_.x0), .p (.int .i64 a3_.x1), .p (.int .i64 a3_.x2), .p (.int .i64 (Int.tmod a3_.x0 8)), .p (.int .i64 (Int.tmod a3_.x1 1000)), .p (.int .i64 (Int.tmod a3_.x2 50)), .p (.int .i64 6), .p (.int .i64 (Int.tmod a3_.x1 1000)), .p (.int .i64 (Int.tmod a3_.x2 50)), .p (.int .i64 7), .p (.int .i64 (Int.tmod a3_.x1 1000)), .p (.int .i64 (Int.tmod a3_.x2 25))]), (50, .p (.int .i64 0))], [(7, [.p (.int .i64 a3_.x0), .p (.int .i64 a3_.x1), .p (.int .i64 a3_.x2)]), (10, [.p (.sl 2 false (List.map e_api_Entry r1.x2.Entries)), .p (.int .i64 r1.x2.Cycle)])], []⟩) (APath.chunk 7 (by kernel_rfl) (APath.one (.call (some 72) 23 [.t 65, .t 67, .t 69, .t 71]) (by kernel_rfl) (st_call (by kernel_rfl) (ref27_Fit_ok N r1.x2 a3_.x0 a3_.x1 a3_.x2 r43 hr43)) (APath.fin (by kernel_rfl)))) (by kernel_rfl) ?_
                                  refine vc_seq ?_
                                  refine vc_regX ⟨[(7, .loc 7 0), (10, .loc 10 0), (20, .agg [.p (.sl 2 false (List.map e_api_Entry r1.x0.Entries)), .p (.int .i64 r1.x0.Cycle), .p (.sl 2 false (List.map e_api_Entry r1.x1.Entries)), .p (.int .i64 r1.x1.Cycle), .p (.sl 2 false (List.map e_api_Entry r1.x2.Entries)), .p (.int .i64 r1.x2.Cycle)]), (21, .p (.int .i64 2)), (49, .agg [.p (.int .i64 a3_.x0), .p (.int .i64 a3_.x1), .p (.int .i64 a3_.x2), .p (.int .i64 (Int.tmod a3_.x0 8)), .p (.int .i64 (Int.tmod a3_.x1 1000)), .p (.int .i64 (Int.tmod a3_.x2 50)), .p (.int .i64 6), .p (.int .i64 (Int.tmod a3_.x1 1000)), .p (.int .i64 (Int.tmod a3_.x2 50)), .p (.int .i64 7), .p (.int .i64 (Int.tmod a3_.x1 1000)), .p (.int .i64 (Int.tmod a3_.x2 25))]), (50, .p (.int .i64 0)), (82, .p (.bool ((r42.1 != r43.1) || (r42.2 != r43.2))))], [(7, [.p (.int .i64 a3_.x0), .p (.int .i64 a3_.x1), .p (.int .i64 a3_.x2)]), (10, [.p (.sl 2 false (List.map e_api_Entry r1.x2.Entries)), .p (.int .i64 r1.x2.Cycle)])], []⟩ ?_ ?_
                                  · rcases Bool.eq_false_or_eq_true (r42.1 != r43.1) with hc44 | hc45
                                    · exact ⟨_, (APath.chunk 2 (by kernel_rfl) (APath.one (.val 77 (.bin .neq) [.t 75, .t 76]) (by kernel_rfl) (st_bool (c := (r42.1 != r43.1)) (by kernel_rfl) hc44) (APath.fin (by kernel_rfl)))), by simp only [hc44]; kernel_rfl⟩
                                    · exact ⟨_, (APath.chunk 2 (by kernel_rfl) (APath.one (.val 77 (.bin .neq) [.t 75, .t 76]) (by kernel_rfl) (st_bool (c := (r42.1 != r43.1)) (by kernel_rfl) hc45) (APath.fin (by kernel_rfl)))), by simp only [hc45]; kernel_rfl⟩
                                  · refine vc_ite (by kernel_rfl) h (fun hc46 h => ?_) (fun hc46 h => ?_)
                                    · refine vc_seq ?_
                                      refine vc_reg (S := ⟨[(8, .p (.bool false))], [], []⟩) (APath.fin (by kernel_rfl)) (by kernel_rfl) ?_
                                      refine vc_ret ?_
                                      obtain rfl := some_inj h
                                      exact ret_of (by kernel_rfl)
                                    · refine vc_skip ?_
                                      refine vc_kp ?_
                                      refine vc_reg (S := ⟨[(7, .loc 7 0), (10, .loc 10 0), (20, .agg [.p (.sl 2 false (List.map e_api_Entry r1.x0.Entries)), .p (.int .i64 r1.x0.Cycle), .p (.sl 2 false (List.map e_api_Entry r1.x1.Entries)), .p (.int .i64 r1.x1.Cycle), .p (.sl 2 false (List.map e_api_Entry r1.x2.Entries)), .p (.int .i64 r1.x2.Cycle)]), (21, .p (.int .i64 2)), (49, .agg [.p (.int .i64 a3_.x0), .p (.int .i64 a3_.x1), .p (.int .i64 a3_.x2), .p (.int .i64 (Int.tmod a3_.x0 8)), .p (.int .i64 (Int.tmod a3_.x1 1000)), .p (.int .i64 (Int.tmod a3_.x2 50)), .p (.int .i64 6), .p (.int .i64 (Int.tmod a3_.x1 1000)), .p (.int .i64 (Int.tmod a3_.x2 50)), .p (.int .i64 7), .p (.int .i64 (Int.tmod a3_.x1 1000)), .p (.int .i64 (Int.tmod a3_.x2 25))]), (50, .p (.int .i64 1))], [(7, [.p (.int .i64 a3_.x0), .p (.int .i64 a3_.x1), .p (.int .i64 a3_.x2)]), (10, [.p (.sl 2 false (List.map e_api_Entry r1.x2.Entries)), .p (.int .i64 r1.x2.Cycle)])], []⟩) (APath.fin (by kernel_rfl)) (by kernel_rfl) ?_
                                      refine unr_step ?_
                                      refine vc_seq ?_
                                      refine vc_reg (S := ⟨[(7, .loc 7 0), (10, .loc 10 0), (20, .agg [.p (.sl 2 false (List.map e_api_Entry r1.x0.Entries)), .p (.int .i64 r1.x0.Cycle), .p (.sl 2 false (List.map e_api_Entry r1.x1.Entries)), .p (.int .i64 r1.x1.Cycle), .p (.sl 2 false (List.map e_api_Entry r1.x2.Entries)), .p (.int .i64 r1.x2.Cycle)]), (21, .p (.int .i64 2)), (49, .agg [.p (.int .i64 a3_.x0), .p (.int .i64 a3_.x1), .p (.int .i64 a3_.x2), .p (.int .i64 (Int.tmod a3_.x0 8)), .p (.int .i64 (Int.tmod a3_.x1 1000)), .p (.int .i64 (Int.tmod a3_.x2 50)), .p (.int .i64 6), .p (.int .i64 (Int.tmod a3_.x1 1000)), .p (.int .i64 (Int.tmod a3_.x2 50)), .p (.int .i64 7), .p (.int .i64 (Int.tmod a3_.x1 1000)), .p (.int .i64 (Int.tmod a3_.x2 25))]), (50, .p (.int .i64 1)), (51, .p (.bool true))], [(7, [.p (.int .i64 a3_.x0), .p (.int .i64 a3_.x1), .p (.int .i64 a3_.x2)]), (10, [.p (.sl 2 false (List.map e_api_Entry r1.x2.Entries)), .p (.int .i64 r1.x2.Cycle)])], []⟩) (APath.fin (by kernel_rfl)) (by kernel_rfl) ?_
                                      refine vc_seq ?_
                                      refine vc_true (by kernel_rfl) ?_
                                      refine vc_skip ?_
                                      refine vc_kp ?_
                                      refine vc_seq ?_
                                      refine vc_block ?_
                                      refine vc_seq ?_
                                      refine vc_reg (S := ⟨[(7, .loc 7 0), (10, .loc 10 0), (12, .loc 12 0), (20, .agg [.p (.sl 2 false (List.map e_api_Entry r1.x0.Entries)), .p (.int .i64 r1.x0.Cycle), .p (.sl 2 false (List.map e_api_Entry r1.x1.Entries)), .p (.int .i64 r1.x1.Cycle), .p (.sl 2 false (List.map e_api_Entry r1.x2.Entries)), .p (.int .i64 r1.x2.Cycle)]), (21, .p (.int .i64 2)), (49, .agg [.p (.int .i64 a3_.x0), .p (.int .i64 a3_.x1), .p (.int .i64 a3_.x2), .p (.int .i64 (Int.tmod a3_.x0 8)), .p (.int .i64 (Int.tmod a3_.x1 1000)), .p (.int .i64 (Int.tmod a3_.x2 50)), .p (.int .i64 6), .p (.int .i64 (Int.tmod a3_.x1 1000)), .p (.int .i64 (Int.tmod a3_.x2 50)), .p (.int .i64 7), .p (.int .i64 (Int.tmod a3_.x1 1000)), .p (.int .i64 (Int.tmod a3_.x2 25))]), (50, .p (.int .i64 1))], [(7, [.p (.int .i64 a3_.x0), .p (.int .i64 a3_.x1), .p (.int .i64 a3_.x2)]), (10, [.p (.sl 2 false (List.map e_api_Entry r1.x2.Entries)), .p (.int .i64 r1.x2.Cycle)]), (12, [.p (.int .i64 (Int.tmod a3_.x0 8)), .p (.int .i64 (Int.tmod a3_.x1 1000)), .p (.int .i64 (Int.tmod a3_.x2 50))])], []⟩) (APath.fin (by kernel_rfl)) (by kernel_rfl) ?_
                                      refine vc_seq ?_
                                      obtain ⟨r47, hr47, h⟩ := bind_some h
                                      refine vc_reg (S := ⟨[(7, .loc 7 0), (10, .loc 10 0), (12, .loc 12 0), (13, .p (.int .i64 r47.1)), (14, .p (.int .i64 r47.2)), (20, .agg [.p (.sl 2 false (List.map e_api_Entry r1.x0.Entries)), .p (.int .i64 r1.x0.Cycle), .p (.sl 2 false (List.map e_api_Entry r1.x1.Entries)), .p (.int .i64 r1.x1.Cycle), .p (.sl 2 false (List.map e_api_Entry r1.x2.Entries)), .p (.int .i64 r1.x2.Cycle)]), (21, .p (.int .i64 2)), (49, .agg [.p (.int .i64 a3_.x0), .p (.int .i64 a3_.x1), .p (.int .i64 a3_.x2), .p (.int .i64 (Int.tmod a3_.x0 8)), .p (.int .i64 (Int.tmod a3_.x1 1000)), .p (.int .i64 (Int.tmod a3_.x2 50)), .p (.int .i64 6), .p (.int .i64 (Int.tmod a3_.x1 1000)), .p (.int .i64 (Int.tmod a3_.x2 50)), .p (.int .i64 7), .p (.int .i64 (Int.tmod a3_.x1 1000)), .p (.int .i64 (Int.tmod a3_.x2 25))]), (50, .p (.int .i64 1))], [(7, [.p (.int .i64 a3_.x0), .p (.int .i64 a3_.x1), .p (.int .i64 a3_.x2)]), (10, [.p (.sl 2 false (List.map e_api_Entry r1.x2.Entries)), .p (.int .i64 r1.x2.Cycle)]), (12, [.p (.int .i64 (Int.tmod a3_.x0 8)), .p (.int .i64 (Int.tmod a3_.x1 1000)), .p (.int .i64 (Int.tmod a3_.x2 50))])], []⟩) (APath.chunk 7 (by kernel_rfl) (APath.one (.call (some 61) 22 [.t 54, .t 56, .t 58, .t 60]) (by kernel_rfl) (st_call (by kernel_rfl) (gates_Fit_ok N r1.x2 (Int.tmod a3_.x0 8) (Int.tmod a3_.x1 1000) (Int.tmod a3_.x2 50) r47 hr47)) (APath.fin (by kernel_rfl)))) (by kernel_rfl) ?_
                                      refine vc_seq ?_
                                      obtain ⟨r48, hr48, h⟩ := bind_some h
                                      refine vc_reg (S := ⟨[(7, .loc 7 0), (10, .loc 10 0), (13, .p (.int .i64 r47.1)), (14, .p (.int .i64 r47.2)), (15, .p (.int .i64 r48.1)), (16, .p (.int .i64 r48.2)), (20, .agg [.p (.sl 2 false (List.map e_api_Entry r1.x0.Entries)), .p (.int .i64 r1.x0.Cycle), .p (.sl 2 false (List.map e_api_Entry r1.x1.Entries)), .p (.int .i64 r1.x1.Cycle), .p (.sl 2 false (List.map e_api_Entry r1.x2.Entries)), .p (.int .i64 r1.x2.Cycle)]), (21, .p (.int .i64 2)), (49, .agg [.p (.int .i64 a3_.x0), .p (.int .i64 a3_.x1), .p (.int .i64 a3_.x2), .p (.int .i64 (Int.tmod a3_.x0 8)), .p (.int .i64 (Int.tmod a3_.x1 1000)), .p (.int .i64 (Int.tmod a3_.x2 50)), .p (.int .i64 6), .p (.int .i64 (Int.tmod a3_.x1 1000)), .p (.int .i64 (Int.tmod a3_.x2 50)), .p (.int .i64 7), .p (.int .i64 (Int.tmod a3_.x1 1000)), .p (.int .i64 (Int.tmod a3_.x2 25))]), (50, .p (.int .i64 1))], [(7, [.p (.int .i64 a3_.x0), .p (.int .i64 a3_.x1), .p (.int .i64 a3_.x2)]), (10, [.p (.sl 2 false (List.map e_api_Entry r1.x2.Entries)), .p (.int .i64 r1.x2.Cycle)])], []⟩) (APath.chunk 7 (by kernel_rfl) (APath.one (.call (some 72) 23 [.t 65, .t 67, .t 69, .t 71]) (by kernel_rfl) (st_call (by kernel_rfl) (ref27_Fit_ok N r1.x2 (Int.tmod a3_.x0 8) (Int.tmod a3_.x1 1000) (Int.tmod a3_.x2 50) r48 hr48)) (APath.fin (by kernel_rfl)))) (by kernel_rfl) ?_
                                      refine vc_seq ?_
                                      refine vc_regX ⟨[(7, .loc 7 0), (10, .loc 10 0), (20, .agg [.p (.sl 2 false (List.map e_api_Entry r1.x0.Entries)), .p (.int .i64 r1.x0.Cycle), .p (.sl 2 false (List.map e_api_Entry r1.x1.Entries)), .p (.int .i64 r1.x1.Cycle), .p (.sl 2 false (List.map e_api_Entry r1.x2.Entries)), .p (.int .i64 r1.x2.Cycle)]), (21, .p (.int .i64 2)), (49, .agg [.p (.int .i64 a3_.x0), .p (.int .i64 a3_.x1), .p (.int .i64 a3_.x2), .p (.int .i64 (Int.tmod a3_.x0 8)), .p (.int .i64 (Int.tmod a3_.x1 1000)), .p (.int .i64 (Int.tmod a3_.x2 50)), .p (.int .i64 6), .p (.int .i64 (Int.tmod a3_.x1 1000)), .p (.int .i64 (Int.tmod a3_.x2 50)), .p (.int .i64 7), .p (.int .i64 (Int.tmod a3_.x1 1000)), .p (.int .i64 (Int.tmod a3_.x2 25))]), (50, .p (.int .i64 1)), (82, .p (.bool ((r47.1 != r48.1) || (r47.2 != r48.2))))], [(7, [.p (.int .i64 a3_.x0), .p (.int .i64 a3_.x1), .p (.int .i64 a3_.x2)]), (10, [.p (.sl 2 false (List.map e_api_Entry r1.x2.Entries)), .p (.int .i64 r1.x2.Cycle)])], []⟩ ?_ ?_
                                      · rcases Bool.eq_false_or_eq_true (r47.1 != r48.1) with hc49 | hc50
                                        · exact ⟨_, (APath.chunk 2 (by kernel_rfl) (APath.one (.val 77 (.bin .neq) [.t 75, .t 76]) (by kernel_rfl) (st_bool (c := (r47.1 != r48.1)) (by kernel_rfl) hc49) (APath.fin (by kernel_rfl)))), by simp only [hc49]; kernel_rfl⟩
                                        · exact ⟨_, (APath.chunk 2 (by kernel_rfl) (APath.one (.val 77 (.bin .neq) [.t 75, .t 76]) (by kernel_rfl) (st_bool (c := (r47.1 != r48.1)) (by kernel_rfl) hc50) (APath.fin (by kernel_rfl)))), by simp only [hc50]; kernel_rfl⟩
                                      · refine vc_ite (by kernel_rfl) h (fun hc51 h => ?_) (fun hc51 h => ?_)
                                        · refine vc_seq ?_
                                          refine vc_reg (S := ⟨[(8, .p (.bool false))], [], []⟩) (APath.fin (by kernel_rfl)) (by kernel_rfl) ?_
                                          refine vc_ret ?_
                                          obtain rfl := some_inj h
                                          exact ret_of (by kernel_rfl)
                                        · refine vc_skip ?_
                                          refine vc_kp ?_
                                          refine vc_reg (S := ⟨[(7, .loc 7 0), (10, .loc 10 0), (20, .agg [.p (.sl 2 false (List.map e_api_Entry r1.x0.Entries)), .p (.int .i64 r1.x0.Cycle), .p (.sl 2 false (List.map e_api_Entry r1.x1.Entries)), .p (.int .i64 r1.x1.Cycle), .p (.sl 2 false (List.map e_api_Entry r1.x2.Entries)), .p (.int .i64 r1.x2.Cycle)]), (21, .p (.int .i64 2)), (49, .agg [.p (.int .i64 a3_.x0), .p (.int .i64 a3_.x1), .p (.int .i64 a3_.x2), .p (.int .i64 (Int.tmod a3_.x0 8)), .p (.int .i64 (Int.tmod a3_.x1 1000)), .p (.int .i64 (Int.tmod a3_.x2 50)), .p (.int .i64 6), .p (.int .i64 (Int.tmod a3_.x1 1000)), .p (.int .i64 (Int.tmod a3_.x2 50)), .p (.int .i64 7), .p (.int .i64 (Int.tmod a3_.x1 1000)), .p (.int .i64 (Int.tmod a3_.x2 25))]), (50, .p (.int .i64 2))], [(7, [.p (.int .i64 a3_.x0), .p (.int .i64 a3_.x1), .p (.int .i64 a3_.x2)]), (10, [.p (.sl 2 false (List.map e_api_Entry r1.x2.Entries)), .p (.int .i64 r1.x2.Cycle)])], []⟩) (APath.fin (by kernel_rfl)) (by kernel_rfl) ?_
                                          refine unr_step ?_
                                          refine vc_seq ?_
                                          refine vc_reg (S := ⟨[(7, .loc 7 0), (10, .loc 10 0), (20, .agg [.p (.sl 2 false (List.map e_api_Entry r1.x0.Entries)), .p (.int .i64 r1.x0.Cycle), .p (.sl 2 false (List.map e_api_Entry r1.x1.Entries)), .p (.int .i64 r1.x1.Cycle), .p (.sl 2 false (List.map e_api_Entry r1.x2.Entries)), .p (.int .i64 r1.x2.Cycle)]), (21, .p (.int .i64 2)), (49, .agg [.p (.int .i64 a3_.x0), .p (.int .i64 a3_.x1), .p (.int .i64 a3_.x2), .p (.int .i64 (Int.tmod a3_.x0 8)), .p (.int .i64 (Int.tmod a3_.x1 1000)), .p (.int .i64 (Int.tmod a3_.x2 50)), .p (.int .i64 6), .p (.int .i64 (Int.tmod a3_.x1 1000)), .p (.int .i64 (Int.tmod a3_.x2 50)), .p (.int .i64 7), .p (.int .i64 (Int.tmod a3_.x1 1000)), .p (.int .i64 (Int.tmod a3_.x2 25))]), (50, .p (.int .i64 2)), (51, .p (.bool true))], [(7, [.p (.int .i64 a3_.x0), .p (.int .i64 a3_.x1), .p (.int .i64 a3_.x2)]), (10, [.p (.sl 2 false (List.map e_api_Entry r1.x2.Entries)), .p (.int .i64 r1.x2.Cycle)])], []⟩) (APath.fin (by kernel_rfl)) (by kernel_rfl) ?_
                                          refine vc_seq ?_
                                          refine vc_true (by kernel_rfl) ?_
                                          refine vc_skip ?_
                                          refine vc_kp ?_
                                          refine vc_seq ?_
                                          refine vc_block ?_
                                          refine vc_seq ?_
                                          refine vc_reg (S := ⟨[(7, .loc 7 0), (10, .loc 10 0), (12, .loc 12 0), (20, .agg [.p (.sl 2 false (List.map e_api_Entry r1.x0.Entries)), .p (.int .i64 r1.x0.Cycle), .p (.sl 2 false (List.map e_api_Entry r1.x1.Entries)), .p (.int .i64 r1.x1.Cycle), .p (.sl 2 false (List.map e_api_Entry r1.x2.Entries)), .p (.int .i64 r1.x2.Cycle)]), (21, .p (.int .i64 2)), (49, .agg [.p (.int .i64 a3_.x0), .p (.int .i64 a3_.x1), .p (.int .i64 a3_.x2), .p (.int .i64 (Int.tmod a3_.x0 8)), .p (.int .i64 (Int.tmod a3_.x1 1000)), .p (.int .i64 (Int.tmod a3_.x2 50)), .p (.int .i64 6), .p (.int .i64 (Int.tmod a3_.x1 1000)), .p (.int .i64 (Int.tmod a3_.x2 50)), .p (.int .i64 7), .p (.int .i64 (Int.tmod a3_.x1 1000)), .p (.int .i64 (Int.tmod a3_.x2 25))]), (50, .p (.int .i64 2))], [(7, [.p (.int .i64 a3_.x0), .p (.int .i64 a3_.x1), .p (.int .i64 a3_.x2)]), (10, [.p (.sl 2 false (List.map e_api_Entry r1.x2.Entries)), .p (.int .i64 r1.x2.Cycle)]), (12, [.p (.int .i64 6), .p (.int .i64 (Int.tmod a3_.x1 1000)), .p (.int .i64 (Int.tmod a3_.x2 50))])], []⟩) (APath.fin (by kernel_rfl)) (by kernel_rfl) ?_
                                          refine vc_seq ?_
                                          obtain ⟨r52, hr52, h⟩ := bind_some h
                                          refine vc_reg (S := ⟨[(7, .loc 7 0), (10, .loc 10 0), (12, .loc 12 0), (13, .p (.int .i64 r52.1)), (14, .p (.int .i64 r52.2)), (20, .agg [.p (.sl 2 false (List.map e_api_Entry r1.x0.Entries)), .p (.int .i64 r1.x0.Cycle), .p (.sl 2 false (List.map e_api_Entry r1.x1.Entries)), .p (.int .i64 r1.x1.Cycle), .p (.sl 2 false (List.map e_api_Entry r1.x2.Entries)), .p (.int .i64 r1.x2.Cycle)]), (21, .p (.int .i64 2)), (49, .agg [.p (.int .i64 a3_.x0), .p (.int .i64 a3_.x1), .p (.int .i64 a3_.x2), .p (.int .i64 (Int.tmod a3_.x0 8)), .p (.int .i64 (Int.tmod a3_.x1 1000)), .p (.int .i64 (Int.tmod a3_.x2 50)), .p (.int .i64 6), .p (.int .i64 (Int.tmod a3_.x1 1000)), .p (.int .i64 (Int.tmod a3_.x2 50)), .p (.int .i64 7), .p (.int .i64 (Int.tmod a3_.x1 1000)), .p (.int .i64 (Int.tmod a3_.x2 25))]), (50, .p (.int .i64 2))], [(7, [.p (.int .i64 a3_.x0), .p (.int .i64 a3_.x1), .p (.int .i64 a3_.x2)]), (10, [.p (.sl 2 false (List.map e_api_Entry r1.x2.Entries)), .p (.int .i64 r1.x2.Cycle)]), (12, [.p (.int .i64 6), .p (.int .i64 (Int.tmod a3_.x1 1000)), .p (.int .i64 (Int.tmod a3_.x2 50))])], []⟩) (APath.chunk 7 (by kernel_rfl) (APath.one (.call (some 61) 22 [.t 54, .t 56, .t 58, .t 60]) (by kernel_rfl) (st_call (by kernel_rfl) (gates_Fit_ok N r1.x2 6 (Int.tmod a3_.x1 1000) (Int.tmod a3_.x2 50) r52 hr52)) (APath.fin (by kernel_rfl)))) (by kernel_rfl) ?_
                                          refine vc_seq ?_
                                          obtain ⟨r53, hr53, h⟩ := bind_some h
                                          refine vc_reg (S := ⟨[(7, .loc 7 0), (10, .loc 10 0), (13, .p (.int .i64 r52.1)), (14, .p (.int .i64 r52.2)), (15, .p (.int .i64 r53.1)), (16, .p (.int .i64 r53.2)), (20, .agg [.p (.sl 2 false (List.map e_api_Entry r1.x0.Entries)), .p (.int .i64 r1.x0.Cycle), .p (.sl 2 false (List.map e_api_Entry r1.x1.Entries)), .p (.int .i64 r1.x1.Cycle), .p (.sl 2 false (List.map e_api_Entry r1.x2.Entries)), .p (.int .i64 r1.x2.Cycle)]), (21, .p (.int .i64 2)), (49, .agg [.p (.int .i64 a3_.x0), .p (.int .i64 a3_.x1), .p (.int .i64 a3_.x2), .p (.int .i64 (Int.tmod a3_.x0 8)), .p (.int .i64 (Int.tmod a3_.x1 1000)), .p (.int .i64 (Int.tmod a3_.x2 50)), .p (.int .i64 6), .p (.int .i64 (Int.tmod a3_.x1 1000)), .p (.int .i64 (Int.tmod a3_.x2 50)), .p (.int .i64 7), .p (.int .i64 (Int.tmod a3_.x1 1000)), .p (.int .i64 (Int.tmod a3_.x2 25))]), (50, .p (.int .i64 2))], [(7, [.p (.int .i64 a3_.x0), .p (.int .i64 a3_.x1), .p (.int .i64 a3_.x2)]), (10, [.p (.sl 2 false (List.map e_api_Entry r1.x2.Entries)), .p (.int .i64 r1.x2.Cycle)])], []⟩) (APath.chunk 7 (by kernel_rfl) (APath.one (.call (some 72) 23 [.t 65, .t 67, .t 69, .t 71]) (by kernel_rfl) (st_call (by kernel_rfl) (ref27_Fit_ok N r1.x2 6 (Int.tmod a3_.x1 1000) (Int.tmod a3_.x2 50) r53 hr53)) (APath.fin (by kernel_rfl)))) (by kernel_rfl) ?_
                                          refine vc_seq ?_
                                          refine vc_regX ⟨[(7, .loc 7 0), (10, .loc 10 0), (20, .agg [.p (.sl 2 false (List.map e_api_Entry r1.x0.Entries)), .p (.int .i64 r1.x0.Cycle), .p (.sl 2 false (List.map e_api_Entry r1.x1.Entries)), .p (.int .i64 r1.x1.Cycle), .p (.sl 2 false (List.map e_api_Entry r1.x2.Entries)), .p (.int .i64 r1.x2.Cycle)]), (21, .p (.int .i64 2)), (49, .agg [.p (.int .i64 a3_.x0), .p (.int .i64 a3_.x1), .p (.int .i64 a3_.x2), .p (.int .i64 (Int.tmod a3_.x0 8)), .p (.int .i64 (Int.tmod a3_.x1 1000)), .p (.int .i64 (Int.tmod a3_.x2 50)), .p (.int .i64 6), .p (.int .i64 (Int.tmod a3_.x1 1000)), .p (.int .i64 (Int.tmod a3_.x2 50)), .p (.int .i64 7), .p (.int .i64 (Int.tmod a3_.x1 1000)), .p (.int .i64 (Int.tmod a3_.x2 25))]), (50, .p (.int .i64 2)), (82, .p (.bool ((r52.1 != r53.1) || (r52.2 != r53.2))))], [(7, [.p (.int .i64 a3_.x0), .p (.int .i64 a3_.x1), .p (.int .i64 a3_.x2)]), (10, [.p (.sl 2 false (List.map e_api_Entry r1.x2.Entries)), .p (.int .i64 r1.x2.Cycle)])], []⟩ ?_ ?_
                                          · rcases Bool.eq_false_or_eq_true (r52.1 != r53.1) with hc54 | hc55
                                            · exact ⟨_, (APath.chunk 2 (by kernel_rfl) (APath.one (.val 77 (.bin .neq) [.t 75, .t 76]) (by kernel_rfl) (st_bool (c := (r52.1 != r53.1)) (by kernel_rfl) hc54) (APath.fin (by kernel_rfl)))), by simp only [hc54]; kernel_rfl⟩
                                            · exact ⟨_, (APath.chunk 2 (by kernel_rfl) (APath.one (.val 77 (.bin .neq) [.t 75, .t 76]) (by kernel_rfl) (st_bool (c := (r52.1 != r53.1)) (by kernel_rfl) hc55) (APath.fin (by kernel_rfl)))), by simp only [hc55]; kernel_rfl⟩
                                          · refine vc_ite (by kernel_rfl) h (fun hc56 h => ?_) (fun hc56 h => ?_)
                                            · refine vc_seq ?_
                                              refine vc_reg (S := ⟨[(8, .p (.bool false))], [], []⟩) (APath.fin (by kernel_rfl)) (by kernel_rfl) ?_
                                              refine vc_ret ?_
                                              obtain rfl := some_inj h
                                              exact ret_of (by kernel_rfl)
                                            · refine vc_skip ?_
                                              refine vc_kp ?_
                                              refine vc_reg (S := ⟨[(7, .loc 7 0), (10, .loc 10 0), (20, .agg [.p (.sl 2 false (List.map e_api_Entry r1.x0.Entries)), .p (.int .i64 r1.x0.Cycle), .p (.sl 2 false (List.map e_api_Entry r1.x1.Entries)), .p (.int .i64 r1.x1.Cycle), .p (.sl 2 false (List.map e_api_Entry r1.x2.Entries)), .p (.int .i64 r1.x2.Cycle)]), (21, .p (.int .i64 2)), (49, .agg [.p (.int .i64 a3_.x0), .p (.int .i64 a3_.x1), .p (.int .i64 a3_.x2), .p (.int .i64 (Int.tmod a3_.x0 8)), .p (.int .i64 (Int.tmod a3_.x1 1000)), .p (.int .i64 (Int.tmod a3_.x2 50)), .p (.int .i64 6), .p (.int .i64 (Int.tmod a3_.x1 1000)), .p (.int .i64 (Int.tmod a3_.x2 50)), .p (.int .i64 7), .p (.int .i64 (Int.tmod a3_.x1 1000)), .p (.int .i64 (Int.tmod a3_.x2 25))]), (50, .p (.int .i64 3))], [(7, [.p (.int .i64 a3_.x0), .p (.int .i64 a3_.x1), .p (.int .i64 a3_.x2)]), (10, [.p (.sl 2 false (List.map e_api_Entry r1.x2.Entries)), .p (.int .i64 r1.x2.Cycle)])], []⟩) (APath.fin (by kernel_rfl)) (by kernel_rfl) ?_
                                              refine unr_step ?_
                                              refine vc_seq ?_
                                              refine vc_reg (S := ⟨[(7, .loc 7 0), (10, .loc 10 0), (20, .agg [.p (.sl 2 false (List.map e_api_Entry r1.x0.Entries)), .p (.int .i64 r1.x0.Cycle), .p (.sl 2 false (List.map e_api_Entry r1.x1.Entries)), .p (.int .i64 r1.x1.Cycle), .p (.sl 2 false (List.map e_api_Entry r1.x2.Entries)), .p (.int .i64 r1.x2.Cycle)]), (21, .p (.int .i64 2)), (49, .agg [.p (.int .i64 a3_.x0), .p (.int .i64 a3_.x1), .p (.int .i64 a3_.x2), .p (.int .i64 (Int.tmod a3_.x0 8)), .p (.int .i64 (Int.tmod a3_.x1 1000)), .p (.int .i64 (Int.tmod a3_.x2 50)), .p (.int .i64 6), .p (.int .i64 (Int.tmod a3_.x1 1000)), .p (.int .i64 (Int.tmod a3_.x2 50)), .p (.int .i64 7), .p (.int .i64 (Int.tmod a3_.x1 1000)), .p (.int .i64 (Int.tmod a3_.x2 25))]), (50, .p (.int .i64 3)), (51, .p (.bool true))], [(7, [.p (.int .i64 a3_.x0), .p (.int .i64 a3_.x1), .p (.int .i64 a3_.x2)]), (10, [.p (.sl 2 false (List.map e_api_Entry r1.x2.Entries)), .p (.int .i64 r1.x2.Cycle)])], []⟩) (APath.fin (by kernel_rfl)) (by kernel_rfl) ?_
                                              refine vc_seq ?_
                                              refine vc_true (by kernel_rfl) ?_
                                              refine vc_skip ?_
                                              refine vc_kp ?_
                                              refine vc_seq ?_
                                              refine vc_block ?_
                                              refine vc_seq ?_
                                              refine vc_reg (S := ⟨[(7, .loc 7 0), (10, .loc 10 0), (12, .loc 12 0), (20, .agg [.p (.sl 2 false (List.map e_api_Entry r1.x0.Entries)), .p (.int .i64 r1.x0.Cycle), .p (.sl 2 false (List.map e_api_Entry r1.x1.Entries)), .p (.int .i64 r1.x1.Cycle), .p (.sl 2 false (List.map e_api_Entry r1.x2.Entries)), .p (.int .i64 r1.x2.Cycle)]), (21, .p (.int .i64 2)), (49, .agg [.p (.int .i64 a3_.x0), .p (.int .i64 a3_.x1), .p (.int .i64 a3_.x2), .p (.int .i64 (Int.tmod a3_.x0 8)), .p (.int .i64 (Int.tmod a3_.x1 1000)), .p (.int .i64 (Int.tmod a3_.x2 50)), .p (.int .i64 6), .p (.int .i64 (Int.tmod a3_.x1 1000)), .p (.int .i64 (Int.tmod a3_.x2 50)), .p (.int .i64 7), .p (.int .i64 (Int.tmod a3_.x1 1000)), .p (.int .i64 (Int.tmod a3_.x2 25))]), (50, .p (.int .i64 3))], [(7, [.p (.int .i64 a3_.x0), .p (.int .i64 a3_.x1), .p (.int .i64 a3_.x2)]), (10, [.p (.sl 2 false (List.map e_api_Entry r1.x2.Entries)), .p (.int .i64 r1.x2.Cycle)]), (12, [.p (.int .i64 7), .p (.int .i64 (Int.tmod a3_.x1 1000)), .p (.int .i64 (Int.tmod a3_.x2 25))])], []⟩) (APath.fin (by kernel_rfl)) (by kernel_rfl) ?_
                                              refine vc_seq ?_
                                              obtain ⟨r57, hr57, h⟩ := bind_some h
                                              refine vc_reg (S := ⟨[(7, .loc 7 0), (10, .loc 10 0), (12, .loc 12 0), (13, .p (.int .i64 r57.1)), (14, .p (.int .i64 r57.2)), (20, .agg [.p (.sl 2 false (List.map e_api_Entry r1.x0.Entries)), .p (.int .i64 r1.x0.Cycle), .p (.sl 2 false (List.map e_api_Entry r1.x1.Entries)), .p (.int .i64 r1.x1.Cycle), .p (.sl 2 false (List.map e_api_Entry r1.x2.Entries)), .p (.int .i64 r1.x2.Cycle)]), (21, .p (.int .i64 2)), (49, .agg [.p (.int .i64 a3_.x0), .p (.int .i64 a3_.x1), .p (.int .i64 a3_.x2), .p (.int .i64 (Int.tmod a3_.x0 8)), .p (.int .i64 (Int.tmod a3_.x1 1000)), .p (.int .i64 (Int.tmod a3_.x2 50)), .p (.int .i64 6), .p (.int .i64 (Int.tmod a3_.x1 1000)), .p (.int .i64 (Int.tmod a3_.x2 50)), .p (.int .i64 7), .p (.int .i64 (Int.tmod a3_.x1 1000)), .p (.int .i64 (Int.tmod a3_.x2 25))]), (50, .p (.int .i64 3))], [(7, [.p (.int .i64 a3_.x0), .p (.int .i64 a3_.x1), .p (.int .i64 a3_.x2)]), (10, [.p (.sl 2 false (List.map e_api_Entry r1.x2.Entries)), .p (.int .i64 r1.x2.Cycle)]), (12, [.p (.int .i64 7), .p (.int .i64 (Int.tmod a3_.x1 1000)), .p (.int .i64 (Int.tmod a3_.x2 25))])], []⟩) (APath.chunk 7 (by kernel_rfl) (APath.one (.call (some 61) 22 [.t 54, .t 56, .t 58, .t 60]) (by kernel_rfl) (st_call (by kernel_rfl) (gates_Fit_ok N r1.x2 7 (Int.tmod a3_.x1 1000) (Int.tmod a3_.x2 25) r57 hr57)) (APath.fin (by kernel_rfl)))) (by kernel_rfl) ?_
                                              refine vc_seq ?_
                                              obtain ⟨r58, hr58, h⟩ := bind_some h
                                              refine vc_reg (S := ⟨[(7, .loc 7 0), (10, .loc 10 0), (13, .p (.int .i64 r57.1)), (14, .p (.int .i64 r57.2)), (15, .p (.int .i64 r58.1)), (16, .p (.int .i64 r58.2)), (20, .agg [.p (.sl 2 false (List.map e_api_Entry r1.x0.Entries)), .p (.int .i64 r1.x0.Cycle), .p (.sl 2 false (List.map e_api_Entry r1.x1.Entries)), .p (.int .i64 r1.x1.Cycle), .p (.sl 2 false (List.map e_api_Entry r1.x2.Entries)), .p (.int .i64 r1.x2.Cycle)]), (21, .p (.int .i64 2)), (49, .agg [.p (.int .i64 a3_.x0), .p (.int .i64 a3_.x1), .p (.int .i64 a3_.x2), .p (.int .i64 (Int.tmod a3_.x0 8)), .p (.int .i64 (Int.tmod a3_.x1 1000)), .p (.int .i64 (Int.tmod a3_.x2 50)), .p (.int .i64 6), .p (.int .i64 (Int.tmod a3_.x1 1000)), .p (.int .i64 (Int.tmod a3_.x2 50)), .p (.int .i64 7), .p (.int .i64 (Int.tmod a3_.x1 1000)), .p (.int .i64 (Int.tmod a3_.x2 25))]), (50, .p (.int .i64 3))], [(7, [.p (.int .i64 a3_.x0), .p (.int .i64 a3_.x1), .p (.int .i64 a3_.x2)]), (10, [.p (.sl 2 false (List.map e_api_Entry r1.x2.Entries)), .p (.int .i64 r1.x2.Cycle)])], []⟩) (APath.chunk 7 (by kernel_rfl) (APath.one (.call (some 72) 23 [.t 65, .t 67, .t 69, .t 71]) (by kernel_rfl) (st_call (by kernel_rfl) (ref27_Fit_ok N r1.x2 7 (Int.tmod a3_.x1 1000) (Int.tmod a3_.x2 25) r58 hr58)) (APath.fin (by kernel_rfl)))) (by kernel_rfl) ?_
                                              refine vc_seq ?_
                                              refine vc_regX ⟨[(7, .loc 7 0), (10, .loc 10 0), (20, .agg [.p (.sl 2 false (List.map e_api_Entry r1.x0.Entries)), .p (.int .i64 r1.x0.Cycle), .p (.sl 2 false (List.map e_api_Entry r1.x1.Entries)), .p (.int .i64 r1.x1.Cycle), .p (.sl 2 false (List.map e_api_Entry r1.x2.Entries)), .p (.int .i64 r1.x2.Cycle)]), (21, .p (.int .i64 2)), (49, .agg [.p (.int .i64 a3_.x0), .p (.int .i64 a3_.x1), .p (.int .i64 a3_.x2), .p (.int .i64 (Int.tmod a3_.x0 8)), .p (.int .i64 (Int.tmod a3_.x1 1000)), .p (.int .i64 (Int.tmod a3_.x2 50)), .p (.int .i64 6), .p (.int .i64 (Int.tmod a3_.x1 1000)), .p (.int .i64 (Int.tmod a3_.x2 50)), .p (.int .i64 7), .p (.int .i64 (Int.tmod a3_.x1 1000)), .p (.int .i64 (Int.tmod a3_.x2 25))]), (50, .p (.int .i64 3)), (82, .p (.bool ((r57.1 != r58.1) || (r57.2 != r58.2))))], [(7, [.p (.int .i64 a3_.x0), .p (.int .i64 a3_.x1), .p (.int .i64 a3_.x2)]), (10, [.p (.sl 2 false (List.map e_api_Entry r1.x2.Entries)), .p (.int .i64 r1.x2.Cycle)])], []⟩ ?_ ?_
                                              · rcases Bool.eq_false_or_eq_true (r57.1 != r58.1) with hc59 | hc60
                                                · exact ⟨_, (APath.chunk 2 (by kernel_rfl) (APath.one (.val 77 (.bin .neq) [.t 75, .t 76]) (by kernel_rfl) (st_bool (c := (r57.1 != r58.1)) (by kernel_rfl) hc59) (APath.fin (by kernel_rfl)))), by simp only [hc59]; kernel_rfl⟩
                                                · exact ⟨_, (APath.chunk 2 (by kernel_rfl) (APath.one (.val 77 (.bin .neq) [.t 75, .t 76]) (by kernel_rfl) (st_bool (c := (r57.1 != r58.1)) (by kernel_rfl) hc60) (APath.fin (by kernel_rfl)))), by simp only [hc60]; kernel_rfl⟩
                                              · refine vc_ite (by kernel_rfl) h (fun hc61 h => ?_) (fun hc61 h => ?_)
                                                · refine vc_seq ?_
                                                  refine vc_reg (S := ⟨[(8, .p (.bool false))], [], []⟩) (APath.fin (by kernel_rfl)) (by kernel_rfl) ?_
                                                  refine vc_ret ?_
                                                  obtain rfl := some_inj h
                                                  exact ret_of (by kernel_rfl)
                                                · refine vc_skip ?_
                                                  refine vc_kp ?_
                                                  refine vc_reg (S := ⟨[(7, .loc 7 0), (10, .loc 10 0), (20, .agg [.p (.sl 2 false (List.map e_api_Entry r1.x0.Entries)), .p (.int .i64 r1.x0.Cycle), .p (.sl 2 false (List.map e_api_Entry r1.x1.Entries)), .p (.int .i64 r1.x1.Cycle), .p (.sl 2 false (List.map e_api_Entry r1.x2.Entries)), .p (.int .i64 r1.x2.Cycle)]), (21, .p (.int .i64 2)), (49, .agg [.p (.int .i64 a3_.x0), .p (.int .i64 a3_.x1), .p (.int .i64 a3_.x2), .p (.int .i64 (Int.tmod a3_.x0 8)), .p (.int .i64 (Int.tmod a3_.x1 1000)), .p (.int .i64 (Int.tmod a3_.x2 50)), .p (.int .i64 6), .p (.int .i64 (Int.tmod a3_.x1 1000)), .p (.int .i64 (Int.tmod a3_.x2 50)), .p (.int .i64 7), .p (.int .i64 (Int.tmod a3_.x1 1000)), .p (.int .i64 (Int.tmod a3_.x2 25))]), (50, .p (.int .i64 4))], [(7, [.p (.int .i64 a3_.x0), .p (.int .i64 a3_.x1), .p (.int .i64 a3_.x2)]), (10, [.p (.sl 2 false (List.map e_api_Entry r1.x2.Entries)), .p (.int .i64 r1.x2.Cycle)])], []⟩) (APath.fin (by kernel_rfl)) (by kernel_rfl) ?_
                                                  refine unr_step ?_
                                                  refine vc_seq ?_
                                                  refine vc_reg (S := ⟨[(7, .loc 7 0), (10, .loc 10 0), (20, .agg [.p (.sl 2 false (List.map e_api_Entry r1.x0.Entries)), .p (.int .i64 r1.x0.Cycle), .p (.sl 2 false (List.map e_api_Entry r1.x1.Entries)), .p (.int .i64 r1.x1.Cycle), .p (.sl 2 false (List.map e_api_Entry r1.x2.Entries)), .p (.int .i64 r1.x2.Cycle)]), (21, .p (.int .i64 2)), (49, .agg [.p (.int .i64 a3_.x0), .p (.int .i64 a3_.x1), .p (.int .i64 a3_.x2), .p (.int .i64 (Int.tmod a3_.x0 8)), .p (.int .i64 (Int.tmod a3_.x1 1000)), .p (.int .i64 (Int.tmod a3_.x2 50)), .p (.int .i64 6), .p (.int .i64 (Int.tmod a3_.x1 1000)), .p (.int .i64 (Int.tmod a3_.x2 50)), .p (.int .i64 7), .p (.int .i64 (Int.tmod a3_.x1 1000)), .p (.int .i64 (Int.tmod a3_.x2 25))]), (50, .p (.int .i64 4)), (51, .p (.bool false))], [(7, [.p (.int .i64 a3_.x0), .p (.int .i64 a3_.x1), .p (.int .i64 a3_.x2)]), (10, [.p (.sl 2 false (List.map e_api_Entry r1.x2.Entries)), .p (.int .i64 r1.x2.Cycle)])], []⟩) (APath.fin (by kernel_rfl)) (by kernel_rfl) ?_
                                                  refine vc_seq ?_
                                                  refine vc_false (by kernel_rfl) ?_
                                                  refine vc_exit ?_
                                                  try show vc _ _ _ _ _
                                                  refine vc_reg (S := ⟨[(7, .loc 7 0), (20, .agg [.p (.sl 2 false (List.map e_api_Entry r1.x0.Entries)), .p (.int .i64 r1.x0.Cycle), .p (.sl 2 false (List.map e_api_Entry r1.x1.Entries)), .p (.int .i64 r1.x1.Cycle), .p (.sl 2 false (List.map e_api_Entry r1.x2.Entries)), .p (.int .i64 r1.x2.Cycle)]), (21, .p (.int .i64 3))], [(7, [.p (.int .i64 a3_.x0), .p (.int .i64 a3_.x1), .p (.int .i64 a3_.x2)])], []⟩) (APath.fin (by kernel_rfl)) (by kernel_rfl) ?_
                                                  refine unr_step ?_
                                                  refine vc_seq ?_
                                                  refine vc_reg (S := ⟨[(7, .loc 7 0), (20, .agg [.p (.sl 2 false (List.map e_api_Entry r1.x0.Entries)), .p (.int .i64 r1.x0.Cycle), .p (.sl 2 false (List.map e_api_Entry r1.x1.Entries)), .p (.int .i64 r1.x1.Cycle), .p (.sl 2 false (List.map e_api_Entry r1.x2.Entries)), .p (.int .i64 r1.x2.Cycle)]), (21, .p (.int .i64 3)), (22, .p (.bool false))], [(7, [.p (.int .i64 a3_.x0), .p (.int .i64 a3_.x1), .p (.int .i64 a3_.x2)])], []⟩) (APath.fin (by kernel_rfl)) (by kernel_rfl) ?_
                                                  refine vc_seq ?_
                                                  refine vc_false (by kernel_rfl) ?_
                                                  refine vc_exit ?_
                                                  try show vc _ _ _ _ _
                                                  refine vc_seq ?_
                                                  obtain ⟨r62, hr62, h⟩ := bind_some h
                                                  refine vc_reg (S := ⟨[(8, .p (.bool r62))], [], []⟩) (APath.one (.call (some 85) 17 []) (by kernel_rfl) (st_call (by kernel_rfl) (law27_works_ok N  r62 hr62)) (APath.fin (by kernel_rfl))) (by kernel_rfl) ?_
                                                  refine vc_ret ?_
                                                  obtain rfl := some_inj h
                                                  exact ret_of (by kernel_rfl)
/- isochronlaw27.GatesMeans -/
theorem law27_GatesMeans_ok (N : Nat) (a0_ : ref27_Draft) (a1_ : Int) (a2_ : Int) (a3_ : Int) (r : Bool) (h : law27_GatesMeans N a0_ a1_ a2_ a3_ = some r) : PCall Try.prog 6 [.agg [.p (.sl 1 false (List.map (eI .u8) a0_.Masks)), .p (.sl 1 false (List.map (eI .u8) a0_.Longs))], .p (.int .u8 a1_), .p (.int .i16 a2_), .p (.int .u8 a3_)] (.p (.bool r)) := by
  unfold law27_GatesMeans at h
  have hH : HP ([] : List HO) [] := trivial
  refine pcall_of chk6 rfl rfl (vc_sound _ _ _ ?_) rfl
  refine vc_seq ?_
  refine vc_reg (S := ⟨[(1, .p (.int .u8 a1_)), (2, .p (.int .i16 a2_)), (3, .p (.int .u8 a3_)), (4, .loc 4 0)], [(4, [.p (.sl 1 false (List.map (eI .u8) a0_.Masks)), .p (.sl 1 false (List.map (eI .u8) a0_.Longs))])], []⟩) (APath.fin (by kernel_rfl)) (by kernel_rfl) ?_
  refine vc_seq ?_
  refine vc_seq ?_
  obtain ⟨r1, hr1, h⟩ := bind_some h
  refine vc_reg (S := ⟨[(1, .p (.int .u8 a1_)), (2, .p (.int .i16 a2_)), (3, .p (.int .u8 a3_)), (4, .loc 4 0), (17, .p (.bool (!r1)))], [(4, [.p (.sl 1 false (List.map (eI .u8) a0_.Masks)), .p (.sl 1 false (List.map (eI .u8) a0_.Longs))])], []⟩) (APath.one (.call (some 16) 17 []) (by kernel_rfl) (st_call (by kernel_rfl) (law27_works_ok N  r1 hr1)) (APath.fin (by kernel_rfl))) (by kernel_rfl) ?_
  refine vc_ite (by kernel_rfl) h (fun hc2 h => ?_) (fun hc2 h => ?_)
  · refine vc_seq ?_
    refine vc_reg (S := ⟨[(8, .p (.bool false))], [], []⟩) (APath.fin (by kernel_rfl)) (by kernel_rfl) ?_
    refine vc_ret ?_
    obtain rfl := some_inj h
    exact ret_of (by kernel_rfl)
  · refine vc_skip ?_
    refine vc_kp ?_
    refine vc_seq ?_
    obtain ⟨r3, hr3, h⟩ := bind_some h
    refine vc_reg (S := ⟨[(1, .p (.int .u8 a1_)), (2, .p (.int .i16 a2_)), (3, .p (.int .u8 a3_)), (9, .loc 9 0)], [(9, [.p (.sl 2 false (List.map e_api_Entry r3.Entries)), .p (.int .i64 r3.Cycle)])], []⟩) (APath.chunk 1 (by kernel_rfl) (APath.one (.call (some 19) 24 [.t 18]) (by kernel_rfl) (st_call (by kernel_rfl) (ref27_Draft_Gates_ok N a0_ r3 hr3)) (APath.fin (by kernel_rfl)))) (by kernel_rfl) ?_
    refine vc_seq ?_
    refine vc_reg (S := ⟨[(3, .p (.int .u8 a3_)), (9, .loc 9 0), (10, .p (.int .i64 (w64 ((Int.tmod a1_ 8))))), (11, .p (.int .i64 (w64 (a2_))))], [(9, [.p (.sl 2 false (List.map e_api_Entry r3.Entries)), .p (.int .i64 r3.Cycle)])], []⟩) (APath.fin (by kernel_rfl)) (by kernel_rfl) ?_
    refine vc_seq ?_
    refine vc_reg (S := ⟨[(3, .p (.int .u8 a3_)), (9, .loc 9 0), (10, .p (.int .i64 (w64 ((Int.tmod a1_ 8))))), (11, .p (.int .i64 (w64 (a2_)))), (12, .p (.int .i64 0)), (13, .p (.bool true))], [(9, [.p (.sl 2 false (List.map e_api_Entry r3.Entries)), .p (.int .i64 r3.Cycle)])], []⟩) (APath.fin (by kernel_rfl)) (by kernel_rfl) ?_
    refine vc_seq ?_
    refine vc_block ?_
    obtain ⟨o512, ho512, h⟩ := bind_some h
    refine vc_loop ((loop_sim (fun (x : Int × Bool) s => s = ⟨[(3, .p (.int .u8 a3_)), (9, .loc 9 0), (10, .p (.int .i64 (w64 ((Int.tmod a1_ 8))))), (11, .p (.int .i64 (w64 (a2_)))), (12, .p (.int .i64 x.1)), (13, .p (.bool x.2))], [(9, [.p (.sl 2 false (List.map e_api_Entry r3.Entries)), .p (.int .i64 r3.Cycle)])], []⟩) (fun x : Int × Bool => law27_GatesMeans_L1 N a1_ a2_ r3 x.1 x.2) (fun (p : Int × Bool) e s => e = .exit 0 ∧ (s = ⟨[(3, .p (.int .u8 a3_)), (9, .loc 9 0), (10, .p (.int .i64 (w64 ((Int.tmod a1_ 8))))), (11, .p (.int .i64 (w64 (a2_)))), (12, .p (.int .i64 p.1)), (13, .p (.bool p.2))], [(9, [.p (.sl 2 false (List.map e_api_Entry r3.Entries)), .p (.int .i64 r3.Cycle)])], []⟩)) ?_ N _ o512 _ ho512 (by show _ = _; kernel_rfl)).mono ?_)
    · clear h ho512
      rintro ⟨i4, b5⟩ o s h hR
      obtain rfl := hR
      replace h : law27_GatesMeans_L1 N a1_ a2_ r3 i4 b5 = some o := h
      unfold law27_GatesMeans_L1 at h
      refine vc_seq ?_
      refine vc_seq ?_
      refine vc_regX ⟨[(3, .p (.int .u8 a3_)), (9, .loc 9 0), (10, .p (.int .i64 (w64 ((Int.tmod a1_ 8))))), (11, .p (.int .i64 (w64 (a2_)))), (12, .p (.int .i64 i4)), (13, .p (.bool b5)), (31, .p (.bool ((decide (i4 < r3.Cycle)) && b5)))], [(9, [.p (.sl 2 false (List.map e_api_Entry r3.Entries)), .p (.int .i64 r3.Cycle)])], []⟩ ?_ ?_
      · rcases Bool.eq_false_or_eq_true (decide (i4 < r3.Cycle)) with hc506 | hc507
        · exact ⟨_, (APath.chunk 3 (by kernel_rfl) (APath.one (.val 28 (.bin .lss) [.t 25, .t 27]) (by kernel_rfl) (st_bool (c := (decide (i4 < r3.Cycle))) (by kernel_rfl) hc506) (APath.fin (by kernel_rfl)))), by simp only [hc506]; kernel_rfl⟩
        · exact ⟨_, (APath.chunk 3 (by kernel_rfl) (APath.one (.val 28 (.bin .lss) [.t 25, .t 27]) (by kernel_rfl) (st_bool (c := (decide (i4 < r3.Cycle))) (by kernel_rfl) hc507) (APath.fin (by kernel_rfl)))), by simp only [hc507]; kernel_rfl⟩
      · refine vc_ite (by kernel_rfl) h (fun hc508 h => ?_) (fun hc508 h => ?_)
        · refine vc_skip ?_
          refine vc_kp ?_
          refine vc_block ?_
          refine vc_seq ?_
          obtain ⟨r509, hr509, h⟩ := bind_some h
          obtain ⟨sh510, hsh510, h⟩ := bind_some h
          refine vc_reg (S := ⟨[(3, .p (.int .u8 a3_)), (9, .loc 9 0), (10, .p (.int .i64 (w64 ((Int.tmod a1_ 8))))), (11, .p (.int .i64 (w64 (a2_)))), (12, .p (.int .i64 i4)), (13, .p (.bool ((andI .i64 sh510 1) == 1)))], [(9, [.p (.sl 2 false (List.map e_api_Entry r3.Entries)), .p (.int .i64 r3.Cycle)])], []⟩) (APath.chunk 4 (by kernel_rfl) (APath.one (.call (some 36) 25 [.t 32, .t 35]) (by kernel_rfl) (st_call (by kernel_rfl) (law27_mask_ok N r3 (w64 ((w64 (a2_)) + i4)) r509 hr509)) (APath.chunk 2 (by kernel_rfl) (APath.one (.val 39 (.sh .shr) [.t 36, .t 38]) (by kernel_rfl) (st_val (ys := [.p (.int .i64 r509), .p (.int .u64 (IntKind.u64.wrap ((w64 ((Int.tmod a1_ 8))))))]) (by kernel_rfl) (vexec_shr hsh510)) (APath.fin (by kernel_rfl)))))) (by kernel_rfl) ?_
          refine vc_seq ?_
          refine vc_reg (S := ⟨[(3, .p (.int .u8 a3_)), (9, .loc 9 0), (10, .p (.int .i64 (w64 ((Int.tmod a1_ 8))))), (11, .p (.int .i64 (w64 (a2_)))), (12, .p (.int .i64 i4)), (13, .p (.bool ((andI .i64 sh510 1) == 1))), (42, .p (.bool ((andI .i64 sh510 1) == 1)))], [(9, [.p (.sl 2 false (List.map e_api_Entry r3.Entries)), .p (.int .i64 r3.Cycle)])], []⟩) (APath.fin (by kernel_rfl)) (by kernel_rfl) ?_
          refine vc_ite (by kernel_rfl) h (fun hc511 h => ?_) (fun hc511 h => ?_)
          · refine vc_reg (S := ⟨[(3, .p (.int .u8 a3_)), (9, .loc 9 0), (10, .p (.int .i64 (w64 ((Int.tmod a1_ 8))))), (11, .p (.int .i64 (w64 (a2_)))), (12, .p (.int .i64 (w64 (i4 + 1)))), (13, .p (.bool ((andI .i64 sh510 1) == 1)))], [(9, [.p (.sl 2 false (List.map e_api_Entry r3.Entries)), .p (.int .i64 r3.Cycle)])], []⟩) (APath.fin (by kernel_rfl)) (by kernel_rfl) ?_
            obtain rfl := some_inj h
            exact ⟨_, rfl, (by show _ = _; kernel_rfl)⟩
          · refine vc_skip ?_
            obtain rfl := some_inj h
            exact ⟨_, rfl, (by show _ = _; kernel_rfl)⟩
        · refine vc_exit ?_
          try show vc _ _ _ _ _
          obtain rfl := some_inj h
          exact ⟨_, rfl, rfl, (by show _ = _; kernel_rfl)⟩
    · rintro e s hq
      obtain ⟨rfl, hR⟩ := hq
      obtain rfl := hR
      try show vc _ _ _ _ _
      refine vc_seq ?_
      refine vc_reg (S := ⟨[(3, .p (.int .u8 a3_)), (9, .loc 9 0), (10, .p (.int .i64 (w64 ((Int.tmod a1_ 8))))), (11, .p (.int .i64 (w64 (a2_)))), (12, .p (.int .i64 o512.1)), (13, .p (.bool o512.2)), (14, .p (.int .i64 o512.1))], [(9, [.p (.sl 2 false (List.map e_api_Entry r3.Entries)), .p (.int .i64 r3.Cycle)])], []⟩) (APath.fin (by kernel_rfl)) (by kernel_rfl) ?_
      obtain ⟨j1013, hj1013, h⟩ := bind_some h
      refine vc_joinK [3, 9, 10, 11, 12, 13, 14] (fun s => s = ⟨[(3, .p (.int .u8 a3_)), (9, .loc 9 0), (10, .p (.int .i64 (w64 ((Int.tmod a1_ 8))))), (11, .p (.int .i64 (w64 (a2_)))), (12, .p (.int .i64 o512.1)), (13, .p (.bool o512.2)), (14, .p (.int .i64 j1013))], [(9, [.p (.sl 2 false (List.map e_api_Entry r3.Entries)), .p (.int .i64 r3.Cycle)])], []⟩) ?_ ?_
      · clear h
        have h := hj1013
        refine vc_seq ?_
        refine vc_reg (S := ⟨[(3, .p (.int .u8 a3_)), (9, .loc 9 0), (10, .p (.int .i64 (w64 ((Int.tmod a1_ 8))))), (11, .p (.int .i64 (w64 (a2_)))), (12, .p (.int .i64 o512.1)), (13, .p (.bool o512.2)), (14, .p (.int .i64 o512.1)), (46, .p (.bool o512.2))], [(9, [.p (.sl 2 false (List.map e_api_Entry r3.Entries)), .p (.int .i64 r3.Cycle)])], []⟩) (APath.fin (by kernel_rfl)) (by kernel_rfl) ?_
        refine vc_ite (by kernel_rfl) h (fun hc1014 h => ?_) (fun hc1014 h => ?_)
        · refine vc_reg (S := ⟨[(3, .p (.int .u8 a3_)), (9, .loc 9 0), (10, .p (.int .i64 (w64 ((Int.tmod a1_ 8))))), (11, .p (.int .i64 (w64 (a2_)))), (12, .p (.int .i64 o512.1)), (13, .p (.bool o512.2)), (14, .p (.int .i64 1099511627776))], [(9, [.p (.sl 2 false (List.map e_api_Entry r3.Entries)), .p (.int .i64 r3.Cycle)])], []⟩) (APath.fin (by kernel_rfl)) (by kernel_rfl) ?_
          obtain rfl := some_inj h
          exact ⟨rfl, (by show _ = _; kernel_rfl)⟩
        · refine vc_skip ?_
          obtain rfl := some_inj h
          exact ⟨rfl, (by show _ = _; kernel_rfl)⟩
      · clear hj1013
        rintro s hR
        obtain rfl := hR
        refine vc_seq ?_
        refine vc_seq ?_
        refine vc_reg (S := ⟨[(3, .p (.int .u8 a3_)), (9, .loc 9 0), (10, .p (.int .i64 (w64 ((Int.tmod a1_ 8))))), (11, .p (.int .i64 (w64 (a2_)))), (12, .p (.int .i64 o512.1)), (13, .p (.bool o512.2)), (14, .p (.int .i64 j1013)), (15, .p (.int .i64 0))], [(9, [.p (.sl 2 false (List.map e_api_Entry r3.Entries)), .p (.int .i64 r3.Cycle)])], []⟩) (APath.fin (by kernel_rfl)) (by kernel_rfl) ?_
        refine vc_block ?_
        obtain ⟨o1524, ho1524, h⟩ := bind_some h
        refine vc_loop ((loop_sim (fun (x : Int) s => s = ⟨[(3, .p (.int .u8 a3_)), (9, .loc 9 0), (10, .p (.int .i64 (w64 ((Int.tmod a1_ 8))))), (11, .p (.int .i64 (w64 (a2_)))), (12, .p (.int .i64 o512.1)), (13, .p (.bool o512.2)), (14, .p (.int .i64 j1013)), (15, .p (.int .i64 x))], [(9, [.p (.sl 2 false (List.map e_api_Entry r3.Entries)), .p (.int .i64 r3.Cycle)])], []⟩) (fun x : Int => law27_GatesMeans_L2 N a2_ r3 x) (fun (p : (Int) ⊕ (Bool)) e s => match p with | (.inl p) => e = .exit 2 ∧ (s = ⟨[(3, .p (.int .u8 a3_)), (9, .loc 9 0), (10, .p (.int .i64 (w64 ((Int.tmod a1_ 8))))), (11, .p (.int .i64 (w64 (a2_)))), (12, .p (.int .i64 o512.1)), (13, .p (.bool o512.2)), (14, .p (.int .i64 j1013)), (15, .p (.int .i64 p))], [(9, [.p (.sl 2 false (List.map e_api_Entry r3.Entries)), .p (.int .i64 r3.Cycle)])], []⟩) | (.inr p) => e = .ret ∧ ∃ xs, resL s i6.res = some xs ∧ tupOf xs = .p (.bool p)) ?_ N _ o1524 _ ho1524 (by show _ = _; kernel_rfl)).mono ?_)
        · clear h ho1524
          rintro i1015 o s h hR
          obtain rfl := hR
          replace h : law27_GatesMeans_L2 N a2_ r3 i1015 = some o := h
          unfold law27_GatesMeans_L2 at h
          refine vc_seq ?_
          refine vc_seq ?_
          refine vc_reg (S := ⟨[(3, .p (.int .u8 a3_)), (9, .loc 9 0), (10, .p (.int .i64 (w64 ((Int.tmod a1_ 8))))), (11, .p (.int .i64 (w64 (a2_)))), (12, .p (.int .i64 o512.1)), (13, .p (.bool o512.2)), (14, .p (.int .i64 j1013)), (15, .p (.int .i64 i1015)), (50, .p (.bool (decide (i1015 < r3.Cycle))))], [(9, [.p (.sl 2 false (List.map e_api_Entry r3.Entries)), .p (.int .i64 r3.Cycle)])], []⟩) (APath.fin (by kernel_rfl)) (by kernel_rfl) ?_
          refine vc_ite (by kernel_rfl) h (fun hc1516 h => ?_) (fun hc1516 h => ?_)
          · refine vc_skip ?_
            refine vc_kp ?_
            refine vc_seq ?_
            refine vc_block ?_
            refine vc_seq ?_
            obtain ⟨j1522, hj, h⟩ := bind_some h
            refine vc_regDXR (fun s => s = ⟨[(3, .p (.int .u8 a3_)), (9, .loc 9 0), (10, .p (.int .i64 (w64 ((Int.tmod a1_ 8))))), (11, .p (.int .i64 (w64 (a2_)))), (12, .p (.int .i64 o512.1)), (13, .p (.bool o512.2)), (14, .p (.int .i64 j1013)), (15, .p (.int .i64 i1015)), (74, .p (.bool j1522))], [(9, [.p (.sl 2 false (List.map e_api_Entry r3.Entries)), .p (.int .i64 r3.Cycle)])], []⟩) (by kernel_rfl) ?_ ?_
            · clear h
              obtain ⟨r1517, hr1517, hj⟩ := bind_some hj
              obtain ⟨r1518, hr1518, hj⟩ := bind_some hj
              rcases ite_some hj with ⟨hc1519, hj⟩ | ⟨hc1520, hj⟩
              · obtain rfl := some_inj hj
                exact ⟨_, (APath.chunk 4 (by kernel_rfl) (APath.one (.callP 57 25 [.t 53, .t 56]) (by kernel_rfl) (st_callP (by kernel_rfl) (law27_mask_ok N r3 (w64 ((w64 (a2_)) + i1015)) r1517 hr1517)) (APath.chunk 7 (by kernel_rfl) (APath.one (.callP 65 25 [.t 58, .t 64]) (by kernel_rfl) (st_callP (by kernel_rfl) (law27_mask_ok N r3 (w64 ((w64 ((w64 (a2_)) + i1015)) + r3.Cycle)) r1518 hr1518)) (APath.one (.val 66 (.bin .neq) [.t 57, .t 65]) (by kernel_rfl) (st_bool (c := (r1517 != r1518)) (by kernel_rfl) hc1519) (APath.fin (by kernel_rfl))))))), (by show _ = _; kernel_rfl)⟩
              · obtain ⟨r1521, hr1521, hj⟩ := bind_some hj
                obtain rfl := some_inj hj
                exact ⟨_, (APath.chunk 4 (by kernel_rfl) (APath.one (.callP 57 25 [.t 53, .t 56]) (by kernel_rfl) (st_callP (by kernel_rfl) (law27_mask_ok N r3 (w64 ((w64 (a2_)) + i1015)) r1517 hr1517)) (APath.chunk 7 (by kernel_rfl) (APath.one (.callP 65 25 [.t 58, .t 64]) (by kernel_rfl) (st_callP (by kernel_rfl) (law27_mask_ok N r3 (w64 ((w64 ((w64 (a2_)) + i1015)) + r3.Cycle)) r1518 hr1518)) (APath.one (.val 66 (.bin .neq) [.t 57, .t 65]) (by kernel_rfl) (st_bool (c := (r1517 != r1518)) (by kernel_rfl) hc1520) (APath.chunk 5 (by kernel_rfl) (APath.oneG (.callP 72 25 [.t 68, .t 71]) 67 false (by kernel_rfl) (by kernel_rfl) (st_callP (by kernel_rfl) (law27_mask_ok N r3 (w64 ((w64 (a2_)) + i1015)) r1521 hr1521)) (APath.fin (by kernel_rfl))))))))), (by show _ = _; kernel_rfl)⟩
            · clear hj
              rintro s hR
              obtain rfl := hR
              refine vc_ite (by kernel_rfl) h (fun hc1523 h => ?_) (fun hc1523 h => ?_)
              · refine vc_seq ?_
                refine vc_reg (S := ⟨[(8, .p (.bool false))], [], []⟩) (APath.fin (by kernel_rfl)) (by kernel_rfl) ?_
                refine vc_ret ?_
                obtain rfl := some_inj h
                exact ⟨_, rfl, rfl, ret_of (by kernel_rfl)⟩
              · refine vc_skip ?_
                refine vc_kp ?_
                refine vc_reg (S := ⟨[(3, .p (.int .u8 a3_)), (9, .loc 9 0), (10, .p (.int .i64 (w64 ((Int.tmod a1_ 8))))), (11, .p (.int .i64 (w64 (a2_)))), (12, .p (.int .i64 o512.1)), (13, .p (.bool o512.2)), (14, .p (.int .i64 j1013)), (15, .p (.int .i64 (w64 (i1015 + 1))))], [(9, [.p (.sl 2 false (List.map e_api_Entry r3.Entries)), .p (.int .i64 r3.Cycle)])], []⟩) (APath.fin (by kernel_rfl)) (by kernel_rfl) ?_
                obtain rfl := some_inj h
                exact ⟨_, rfl, (by show _ = _; kernel_rfl)⟩
          · refine vc_exit ?_
            try show vc _ _ _ _ _
            obtain rfl := some_inj h
            exact ⟨_, rfl, rfl, (by show _ = _; kernel_rfl)⟩
        · rintro e s hq
          rcases o1524 with p1525 | p1539
          · dsimp only at h hq
            obtain ⟨rfl, hR⟩ := hq
            obtain rfl := hR
            try show vc _ _ _ _ _
            refine vc_seq ?_
            obtain ⟨j1538, hj, h⟩ := bind_some h
            refine vc_regXR (fun s => s = ⟨[(8, .p (.bool j1538))], [], []⟩) ?_ ?_
            · clear h
              obtain ⟨r1526, hr1526, hj⟩ := bind_some hj
              rcases ite_some hj with ⟨hc1527, hj⟩ | ⟨hc1537, hj⟩
              · obtain ⟨r1528, hr1528, hj⟩ := bind_some hj
                rcases ite_some hj with ⟨hc1529, hj⟩ | ⟨hc1533, hj⟩
                · rcases ite_some hj with ⟨hc1530, hj⟩ | ⟨hc1532, hj⟩
                  · obtain ⟨r1531, hr1531, hj⟩ := bind_some hj
                    obtain rfl := some_inj hj
                    exact ⟨_, (APath.chunk 3 (by kernel_rfl) (APath.one (.call (some 78) 26 [.t 75, .t 76, .t 77]) (by kernel_rfl) (st_call (by kernel_rfl) (law27_open_ok N r3 (w64 ((Int.tmod a1_ 8))) (w64 (a2_)) r1526 hr1526)) (APath.chunk 1 (by kernel_rfl) (APath.one (.val 80 (.bin .eql) [.t 78, .t 79]) (by kernel_rfl) (st_bool (c := (r1526 == j1013)) (by kernel_rfl) hc1527) (APath.chunk 6 (by kernel_rfl) (APath.oneG (.call (some 87) 27 [.t 82, .t 83, .t 84, .t 86]) 81 true (by kernel_rfl) (by kernel_rfl) (st_call (by kernel_rfl) (law27_fits_ok N r3 (w64 ((Int.tmod a1_ 8))) (w64 (a2_)) (w64 (a3_)) r1528 hr1528)) (APath.oneG (.val 88 .mov [.t 13]) 81 true (by kernel_rfl) (by kernel_rfl) (st_bool (c := o512.2) (by kernel_rfl) hc1529) (APath.chunk 6 (by kernel_rfl) (APath.oneG (.val 95 (.eqB false) [.t 87, .t 94]) 81 true (by kernel_rfl) (by kernel_rfl) (st_bool (c := (r1528 == true)) (by kernel_rfl) hc1530) (APath.chunk 9 (by kernel_rfl) (APath.oneG (.call (some 105) 26 [.t 98, .t 99, .t 104]) 97 true (by kernel_rfl) (by kernel_rfl) (st_call (by kernel_rfl) (law27_open_ok N r3 (w64 ((Int.tmod a1_ 8))) (w64 ((w64 (a2_)) + (w64 (3 * r3.Cycle)))) r1531 hr1531)) (APath.fin (by kernel_rfl))))))))))))), (by show _ = _; kernel_rfl)⟩
                  · obtain rfl := some_inj hj
                    exact ⟨_, (APath.chunk 3 (by kernel_rfl) (APath.one (.call (some 78) 26 [.t 75, .t 76, .t 77]) (by kernel_rfl) (st_call (by kernel_rfl) (law27_open_ok N r3 (w64 ((Int.tmod a1_ 8))) (w64 (a2_)) r1526 hr1526)) (APath.chunk 1 (by kernel_rfl) (APath.one (.val 80 (.bin .eql) [.t 78, .t 79]) (by kernel_rfl) (st_bool (c := (r1526 == j1013)) (by kernel_rfl) hc1527) (APath.chunk 6 (by kernel_rfl) (APath.oneG (.call (some 87) 27 [.t 82, .t 83, .t 84, .t 86]) 81 true (by kernel_rfl) (by kernel_rfl) (st_call (by kernel_rfl) (law27_fits_ok N r3 (w64 ((Int.tmod a1_ 8))) (w64 (a2_)) (w64 (a3_)) r1528 hr1528)) (APath.oneG (.val 88 .mov [.t 13]) 81 true (by kernel_rfl) (by kernel_rfl) (st_bool (c := o512.2) (by kernel_rfl) hc1529) (APath.chunk 6 (by kernel_rfl) (APath.oneG (.val 95 (.eqB false) [.t 87, .t 94]) 81 true (by kernel_rfl) (by kernel_rfl) (st_bool (c := (r1528 == true)) (by kernel_rfl) hc1532) (APath.fin (by kernel_rfl))))))))))), (by show _ = _; kernel_rfl)⟩
                · rcases ite_some hj with ⟨hc1534, hj⟩ | ⟨hc1536, hj⟩
                  · obtain ⟨r1535, hr1535, hj⟩ := bind_some hj
                    obtain rfl := some_inj hj
                    exact ⟨_, (APath.chunk 3 (by kernel_rfl) (APath.one (.call (some 78) 26 [.t 75, .t 76, .t 77]) (by kernel_rfl) (st_call (by kernel_rfl) (law27_open_ok N r3 (w64 ((Int.tmod a1_ 8))) (w64 (a2_)) r1526 hr1526)) (APath.chunk 1 (by kernel_rfl) (APath.one (.val 80 (.bin .eql) [.t 78, .t 79]) (by kernel_rfl) (st_bool (c := (r1526 == j1013)) (by kernel_rfl) hc1527) (APath.chunk 6 (by kernel_rfl) (APath.oneG (.call (some 87) 27 [.t 82, .t 83, .t 84, .t 86]) 81 true (by kernel_rfl) (by kernel_rfl) (st_call (by kernel_rfl) (law27_fits_ok N r3 (w64 ((Int.tmod a1_ 8))) (w64 (a2_)) (w64 (a3_)) r1528 hr1528)) (APath.oneG (.val 88 .mov [.t 13]) 81 true (by kernel_rfl) (by kernel_rfl) (st_bool (c := o512.2) (by kernel_rfl) hc1533) (APath.chunk 6 (by kernel_rfl) (APath.oneG (.val 95 (.eqB false) [.t 87, .t 94]) 81 true (by kernel_rfl) (by kernel_rfl) (st_bool (c := (r1528 == (decide ((w64 (a3_)) ≤ o512.1)))) (by kernel_rfl) hc1534) (APath.chunk 9 (by kernel_rfl) (APath.oneG (.call (some 105) 26 [.t 98, .t 99, .t 104]) 97 true (by kernel_rfl) (by kernel_rfl) (st_call (by kernel_rfl) (law27_open_ok N r3 (w64 ((Int.tmod a1_ 8))) (w64 ((w64 (a2_)) + (w64 (3 * r3.Cycle)))) r1535 hr1535)) (APath.fin (by kernel_rfl))))))))))))), (by show _ = _; kernel_rfl)⟩
                  · obtain rfl := some_inj hj
                    exact ⟨_, (APath.chunk 3 (by kernel_rfl) (APath.one (.call (some 78) 26 [.t 75, .t 76, .t 77]) (by kernel_rfl) (st_call (by kernel_rfl) (law27_open_ok N r3 (w64 ((Int.tmod a1_ 8))) (w64 (a2_)) r1526 hr1526)) (APath.chunk 1 (by kernel_rfl) (APath.one (.val 80 (.bin .eql) [.t 78, .t 79]) (by kernel_rfl) (st_bool (c := (r1526 == j1013)) (by kernel_rfl) hc1527) (APath.chunk 6 (by kernel_rfl) (APath.oneG (.call (some 87) 27 [.t 82, .t 83, .t 84, .t 86]) 81 true (by kernel_rfl) (by kernel_rfl) (st_call (by kernel_rfl) (law27_fits_ok N r3 (w64 ((Int.tmod a1_ 8))) (w64 (a2_)) (w64 (a3_)) r1528 hr1528)) (APath.oneG (.val 88 .mov [.t 13]) 81 true (by kernel_rfl) (by kernel_rfl) (st_bool (c := o512.2) (by kernel_rfl) hc1533) (APath.chunk 6 (by kernel_rfl) (APath.oneG (.val 95 (.eqB false) [.t 87, .t 94]) 81 true (by kernel_rfl) (by kernel_rfl) (st_bool (c := (r1528 == (decide ((w64 (a3_)) ≤ o512.1)))) (by kernel_rfl) hc1536) (APath.fin (by kernel_rfl))))))))))), (by show _ = _; kernel_rfl)⟩
              · obtain rfl := some_inj hj
                exact ⟨_, (APath.chunk 3 (by kernel_rfl) (APath.one (.call (some 78) 26 [.t 75, .t 76, .t 77]) (by kernel_rfl) (st_call (by kernel_rfl) (law27_open_ok N r3 (w64 ((Int.tmod a1_ 8))) (w64 (a2_)) r1526 hr1526)) (APath.chunk 1 (by kernel_rfl) (APath.one (.val 80 (.bin .eql) [.t 78, .t 79]) (by kernel_rfl) (st_bool (c := (r1526 == j1013)) (by kernel_rfl) hc1537) (APath.fin (by kernel_rfl)))))), (by show _ = _; kernel_rfl)⟩
            · clear hj
              rintro s hR
              obtain rfl := hR
              refine vc_ret ?_
              obtain rfl := some_inj h
              exact ret_of (by kernel_rfl)
          · dsimp only at h hq
            obtain ⟨rfl, hq⟩ := hq
            obtain rfl := some_inj h
            exact hq
/- isochronlaw27.GatesLeast -/
theorem law27_GatesLeast_ok (N : Nat) (a0_ : ref27_Draft) (a1_ : Int) (a2_ : Int) (a3_ : Int) (r : Bool) (h : law27_GatesLeast N a0_ a1_ a2_ a3_ = some r) : PCall Try.prog 7 [.agg [.p (.sl 1 false (List.map (eI .u8) a0_.Masks)), .p (.sl 1 false (List.map (eI .u8) a0_.Longs))], .p (.int .u8 a1_), .p (.int .i16 a2_), .p (.int .u8 a3_)] (.p (.bool r)) := by
  unfold law27_GatesLeast at h
  have hH : HP ([] : List HO) [] := trivial
  refine pcall_of chk7 rfl rfl (vc_sound _ _ _ ?_) rfl
  refine vc_seq ?_
  refine vc_reg (S := ⟨[(1, .p (.int .u8 a1_)), (2, .p (.int .i16 a2_)), (3, .p (.int .u8 a3_)), (4, .loc 4 0)], [(4, [.p (.sl 1 false (List.map (eI .u8) a0_.Masks)), .p (.sl 1 false (List.map (eI .u8) a0_.Longs))])], []⟩) (APath.fin (by kernel_rfl)) (by kernel_rfl) ?_
  refine vc_seq ?_
  refine vc_seq ?_
  obtain ⟨r1, hr1, h⟩ := bind_some h
  refine vc_reg (S := ⟨[(1, .p (.int .u8 a1_)), (2, .p (.int .i16 a2_)), (3, .p (.int .u8 a3_)), (4, .loc 4 0), (20, .p (.bool (!r1)))], [(4, [.p (.sl 1 false (List.map (eI .u8) a0_.Masks)), .p (.sl 1 false (List.map (eI .u8) a0_.Longs))])], []⟩) (APath.one (.call (some 19) 17 []) (by kernel_rfl) (st_call (by kernel_rfl) (law27_works_ok N  r1 hr1)) (APath.fin (by kernel_rfl))) (by kernel_rfl) ?_
  refine vc_ite (by kernel_rfl) h (fun hc2 h => ?_) (fun hc2 h => ?_)
  · refine vc_seq ?_
    refine vc_reg (S := ⟨[(8, .p (.bool false))], [], []⟩) (APath.fin (by kernel_rfl)) (by kernel_rfl) ?_
    refine vc_ret ?_
    obtain rfl := some_inj h
    exact ret_of (by kernel_rfl)
  · refine vc_skip ?_
    refine vc_kp ?_
    refine vc_seq ?_
    obtain ⟨r3, hr3, h⟩ := bind_some h
    refine vc_reg (S := ⟨[(1, .p (.int .u8 a1_)), (2, .p (.int .i16 a2_)), (3, .p (.int .u8 a3_)), (9, .loc 9 0)], [(9, [.p (.sl 2 false (List.map e_api_Entry r3.Entries)), .p (.int .i64 r3.Cycle)])], []⟩) (APath.chunk 1 (by kernel_rfl) (APath.one (.call (some 22) 24 [.t 21]) (by kernel_rfl) (st_call (by kernel_rfl) (ref27_Draft_Gates_ok N a0_ r3 hr3)) (APath.fin (by kernel_rfl)))) (by kernel_rfl) ?_
    refine vc_seq ?_
    refine vc_reg (S := ⟨[(9, .loc 9 0), (10, .p (.int .i64 (w64 ((Int.tmod a1_ 8))))), (11, .p (.int .i64 (w64 (a2_)))), (12, .p (.int .i64 (w64 ((Int.tmod a3_ 48)))))], [(9, [.p (.sl 2 false (List.map e_api_Entry r3.Entries)), .p (.int .i64 r3.Cycle)])], []⟩) (APath.fin (by kernel_rfl)) (by kernel_rfl) ?_
    refine vc_seq ?_
    obtain ⟨r4, hr4, h⟩ := bind_some h
    refine vc_reg (S := ⟨[(9, .loc 9 0), (10, .p (.int .i64 (w64 ((Int.tmod a1_ 8))))), (11, .p (.int .i64 (w64 (a2_)))), (12, .p (.int .i64 (w64 ((Int.tmod a3_ 48))))), (13, .p (.int .i64 r4.1)), (14, .p (.int .i64 r4.2))], [(9, [.p (.sl 2 false (List.map e_api_Entry r3.Entries)), .p (.int .i64 r3.Cycle)])], []⟩) (APath.chunk 4 (by kernel_rfl) (APath.one (.call (some 36) 22 [.t 32, .t 33, .t 34, .t 35]) (by kernel_rfl) (st_call (by kernel_rfl) (gates_Fit_ok N r3 (w64 ((Int.tmod a1_ 8))) (w64 (a2_)) (w64 ((Int.tmod a3_ 48))) r4 hr4)) (APath.fin (by kernel_rfl)))) (by kernel_rfl) ?_
    refine vc_seq ?_
    refine vc_reg (S := ⟨[(9, .loc 9 0), (10, .p (.int .i64 (w64 ((Int.tmod a1_ 8))))), (11, .p (.int .i64 (w64 (a2_)))), (12, .p (.int .i64 (w64 ((Int.tmod a3_ 48))))), (13, .p (.int .i64 r4.1)), (14, .p (.int .i64 r4.2)), (15, .p (.int .i64 r4.1))], [(9, [.p (.sl 2 false (List.map e_api_Entry r3.Entries)), .p (.int .i64 r3.Cycle)])], []⟩) (APath.fin (by kernel_rfl)) (by kernel_rfl) ?_
    refine vc_seq ?_
    refine vc_seq ?_
    refine vc_reg (S := ⟨[(9, .loc 9 0), (10, .p (.int .i64 (w64 ((Int.tmod a1_ 8))))), (11, .p (.int .i64 (w64 (a2_)))), (12, .p (.int .i64 (w64 ((Int.tmod a3_ 48))))), (13, .p (.int .i64 r4.1)), (14, .p (.int .i64 r4.2)), (15, .p (.int .i64 r4.1)), (41, .p (.bool (r4.2 == 4)))], [(9, [.p (.sl 2 false (List.map e_api_Entry r3.Entries)), .p (.int .i64 r3.Cycle)])], []⟩) (APath.fin (by kernel_rfl)) (by kernel_rfl) ?_
    refine vc_ite (by kernel_rfl) h (fun hc5 h => ?_) (fun hc5 h => ?_)
    · refine vc_reg (S := ⟨[(9, .loc 9 0), (10, .p (.int .i64 (w64 ((Int.tmod a1_ 8))))), (11, .p (.int .i64 (w64 (a2_)))), (12, .p (.int .i64 (w64 ((Int.tmod a3_ 48))))), (13, .p (.int .i64 r4.1)), (14, .p (.int .i64 r4.2)), (15, .p (.int .i64 (w64 ((w64 (a2_)) + (w64 (2 * r3.Cycle))))))], [(9, [.p (.sl 2 false (List.map e_api_Entry r3.Entries)), .p (.int .i64 r3.Cycle)])], []⟩) (APath.fin (by kernel_rfl)) (by kernel_rfl) ?_
      refine vc_kp ?_
      refine vc_seq ?_
      refine vc_seq ?_
      refine vc_reg (S := ⟨[(9, .loc 9 0), (10, .p (.int .i64 (w64 ((Int.tmod a1_ 8))))), (11, .p (.int .i64 (w64 (a2_)))), (12, .p (.int .i64 (w64 ((Int.tmod a3_ 48))))), (13, .p (.int .i64 r4.1)), (14, .p (.int .i64 r4.2)), (15, .p (.int .i64 (w64 ((w64 (a2_)) + (w64 (2 * r3.Cycle)))))), (16, .p (.int .i64 (w64 (a2_))))], [(9, [.p (.sl 2 false (List.map e_api_Entry r3.Entries)), .p (.int .i64 r3.Cycle)])], []⟩) (APath.fin (by kernel_rfl)) (by kernel_rfl) ?_
      refine vc_block ?_
      obtain ⟨o510, ho510, h⟩ := bind_some h
      refine vc_loop ((loop_sim (fun (x : Int) s => s = ⟨[(9, .loc 9 0), (10, .p (.int .i64 (w64 ((Int.tmod a1_ 8))))), (11, .p (.int .i64 (w64 (a2_)))), (12, .p (.int .i64 (w64 ((Int.tmod a3_ 48))))), (13, .p (.int .i64 r4.1)), (14, .p (.int .i64 r4.2)), (15, .p (.int .i64 (w64 ((w64 (a2_)) + (w64 (2 * r3.Cycle)))))), (16, .p (.int .i64 x))], [(9, [.p (.sl 2 false (List.map e_api_Entry r3.Entries)), .p (.int .i64 r3.Cycle)])], []⟩) (fun x : Int => law27_GatesLeast_L1 N a1_ a2_ a3_ r3 x) (fun (p : (Int) ⊕ (Bool)) e s => match p with | (.inl p) => e = .exit 0 ∧ (s = ⟨[(9, .loc 9 0), (10, .p (.int .i64 (w64 ((Int.tmod a1_ 8))))), (11, .p (.int .i64 (w64 (a2_)))), (12, .p (.int .i64 (w64 ((Int.tmod a3_ 48))))), (13, .p (.int .i64 r4.1)), (14, .p (.int .i64 r4.2)), (15, .p (.int .i64 (w64 ((w64 (a2_)) + (w64 (2 * r3.Cycle)))))), (16, .p (.int .i64 p))], [(9, [.p (.sl 2 false (List.map e_api_Entry r3.Entries)), .p (.int .i64 r3.Cycle)])], []⟩) | (.inr p) => e = .ret ∧ ∃ xs, resL s i7.res = some xs ∧ tupOf xs = .p (.bool p)) ?_ N _ o510 _ ho510 (by show _ = _; kernel_rfl)).mono ?_)
      · clear h ho510
        rintro i6 o s h hR
        obtain rfl := hR
        replace h : law27_GatesLeast_L1 N a1_ a2_ a3_ r3 i6 = some o := h
        unfold law27_GatesLeast_L1 at h
        refine vc_seq ?_
        refine vc_seq ?_
        refine vc_reg (S := ⟨[(9, .loc 9 0), (10, .p (.int .i64 (w64 ((Int.tmod a1_ 8))))), (11, .p (.int .i64 (w64 (a2_)))), (12, .p (.int .i64 (w64 ((Int.tmod a3_ 48))))), (13, .p (.int .i64 r4.1)), (14, .p (.int .i64 r4.2)), (15, .p (.int .i64 (w64 ((w64 (a2_)) + (w64 (2 * r3.Cycle)))))), (16, .p (.int .i64 i6)), (74, .p (.bool (decide (i6 < (w64 ((w64 (a2_)) + (w64 (2 * r3.Cycle))))))))], [(9, [.p (.sl 2 false (List.map e_api_Entry r3.Entries)), .p (.int .i64 r3.Cycle)])], []⟩) (APath.fin (by kernel_rfl)) (by kernel_rfl) ?_
        refine vc_ite (by kernel_rfl) h (fun hc507 h => ?_) (fun hc507 h => ?_)
        · refine vc_skip ?_
          refine vc_kp ?_
          refine vc_seq ?_
          refine vc_block ?_
          refine vc_seq ?_
          obtain ⟨r508, hr508, h⟩ := bind_some h
          refine vc_reg (S := ⟨[(9, .loc 9 0), (10, .p (.int .i64 (w64 ((Int.tmod a1_ 8))))), (11, .p (.int .i64 (w64 (a2_)))), (12, .p (.int .i64 (w64 ((Int.tmod a3_ 48))))), (13, .p (.int .i64 r4.1)), (14, .p (.int .i64 r4.2)), (15, .p (.int .i64 (w64 ((w64 (a2_)) + (w64 (2 * r3.Cycle)))))), (16, .p (.int .i64 i6)), (81, .p (.bool r508))], [(9, [.p (.sl 2 false (List.map e_api_Entry r3.Entries)), .p (.int .i64 r3.Cycle)])], []⟩) (APath.chunk 4 (by kernel_rfl) (APath.one (.call (some 81) 27 [.t 77, .t 78, .t 79, .t 80]) (by kernel_rfl) (st_call (by kernel_rfl) (law27_fits_ok N r3 (w64 ((Int.tmod a1_ 8))) i6 (w64 ((Int.tmod a3_ 48))) r508 hr508)) APath.done)) (by kernel_rfl) ?_
          refine vc_ite (by kernel_rfl) h (fun hc509 h => ?_) (fun hc509 h => ?_)
          · refine vc_seq ?_
            refine vc_reg (S := ⟨[(8, .p (.bool false))], [], []⟩) (APath.fin (by kernel_rfl)) (by kernel_rfl) ?_
            refine vc_ret ?_
            obtain rfl := some_inj h
            exact ⟨_, rfl, rfl, ret_of (by kernel_rfl)⟩
          · refine vc_skip ?_
            refine vc_kp ?_
            refine vc_reg (S := ⟨[(9, .loc 9 0), (10, .p (.int .i64 (w64 ((Int.tmod a1_ 8))))), (11, .p (.int .i64 (w64 (a2_)))), (12, .p (.int .i64 (w64 ((Int.tmod a3_ 48))))), (13, .p (.int .i64 r4.1)), (14, .p (.int .i64 r4.2)), (15, .p (.int .i64 (w64 ((w64 (a2_)) + (w64 (2 * r3.Cycle)))))), (16, .p (.int .i64 (w64 (i6 + 1))))], [(9, [.p (.sl 2 false (List.map e_api_Entry r3.Entries)), .p (.int .i64 r3.Cycle)])], []⟩) (APath.fin (by kernel_rfl)) (by kernel_rfl) ?_
            obtain rfl := some_inj h
            exact ⟨_, rfl, (by show _ = _; kernel_rfl)⟩
        · refine vc_exit ?_
          try show vc _ _ _ _ _
          obtain rfl := some_inj h
          exact ⟨_, rfl, rfl, (by show _ = _; kernel_rfl)⟩
      · rintro e s hq
        rcases o510 with p511 | p517
        · dsimp only at h hq
          obtain ⟨rfl, hR⟩ := hq
          obtain rfl := hR
          try show vc _ _ _ _ _
          refine vc_seq ?_
          obtain ⟨r512, hr512, h⟩ := bind_some h
          refine vc_reg (S := ⟨[(9, .loc 9 0), (13, .p (.int .i64 r4.1)), (14, .p (.int .i64 r4.2)), (17, .p (.int .i64 r512.1)), (18, .p (.int .i64 r512.2))], [(9, [.p (.sl 2 false (List.map e_api_Entry r3.Entries)), .p (.int .i64 r3.Cycle)])], []⟩) (APath.chunk 7 (by kernel_rfl) (APath.one (.call (some 90) 22 [.t 83, .t 84, .t 88, .t 89]) (by kernel_rfl) (st_call (by kernel_rfl) (gates_Fit_ok N r3 (w64 ((Int.tmod a1_ 8))) (w64 ((w64 (a2_)) + r3.Cycle)) (w64 ((Int.tmod a3_ 48))) r512 hr512)) (APath.fin (by kernel_rfl)))) (by kernel_rfl) ?_
          refine vc_seq ?_
          refine vc_regX ⟨[(8, .p (.bool ((r512.2 == r4.2) && ((r4.2 != 0) || (r512.1 == (w64 (r4.1 + r3.Cycle)))))))], [], []⟩ ?_ ?_
          · rcases Bool.eq_false_or_eq_true (r512.2 == r4.2) with hc513 | hc516
            · rcases Bool.eq_false_or_eq_true (r4.2 != 0) with hc514 | hc515
              · exact ⟨_, (APath.chunk 2 (by kernel_rfl) (APath.one (.val 95 (.bin .eql) [.t 93, .t 94]) (by kernel_rfl) (st_bool (c := (r512.2 == r4.2)) (by kernel_rfl) hc513) (APath.chunk 2 (by kernel_rfl) (APath.oneG (.val 98 (.bin .neq) [.t 97, .k (.p (.int .i64 0))]) 96 true (by kernel_rfl) (by kernel_rfl) (st_bool (c := (r4.2 != 0)) (by kernel_rfl) hc514) (APath.fin (by kernel_rfl)))))), by simp only [hc513, hc514]; kernel_rfl⟩
              · exact ⟨_, (APath.chunk 2 (by kernel_rfl) (APath.one (.val 95 (.bin .eql) [.t 93, .t 94]) (by kernel_rfl) (st_bool (c := (r512.2 == r4.2)) (by kernel_rfl) hc513) (APath.chunk 2 (by kernel_rfl) (APath.oneG (.val 98 (.bin .neq) [.t 97, .k (.p (.int .i64 0))]) 96 true (by kernel_rfl) (by kernel_rfl) (st_bool (c := (r4.2 != 0)) (by kernel_rfl) hc515) (APath.fin (by kernel_rfl)))))), by simp only [hc513, hc515]; kernel_rfl⟩
            · exact ⟨_, (APath.chunk 2 (by kernel_rfl) (APath.one (.val 95 (.bin .eql) [.t 93, .t 94]) (by kernel_rfl) (st_bool (c := (r512.2 == r4.2)) (by kernel_rfl) hc516) (APath.fin (by kernel_rfl)))), by simp only [hc516]; kernel_rfl⟩
          · refine vc_ret ?_
            obtain rfl := some_inj h
            exact ret_of (by kernel_rfl)
        · dsimp only at h hq
          obtain ⟨rfl, hq⟩ := hq
          obtain rfl := some_inj h
          exact hq
    · refine vc_seq ?_
      obtain ⟨j525, hj, h⟩ := bind_some h
      refine vc_regXR (fun s => s = ⟨[(9, .loc 9 0), (10, .p (.int .i64 (w64 ((Int.tmod a1_ 8))))), (11, .p (.int .i64 (w64 (a2_)))), (12, .p (.int .i64 (w64 ((Int.tmod a3_ 48))))), (13, .p (.int .i64 r4.1)), (14, .p (.int .i64 r4.2)), (15, .p (.int .i64 r4.1)), (70, .p (.bool j525))], [(9, [.p (.sl 2 false (List.map e_api_Entry r3.Entries)), .p (.int .i64 r3.Cycle)])], []⟩) ?_ ?_
      · clear h
        rcases ite_some hj with ⟨hc518, hj⟩ | ⟨hc519, hj⟩
        · obtain rfl := some_inj hj
          exact ⟨_, (APath.chunk 1 (by kernel_rfl) (APath.one (.val 48 (.bin .neq) [.t 47, .k (.p (.int .i64 0))]) (by kernel_rfl) (st_bool (c := (r4.2 != 0)) (by kernel_rfl) hc518) (APath.fin (by kernel_rfl)))), (by show _ = _; kernel_rfl)⟩
        · rcases ite_some hj with ⟨hc520, hj⟩ | ⟨hc521, hj⟩
          · obtain rfl := some_inj hj
            exact ⟨_, (APath.chunk 1 (by kernel_rfl) (APath.one (.val 48 (.bin .neq) [.t 47, .k (.p (.int .i64 0))]) (by kernel_rfl) (st_bool (c := (r4.2 != 0)) (by kernel_rfl) hc519) (APath.chunk 3 (by kernel_rfl) (APath.oneG (.val 52 (.bin .lss) [.t 50, .t 51]) 49 false (by kernel_rfl) (by kernel_rfl) (st_bool (c := (decide (r4.1 < (w64 (a2_))))) (by kernel_rfl) hc520) (APath.fin (by kernel_rfl)))))), (by show _ = _; kernel_rfl)⟩
          · rcases ite_some hj with ⟨hc522, hj⟩ | ⟨hc523, hj⟩
            · obtain rfl := some_inj hj
              exact ⟨_, (APath.chunk 1 (by kernel_rfl) (APath.one (.val 48 (.bin .neq) [.t 47, .k (.p (.int .i64 0))]) (by kernel_rfl) (st_bool (c := (r4.2 != 0)) (by kernel_rfl) hc519) (APath.chunk 3 (by kernel_rfl) (APath.oneG (.val 52 (.bin .lss) [.t 50, .t 51]) 49 false (by kernel_rfl) (by kernel_rfl) (st_bool (c := (decide (r4.1 < (w64 (a2_))))) (by kernel_rfl) hc521) (APath.chunk 8 (by kernel_rfl) (APath.oneG (.val 61 (.bin .geq) [.t 55, .t 60]) 54 false (by kernel_rfl) (by kernel_rfl) (st_bool (c := (decide (r4.1 ≥ (w64 ((w64 (a2_)) + (w64 (2 * r3.Cycle))))))) (by kernel_rfl) hc522) (APath.fin (by kernel_rfl)))))))), (by show _ = _; kernel_rfl)⟩
            · obtain ⟨r524, hr524, hj⟩ := bind_some hj
              obtain rfl := some_inj hj
              exact ⟨_, (APath.chunk 1 (by kernel_rfl) (APath.one (.val 48 (.bin .neq) [.t 47, .k (.p (.int .i64 0))]) (by kernel_rfl) (st_bool (c := (r4.2 != 0)) (by kernel_rfl) hc519) (APath.chunk 3 (by kernel_rfl) (APath.oneG (.val 52 (.bin .lss) [.t 50, .t 51]) 49 false (by kernel_rfl) (by kernel_rfl) (st_bool (c := (decide (r4.1 < (w64 (a2_))))) (by kernel_rfl) hc521) (APath.chunk 8 (by kernel_rfl) (APath.oneG (.val 61 (.bin .geq) [.t 55, .t 60]) 54 false (by kernel_rfl) (by kernel_rfl) (st_bool (c := (decide (r4.1 ≥ (w64 ((w64 (a2_)) + (w64 (2 * r3.Cycle))))))) (by kernel_rfl) hc523) (APath.chunk 6 (by kernel_rfl) (APath.oneG (.call (some 68) 27 [.t 64, .t 65, .t 66, .t 67]) 63 false (by kernel_rfl) (by kernel_rfl) (st_call (by kernel_rfl) (law27_fits_ok N r3 (w64 ((Int.tmod a1_ 8))) r4.1 (w64 ((Int.tmod a3_ 48))) r524 hr524)) (APath.fin (by kernel_rfl)))))))))), (by show _ = _; kernel_rfl)⟩
      · clear hj
        rintro s hR
        obtain rfl := hR
        refine vc_ite (by kernel_rfl) h (fun hc526 h => ?_) (fun hc526 h => ?_)
        · refine vc_seq ?_
          refine vc_reg (S := ⟨[(8, .p (.bool false))], [], []⟩) (APath.fin (by kernel_rfl)) (by kernel_rfl) ?_
          refine vc_ret ?_
          obtain rfl := some_inj h
          exact ret_of (by kernel_rfl)
        · refine vc_skip ?_
          refine vc_kp ?_
          refine vc_seq ?_
          refine vc_seq ?_
          refine vc_reg (S := ⟨[(9, .loc 9 0), (10, .p (.int .i64 (w64 ((Int.tmod a1_ 8))))), (11, .p (.int .i64 (w64 (a2_)))), (12, .p (.int .i64 (w64 ((Int.tmod a3_ 48))))), (13, .p (.int .i64 r4.1)), (14, .p (.int .i64 r4.2)), (15, .p (.int .i64 r4.1)), (16, .p (.int .i64 (w64 (a2_))))], [(9, [.p (.sl 2 false (List.map e_api_Entry r3.Entries)), .p (.int .i64 r3.Cycle)])], []⟩) (APath.fin (by kernel_rfl)) (by kernel_rfl) ?_
          refine vc_block ?_
          obtain ⟨o1031, ho1031, h⟩ := bind_some h
          refine vc_loop ((loop_sim (fun (x : Int) s => s = ⟨[(9, .loc 9 0), (10, .p (.int .i64 (w64 ((Int.tmod a1_ 8))))), (11, .p (.int .i64 (w64 (a2_)))), (12, .p (.int .i64 (w64 ((Int.tmod a3_ 48))))), (13, .p (.int .i64 r4.1)), (14, .p (.int .i64 r4.2)), (15, .p (.int .i64 r4.1)), (16, .p (.int .i64 x))], [(9, [.p (.sl 2 false (List.map e_api_Entry r3.Entries)), .p (.int .i64 r3.Cycle)])], []⟩) (fun x : Int => law27_GatesLeast_L2 N a1_ a3_ r3 r4 x) (fun (p : (Int) ⊕ (Bool)) e s => match p with | (.inl p) => e = .exit 0 ∧ (s = ⟨[(9, .loc 9 0), (10, .p (.int .i64 (w64 ((Int.tmod a1_ 8))))), (11, .p (.int .i64 (w64 (a2_)))), (12, .p (.int .i64 (w64 ((Int.tmod a3_ 48))))), (13, .p (.int .i64 r4.1)), (14, .p (.int .i64 r4.2)), (15, .p (.int .i64 r4.1)), (16, .p (.int .i64 p))], [(9, [.p (.sl 2 false (List.map e_api_Entry r3.Entries)), .p (.int .i64 r3.Cycle)])], []⟩) | (.inr p) => e = .ret ∧ ∃ xs, resL s i7.res = some xs ∧ tupOf xs = .p (.bool p)) ?_ N _ o1031 _ ho1031 (by show _ = _; kernel_rfl)).mono ?_)
          · clear h ho1031
            rintro i527 o s h hR
            obtain rfl := hR
            replace h : law27_GatesLeast_L2 N a1_ a3_ r3 r4 i527 = some o := h
            unfold law27_GatesLeast_L2 at h
            refine vc_seq ?_
            refine vc_seq ?_
            refine vc_reg (S := ⟨[(9, .loc 9 0), (10, .p (.int .i64 (w64 ((Int.tmod a1_ 8))))), (11, .p (.int .i64 (w64 (a2_)))), (12, .p (.int .i64 (w64 ((Int.tmod a3_ 48))))), (13, .p (.int .i64 r4.1)), (14, .p (.int .i64 r4.2)), (15, .p (.int .i64 r4.1)), (16, .p (.int .i64 i527)), (74, .p (.bool (decide (i527 < r4.1))))], [(9, [.p (.sl 2 false (List.map e_api_Entry r3.Entries)), .p (.int .i64 r3.Cycle)])], []⟩) (APath.fin (by kernel_rfl)) (by kernel_rfl) ?_
            refine vc_ite (by kernel_rfl) h (fun hc1028 h => ?_) (fun hc1028 h => ?_)
            · refine vc_skip ?_
              refine vc_kp ?_
              refine vc_seq ?_
              refine vc_block ?_
              refine vc_seq ?_
              obtain ⟨r1029, hr1029, h⟩ := bind_some h
              refine vc_reg (S := ⟨[(9, .loc 9 0), (10, .p (.int .i64 (w64 ((Int.tmod a1_ 8))))), (11, .p (.int .i64 (w64 (a2_)))), (12, .p (.int .i64 (w64 ((Int.tmod a3_ 48))))), (13, .p (.int .i64 r4.1)), (14, .p (.int .i64 r4.2)), (15, .p (.int .i64 r4.1)), (16, .p (.int .i64 i527)), (81, .p (.bool r1029))], [(9, [.p (.sl 2 false (List.map e_api_Entry r3.Entries)), .p (.int .i64 r3.Cycle)])], []⟩) (APath.chunk 4 (by kernel_rfl) (APath.one (.call (some 81) 27 [.t 77, .t 78, .t 79, .t 80]) (by kernel_rfl) (st_call (by kernel_rfl) (law27_fits_ok N r3 (w64 ((Int.tmod a1_ 8))) i527 (w64 ((Int.tmod a3_ 48))) r1029 hr1029)) APath.done)) (by kernel_rfl) ?_
              refine vc_ite (by kernel_rfl) h (fun hc1030 h => ?_) (fun hc1030 h => ?_)
              · refine vc_seq ?_
                refine vc_reg (S := ⟨[(8, .p (.bool false))], [], []⟩) (APath.fin (by kernel_rfl)) (by kernel_rfl) ?_
                refine vc_ret ?_
                obtain rfl := some_inj h
                exact ⟨_, rfl, rfl, ret_of (by kernel_rfl)⟩
              · refine vc_skip ?_
                refine vc_kp ?_
                refine vc_reg (S := ⟨[(9, .loc 9 0), (10, .p (.int .i64 (w64 ((Int.tmod a1_ 8))))), (11, .p (.int .i64 (w64 (a2_)))), (12, .p (.int .i64 (w64 ((Int.tmod a3_ 48))))), (13, .p (.int .i64 r4.1)), (14, .p (.int .i64 r4.2)), (15, .p (.int .i64 r4.1)), (16, .p (.int .i64 (w64 (i527 + 1))))], [(9, [.p (.sl 2 false (List.map e_api_Entry r3.Entries)), .p (.int .i64 r3.Cycle)])], []⟩) (APath.fin (by kernel_rfl)) (by kernel_rfl) ?_
                obtain rfl := some_inj h
                exact ⟨_, rfl, (by show _ = _; kernel_rfl)⟩
            · refine vc_exit ?_
              try show vc _ _ _ _ _
              obtain rfl := some_inj h
              exact ⟨_, rfl, rfl, (by show _ = _; kernel_rfl)⟩
          · rintro e s hq
            rcases o1031 with p1032 | p1038
            · dsimp only at h hq
              obtain ⟨rfl, hR⟩ := hq
              obtain rfl := hR
              try show vc _ _ _ _ _
              refine vc_seq ?_
              obtain ⟨r1033, hr1033, h⟩ := bind_some h
              refine vc_reg (S := ⟨[(9, .loc 9 0), (13, .p (.int .i64 r4.1)), (14, .p (.int .i64 r4.2)), (17, .p (.int .i64 r1033.1)), (18, .p (.int .i64 r1033.2))], [(9, [.p (.sl 2 false (List.map e_api_Entry r3.Entries)), .p (.int .i64 r3.Cycle)])], []⟩) (APath.chunk 7 (by kernel_rfl) (APath.one (.call (some 90) 22 [.t 83, .t 84, .t 88, .t 89]) (by kernel_rfl) (st_call (by kernel_rfl) (gates_Fit_ok N r3 (w64 ((Int.tmod a1_ 8))) (w64 ((w64 (a2_)) + r3.Cycle)) (w64 ((Int.tmod a3_ 48))) r1033 hr1033)) (APath.fin (by kernel_rfl)))) (by kernel_rfl) ?_
              refine vc_seq ?_
              refine vc_regX ⟨[(8, .p (.bool ((r1033.2 == r4.2) && ((r4.2 != 0) || (r1033.1 == (w64 (r4.1 + r3.Cycle)))))))], [], []⟩ ?_ ?_
              · rcases Bool.eq_false_or_eq_true (r1033.2 == r4.2) with hc1034 | hc1037
                · rcases Bool.eq_false_or_eq_true (r4.2 != 0) with hc1035 | hc1036
                  · exact ⟨_, (APath.chunk 2 (by kernel_rfl) (APath.one (.val 95 (.bin .eql) [.t 93, .t 94]) (by kernel_rfl) (st_bool (c := (r1033.2 == r4.2)) (by kernel_rfl) hc1034) (APath.chunk 2 (by kernel_rfl) (APath.oneG (.val 98 (.bin .neq) [.t 97, .k (.p (.int .i64 0))]) 96 true (by kernel_rfl) (by kernel_rfl) (st_bool (c := (r4.2 != 0)) (by kernel_rfl) hc1035) (APath.fin (by kernel_rfl)))))), by simp only [hc1034, hc1035]; kernel_rfl⟩
                  · exact ⟨_, (APath.chunk 2 (by kernel_rfl) (APath.one (.val 95 (.bin .eql) [.t 93, .t 94]) (by kernel_rfl) (st_bool (c := (r1033.2 == r4.2)) (by kernel_rfl) hc1034) (APath.chunk 2 (by kernel_rfl) (APath.oneG (.val 98 (.bin .neq) [.t 97, .k (.p (.int .i64 0))]) 96 true (by kernel_rfl) (by kernel_rfl) (st_bool (c := (r4.2 != 0)) (by kernel_rfl) hc1036) (APath.fin (by kernel_rfl)))))), by simp only [hc1034, hc1036]; kernel_rfl⟩
                · exact ⟨_, (APath.chunk 2 (by kernel_rfl) (APath.one (.val 95 (.bin .eql) [.t 93, .t 94]) (by kernel_rfl) (st_bool (c := (r1033.2 == r4.2)) (by kernel_rfl) hc1037) (APath.fin (by kernel_rfl)))), by simp only [hc1037]; kernel_rfl⟩
              · refine vc_ret ?_
                obtain rfl := some_inj h
                exact ret_of (by kernel_rfl)
            · dsimp only at h hq
              obtain ⟨rfl, hq⟩ := hq
              obtain rfl := some_inj h
              exact hq
/- isochronlaw27.GatesTurns -/
theorem law27_GatesTurns_ok (N : Nat) (a0_ : ref27_Draft) (a1_ : Int) (r : Bool) (h : law27_GatesTurns N a0_ a1_ = some r) : PCall Try.prog 8 [.agg [.p (.sl 1 false (List.map (eI .u8) a0_.Masks)), .p (.sl 1 false (List.map (eI .u8) a0_.Longs))], .p (.int .i16 a1_)] (.p (.bool r)) := by
  unfold law27_GatesTurns at h
  have hH : HP ([] : List HO) [] := trivial
  refine pcall_of chk8 rfl rfl (vc_sound _ _ _ ?_) rfl
  refine vc_seq ?_
  refine vc_reg (S := ⟨[(1, .p (.int .i16 a1_)), (2, .loc 2 0)], [(2, [.p (.sl 1 false (List.map (eI .u8) a0_.Masks)), .p (.sl 1 false (List.map (eI .u8) a0_.Longs))])], []⟩) (APath.fin (by kernel_rfl)) (by kernel_rfl) ?_
  refine vc_seq ?_
  refine vc_seq ?_
  obtain ⟨r1, hr1, h⟩ := bind_some h
  refine vc_reg (S := ⟨[(1, .p (.int .i16 a1_)), (2, .loc 2 0), (12, .p (.bool (!r1)))], [(2, [.p (.sl 1 false (List.map (eI .u8) a0_.Masks)), .p (.sl 1 false (List.map (eI .u8) a0_.Longs))])], []⟩) (APath.one (.call (some 11) 17 []) (by kernel_rfl) (st_call (by kernel_rfl) (law27_works_ok N  r1 hr1)) (APath.fin (by kernel_rfl))) (by kernel_rfl) ?_
  refine vc_ite (by kernel_rfl) h (fun hc2 h => ?_) (fun hc2 h => ?_)
  · refine vc_seq ?_
    refine vc_reg (S := ⟨[(4, .p (.bool false))], [], []⟩) (APath.fin (by kernel_rfl)) (by kernel_rfl) ?_
    refine vc_ret ?_
    obtain rfl := some_inj h
    exact ret_of (by kernel_rfl)
  · refine vc_skip ?_
    refine vc_kp ?_
    refine vc_seq ?_
    obtain ⟨r3, hr3, h⟩ := bind_some h
    refine vc_reg (S := ⟨[(1, .p (.int .i16 a1_)), (5, .loc 5 0)], [(5, [.p (.sl 2 false (List.map e_api_Entry r3.Entries)), .p (.int .i64 r3.Cycle)])], []⟩) (APath.chunk 1 (by kernel_rfl) (APath.one (.call (some 14) 24 [.t 13]) (by kernel_rfl) (st_call (by kernel_rfl) (ref27_Draft_Gates_ok N a0_ r3 hr3)) (APath.fin (by kernel_rfl)))) (by kernel_rfl) ?_
    refine vc_seq ?_
    refine vc_reg (S := ⟨[(5, .loc 5 0), (6, .p (.int .i64 (w64 (a1_))))], [(5, [.p (.sl 2 false (List.map e_api_Entry r3.Entries)), .p (.int .i64 r3.Cycle)])], []⟩) (APath.fin (by kernel_rfl)) (by kernel_rfl) ?_
    refine vc_seq ?_
    obtain ⟨r4, hr4, h⟩ := bind_some h
    refine vc_reg (S := ⟨[(5, .loc 5 0), (6, .p (.int .i64 (w64 (a1_)))), (7, .p (.int .i64 r4.1)), (8, .p (.int .i64 r4.2))], [(5, [.p (.sl 2 false (List.map e_api_Entry r3.Entries)), .p (.int .i64 r3.Cycle)])], []⟩) (APath.chunk 2 (by kernel_rfl) (APath.one (.call (some 20) 13 [.t 18, .t 19]) (by kernel_rfl) (st_call (by kernel_rfl) (gates_Turn_ok N r3 (w64 (a1_)) r4 hr4)) (APath.fin (by kernel_rfl)))) (by kernel_rfl) ?_
    refine vc_seq ?_
    refine vc_reg (S := ⟨[(5, .loc 5 0), (6, .p (.int .i64 (w64 (a1_)))), (7, .p (.int .i64 r4.1)), (8, .p (.int .i64 r4.2)), (9, .p (.int .i64 r4.1))], [(5, [.p (.sl 2 false (List.map e_api_Entry r3.Entries)), .p (.int .i64 r3.Cycle)])], []⟩) (APath.fin (by kernel_rfl)) (by kernel_rfl) ?_
    refine vc_seq ?_
    refine vc_seq ?_
    refine vc_reg (S := ⟨[(5, .loc 5 0), (6, .p (.int .i64 (w64 (a1_)))), (7, .p (.int .i64 r4.1)), (8, .p (.int .i64 r4.2)), (9, .p (.int .i64 r4.1)), (25, .p (.bool (r4.2 == 4)))], [(5, [.p (.sl 2 false (List.map e_api_Entry r3.Entries)), .p (.int .i64 r3.Cycle)])], []⟩) (APath.fin (by kernel_rfl)) (by kernel_rfl) ?_
    refine vc_ite (by kernel_rfl) h (fun hc5 h => ?_) (fun hc5 h => ?_)
    · refine vc_reg (S := ⟨[(5, .loc 5 0), (6, .p (.int .i64 (w64 (a1_)))), (9, .p (.int .i64 (w64 ((w64 (a1_)) + r3.Cycle))))], [(5, [.p (.sl 2 false (List.map e_api_Entry r3.Entries)), .p (.int .i64 r3.Cycle)])], []⟩) (APath.fin (by kernel_rfl)) (by kernel_rfl) ?_
      refine vc_kp ?_
      refine vc_seq ?_
      refine vc_seq ?_
      refine vc_reg (S := ⟨[(5, .loc 5 0), (6, .p (.int .i64 (w64 (a1_)))), (9, .p (.int .i64 (w64 ((w64 (a1_)) + r3.Cycle)))), (10, .p (.int .i64 (w64 (a1_))))], [(5, [.p (.sl 2 false (List.map e_api_Entry r3.Entries)), .p (.int .i64 r3.Cycle)])], []⟩) (APath.fin (by kernel_rfl)) (by kernel_rfl) ?_
      refine vc_block ?_
      obtain ⟨o511, ho511, h⟩ := bind_some h
      refine vc_loop ((loop_sim (fun (x : Int) s => s = ⟨[(5, .loc 5 0), (6, .p (.int .i64 (w64 (a1_)))), (9, .p (.int .i64 (w64 ((w64 (a1_)) + r3.Cycle)))), (10, .p (.int .i64 x))], [(5, [.p (.sl 2 false (List.map e_api_Entry r3.Entries)), .p (.int .i64 r3.Cycle)])], []⟩) (fun x : Int => law27_GatesTurns_L1 N a1_ r3 x) (fun (p : (Int) ⊕ (Bool)) e s => match p with | (.inl p) => e = .exit 0 ∧ (s = ⟨[(5, .loc 5 0), (6, .p (.int .i64 (w64 (a1_)))), (9, .p (.int .i64 (w64 ((w64 (a1_)) + r3.Cycle)))), (10, .p (.int .i64 p))], [(5, [.p (.sl 2 false (List.map e_api_Entry r3.Entries)), .p (.int .i64 r3.Cycle)])], []⟩) | (.inr p) => e = .ret ∧ ∃ xs, resL s i8.res = some xs ∧ tupOf xs = .p (.bool p)) ?_ N _ o511 _ ho511 (by show _ = _; kernel_rfl)).mono ?_)
      · clear h ho511
        rintro i6 o s h hR
        obtain rfl := hR
        replace h : law27_GatesTurns_L1 N a1_ r3 i6 = some o := h
        unfold law27_GatesTurns_L1 at h
        refine vc_seq ?_
        refine vc_seq ?_
        refine vc_reg (S := ⟨[(5, .loc 5 0), (6, .p (.int .i64 (w64 (a1_)))), (9, .p (.int .i64 (w64 ((w64 (a1_)) + r3.Cycle)))), (10, .p (.int .i64 i6)), (57, .p (.bool (decide (i6 < (w64 ((w64 (a1_)) + r3.Cycle))))))], [(5, [.p (.sl 2 false (List.map e_api_Entry r3.Entries)), .p (.int .i64 r3.Cycle)])], []⟩) (APath.fin (by kernel_rfl)) (by kernel_rfl) ?_
        refine vc_ite (by kernel_rfl) h (fun hc507 h => ?_) (fun hc507 h => ?_)
        · refine vc_skip ?_
          refine vc_kp ?_
          refine vc_seq ?_
          refine vc_block ?_
          refine vc_seq ?_
          obtain ⟨r508, hr508, h⟩ := bind_some h
          obtain ⟨r509, hr509, h⟩ := bind_some h
          refine vc_regD (S := ⟨[(5, .loc 5 0), (6, .p (.int .i64 (w64 (a1_)))), (9, .p (.int .i64 (w64 ((w64 (a1_)) + r3.Cycle)))), (10, .p (.int .i64 i6)), (66, .p (.bool (r508 != r509)))], [(5, [.p (.sl 2 false (List.map e_api_Entry r3.Entries)), .p (.int .i64 r3.Cycle)])], []⟩) (by kernel_rfl) (APath.chunk 2 (by kernel_rfl) (APath.one (.callP 62 25 [.t 60, .t 61]) (by kernel_rfl) (st_callP (by kernel_rfl) (law27_mask_ok N r3 i6 r508 hr508)) (APath.chunk 2 (by kernel_rfl) (APath.one (.callP 65 25 [.t 63, .t 64]) (by kernel_rfl) (st_callP (by kernel_rfl) (law27_mask_ok N r3 (w64 (a1_)) r509 hr509)) (APath.fin (by kernel_rfl)))))) (by kernel_rfl) ?_
          refine vc_ite (by kernel_rfl) h (fun hc510 h => ?_) (fun hc510 h => ?_)
          · refine vc_seq ?_
            refine vc_reg (S := ⟨[(4, .p (.bool false))], [], []⟩) (APath.fin (by kernel_rfl)) (by kernel_rfl) ?_
            refine vc_ret ?_
            obtain rfl := some_inj h
            exact ⟨_, rfl, rfl, ret_of (by kernel_rfl)⟩
          · refine vc_skip ?_
            refine vc_kp ?_
            refine vc_reg (S := ⟨[(5, .loc 5 0), (6, .p (.int .i64 (w64 (a1_)))), (9, .p (.int .i64 (w64 ((w64 (a1_)) + r3.Cycle)))), (10, .p (.int .i64 (w64 (i6 + 1))))], [(5, [.p (.sl 2 false (List.map e_api_Entry r3.Entries)), .p (.int .i64 r3.Cycle)])], []⟩) (APath.fin (by kernel_rfl)) (by kernel_rfl) ?_
            obtain rfl := some_inj h
            exact ⟨_, rfl, (by show _ = _; kernel_rfl)⟩
        · refine vc_exit ?_
          try show vc _ _ _ _ _
          obtain rfl := some_inj h
          exact ⟨_, rfl, rfl, (by show _ = _; kernel_rfl)⟩
      · rintro e s hq
        rcases o511 with p512 | p513
        · dsimp only at h hq
          obtain ⟨rfl, hR⟩ := hq
          obtain rfl := hR
          try show vc _ _ _ _ _
          refine vc_seq ?_
          refine vc_reg (S := ⟨[(4, .p (.bool true))], [], []⟩) (APath.fin (by kernel_rfl)) (by kernel_rfl) ?_
          refine vc_ret ?_
          obtain rfl := some_inj h
          exact ret_of (by kernel_rfl)
        · dsimp only at h hq
          obtain ⟨rfl, hq⟩ := hq
          obtain rfl := some_inj h
          exact hq
    · refine vc_seq ?_
      obtain ⟨j522, hj, h⟩ := bind_some h
      refine vc_regDXR (fun s => s = ⟨[(5, .loc 5 0), (6, .p (.int .i64 (w64 (a1_)))), (9, .p (.int .i64 r4.1)), (53, .p (.bool j522))], [(5, [.p (.sl 2 false (List.map e_api_Entry r3.Entries)), .p (.int .i64 r3.Cycle)])], []⟩) (by kernel_rfl) ?_ ?_
      · clear h
        rcases ite_some hj with ⟨hc514, hj⟩ | ⟨hc515, hj⟩
        · obtain rfl := some_inj hj
          exact ⟨_, (APath.chunk 1 (by kernel_rfl) (APath.one (.val 31 (.bin .neq) [.t 30, .k (.p (.int .i64 0))]) (by kernel_rfl) (st_bool (c := (r4.2 != 0)) (by kernel_rfl) hc514) (APath.fin (by kernel_rfl)))), (by show _ = _; kernel_rfl)⟩
        · rcases ite_some hj with ⟨hc516, hj⟩ | ⟨hc517, hj⟩
          · obtain rfl := some_inj hj
            exact ⟨_, (APath.chunk 1 (by kernel_rfl) (APath.one (.val 31 (.bin .neq) [.t 30, .k (.p (.int .i64 0))]) (by kernel_rfl) (st_bool (c := (r4.2 != 0)) (by kernel_rfl) hc515) (APath.chunk 3 (by kernel_rfl) (APath.oneG (.val 35 (.bin .leq) [.t 33, .t 34]) 32 false (by kernel_rfl) (by kernel_rfl) (st_bool (c := (decide (r4.1 ≤ (w64 (a1_))))) (by kernel_rfl) hc516) (APath.fin (by kernel_rfl)))))), (by show _ = _; kernel_rfl)⟩
          · rcases ite_some hj with ⟨hc518, hj⟩ | ⟨hc519, hj⟩
            · obtain rfl := some_inj hj
              exact ⟨_, (APath.chunk 1 (by kernel_rfl) (APath.one (.val 31 (.bin .neq) [.t 30, .k (.p (.int .i64 0))]) (by kernel_rfl) (st_bool (c := (r4.2 != 0)) (by kernel_rfl) hc515) (APath.chunk 3 (by kernel_rfl) (APath.oneG (.val 35 (.bin .leq) [.t 33, .t 34]) 32 false (by kernel_rfl) (by kernel_rfl) (st_bool (c := (decide (r4.1 ≤ (w64 (a1_))))) (by kernel_rfl) hc517) (APath.chunk 7 (by kernel_rfl) (APath.oneG (.val 43 (.bin .gtr) [.t 38, .t 42]) 37 false (by kernel_rfl) (by kernel_rfl) (st_bool (c := (decide (r4.1 > (w64 ((w64 (a1_)) + r3.Cycle))))) (by kernel_rfl) hc518) (APath.fin (by kernel_rfl)))))))), (by show _ = _; kernel_rfl)⟩
            · obtain ⟨r520, hr520, hj⟩ := bind_some hj
              obtain ⟨r521, hr521, hj⟩ := bind_some hj
              obtain rfl := some_inj hj
              exact ⟨_, (APath.chunk 1 (by kernel_rfl) (APath.one (.val 31 (.bin .neq) [.t 30, .k (.p (.int .i64 0))]) (by kernel_rfl) (st_bool (c := (r4.2 != 0)) (by kernel_rfl) hc515) (APath.chunk 3 (by kernel_rfl) (APath.oneG (.val 35 (.bin .leq) [.t 33, .t 34]) 32 false (by kernel_rfl) (by kernel_rfl) (st_bool (c := (decide (r4.1 ≤ (w64 (a1_))))) (by kernel_rfl) hc517) (APath.chunk 7 (by kernel_rfl) (APath.oneG (.val 43 (.bin .gtr) [.t 38, .t 42]) 37 false (by kernel_rfl) (by kernel_rfl) (st_bool (c := (decide (r4.1 > (w64 ((w64 (a1_)) + r3.Cycle))))) (by kernel_rfl) hc519) (APath.chunk 4 (by kernel_rfl) (APath.oneG (.callP 48 25 [.t 46, .t 47]) 45 false (by kernel_rfl) (by kernel_rfl) (st_callP (by kernel_rfl) (law27_mask_ok N r3 r4.1 r520 hr520)) (APath.chunk 2 (by kernel_rfl) (APath.oneG (.callP 51 25 [.t 49, .t 50]) 45 false (by kernel_rfl) (by kernel_rfl) (st_callP (by kernel_rfl) (law27_mask_ok N r3 (w64 (a1_)) r521 hr521)) (APath.fin (by kernel_rfl)))))))))))), (by show _ = _; kernel_rfl)⟩
      · clear hj
        rintro s hR
        obtain rfl := hR
        refine vc_ite (by kernel_rfl) h (fun hc523 h => ?_) (fun hc523 h => ?_)
        · refine vc_seq ?_
          refine vc_reg (S := ⟨[(4, .p (.bool false))], [], []⟩) (APath.fin (by kernel_rfl)) (by kernel_rfl) ?_
          refine vc_ret ?_
          obtain rfl := some_inj h
          exact ret_of (by kernel_rfl)
        · refine vc_skip ?_
          refine vc_kp ?_
          refine vc_seq ?_
          refine vc_seq ?_
          refine vc_reg (S := ⟨[(5, .loc 5 0), (6, .p (.int .i64 (w64 (a1_)))), (9, .p (.int .i64 r4.1)), (10, .p (.int .i64 (w64 (a1_))))], [(5, [.p (.sl 2 false (List.map e_api_Entry r3.Entries)), .p (.int .i64 r3.Cycle)])], []⟩) (APath.fin (by kernel_rfl)) (by kernel_rfl) ?_
          refine vc_block ?_
          obtain ⟨o1029, ho1029, h⟩ := bind_some h
          refine vc_loop ((loop_sim (fun (x : Int) s => s = ⟨[(5, .loc 5 0), (6, .p (.int .i64 (w64 (a1_)))), (9, .p (.int .i64 r4.1)), (10, .p (.int .i64 x))], [(5, [.p (.sl 2 false (List.map e_api_Entry r3.Entries)), .p (.int .i64 r3.Cycle)])], []⟩) (fun x : Int => law27_GatesTurns_L2 N a1_ r3 r4 x) (fun (p : (Int) ⊕ (Bool)) e s => match p with | (.inl p) => e = .exit 0 ∧ (s = ⟨[(5, .loc 5 0), (6, .p (.int .i64 (w64 (a1_)))), (9, .p (.int .i64 r4.1)), (10, .p (.int .i64 p))], [(5, [.p (.sl 2 false (List.map e_api_Entry r3.Entries)), .p (.int .i64 r3.Cycle)])], []⟩) | (.inr p) => e = .ret ∧ ∃ xs, resL s i8.res = some xs ∧ tupOf xs = .p (.bool p)) ?_ N _ o1029 _ ho1029 (by show _ = _; kernel_rfl)).mono ?_)
          · clear h ho1029
            rintro i524 o s h hR
            obtain rfl := hR
            replace h : law27_GatesTurns_L2 N a1_ r3 r4 i524 = some o := h
            unfold law27_GatesTurns_L2 at h
            refine vc_seq ?_
            refine vc_seq ?_
            refine vc_reg (S := ⟨[(5, .loc 5 0), (6, .p (.int .i64 (w64 (a1_)))), (9, .p (.int .i64 r4.1)), (10, .p (.int .i64 i524)), (57, .p (.bool (decide (i524 < r4.1))))], [(5, [.p (.sl 2 false (List.map e_api_Entry r3.Entries)), .p (.int .i64 r3.Cycle)])], []⟩) (APath.fin (by kernel_rfl)) (by kernel_rfl) ?_
            refine vc_ite (by kernel_rfl) h (fun hc1025 h => ?_) (fun hc1025 h => ?_)
            · refine vc_skip ?_
              refine vc_kp ?_
              refine vc_seq ?_
              refine vc_block ?_
              refine vc_seq ?_
              obtain ⟨r1026, hr1026, h⟩ := bind_some h
              obtain ⟨r1027, hr1027, h⟩ := bind_some h
              refine vc_regD (S := ⟨[(5, .loc 5 0), (6, .p (.int .i64 (w64 (a1_)))), (9, .p (.int .i64 r4.1)), (10, .p (.int .i64 i524)), (66, .p (.bool (r1026 != r1027)))], [(5, [.p (.sl 2 false (List.map e_api_Entry r3.Entries)), .p (.int .i64 r3.Cycle)])], []⟩) (by kernel_rfl) (APath.chunk 2 (by kernel_rfl) (APath.one (.callP 62 25 [.t 60, .t 61]) (by kernel_rfl) (st_callP (by kernel_rfl) (law27_mask_ok N r3 i524 r1026 hr1026)) (APath.chunk 2 (by kernel_rfl) (APath.one (.callP 65 25 [.t 63, .t 64]) (by kernel_rfl) (st_callP (by kernel_rfl) (law27_mask_ok N r3 (w64 (a1_)) r1027 hr1027)) (APath.fin (by kernel_rfl)))))) (by kernel_rfl) ?_
              refine vc_ite (by kernel_rfl) h (fun hc1028 h => ?_) (fun hc1028 h => ?_)
              · refine vc_seq ?_
                refine vc_reg (S := ⟨[(4, .p (.bool false))], [], []⟩) (APath.fin (by kernel_rfl)) (by kernel_rfl) ?_
                refine vc_ret ?_
                obtain rfl := some_inj h
                exact ⟨_, rfl, rfl, ret_of (by kernel_rfl)⟩
              · refine vc_skip ?_
                refine vc_kp ?_
                refine vc_reg (S := ⟨[(5, .loc 5 0), (6, .p (.int .i64 (w64 (a1_)))), (9, .p (.int .i64 r4.1)), (10, .p (.int .i64 (w64 (i524 + 1))))], [(5, [.p (.sl 2 false (List.map e_api_Entry r3.Entries)), .p (.int .i64 r3.Cycle)])], []⟩) (APath.fin (by kernel_rfl)) (by kernel_rfl) ?_
                obtain rfl := some_inj h
                exact ⟨_, rfl, (by show _ = _; kernel_rfl)⟩
            · refine vc_exit ?_
              try show vc _ _ _ _ _
              obtain rfl := some_inj h
              exact ⟨_, rfl, rfl, (by show _ = _; kernel_rfl)⟩
          · rintro e s hq
            rcases o1029 with p1030 | p1031
            · dsimp only at h hq
              obtain ⟨rfl, hR⟩ := hq
              obtain rfl := hR
              try show vc _ _ _ _ _
              refine vc_seq ?_
              refine vc_reg (S := ⟨[(4, .p (.bool true))], [], []⟩) (APath.fin (by kernel_rfl)) (by kernel_rfl) ?_
              refine vc_ret ?_
              obtain rfl := some_inj h
              exact ret_of (by kernel_rfl)
            · dsimp only at h hq
              obtain ⟨rfl, hq⟩ := hq
              obtain rfl := some_inj h
              exact hq
end Go.Sh
