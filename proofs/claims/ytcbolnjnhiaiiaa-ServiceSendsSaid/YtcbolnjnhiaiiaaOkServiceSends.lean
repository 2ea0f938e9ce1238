/- The law's own function; written by sym.py. -/
import Derived.Test.YtcbolnjnhiaiiaaOk2
namespace Go.Sh
open Go Go.Eng Go.Proofs
set_option linter.unusedVariables false
set_option linter.unusedSimpArgs false
set_option maxRecDepth 100000
/- isochronlaw30.ServiceSends -/
theorem law30_ServiceSends_ok (N : Nat) (a0_ : ref30_Draft) (a1_ : api_Gates) (a2_ : Int) (a3_ : Int) (a4_ : Arr2_i64) (r : Bool) (h : law30_ServiceSends N a0_ a1_ a2_ a3_ a4_ = some r) : PCall Try.prog 4 [.agg (c_ref30_Draft a0_), .agg (c_api_Gates a1_), iv a2_, iv a3_, .agg (c_Arr2_i64 a4_)] (bv r) := by
  unfold law30_ServiceSends at h
  have hH : HP ([] : List HO) [] := trivial
  refine pcall_of chk4 rfl rfl (vc_sound _ _ _ ?_) rfl
  refine vc_seq ?_
  refine vc_reg (S := ⟨[(2, iv a2_), (3, iv a3_), (5, .loc 5 0), (6, .loc 6 0), (9, .loc 9 0)], [(5, (c_ref30_Draft a0_)), (6, (c_api_Gates a1_)), (9, (c_Arr2_i64 a4_))], []⟩) (APath.fin (by kernel_rfl)) (by kernel_rfl) ?_
  refine vc_seq ?_
  refine vc_seq ?_
  obtain ⟨r1, hr1, h⟩ := bind_some h
  obtain ⟨r2, hr2, h⟩ := bind_some h
  refine vc_regD (S := ⟨[(2, iv a2_), (3, iv a3_), (9, .loc 9 0), (23, .agg [s_e_api_Entry false r1.Entries, iv r1.Cycle, s_e_api_Entry false r2.Entries, iv r2.Cycle]), (24, iv 0)], [(9, (c_Arr2_i64 a4_))], []⟩) (by kernel_rfl) (APath.chunk 1 (by kernel_rfl) (APath.one (.callP 20 10 [.t 19]) (by kernel_rfl) (st_callP (by kernel_rfl) (ref30_Draft_Gates_ok N a0_ r1 hr1)) (APath.chunk 1 (by kernel_rfl) (APath.one (.callP 22 11 [.t 21]) (by kernel_rfl) (st_callP (by kernel_rfl) (law30_few_ok N a1_ r2 hr2)) (APath.fin (by kernel_rfl)))))) (by kernel_rfl) ?_
  refine vc_block ?_
  refine vc_unroll 14 ?_
  refine unr_step ?_
  refine vc_seq ?_
  refine vc_reg (S := ⟨[(2, iv a2_), (3, iv a3_), (9, .loc 9 0), (23, .agg [s_e_api_Entry false r1.Entries, iv r1.Cycle, s_e_api_Entry false r2.Entries, iv r2.Cycle]), (24, iv 0), (25, bv true)], [(9, (c_Arr2_i64 a4_))], []⟩) (APath.fin (by kernel_rfl)) (by kernel_rfl) ?_
  refine vc_seq ?_
  refine vc_true (by kernel_rfl) ?_
  refine vc_skip ?_
  refine vc_kp ?_
  refine vc_seq ?_
  refine vc_block ?_
  refine vc_seq ?_
  refine vc_reg (S := ⟨[(2, iv a2_), (3, iv a3_), (9, .loc 9 0), (12, .loc 12 0), (23, .agg [s_e_api_Entry false r1.Entries, iv r1.Cycle, s_e_api_Entry false r2.Entries, iv r2.Cycle]), (24, iv 0)], [(9, (c_Arr2_i64 a4_)), (12, (c_api_Gates r1))], []⟩) (APath.fin (by kernel_rfl)) (by kernel_rfl) ?_
  refine vc_seq ?_
  refine vc_reg (S := ⟨[(2, iv a2_), (3, iv a3_), (9, .loc 9 0), (12, .loc 12 0), (23, .agg [s_e_api_Entry false r1.Entries, iv r1.Cycle, s_e_api_Entry false r2.Entries, iv r2.Cycle]), (24, iv 0), (62, .agg [iv a2_, iv a3_, iv a4_.x0, iv a4_.x1, iv (w64 (1 + (w64 ((Int.tmod (IntKind.u64.wrap (a2_)) 4))))), iv (w64 (84 + (w64 ((Int.tmod (IntKind.u64.wrap (a3_)) 100))))), iv (Int.tmod a4_.x0 10000), iv (w64 ((Int.tmod (IntKind.u64.wrap (a4_.x1)) 8000))), iv 1, iv 84, iv (Int.tmod a4_.x0 3000), iv (w64 ((Int.tmod (IntKind.u64.wrap (a4_.x1)) 900)))]), (63, iv 0)], [(9, (c_Arr2_i64 a4_)), (12, (c_api_Gates r1))], []⟩) (APath.fin (by kernel_rfl)) (by kernel_rfl) ?_
  refine vc_block ?_
  refine vc_unroll 14 ?_
  refine unr_step ?_
  refine vc_seq ?_
  refine vc_reg (S := ⟨[(2, iv a2_), (3, iv a3_), (9, .loc 9 0), (12, .loc 12 0), (23, .agg [s_e_api_Entry false r1.Entries, iv r1.Cycle, s_e_api_Entry false r2.Entries, iv r2.Cycle]), (24, iv 0), (62, .agg [iv a2_, iv a3_, iv a4_.x0, iv a4_.x1, iv (w64 (1 + (w64 ((Int.tmod (IntKind.u64.wrap (a2_)) 4))))), iv (w64 (84 + (w64 ((Int.tmod (IntKind.u64.wrap (a3_)) 100))))), iv (Int.tmod a4_.x0 10000), iv (w64 ((Int.tmod (IntKind.u64.wrap (a4_.x1)) 8000))), iv 1, iv 84, iv (Int.tmod a4_.x0 3000), iv (w64 ((Int.tmod (IntKind.u64.wrap (a4_.x1)) 900)))]), (63, iv 0), (64, bv true)], [(9, (c_Arr2_i64 a4_)), (12, (c_api_Gates r1))], []⟩) (APath.fin (by kernel_rfl)) (by kernel_rfl) ?_
  refine vc_seq ?_
  refine vc_true (by kernel_rfl) ?_
  refine vc_skip ?_
  refine vc_kp ?_
  refine vc_seq ?_
  refine vc_block ?_
  refine vc_seq ?_
  refine vc_reg (S := ⟨[(2, iv a2_), (3, iv a3_), (9, .loc 9 0), (12, .loc 12 0), (14, .loc 14 0), (23, .agg [s_e_api_Entry false r1.Entries, iv r1.Cycle, s_e_api_Entry false r2.Entries, iv r2.Cycle]), (24, iv 0), (62, .agg [iv a2_, iv a3_, iv a4_.x0, iv a4_.x1, iv (w64 (1 + (w64 ((Int.tmod (IntKind.u64.wrap (a2_)) 4))))), iv (w64 (84 + (w64 ((Int.tmod (IntKind.u64.wrap (a3_)) 100))))), iv (Int.tmod a4_.x0 10000), iv (w64 ((Int.tmod (IntKind.u64.wrap (a4_.x1)) 8000))), iv 1, iv 84, iv (Int.tmod a4_.x0 3000), iv (w64 ((Int.tmod (IntKind.u64.wrap (a4_.x1)) 900)))]), (63, iv 0)], [(9, (c_Arr2_i64 a4_)), (12, (c_api_Gates r1)), (14, [iv a2_, iv a3_, iv a4_.x0, iv a4_.x1])], []⟩) (APath.fin (by kernel_rfl)) (by kernel_rfl) ?_
  refine vc_seq ?_
  obtain ⟨r3, hr3, h⟩ := bind_some h
  refine vc_reg (S := ⟨[(2, iv a2_), (3, iv a3_), (9, .loc 9 0), (12, .loc 12 0), (14, .loc 14 0), (15, iv r3.1), (16, iv r3.2), (23, .agg [s_e_api_Entry false r1.Entries, iv r1.Cycle, s_e_api_Entry false r2.Entries, iv r2.Cycle]), (24, iv 0), (62, .agg [iv a2_, iv a3_, iv a4_.x0, iv a4_.x1, iv (w64 (1 + (w64 ((Int.tmod (IntKind.u64.wrap (a2_)) 4))))), iv (w64 (84 + (w64 ((Int.tmod (IntKind.u64.wrap (a3_)) 100))))), iv (Int.tmod a4_.x0 10000), iv (w64 ((Int.tmod (IntKind.u64.wrap (a4_.x1)) 8000))), iv 1, iv 84, iv (Int.tmod a4_.x0 3000), iv (w64 ((Int.tmod (IntKind.u64.wrap (a4_.x1)) 900)))]), (63, iv 0)], [(9, (c_Arr2_i64 a4_)), (12, (c_api_Gates r1)), (14, [iv a2_, iv a3_, iv a4_.x0, iv a4_.x1])], []⟩) (APath.chunk 9 (by kernel_rfl) (APath.one (.call (some 76) 15 [.t 67, .t 69, .t 71, .t 73, .t 75]) (by kernel_rfl) (st_call (by kernel_rfl) (service_Sends_ok N r1 a2_ a3_ a4_.x0 a4_.x1 r3 hr3)) (APath.fin (by kernel_rfl)))) (by kernel_rfl) ?_
  refine vc_seq ?_
  obtain ⟨r4, hr4, h⟩ := bind_some h
  refine vc_reg (S := ⟨[(2, iv a2_), (3, iv a3_), (9, .loc 9 0), (12, .loc 12 0), (15, iv r3.1), (16, iv r3.2), (17, iv r4.1), (18, iv r4.2), (23, .agg [s_e_api_Entry false r1.Entries, iv r1.Cycle, s_e_api_Entry false r2.Entries, iv r2.Cycle]), (24, iv 0), (62, .agg [iv a2_, iv a3_, iv a4_.x0, iv a4_.x1, iv (w64 (1 + (w64 ((Int.tmod (IntKind.u64.wrap (a2_)) 4))))), iv (w64 (84 + (w64 ((Int.tmod (IntKind.u64.wrap (a3_)) 100))))), iv (Int.tmod a4_.x0 10000), iv (w64 ((Int.tmod (IntKind.u64.wrap (a4_.x1)) 8000))), iv 1, iv 84, iv (Int.tmod a4_.x0 3000), iv (w64 ((Int.tmod (IntKind.u64.wrap (a4_.x1)) 900)))]), (63, iv 0)], [(9, (c_Arr2_i64 a4_)), (12, (c_api_Gates r1))], []⟩) (APath.chunk 9 (by kernel_rfl) (APath.one (.call (some 89) 16 [.t 80, .t 82, .t 84, .t 86, .t 88]) (by kernel_rfl) (st_call (by kernel_rfl) (ref30_Sends_ok N r1 a2_ a3_ a4_.x0 a4_.x1 r4 hr4)) (APath.fin (by kernel_rfl)))) (by kernel_rfl) ?_
  refine vc_seq ?_
  refine vc_regX ⟨[(2, iv a2_), (3, iv a3_), (9, .loc 9 0), (12, .loc 12 0), (23, .agg [s_e_api_Entry false r1.Entries, iv r1.Cycle, s_e_api_Entry false r2.Entries, iv r2.Cycle]), (24, iv 0), (62, .agg [iv a2_, iv a3_, iv a4_.x0, iv a4_.x1, iv (w64 (1 + (w64 ((Int.tmod (IntKind.u64.wrap (a2_)) 4))))), iv (w64 (84 + (w64 ((Int.tmod (IntKind.u64.wrap (a3_)) 100))))), iv (Int.tmod a4_.x0 10000), iv (w64 ((Int.tmod (IntKind.u64.wrap (a4_.x1)) 8000))), iv 1, iv 84, iv (Int.tmod a4_.x0 3000), iv (w64 ((Int.tmod (IntKind.u64.wrap (a4_.x1)) 900)))]), (63, iv 0), (99, bv ((r3.1 != r4.1) || (r3.2 != r4.2)))], [(9, (c_Arr2_i64 a4_)), (12, (c_api_Gates r1))], []⟩ ?_ ?_
  · rcases Bool.eq_false_or_eq_true (r3.1 != r4.1) with hc5 | hc6
    · exact ⟨_, (APath.chunk 2 (by kernel_rfl) (APath.one (.val 94 (.bin .neq) [.t 92, .t 93]) (by kernel_rfl) (st_bool (c := (r3.1 != r4.1)) (by kernel_rfl) hc5) (APath.fin (by kernel_rfl)))), by simp only [hc5]; kernel_rfl⟩
    · exact ⟨_, (APath.chunk 2 (by kernel_rfl) (APath.one (.val 94 (.bin .neq) [.t 92, .t 93]) (by kernel_rfl) (st_bool (c := (r3.1 != r4.1)) (by kernel_rfl) hc6) (APath.fin (by kernel_rfl)))), by simp only [hc6]; kernel_rfl⟩
  · refine vc_ite (by kernel_rfl) h (fun hc7 h => ?_) (fun hc7 h => ?_)
    · refine vc_seq ?_
      refine vc_reg (S := ⟨[(10, bv false)], [], []⟩) (APath.fin (by kernel_rfl)) (by kernel_rfl) ?_
      refine vc_ret ?_
      obtain rfl := some_inj h
      exact ret_of (by kernel_rfl)
    · refine vc_skip ?_
      refine vc_kp ?_
      refine vc_reg (S := ⟨[(2, iv a2_), (3, iv a3_), (9, .loc 9 0), (12, .loc 12 0), (23, .agg [s_e_api_Entry false r1.Entries, iv r1.Cycle, s_e_api_Entry false r2.Entries, iv r2.Cycle]), (24, iv 0), (62, .agg [iv a2_, iv a3_, iv a4_.x0, iv a4_.x1, iv (w64 (1 + (w64 ((Int.tmod (IntKind.u64.wrap (a2_)) 4))))), iv (w64 (84 + (w64 ((Int.tmod (IntKind.u64.wrap (a3_)) 100))))), iv (Int.tmod a4_.x0 10000), iv (w64 ((Int.tmod (IntKind.u64.wrap (a4_.x1)) 8000))), iv 1, iv 84, iv (Int.tmod a4_.x0 3000), iv (w64 ((Int.tmod (IntKind.u64.wrap (a4_.x1)) 900)))]), (63, iv 1)], [(9, (c_Arr2_i64 a4_)), (12, (c_api_Gates r1))], []⟩) (APath.fin (by kernel_rfl)) (by kernel_rfl) ?_
      refine unr_step ?_
      refine vc_seq ?_
      refine vc_reg (S := ⟨[(2, iv a2_), (3, iv a3_), (9, .loc 9 0), (12, .loc 12 0), (23, .agg [s_e_api_Entry false r1.Entries, iv r1.Cycle, s_e_api_Entry false r2.Entries, iv r2.Cycle]), (24, iv 0), (62, .agg [iv a2_, iv a3_, iv a4_.x0, iv a4_.x1, iv (w64 (1 + (w64 ((Int.tmod (IntKind.u64.wrap (a2_)) 4))))), iv (w64 (84 + (w64 ((Int.tmod (IntKind.u64.wrap (a3_)) 100))))), iv (Int.tmod a4_.x0 10000), iv (w64 ((Int.tmod (IntKind.u64.wrap (a4_.x1)) 8000))), iv 1, iv 84, iv (Int.tmod a4_.x0 3000), iv (w64 ((Int.tmod (IntKind.u64.wrap (a4_.x1)) 900)))]), (63, iv 1), (64, bv true)], [(9, (c_Arr2_i64 a4_)), (12, (c_api_Gates r1))], []⟩) (APath.fin (by kernel_rfl)) (by kernel_rfl) ?_
      refine vc_seq ?_
      refine vc_true (by kernel_rfl) ?_
      refine vc_skip ?_
      refine vc_kp ?_
      refine vc_seq ?_
      refine vc_block ?_
      refine vc_seq ?_
      refine vc_reg (S := ⟨[(2, iv a2_), (3, iv a3_), (9, .loc 9 0), (12, .loc 12 0), (14, .loc 14 0), (23, .agg [s_e_api_Entry false r1.Entries, iv r1.Cycle, s_e_api_Entry false r2.Entries, iv r2.Cycle]), (24, iv 0), (62, .agg [iv a2_, iv a3_, iv a4_.x0, iv a4_.x1, iv (w64 (1 + (w64 ((Int.tmod (IntKind.u64.wrap (a2_)) 4))))), iv (w64 (84 + (w64 ((Int.tmod (IntKind.u64.wrap (a3_)) 100))))), iv (Int.tmod a4_.x0 10000), iv (w64 ((Int.tmod (IntKind.u64.wrap (a4_.x1)) 8000))), iv 1, iv 84, iv (Int.tmod a4_.x0 3000), iv (w64 ((Int.tmod (IntKind.u64.wrap (a4_.x1)) 900)))]), (63, iv 1)], [(9, (c_Arr2_i64 a4_)), (12, (c_api_Gates r1)), (14, [iv (w64 (1 + (w64 ((Int.tmod (IntKind.u64.wrap (a2_)) 4))))), iv (w64 (84 + (w64 ((Int.tmod (IntKind.u64.wrap (a3_)) 100))))), iv (Int.tmod a4_.x0 10000), iv (w64 ((Int.tmod (IntKind.u64.wrap (a4_.x1)) 8000)))])], []⟩) (APath.fin (by kernel_rfl)) (by kernel_rfl) ?_
      refine vc_seq ?_
      obtain ⟨r8, hr8, h⟩ := bind_some h
      refine vc_reg (S := ⟨[(2, iv a2_), (3, iv a3_), (9, .loc 9 0), (12, .loc 12 0), (14, .loc 14 0), (15, iv r8.1), (16, iv r8.2), (23, .agg [s_e_api_Entry false r1.Entries, iv r1.Cycle, s_e_api_Entry false r2.Entries, iv r2.Cycle]), (24, iv 0), (62, .agg [iv a2_, iv a3_, iv a4_.x0, iv a4_.x1, iv (w64 (1 + (w64 ((Int.tmod (IntKind.u64.wrap (a2_)) 4))))), iv (w64 (84 + (w64 ((Int.tmod (IntKind.u64.wrap (a3_)) 100))))), iv (Int.tmod a4_.x0 10000), iv (w64 ((Int.tmod (IntKind.u64.wrap (a4_.x1)) 8000))), iv 1, iv 84, iv (Int.tmod a4_.x0 3000), iv (w64 ((Int.tmod (IntKind.u64.wrap (a4_.x1)) 900)))]), (63, iv 1)], [(9, (c_Arr2_i64 a4_)), (12, (c_api_Gates r1)), (14, [iv (w64 (1 + (w64 ((Int.tmod (IntKind.u64.wrap (a2_)) 4))))), iv (w64 (84 + (w64 ((Int.tmod (IntKind.u64.wrap (a3_)) 100))))), iv (Int.tmod a4_.x0 10000), iv (w64 ((Int.tmod (IntKind.u64.wrap (a4_.x1)) 8000)))])], []⟩) (APath.chunk 9 (by kernel_rfl) (APath.one (.call (some 76) 15 [.t 67, .t 69, .t 71, .t 73, .t 75]) (by kernel_rfl) (st_call (by kernel_rfl) (service_Sends_ok N r1 (w64 (1 + (w64 ((Int.tmod (IntKind.u64.wrap (a2_)) 4))))) (w64 (84 + (w64 ((Int.tmod (IntKind.u64.wrap (a3_)) 100))))) (Int.tmod a4_.x0 10000) (w64 ((Int.tmod (IntKind.u64.wrap (a4_.x1)) 8000))) r8 hr8)) (APath.fin (by kernel_rfl)))) (by kernel_rfl) ?_
      refine vc_seq ?_
      obtain ⟨r9, hr9, h⟩ := bind_some h
      refine vc_reg (S := ⟨[(2, iv a2_), (3, iv a3_), (9, .loc 9 0), (12, .loc 12 0), (15, iv r8.1), (16, iv r8.2), (17, iv r9.1), (18, iv r9.2), (23, .agg [s_e_api_Entry false r1.Entries, iv r1.Cycle, s_e_api_Entry false r2.Entries, iv r2.Cycle]), (24, iv 0), (62, .agg [iv a2_, iv a3_, iv a4_.x0, iv a4_.x1, iv (w64 (1 + (w64 ((Int.tmod (IntKind.u64.wrap (a2_)) 4))))), iv (w64 (84 + (w64 ((Int.tmod (IntKind.u64.wrap (a3_)) 100))))), iv (Int.tmod a4_.x0 10000), iv (w64 ((Int.tmod (IntKind.u64.wrap (a4_.x1)) 8000))), iv 1, iv 84, iv (Int.tmod a4_.x0 3000), iv (w64 ((Int.tmod (IntKind.u64.wrap (a4_.x1)) 900)))]), (63, iv 1)], [(9, (c_Arr2_i64 a4_)), (12, (c_api_Gates r1))], []⟩) (APath.chunk 9 (by kernel_rfl) (APath.one (.call (some 89) 16 [.t 80, .t 82, .t 84, .t 86, .t 88]) (by kernel_rfl) (st_call (by kernel_rfl) (ref30_Sends_ok N r1 (w64 (1 + (w64 ((Int.tmod (IntKind.u64.wrap (a2_)) 4))))) (w64 (84 + (w64 ((Int.tmod (IntKind.u64.wrap (a3_)) 100))))) (Int.tmod a4_.x0 10000) (w64 ((Int.tmod (IntKind.u64.wrap (a4_.x1)) 8000))) r9 hr9)) (APath.fin (by kernel_rfl)))) (by kernel_rfl) ?_
      refine vc_seq ?_
      refine vc_regX ⟨[(2, iv a2_), (3, iv a3_), (9, .loc 9 0), (12, .loc 12 0), (23, .agg [s_e_api_Entry false r1.Entries, iv r1.Cycle, s_e_api_Entry false r2.Entries, iv r2.Cycle]), (24, iv 0), (62, .agg [iv a2_, iv a3_, iv a4_.x0, iv a4_.x1, iv (w64 (1 + (w64 ((Int.tmod (IntKind.u64.wrap (a2_)) 4))))), iv (w64 (84 + (w64 ((Int.tmod (IntKind.u64.wrap (a3_)) 100))))), iv (Int.tmod a4_.x0 10000), iv (w64 ((Int.tmod (IntKind.u64.wrap (a4_.x1)) 8000))), iv 1, iv 84, iv (Int.tmod a4_.x0 3000), iv (w64 ((Int.tmod (IntKind.u64.wrap (a4_.x1)) 900)))]), (63, iv 1), (99, bv ((r8.1 != r9.1) || (r8.2 != r9.2)))], [(9, (c_Arr2_i64 a4_)), (12, (c_api_Gates r1))], []⟩ ?_ ?_
      · rcases Bool.eq_false_or_eq_true (r8.1 != r9.1) with hc10 | hc11
        · exact ⟨_, (APath.chunk 2 (by kernel_rfl) (APath.one (.val 94 (.bin .neq) [.t 92, .t 93]) (by kernel_rfl) (st_bool (c := (r8.1 != r9.1)) (by kernel_rfl) hc10) (APath.fin (by kernel_rfl)))), by simp only [hc10]; kernel_rfl⟩
        · exact ⟨_, (APath.chunk 2 (by kernel_rfl) (APath.one (.val 94 (.bin .neq) [.t 92, .t 93]) (by kernel_rfl) (st_bool (c := (r8.1 != r9.1)) (by kernel_rfl) hc11) (APath.fin (by kernel_rfl)))), by simp only [hc11]; kernel_rfl⟩
      · refine vc_ite (by kernel_rfl) h (fun hc12 h => ?_) (fun hc12 h => ?_)
        · refine vc_seq ?_
          refine vc_reg (S := ⟨[(10, bv false)], [], []⟩) (APath.fin (by kernel_rfl)) (by kernel_rfl) ?_
          refine vc_ret ?_
          obtain rfl := some_inj h
          exact ret_of (by kernel_rfl)
        · refine vc_skip ?_
          refine vc_kp ?_
          refine vc_reg (S := ⟨[(2, iv a2_), (3, iv a3_), (9, .loc 9 0), (12, .loc 12 0), (23, .agg [s_e_api_Entry false r1.Entries, iv r1.Cycle, s_e_api_Entry false r2.Entries, iv r2.Cycle]), (24, iv 0), (62, .agg [iv a2_, iv a3_, iv a4_.x0, iv a4_.x1, iv (w64 (1 + (w64 ((Int.tmod (IntKind.u64.wrap (a2_)) 4))))), iv (w64 (84 + (w64 ((Int.tmod (IntKind.u64.wrap (a3_)) 100))))), iv (Int.tmod a4_.x0 10000), iv (w64 ((Int.tmod (IntKind.u64.wrap (a4_.x1)) 8000))), iv 1, iv 84, iv (Int.tmod a4_.x0 3000), iv (w64 ((Int.tmod (IntKind.u64.wrap (a4_.x1)) 900)))]), (63, iv 2)], [(9, (c_Arr2_i64 a4_)), (12, (c_api_Gates r1))], []⟩) (APath.fin (by kernel_rfl)) (by kernel_rfl) ?_
          refine unr_step ?_
          refine vc_seq ?_
          refine vc_reg (S := ⟨[(2, iv a2_), (3, iv a3_), (9, .loc 9 0), (12, .loc 12 0), (23, .agg [s_e_api_Entry false r1.Entries, iv r1.Cycle, s_e_api_Entry false r2.Entries, iv r2.Cycle]), (24, iv 0), (62, .agg [iv a2_, iv a3_, iv a4_.x0, iv a4_.x1, iv (w64 (1 + (w64 ((Int.tmod (IntKind.u64.wrap (a2_)) 4))))), iv (w64 (84 + (w64 ((Int.tmod (IntKind.u64.wrap (a3_)) 100))))), iv (Int.tmod a4_.x0 10000), iv (w64 ((Int.tmod (IntKind.u64.wrap (a4_.x1)) 8000))), iv 1, iv 84, iv (Int.tmod a4_.x0 3000), iv (w64 ((Int.tmod (IntKind.u64.wrap (a4_.x1)) 900)))]), (63, iv 2), (64, bv true)], [(9, (c_Arr2_i64 a4_)), (12, (c_api_Gates r1))], []⟩) (APath.fin (by kernel_rfl)) (by kernel_rfl) ?_
          refine vc_seq ?_
          refine vc_true (by kernel_rfl) ?_
          refine vc_skip ?_
          refine vc_kp ?_
          refine vc_seq ?_
          refine vc_block ?_
          refine vc_seq ?_
          refine vc_reg (S := ⟨[(2, iv a2_), (3, iv a3_), (9, .loc 9 0), (12, .loc 12 0), (14, .loc 14 0), (23, .agg [s_e_api_Entry false r1.Entries, iv r1.Cycle, s_e_api_Entry false r2.Entries, iv r2.Cycle]), (24, iv 0), (62, .agg [iv a2_, iv a3_, iv a4_.x0, iv a4_.x1, iv (w64 (1 + (w64 ((Int.tmod (IntKind.u64.wrap (a2_)) 4))))), iv (w64 (84 + (w64 ((Int.tmod (IntKind.u64.wrap (a3_)) 100))))), iv (Int.tmod a4_.x0 10000), iv (w64 ((Int.tmod (IntKind.u64.wrap (a4_.x1)) 8000))), iv 1, iv 84, iv (Int.tmod a4_.x0 3000), iv (w64 ((Int.tmod (IntKind.u64.wrap (a4_.x1)) 900)))]), (63, iv 2)], [(9, (c_Arr2_i64 a4_)), (12, (c_api_Gates r1)), (14, [iv 1, iv 84, iv (Int.tmod a4_.x0 3000), iv (w64 ((Int.tmod (IntKind.u64.wrap (a4_.x1)) 900)))])], []⟩) (APath.fin (by kernel_rfl)) (by kernel_rfl) ?_
          refine vc_seq ?_
          obtain ⟨r13, hr13, h⟩ := bind_some h
          refine vc_reg (S := ⟨[(2, iv a2_), (3, iv a3_), (9, .loc 9 0), (12, .loc 12 0), (14, .loc 14 0), (15, iv r13.1), (16, iv r13.2), (23, .agg [s_e_api_Entry false r1.Entries, iv r1.Cycle, s_e_api_Entry false r2.Entries, iv r2.Cycle]), (24, iv 0), (62, .agg [iv a2_, iv a3_, iv a4_.x0, iv a4_.x1, iv (w64 (1 + (w64 ((Int.tmod (IntKind.u64.wrap (a2_)) 4))))), iv (w64 (84 + (w64 ((Int.tmod (IntKind.u64.wrap (a3_)) 100))))), iv (Int.tmod a4_.x0 10000), iv (w64 ((Int.tmod (IntKind.u64.wrap (a4_.x1)) 8000))), iv 1, iv 84, iv (Int.tmod a4_.x0 3000), iv (w64 ((Int.tmod (IntKind.u64.wrap (a4_.x1)) 900)))]), (63, iv 2)], [(9, (c_Arr2_i64 a4_)), (12, (c_api_Gates r1)), (14, [iv 1, iv 84, iv (Int.tmod a4_.x0 3000), iv (w64 ((Int.tmod (IntKind.u64.wrap (a4_.x1)) 900)))])], []⟩) (APath.chunk 9 (by kernel_rfl) (APath.one (.call (some 76) 15 [.t 67, .t 69, .t 71, .t 73, .t 75]) (by kernel_rfl) (st_call (by kernel_rfl) (service_Sends_ok N r1 1 84 (Int.tmod a4_.x0 3000) (w64 ((Int.tmod (IntKind.u64.wrap (a4_.x1)) 900))) r13 hr13)) (APath.fin (by kernel_rfl)))) (by kernel_rfl) ?_
          refine vc_seq ?_
          obtain ⟨r14, hr14, h⟩ := bind_some h
          refine vc_reg (S := ⟨[(2, iv a2_), (3, iv a3_), (9, .loc 9 0), (12, .loc 12 0), (15, iv r13.1), (16, iv r13.2), (17, iv r14.1), (18, iv r14.2), (23, .agg [s_e_api_Entry false r1.Entries, iv r1.Cycle, s_e_api_Entry false r2.Entries, iv r2.Cycle]), (24, iv 0), (62, .agg [iv a2_, iv a3_, iv a4_.x0, iv a4_.x1, iv (w64 (1 + (w64 ((Int.tmod (IntKind.u64.wrap (a2_)) 4))))), iv (w64 (84 + (w64 ((Int.tmod (IntKind.u64.wrap (a3_)) 100))))), iv (Int.tmod a4_.x0 10000), iv (w64 ((Int.tmod (IntKind.u64.wrap (a4_.x1)) 8000))), iv 1, iv 84, iv (Int.tmod a4_.x0 3000), iv (w64 ((Int.tmod (IntKind.u64.wrap (a4_.x1)) 900)))]), (63, iv 2)], [(9, (c_Arr2_i64 a4_)), (12, (c_api_Gates r1))], []⟩) (APath.chunk 9 (by kernel_rfl) (APath.one (.call (some 89) 16 [.t 80, .t 82, .t 84, .t 86, .t 88]) (by kernel_rfl) (st_call (by kernel_rfl) (ref30_Sends_ok N r1 1 84 (Int.tmod a4_.x0 3000) (w64 ((Int.tmod (IntKind.u64.wrap (a4_.x1)) 900))) r14 hr14)) (APath.fin (by kernel_rfl)))) (by kernel_rfl) ?_
          refine vc_seq ?_
          refine vc_regX ⟨[(2, iv a2_), (3, iv a3_), (9, .loc 9 0), (12, .loc 12 0), (23, .agg [s_e_api_Entry false r1.Entries, iv r1.Cycle, s_e_api_Entry false r2.Entries, iv r2.Cycle]), (24, iv 0), (62, .agg [iv a2_, iv a3_, iv a4_.x0, iv a4_.x1, iv (w64 (1 + (w64 ((Int.tmod (IntKind.u64.wrap (a2_)) 4))))), iv (w64 (84 + (w64 ((Int.tmod (IntKind.u64.wrap (a3_)) 100))))), iv (Int.tmod a4_.x0 10000), iv (w64 ((Int.tmod (IntKind.u64.wrap (a4_.x1)) 8000))), iv 1, iv 84, iv (Int.tmod a4_.x0 3000), iv (w64 ((Int.tmod (IntKind.u64.wrap (a4_.x1)) 900)))]), (63, iv 2), (99, bv ((r13.1 != r14.1) || (r13.2 != r14.2)))], [(9, (c_Arr2_i64 a4_)), (12, (c_api_Gates r1))], []⟩ ?_ ?_
          · rcases Bool.eq_false_or_eq_true (r13.1 != r14.1) with hc15 | hc16
            · exact ⟨_, (APath.chunk 2 (by kernel_rfl) (APath.one (.val 94 (.bin .neq) [.t 92, .t 93]) (by kernel_rfl) (st_bool (c := (r13.1 != r14.1)) (by kernel_rfl) hc15) (APath.fin (by kernel_rfl)))), by simp only [hc15]; kernel_rfl⟩
            · exact ⟨_, (APath.chunk 2 (by kernel_rfl) (APath.one (.val 94 (.bin .neq) [.t 92, .t 93]) (by kernel_rfl) (st_bool (c := (r13.1 != r14.1)) (by kernel_rfl) hc16) (APath.fin (by kernel_rfl)))), by simp only [hc16]; kernel_rfl⟩
          · refine vc_ite (by kernel_rfl) h (fun hc17 h => ?_) (fun hc17 h => ?_)
            · refine vc_seq ?_
              refine vc_reg (S := ⟨[(10, bv false)], [], []⟩) (APath.fin (by kernel_rfl)) (by kernel_rfl) ?_
              refine vc_ret ?_
              obtain rfl := some_inj h
              exact ret_of (by kernel_rfl)
            · refine vc_skip ?_
              refine vc_kp ?_
              refine vc_reg (S := ⟨[(2, iv a2_), (3, iv a3_), (9, .loc 9 0), (12, .loc 12 0), (23, .agg [s_e_api_Entry false r1.Entries, iv r1.Cycle, s_e_api_Entry false r2.Entries, iv r2.Cycle]), (24, iv 0), (62, .agg [iv a2_, iv a3_, iv a4_.x0, iv a4_.x1, iv (w64 (1 + (w64 ((Int.tmod (IntKind.u64.wrap (a2_)) 4))))), iv (w64 (84 + (w64 ((Int.tmod (IntKind.u64.wrap (a3_)) 100))))), iv (Int.tmod a4_.x0 10000), iv (w64 ((Int.tmod (IntKind.u64.wrap (a4_.x1)) 8000))), iv 1, iv 84, iv (Int.tmod a4_.x0 3000), iv (w64 ((Int.tmod (IntKind.u64.wrap (a4_.x1)) 900)))]), (63, iv 3)], [(9, (c_Arr2_i64 a4_)), (12, (c_api_Gates r1))], []⟩) (APath.fin (by kernel_rfl)) (by kernel_rfl) ?_
              refine unr_step ?_
              refine vc_seq ?_
              refine vc_reg (S := ⟨[(2, iv a2_), (3, iv a3_), (9, .loc 9 0), (12, .loc 12 0), (23, .agg [s_e_api_Entry false r1.Entries, iv r1.Cycle, s_e_api_Entry false r2.Entries, iv r2.Cycle]), (24, iv 0), (62, .agg [iv a2_, iv a3_, iv a4_.x0, iv a4_.x1, iv (w64 (1 + (w64 ((Int.tmod (IntKind.u64.wrap (a2_)) 4))))), iv (w64 (84 + (w64 ((Int.tmod (IntKind.u64.wrap (a3_)) 100))))), iv (Int.tmod a4_.x0 10000), iv (w64 ((Int.tmod (IntKind.u64.wrap (a4_.x1)) 8000))), iv 1, iv 84, iv (Int.tmod a4_.x0 3000), iv (w64 ((Int.tmod (IntKind.u64.wrap (a4_.x1)) 900)))]), (63, iv 3), (64, bv false)], [(9, (c_Arr2_i64 a4_)), (12, (c_api_Gates r1))], []⟩) (APath.fin (by kernel_rfl)) (by kernel_rfl) ?_
              refine vc_seq ?_
              refine vc_false (by kernel_rfl) ?_
              refine vc_exit ?_
              try show vc _ _ _ _ _
              refine vc_reg (S := ⟨[(2, iv a2_), (3, iv a3_), (9, .loc 9 0), (23, .agg [s_e_api_Entry false r1.Entries, iv r1.Cycle, s_e_api_Entry false r2.Entries, iv r2.Cycle]), (24, iv 1)], [(9, (c_Arr2_i64 a4_))], []⟩) (APath.fin (by kernel_rfl)) (by kernel_rfl) ?_
              refine unr_step ?_
              refine vc_seq ?_
              refine vc_reg (S := ⟨[(2, iv a2_), (3, iv a3_), (9, .loc 9 0), (23, .agg [s_e_api_Entry false r1.Entries, iv r1.Cycle, s_e_api_Entry false r2.Entries, iv r2.Cycle]), (24, iv 1), (25, bv true)], [(9, (c_Arr2_i64 a4_))], []⟩) (APath.fin (by kernel_rfl)) (by kernel_rfl) ?_
              refine vc_seq ?_
              refine vc_true (by kernel_rfl) ?_
              refine vc_skip ?_
              refine vc_kp ?_
              refine vc_seq ?_
              refine vc_block ?_
              refine vc_seq ?_
              refine vc_reg (S := ⟨[(2, iv a2_), (3, iv a3_), (9, .loc 9 0), (12, .loc 12 0), (23, .agg [s_e_api_Entry false r1.Entries, iv r1.Cycle, s_e_api_Entry false r2.Entries, iv r2.Cycle]), (24, iv 1)], [(9, (c_Arr2_i64 a4_)), (12, (c_api_Gates r2))], []⟩) (APath.fin (by kernel_rfl)) (by kernel_rfl) ?_
              refine vc_seq ?_
              refine vc_reg (S := ⟨[(2, iv a2_), (3, iv a3_), (9, .loc 9 0), (12, .loc 12 0), (23, .agg [s_e_api_Entry false r1.Entries, iv r1.Cycle, s_e_api_Entry false r2.Entries, iv r2.Cycle]), (24, iv 1), (62, .agg [iv a2_, iv a3_, iv a4_.x0, iv a4_.x1, iv (w64 (1 + (w64 ((Int.tmod (IntKind.u64.wrap (a2_)) 4))))), iv (w64 (84 + (w64 ((Int.tmod (IntKind.u64.wrap (a3_)) 100))))), iv (Int.tmod a4_.x0 10000), iv (w64 ((Int.tmod (IntKind.u64.wrap (a4_.x1)) 8000))), iv 1, iv 84, iv (Int.tmod a4_.x0 3000), iv (w64 ((Int.tmod (IntKind.u64.wrap (a4_.x1)) 900)))]), (63, iv 0)], [(9, (c_Arr2_i64 a4_)), (12, (c_api_Gates r2))], []⟩) (APath.fin (by kernel_rfl)) (by kernel_rfl) ?_
              refine vc_block ?_
              refine vc_unroll 14 ?_
              refine unr_step ?_
              refine vc_seq ?_
              refine vc_reg (S := ⟨[(2, iv a2_), (3, iv a3_), (9, .loc 9 0), (12, .loc 12 0), (23, .agg [s_e_api_Entry false r1.Entries, iv r1.Cycle, s_e_api_Entry false r2.Entries, iv r2.Cycle]), (24, iv 1), (62, .agg [iv a2_, iv a3_, iv a4_.x0, iv a4_.x1, iv (w64 (1 + (w64 ((Int.tmod (IntKind.u64.wrap (a2_)) 4))))), iv (w64 (84 + (w64 ((Int.tmod (IntKind.u64.wrap (a3_)) 100))))), iv (Int.tmod a4_.x0 10000), iv (w64 ((Int.tmod (IntKind.u64.wrap (a4_.x1)) 8000))), iv 1, iv 84, iv (Int.tmod a4_.x0 3000), iv (w64 ((Int.tmod (IntKind.u64.wrap (a4_.x1)) 900)))]), (63, iv 0), (64, bv true)], [(9, (c_Arr2_i64 a4_)), (12, (c_api_Gates r2))], []⟩) (APath.fin (by kernel_rfl)) (by kernel_rfl) ?_
              refine vc_seq ?_
              refine vc_true (by kernel_rfl) ?_
              refine vc_skip ?_
              refine vc_kp ?_
              refine vc_seq ?_
              refine vc_block ?_
              refine vc_seq ?_
              refine vc_reg (S := ⟨[(2, iv a2_), (3, iv a3_), (9, .loc 9 0), (12, .loc 12 0), (14, .loc 14 0), (23, .agg [s_e_api_Entry false r1.Entries, iv r1.Cycle, s_e_api_Entry false r2.Entries, iv r2.Cycle]), (24, iv 1), (62, .agg [iv a2_, iv a3_, iv a4_.x0, iv a4_.x1, iv (w64 (1 + (w64 ((Int.tmod (IntKind.u64.wrap (a2_)) 4))))), iv (w64 (84 + (w64 ((Int.tmod (IntKind.u64.wrap (a3_)) 100))))), iv (Int.tmod a4_.x0 10000), iv (w64 ((Int.tmod (IntKind.u64.wrap (a4_.x1)) 8000))), iv 1, iv 84, iv (Int.tmod a4_.x0 3000), iv (w64 ((Int.tmod (IntKind.u64.wrap (a4_.x1)) 900)))]), (63, iv 0)], [(9, (c_Arr2_i64 a4_)), (12, (c_api_Gates r2)), (14, [iv a2_, iv a3_, iv a4_.x0, iv a4_.x1])], []⟩) (APath.fin (by kernel_rfl)) (by kernel_rfl) ?_
              refine vc_seq ?_
              obtain ⟨r18, hr18, h⟩ := bind_some h
              refine vc_reg (S := ⟨[(2, iv a2_), (3, iv a3_), (9, .loc 9 0), (12, .loc 12 0), (14, .loc 14 0), (15, iv r18.1), (16, iv r18.2), (23, .agg [s_e_api_Entry false r1.Entries, iv r1.Cycle, s_e_api_Entry false r2.Entries, iv r2.Cycle]), (24, iv 1), (62, .agg [iv a2_, iv a3_, iv a4_.x0, iv a4_.x1, iv (w64 (1 + (w64 ((Int.tmod (IntKind.u64.wrap (a2_)) 4))))), iv (w64 (84 + (w64 ((Int.tmod (IntKind.u64.wrap (a3_)) 100))))), iv (Int.tmod a4_.x0 10000), iv (w64 ((Int.tmod (IntKind.u64.wrap (a4_.x1)) 8000))), iv 1, iv 84, iv (Int.tmod a4_.x0 3000), iv (w64 ((Int.tmod (IntKind.u64.wrap (a4_.x1)) 900)))]), (63, iv 0)], [(9, (c_Arr2_i64 a4_)), (12, (c_api_Gates r2)), (14, [iv a2_, iv a3_, iv a4_.x0, iv a4_.x1])], []⟩) (APath.chunk 9 (by kernel_rfl) (APath.one (.call (some 76) 15 [.t 67, .t 69, .t 71, .t 73, .t 75]) (by kernel_rfl) (st_call (by kernel_rfl) (service_Sends_ok N r2 a2_ a3_ a4_.x0 a4_.x1 r18 hr18)) (APath.fin (by kernel_rfl)))) (by kernel_rfl) ?_
              refine vc_seq ?_
              obtain ⟨r19, hr19, h⟩ := bind_some h
              refine vc_reg (S := ⟨[(2, iv a2_), (3, iv a3_), (9, .loc 9 0), (12, .loc 12 0), (15, iv r18.1), (16, iv r18.2), (17, iv r19.1), (18, iv r19.2), (23, .agg [s_e_api_Entry false r1.Entries, iv r1.Cycle, s_e_api_Entry false r2.Entries, iv r2.Cycle]), (24, iv 1), (62, .agg [iv a2_, iv a3_, iv a4_.x0, iv a4_.x1, iv (w64 (1 + (w64 ((Int.tmod (IntKind.u64.wrap (a2_)) 4))))), iv (w64 (84 + (w64 ((Int.tmod (IntKind.u64.wrap (a3_)) 100))))), iv (Int.tmod a4_.x0 10000), iv (w64 ((Int.tmod (IntKind.u64.wrap (a4_.x1)) 8000))), iv 1, iv 84, iv (Int.tmod a4_.x0 3000), iv (w64 ((Int.tmod (IntKind.u64.wrap (a4_.x1)) 900)))]), (63, iv 0)], [(9, (c_Arr2_i64 a4_)), (12, (c_api_Gates r2))], []⟩) (APath.chunk 9 (by kernel_rfl) (APath.one (.call (some 89) 16 [.t 80, .t 82, .t 84, .t 86, .t 88]) (by kernel_rfl) (st_call (by kernel_rfl) (ref30_Sends_ok N r2 a2_ a3_ a4_.x0 a4_.x1 r19 hr19)) (APath.fin (by kernel_rfl)))) (by kernel_rfl) ?_
              refine vc_seq ?_
              refine vc_regX ⟨[(2, iv a2_), (3, iv a3_), (9, .loc 9 0), (12, .loc 12 0), (23, .agg [s_e_api_Entry false r1.Entries, iv r1.Cycle, s_e_api_Entry false r2.Entries, iv r2.Cycle]), (24, iv 1), (62, .agg [iv a2_, iv a3_, iv a4_.x0, iv a4_.x1, iv (w64 (1 + (w64 ((Int.tmod (IntKind.u64.wrap (a2_)) 4))))), iv (w64 (84 + (w64 ((Int.tmod (IntKind.u64.wrap (a3_)) 100))))), iv (Int.tmod a4_.x0 10000), iv (w64 ((Int.tmod (IntKind.u64.wrap (a4_.x1)) 8000))), iv 1, iv 84, iv (Int.tmod a4_.x0 3000), iv (w64 ((Int.tmod (IntKind.u64.wrap (a4_.x1)) 900)))]), (63, iv 0), (99, bv ((r18.1 != r19.1) || (r18.2 != r19.2)))], [(9, (c_Arr2_i64 a4_)), (12, (c_api_Gates r2))], []⟩ ?_ ?_
              · rcases Bool.eq_false_or_eq_true (r18.1 != r19.1) with hc20 | hc21
                · exact ⟨_, (APath.chunk 2 (by kernel_rfl) (APath.one (.val 94 (.bin .neq) [.t 92, .t 93]) (by kernel_rfl) (st_bool (c := (r18.1 != r19.1)) (by kernel_rfl) hc20) (APath.fin (by kernel_rfl)))), by simp only [hc20]; kernel_rfl⟩
                · exact ⟨_, (APath.chunk 2 (by kernel_rfl) (APath.one (.val 94 (.bin .neq) [.t 92, .t 93]) (by kernel_rfl) (st_bool (c := (r18.1 != r19.1)) (by kernel_rfl) hc21) (APath.fin (by kernel_rfl)))), by simp only [hc21]; kernel_rfl⟩
              · refine vc_ite (by kernel_rfl) h (fun hc22 h => ?_) (fun hc22 h => ?_)
                · refine vc_seq ?_
                  refine vc_reg (S := ⟨[(10, bv false)], [], []⟩) (APath.fin (by kernel_rfl)) (by kernel_rfl) ?_
                  refine vc_ret ?_
                  obtain rfl := some_inj h
                  exact ret_of (by kernel_rfl)
                · refine vc_skip ?_
                  refine vc_kp ?_
                  refine vc_reg (S := ⟨[(2, iv a2_), (3, iv a3_), (9, .loc 9 0), (12, .loc 12 0), (23, .agg [s_e_api_Entry false r1.Entries, iv r1.Cycle, s_e_api_Entry false r2.Entries, iv r2.Cycle]), (24, iv 1), (62, .agg [iv a2_, iv a3_, iv a4_.x0, iv a4_.x1, iv (w64 (1 + (w64 ((Int.tmod (IntKind.u64.wrap (a2_)) 4))))), iv (w64 (84 + (w64 ((Int.tmod (IntKind.u64.wrap (a3_)) 100))))), iv (Int.tmod a4_.x0 10000), iv (w64 ((Int.tmod (IntKind.u64.wrap (a4_.x1)) 8000))), iv 1, iv 84, iv (Int.tmod a4_.x0 3000), iv (w64 ((Int.tmod (IntKind.u64.wrap (a4_.x1)) 900)))]), (63, iv 1)], [(9, (c_Arr2_i64 a4_)), (12, (c_api_Gates r2))], []⟩) (APath.fin (by kernel_rfl)) (by kernel_rfl) ?_
                  refine unr_step ?_
                  refine vc_seq ?_
                  refine vc_reg (S := ⟨[(2, iv a2_), (3, iv a3_), (9, .loc 9 0), (12, .loc 12 0), (23, .agg [s_e_api_Entry false r1.Entries, iv r1.Cycle, s_e_api_Entry false r2.Entries, iv r2.Cycle]), (24, iv 1), (62, .agg [iv a2_, iv a3_, iv a4_.x0, iv a4_.x1, iv (w64 (1 + (w64 ((Int.tmod (IntKind.u64.wrap (a2_)) 4))))), iv (w64 (84 + (w64 ((Int.tmod (IntKind.u64.wrap (a3_)) 100))))), iv (Int.tmod a4_.x0 10000), iv (w64 ((Int.tmod (IntKind.u64.wrap (a4_.x1)) 8000))), iv 1, iv 84, iv (Int.tmod a4_.x0 3000), iv (w64 ((Int.tmod (IntKind.u64.wrap (a4_.x1)) 900)))]), (63, iv 1), (64, bv true)], [(9, (c_Arr2_i64 a4_)), (12, (c_api_Gates r2))], []⟩) (APath.fin (by kernel_rfl)) (by kernel_rfl) ?_
                  refine vc_seq ?_
                  refine vc_true (by kernel_rfl) ?_
                  refine vc_skip ?_
                  refine vc_kp ?_
                  refine vc_seq ?_
                  refine vc_block ?_
                  refine vc_seq ?_
                  refine vc_reg (S := ⟨[(2, iv a2_), (3, iv a3_), (9, .loc 9 0), (12, .loc 12 0), (14, .loc 14 0), (23, .agg [s_e_api_Entry false r1.Entries, iv r1.Cycle, s_e_api_Entry false r2.Entries, iv r2.Cycle]), (24, iv 1), (62, .agg [iv a2_, iv a3_, iv a4_.x0, iv a4_.x1, iv (w64 (1 + (w64 ((Int.tmod (IntKind.u64.wrap (a2_)) 4))))), iv (w64 (84 + (w64 ((Int.tmod (IntKind.u64.wrap (a3_)) 100))))), iv (Int.tmod a4_.x0 10000), iv (w64 ((Int.tmod (IntKind.u64.wrap (a4_.x1)) 8000))), iv 1, iv 84, iv (Int.tmod a4_.x0 3000), iv (w64 ((Int.tmod (IntKind.u64.wrap (a4_.x1)) 900)))]), (63, iv 1)], [(9, (c_Arr2_i64 a4_)), (12, (c_api_Gates r2)), (14, [iv (w64 (1 + (w64 ((Int.tmod (IntKind.u64.wrap (a2_)) 4))))), iv (w64 (84 + (w64 ((Int.tmod (IntKind.u64.wrap (a3_)) 100))))), iv (Int.tmod a4_.x0 10000), iv (w64 ((Int.tmod (IntKind.u64.wrap (a4_.x1)) 8000)))])], []⟩) (APath.fin (by kernel_rfl)) (by kernel_rfl) ?_
                  refine vc_seq ?_
                  obtain ⟨r23, hr23, h⟩ := bind_some h
                  refine vc_reg (S := ⟨[(2, iv a2_), (3, iv a3_), (9, .loc 9 0), (12, .loc 12 0), (14, .loc 14 0), (15, iv r23.1), (16, iv r23.2), (23, .agg [s_e_api_Entry false r1.Entries, iv r1.Cycle, s_e_api_Entry false r2.Entries, iv r2.Cycle]), (24, iv 1), (62, .agg [iv a2_, iv a3_, iv a4_.x0, iv a4_.x1, iv (w64 (1 + (w64 ((Int.tmod (IntKind.u64.wrap (a2_)) 4))))), iv (w64 (84 + (w64 ((Int.tmod (IntKind.u64.wrap (a3_)) 100))))), iv (Int.tmod a4_.x0 10000), iv (w64 ((Int.tmod (IntKind.u64.wrap (a4_.x1)) 8000))), iv 1, iv 84, iv (Int.tmod a4_.x0 3000), iv (w64 ((Int.tmod (IntKind.u64.wrap (a4_.x1)) 900)))]), (63, iv 1)], [(9, (c_Arr2_i64 a4_)), (12, (c_api_Gates r2)), (14, [iv (w64 (1 + (w64 ((Int.tmod (IntKind.u64.wrap (a2_)) 4))))), iv (w64 (84 + (w64 ((Int.tmod (IntKind.u64.wrap (a3_)) 100))))), iv (Int.tmod a4_.x0 10000), iv (w64 ((Int.tmod (IntKind.u64.wrap (a4_.x1)) 8000)))])], []⟩) (APath.chunk 9 (by kernel_rfl) (APath.one (.call (some 76) 15 [.t 67, .t 69, .t 71, .t 73, .t 75]) (by kernel_rfl) (st_call (by kernel_rfl) (service_Sends_ok N r2 (w64 (1 + (w64 ((Int.tmod (IntKind.u64.wrap (a2_)) 4))))) (w64 (84 + (w64 ((Int.tmod (IntKind.u64.wrap (a3_)) 100))))) (Int.tmod a4_.x0 10000) (w64 ((Int.tmod (IntKind.u64.wrap (a4_.x1)) 8000))) r23 hr23)) (APath.fin (by kernel_rfl)))) (by kernel_rfl) ?_
                  refine vc_seq ?_
                  obtain ⟨r24, hr24, h⟩ := bind_some h
                  refine vc_reg (S := ⟨[(2, iv a2_), (3, iv a3_), (9, .loc 9 0), (12, .loc 12 0), (15, iv r23.1), (16, iv r23.2), (17, iv r24.1), (18, iv r24.2), (23, .agg [s_e_api_Entry false r1.Entries, iv r1.Cycle, s_e_api_Entry false r2.Entries, iv r2.Cycle]), (24, iv 1), (62, .agg [iv a2_, iv a3_, iv a4_.x0, iv a4_.x1, iv (w64 (1 + (w64 ((Int.tmod (IntKind.u64.wrap (a2_)) 4))))), iv (w64 (84 + (w64 ((Int.tmod (IntKind.u64.wrap (a3_)) 100))))), iv (Int.tmod a4_.x0 10000), iv (w64 ((Int.tmod (IntKind.u64.wrap (a4_.x1)) 8000))), iv 1, iv 84, iv (Int.tmod a4_.x0 3000), iv (w64 ((Int.tmod (IntKind.u64.wrap (a4_.x1)) 900)))]), (63, iv 1)], [(9, (c_Arr2_i64 a4_)), (12, (c_api_Gates r2))], []⟩) (APath.chunk 9 (by kernel_rfl) (APath.one (.call (some 89) 16 [.t 80, .t 82, .t 84, .t 86, .t 88]) (by kernel_rfl) (st_call (by kernel_rfl) (ref30_Sends_ok N r2 (w64 (1 + (w64 ((Int.tmod (IntKind.u64.wrap (a2_)) 4))))) (w64 (84 + (w64 ((Int.tmod (IntKind.u64.wrap (a3_)) 100))))) (Int.tmod a4_.x0 10000) (w64 ((Int.tmod (IntKind.u64.wrap (a4_.x1)) 8000))) r24 hr24)) (APath.fin (by kernel_rfl)))) (by kernel_rfl) ?_
                  refine vc_seq ?_
                  refine vc_regX ⟨[(2, iv a2_), (3, iv a3_), (9, .loc 9 0), (12, .loc 12 0), (23, .agg [s_e_api_Entry false r1.Entries, iv r1.Cycle, s_e_api_Entry false r2.Entries, iv r2.Cycle]), (24, iv 1), (62, .agg [iv a2_, iv a3_, iv a4_.x0, iv a4_.x1, iv (w64 (1 + (w64 ((Int.tmod (IntKind.u64.wrap (a2_)) 4))))), iv (w64 (84 + (w64 ((Int.tmod (IntKind.u64.wrap (a3_)) 100))))), iv (Int.tmod a4_.x0 10000), iv (w64 ((Int.tmod (IntKind.u64.wrap (a4_.x1)) 8000))), iv 1, iv 84, iv (Int.tmod a4_.x0 3000), iv (w64 ((Int.tmod (IntKind.u64.wrap (a4_.x1)) 900)))]), (63, iv 1), (99, bv ((r23.1 != r24.1) || (r23.2 != r24.2)))], [(9, (c_Arr2_i64 a4_)), (12, (c_api_Gates r2))], []⟩ ?_ ?_
                  · rcases Bool.eq_false_or_eq_true (r23.1 != r24.1) with hc25 | hc26
                    · exact ⟨_, (APath.chunk 2 (by kernel_rfl) (APath.one (.val 94 (.bin .neq) [.t 92, .t 93]) (by kernel_rfl) (st_bool (c := (r23.1 != r24.1)) (by kernel_rfl) hc25) (APath.fin (by kernel_rfl)))), by simp only [hc25]; kernel_rfl⟩
                    · exact ⟨_, (APath.chunk 2 (by kernel_rfl) (APath.one (.val 94 (.bin .neq) [.t 92, .t 93]) (by kernel_rfl) (st_bool (c := (r23.1 != r24.1)) (by kernel_rfl) hc26) (APath.fin (by kernel_rfl)))), by simp only [hc26]; kernel_rfl⟩
                  · refine vc_ite (by kernel_rfl) h (fun hc27 h => ?_) (fun hc27 h => ?_)
                    · refine vc_seq ?_
                      refine vc_reg (S := ⟨[(10, bv false)], [], []⟩) (APath.fin (by kernel_rfl)) (by kernel_rfl) ?_
                      refine vc_ret ?_
                      obtain rfl := some_inj h
                      exact ret_of (by kernel_rfl)
                    · refine vc_skip ?_
                      refine vc_kp ?_
                      refine vc_reg (S := ⟨[(2, iv a2_), (3, iv a3_), (9, .loc 9 0), (12, .loc 12 0), (23, .agg [s_e_api_Entry false r1.Entries, iv r1.Cycle, s_e_api_Entry false r2.Entries, iv r2.Cycle]), (24, iv 1), (62, .agg [iv a2_, iv a3_, iv a4_.x0, iv a4_.x1, iv (w64 (1 + (w64 ((Int.tmod (IntKind.u64.wrap (a2_)) 4))))), iv (w64 (84 + (w64 ((Int.tmod (IntKind.u64.wrap (a3_)) 100))))), iv (Int.tmod a4_.x0 10000), iv (w64 ((Int.tmod (IntKind.u64.wrap (a4_.x1)) 8000))), iv 1, iv 84, iv (Int.tmod a4_.x0 3000), iv (w64 ((Int.tmod (IntKind.u64.wrap (a4_.x1)) 900)))]), (63, iv 2)], [(9, (c_Arr2_i64 a4_)), (12, (c_api_Gates r2))], []⟩) (APath.fin (by kernel_rfl)) (by kernel_rfl) ?_
                      refine unr_step ?_
                      refine vc_seq ?_
                      refine vc_reg (S := ⟨[(2, iv a2_), (3, iv a3_), (9, .loc 9 0), (12, .loc 12 0), (23, .agg [s_e_api_Entry false r1.Entries, iv r1.Cycle, s_e_api_Entry false r2.Entries, iv r2.Cycle]), (24, iv 1), (62, .agg [iv a2_, iv a3_, iv a4_.x0, iv a4_.x1, iv (w64 (1 + (w64 ((Int.tmod (IntKind.u64.wrap (a2_)) 4))))), iv (w64 (84 + (w64 ((Int.tmod (IntKind.u64.wrap (a3_)) 100))))), iv (Int.tmod a4_.x0 10000), iv (w64 ((Int.tmod (IntKind.u64.wrap (a4_.x1)) 8000))), iv 1, iv 84, iv (Int.tmod a4_.x0 3000), iv (w64 ((Int.tmod (IntKind.u64.wrap (a4_.x1)) 900)))]), (63, iv 2), (64, bv true)], [(9, (c_Arr2_i64 a4_)), (12, (c_api_Gates r2))], []⟩) (APath.fin (by kernel_rfl)) (by kernel_rfl) ?_
                      refine vc_seq ?_
                      refine vc_true (by kernel_rfl) ?_
                      refine vc_skip ?_
                      refine vc_kp ?_
                      refine vc_seq ?_
                      refine vc_block ?_
                      refine vc_seq ?_
                      refine vc_reg (S := ⟨[(2, iv a2_), (3, iv a3_), (9, .loc 9 0), (12, .loc 12 0), (14, .loc 14 0), (23, .agg [s_e_api_Entry false r1.Entries, iv r1.Cycle, s_e_api_Entry false r2.Entries, iv r2.Cycle]), (24, iv 1), (62, .agg [iv a2_, iv a3_, iv a4_.x0, iv a4_.x1, iv (w64 (1 + (w64 ((Int.tmod (IntKind.u64.wrap (a2_)) 4))))), iv (w64 (84 + (w64 ((Int.tmod (IntKind.u64.wrap (a3_)) 100))))), iv (Int.tmod a4_.x0 10000), iv (w64 ((Int.tmod (IntKind.u64.wrap (a4_.x1)) 8000))), iv 1, iv 84, iv (Int.tmod a4_.x0 3000), iv (w64 ((Int.tmod (IntKind.u64.wrap (a4_.x1)) 900)))]), (63, iv 2)], [(9, (c_Arr2_i64 a4_)), (12, (c_api_Gates r2)), (14, [iv 1, iv 84, iv (Int.tmod a4_.x0 3000), iv (w64 ((Int.tmod (IntKind.u64.wrap (a4_.x1)) 900)))])], []⟩) (APath.fin (by kernel_rfl)) (by kernel_rfl) ?_
                      refine vc_seq ?_
                      obtain ⟨r28, hr28, h⟩ := bind_some h
                      refine vc_reg (S := ⟨[(2, iv a2_), (3, iv a3_), (9, .loc 9 0), (12, .loc 12 0), (14, .loc 14 0), (15, iv r28.1), (16, iv r28.2), (23, .agg [s_e_api_Entry false r1.Entries, iv r1.Cycle, s_e_api_Entry false r2.Entries, iv r2.Cycle]), (24, iv 1), (62, .agg [iv a2_, iv a3_, iv a4_.x0, iv a4_.x1, iv (w64 (1 + (w64 ((Int.tmod (IntKind.u64.wrap (a2_)) 4))))), iv (w64 (84 + (w64 ((Int.tmod (IntKind.u64.wrap (a3_)) 100))))), iv (Int.tmod a4_.x0 10000), iv (w64 ((Int.tmod (IntKind.u64.wrap (a4_.x1)) 8000))), iv 1, iv 84, iv (Int.tmod a4_.x0 3000), iv (w64 ((Int.tmod (IntKind.u64.wrap (a4_.x1)) 900)))]), (63, iv 2)], [(9, (c_Arr2_i64 a4_)), (12, (c_api_Gates r2)), (14, [iv 1, iv 84, iv (Int.tmod a4_.x0 3000), iv (w64 ((Int.tmod (IntKind.u64.wrap (a4_.x1)) 900)))])], []⟩) (APath.chunk 9 (by kernel_rfl) (APath.one (.call (some 76) 15 [.t 67, .t 69, .t 71, .t 73, .t 75]) (by kernel_rfl) (st_call (by kernel_rfl) (service_Sends_ok N r2 1 84 (Int.tmod a4_.x0 3000) (w64 ((Int.tmod (IntKind.u64.wrap (a4_.x1)) 900))) r28 hr28)) (APath.fin (by kernel_rfl)))) (by kernel_rfl) ?_
                      refine vc_seq ?_
                      obtain ⟨r29, hr29, h⟩ := bind_some h
                      refine vc_reg (S := ⟨[(2, iv a2_), (3, iv a3_), (9, .loc 9 0), (12, .loc 12 0), (15, iv r28.1), (16, iv r28.2), (17, iv r29.1), (18, iv r29.2), (23, .agg [s_e_api_Entry false r1.Entries, iv r1.Cycle, s_e_api_Entry false r2.Entries, iv r2.Cycle]), (24, iv 1), (62, .agg [iv a2_, iv a3_, iv a4_.x0, iv a4_.x1, iv (w64 (1 + (w64 ((Int.tmod (IntKind.u64.wrap (a2_)) 4))))), iv (w64 (84 + (w64 ((Int.tmod (IntKind.u64.wrap (a3_)) 100))))), iv (Int.tmod a4_.x0 10000), iv (w64 ((Int.tmod (IntKind.u64.wrap (a4_.x1)) 8000))), iv 1, iv 84, iv (Int.tmod a4_.x0 3000), iv (w64 ((Int.tmod (IntKind.u64.wrap (a4_.x1)) 900)))]), (63, iv 2)], [(9, (c_Arr2_i64 a4_)), (12, (c_api_Gates r2))], []⟩) (APath.chunk 9 (by kernel_rfl) (APath.one (.call (some 89) 16 [.t 80, .t 82, .t 84, .t 86, .t 88]) (by kernel_rfl) (st_call (by kernel_rfl) (ref30_Sends_ok N r2 1 84 (Int.tmod a4_.x0 3000) (w64 ((Int.tmod (IntKind.u64.wrap (a4_.x1)) 900))) r29 hr29)) (APath.fin (by kernel_rfl)))) (by kernel_rfl) ?_
                      refine vc_seq ?_
                      refine vc_regX ⟨[(2, iv a2_), (3, iv a3_), (9, .loc 9 0), (12, .loc 12 0), (23, .agg [s_e_api_Entry false r1.Entries, iv r1.Cycle, s_e_api_Entry false r2.Entries, iv r2.Cycle]), (24, iv 1), (62, .agg [iv a2_, iv a3_, iv a4_.x0, iv a4_.x1, iv (w64 (1 + (w64 ((Int.tmod (IntKind.u64.wrap (a2_)) 4))))), iv (w64 (84 + (w64 ((Int.tmod (IntKind.u64.wrap (a3_)) 100))))), iv (Int.tmod a4_.x0 10000), iv (w64 ((Int.tmod (IntKind.u64.wrap (a4_.x1)) 8000))), iv 1, iv 84, iv (Int.tmod a4_.x0 3000), iv (w64 ((Int.tmod (IntKind.u64.wrap (a4_.x1)) 900)))]), (63, iv 2), (99, bv ((r28.1 != r29.1) || (r28.2 != r29.2)))], [(9, (c_Arr2_i64 a4_)), (12, (c_api_Gates r2))], []⟩ ?_ ?_
                      · rcases Bool.eq_false_or_eq_true (r28.1 != r29.1) with hc30 | hc31
                        · exact ⟨_, (APath.chunk 2 (by kernel_rfl) (APath.one (.val 94 (.bin .neq) [.t 92, .t 93]) (by kernel_rfl) (st_bool (c := (r28.1 != r29.1)) (by kernel_rfl) hc30) (APath.fin (by kernel_rfl)))), by simp only [hc30]; kernel_rfl⟩
                        · exact ⟨_, (APath.chunk 2 (by kernel_rfl) (APath.one (.val 94 (.bin .neq) [.t 92, .t 93]) (by kernel_rfl) (st_bool (c := (r28.1 != r29.1)) (by kernel_rfl) hc31) (APath.fin (by kernel_rfl)))), by simp only [hc31]; kernel_rfl⟩
                      · refine vc_ite (by kernel_rfl) h (fun hc32 h => ?_) (fun hc32 h => ?_)
                        · refine vc_seq ?_
                          refine vc_reg (S := ⟨[(10, bv false)], [], []⟩) (APath.fin (by kernel_rfl)) (by kernel_rfl) ?_
                          refine vc_ret ?_
                          obtain rfl := some_inj h
                          exact ret_of (by kernel_rfl)
                        · refine vc_skip ?_
                          refine vc_kp ?_
                          refine vc_reg (S := ⟨[(2, iv a2_), (3, iv a3_), (9, .loc 9 0), (12, .loc 12 0), (23, .agg [s_e_api_Entry false r1.Entries, iv r1.Cycle, s_e_api_Entry false r2.Entries, iv r2.Cycle]), (24, iv 1), (62, .agg [iv a2_, iv a3_, iv a4_.x0, iv a4_.x1, iv (w64 (1 + (w64 ((Int.tmod (IntKind.u64.wrap (a2_)) 4))))), iv (w64 (84 + (w64 ((Int.tmod (IntKind.u64.wrap (a3_)) 100))))), iv (Int.tmod a4_.x0 10000), iv (w64 ((Int.tmod (IntKind.u64.wrap (a4_.x1)) 8000))), iv 1, iv 84, iv (Int.tmod a4_.x0 3000), iv (w64 ((Int.tmod (IntKind.u64.wrap (a4_.x1)) 900)))]), (63, iv 3)], [(9, (c_Arr2_i64 a4_)), (12, (c_api_Gates r2))], []⟩) (APath.fin (by kernel_rfl)) (by kernel_rfl) ?_
                          refine unr_step ?_
                          refine vc_seq ?_
                          refine vc_reg (S := ⟨[(2, iv a2_), (3, iv a3_), (9, .loc 9 0), (12, .loc 12 0), (23, .agg [s_e_api_Entry false r1.Entries, iv r1.Cycle, s_e_api_Entry false r2.Entries, iv r2.Cycle]), (24, iv 1), (62, .agg [iv a2_, iv a3_, iv a4_.x0, iv a4_.x1, iv (w64 (1 + (w64 ((Int.tmod (IntKind.u64.wrap (a2_)) 4))))), iv (w64 (84 + (w64 ((Int.tmod (IntKind.u64.wrap (a3_)) 100))))), iv (Int.tmod a4_.x0 10000), iv (w64 ((Int.tmod (IntKind.u64.wrap (a4_.x1)) 8000))), iv 1, iv 84, iv (Int.tmod a4_.x0 3000), iv (w64 ((Int.tmod (IntKind.u64.wrap (a4_.x1)) 900)))]), (63, iv 3), (64, bv false)], [(9, (c_Arr2_i64 a4_)), (12, (c_api_Gates r2))], []⟩) (APath.fin (by kernel_rfl)) (by kernel_rfl) ?_
                          refine vc_seq ?_
                          refine vc_false (by kernel_rfl) ?_
                          refine vc_exit ?_
                          try show vc _ _ _ _ _
                          refine vc_reg (S := ⟨[(2, iv a2_), (3, iv a3_), (9, .loc 9 0), (23, .agg [s_e_api_Entry false r1.Entries, iv r1.Cycle, s_e_api_Entry false r2.Entries, iv r2.Cycle]), (24, iv 2)], [(9, (c_Arr2_i64 a4_))], []⟩) (APath.fin (by kernel_rfl)) (by kernel_rfl) ?_
                          refine unr_step ?_
                          refine vc_seq ?_
                          refine vc_reg (S := ⟨[(2, iv a2_), (3, iv a3_), (9, .loc 9 0), (23, .agg [s_e_api_Entry false r1.Entries, iv r1.Cycle, s_e_api_Entry false r2.Entries, iv r2.Cycle]), (24, iv 2), (25, bv false)], [(9, (c_Arr2_i64 a4_))], []⟩) (APath.fin (by kernel_rfl)) (by kernel_rfl) ?_
                          refine vc_seq ?_
                          refine vc_false (by kernel_rfl) ?_
                          refine vc_exit ?_
                          try show vc _ _ _ _ _
                          refine vc_seq ?_
                          obtain ⟨r33, hr33, h⟩ := bind_some h
                          refine vc_reg (S := ⟨[(10, bv r33)], [], []⟩) (APath.one (.call (some 102) 14 []) (by kernel_rfl) (st_call (by kernel_rfl) (law30_works_ok N  r33 hr33)) (APath.fin (by kernel_rfl))) (by kernel_rfl) ?_
                          refine vc_ret ?_
                          obtain rfl := some_inj h
                          exact ret_of (by kernel_rfl)
end Go.Sh
