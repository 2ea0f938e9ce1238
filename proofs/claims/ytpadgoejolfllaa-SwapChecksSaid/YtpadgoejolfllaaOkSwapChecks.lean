/- The law's own function; written by sym.py. -/
import Derived.Test.YtpadgoejolfllaaOk2
namespace Go.Sh
open Go Go.Eng Go.Proofs
set_option linter.unusedVariables false
set_option linter.unusedSimpArgs false
set_option maxRecDepth 100000
/- isochronlaw29.SwapChecks -/
theorem law29_SwapChecks_ok (N : Nat) (a0_ : ref29_Draft) (a1_ : law29_Bend) (a2_ : Int) (r : Bool) (h : law29_SwapChecks N a0_ a1_ a2_ = some r) : PCall Try.prog 3 [.agg (c_ref29_Draft a0_), .agg (c_law29_Bend a1_), iv a2_] (bv r) := by
  unfold law29_SwapChecks at h
  have hH : HP ([] : List HO) [] := trivial
  refine pcall_of chk3 rfl rfl (vc_sound _ _ _ ?_) rfl
  refine vc_seq ?_
  refine vc_reg (S := ⟨[(2, iv a2_), (3, .loc 3 0), (4, .loc 4 0)], [(3, (c_ref29_Draft a0_)), (4, (c_law29_Bend a1_))], []⟩) (APath.fin (by kernel_rfl)) (by kernel_rfl) ?_
  refine vc_seq ?_
  obtain ⟨r1, hr1, h⟩ := bind_some h
  refine vc_reg (S := ⟨[(2, iv a2_), (4, .loc 4 0), (7, .loc 7 0)], [(4, (c_law29_Bend a1_)), (7, (c_api_Change r1))], []⟩) (APath.chunk 1 (by kernel_rfl) (APath.one (.call (some 21) 9 [.t 20]) (by kernel_rfl) (st_call (by kernel_rfl) (ref29_Draft_Change_ok N a0_ r1 hr1)) (APath.fin (by kernel_rfl)))) (by kernel_rfl) ?_
  refine vc_seq ?_
  refine vc_seq ?_
  obtain ⟨r2, hr2, h⟩ := bind_some h
  refine vc_regD (S := ⟨[(2, iv a2_), (7, .loc 7 0), (26, .agg [s_e_api_Entry false r1.Oper.Entries, iv r1.Oper.Cycle, iv r1.Base, bv r1.Pending, s_e_api_Entry false r1.Admin.Entries, iv r1.Admin.Cycle, iv r1.When, s_e_api_Entry false r2.Oper.Entries, iv r2.Oper.Cycle, iv r2.Base, bv r2.Pending, s_e_api_Entry false r2.Admin.Entries, iv r2.Admin.Cycle, iv r2.When]), (27, iv 0)], [(7, (c_api_Change r1))], []⟩) (by kernel_rfl) (APath.chunk 3 (by kernel_rfl) (APath.one (.callP 25 10 [.t 23, .t 24]) (by kernel_rfl) (st_callP (by kernel_rfl) (law29_Bend_of_ok N a1_ r1 r2 hr2)) (APath.fin (by kernel_rfl)))) (by kernel_rfl) ?_
  refine vc_block ?_
  refine vc_unroll 14 ?_
  refine unr_step ?_
  refine vc_seq ?_
  refine vc_reg (S := ⟨[(2, iv a2_), (7, .loc 7 0), (26, .agg [s_e_api_Entry false r1.Oper.Entries, iv r1.Oper.Cycle, iv r1.Base, bv r1.Pending, s_e_api_Entry false r1.Admin.Entries, iv r1.Admin.Cycle, iv r1.When, s_e_api_Entry false r2.Oper.Entries, iv r2.Oper.Cycle, iv r2.Base, bv r2.Pending, s_e_api_Entry false r2.Admin.Entries, iv r2.Admin.Cycle, iv r2.When]), (27, iv 0), (28, bv true)], [(7, (c_api_Change r1))], []⟩) (APath.fin (by kernel_rfl)) (by kernel_rfl) ?_
  refine vc_seq ?_
  refine vc_true (by kernel_rfl) ?_
  refine vc_skip ?_
  refine vc_kp ?_
  refine vc_seq ?_
  refine vc_block ?_
  refine vc_seq ?_
  refine vc_reg (S := ⟨[(2, iv a2_), (7, .loc 7 0), (9, .loc 9 0), (26, .agg [s_e_api_Entry false r1.Oper.Entries, iv r1.Oper.Cycle, iv r1.Base, bv r1.Pending, s_e_api_Entry false r1.Admin.Entries, iv r1.Admin.Cycle, iv r1.When, s_e_api_Entry false r2.Oper.Entries, iv r2.Oper.Cycle, iv r2.Base, bv r2.Pending, s_e_api_Entry false r2.Admin.Entries, iv r2.Admin.Cycle, iv r2.When]), (27, iv 0)], [(7, (c_api_Change r1)), (9, (c_api_Change r1))], []⟩) (APath.fin (by kernel_rfl)) (by kernel_rfl) ?_
  refine vc_seq ?_
  refine vc_seq ?_
  obtain ⟨r3, hr3, h⟩ := bind_some h
  obtain ⟨r4, hr4, h⟩ := bind_some h
  refine vc_regD (S := ⟨[(2, iv a2_), (7, .loc 7 0), (9, .loc 9 0), (26, .agg [s_e_api_Entry false r1.Oper.Entries, iv r1.Oper.Cycle, iv r1.Base, bv r1.Pending, s_e_api_Entry false r1.Admin.Entries, iv r1.Admin.Cycle, iv r1.When, s_e_api_Entry false r2.Oper.Entries, iv r2.Oper.Cycle, iv r2.Base, bv r2.Pending, s_e_api_Entry false r2.Admin.Entries, iv r2.Admin.Cycle, iv r2.When]), (27, iv 0), (34, bv (r3 != r4))], [(7, (c_api_Change r1)), (9, (c_api_Change r1))], []⟩) (by kernel_rfl) (APath.chunk 1 (by kernel_rfl) (APath.one (.callP 31 11 [.t 30]) (by kernel_rfl) (st_callP (by kernel_rfl) (swap_Check_ok N r1 r3 hr3)) (APath.chunk 1 (by kernel_rfl) (APath.one (.callP 33 12 [.t 32]) (by kernel_rfl) (st_callP (by kernel_rfl) (ref29_Check_ok N r1 r4 hr4)) (APath.fin (by kernel_rfl)))))) (by kernel_rfl) ?_
  refine vc_ite (by kernel_rfl) h (fun hc5 h => ?_) (fun hc5 h => ?_)
  · refine vc_seq ?_
    refine vc_reg (S := ⟨[(6, bv false)], [], []⟩) (APath.fin (by kernel_rfl)) (by kernel_rfl) ?_
    refine vc_ret ?_
    obtain rfl := some_inj h
    exact ret_of (by kernel_rfl)
  · refine vc_skip ?_
    refine vc_kp ?_
    refine vc_seq ?_
    refine vc_reg (S := ⟨[(2, iv a2_), (7, .loc 7 0), (9, .loc 9 0), (26, .agg [s_e_api_Entry false r1.Oper.Entries, iv r1.Oper.Cycle, iv r1.Base, bv r1.Pending, s_e_api_Entry false r1.Admin.Entries, iv r1.Admin.Cycle, iv r1.When, s_e_api_Entry false r2.Oper.Entries, iv r2.Oper.Cycle, iv r2.Base, bv r2.Pending, s_e_api_Entry false r2.Admin.Entries, iv r2.Admin.Cycle, iv r2.When]), (27, iv 0), (43, .agg [iv a2_, iv (Int.tmod a2_ 2000), iv (w64 (r1.When + (Int.tmod a2_ 5)))]), (44, iv 0)], [(7, (c_api_Change r1)), (9, (c_api_Change r1))], []⟩) (APath.fin (by kernel_rfl)) (by kernel_rfl) ?_
    refine vc_block ?_
    refine vc_unroll 14 ?_
    refine unr_step ?_
    refine vc_seq ?_
    refine vc_reg (S := ⟨[(2, iv a2_), (7, .loc 7 0), (9, .loc 9 0), (26, .agg [s_e_api_Entry false r1.Oper.Entries, iv r1.Oper.Cycle, iv r1.Base, bv r1.Pending, s_e_api_Entry false r1.Admin.Entries, iv r1.Admin.Cycle, iv r1.When, s_e_api_Entry false r2.Oper.Entries, iv r2.Oper.Cycle, iv r2.Base, bv r2.Pending, s_e_api_Entry false r2.Admin.Entries, iv r2.Admin.Cycle, iv r2.When]), (27, iv 0), (43, .agg [iv a2_, iv (Int.tmod a2_ 2000), iv (w64 (r1.When + (Int.tmod a2_ 5)))]), (44, iv 0), (45, bv true)], [(7, (c_api_Change r1)), (9, (c_api_Change r1))], []⟩) (APath.fin (by kernel_rfl)) (by kernel_rfl) ?_
    refine vc_seq ?_
    refine vc_true (by kernel_rfl) ?_
    refine vc_skip ?_
    refine vc_kp ?_
    refine vc_seq ?_
    refine vc_block ?_
    refine vc_seq ?_
    refine vc_reg (S := ⟨[(2, iv a2_), (7, .loc 7 0), (9, .loc 9 0), (11, iv a2_), (26, .agg [s_e_api_Entry false r1.Oper.Entries, iv r1.Oper.Cycle, iv r1.Base, bv r1.Pending, s_e_api_Entry false r1.Admin.Entries, iv r1.Admin.Cycle, iv r1.When, s_e_api_Entry false r2.Oper.Entries, iv r2.Oper.Cycle, iv r2.Base, bv r2.Pending, s_e_api_Entry false r2.Admin.Entries, iv r2.Admin.Cycle, iv r2.When]), (27, iv 0), (43, .agg [iv a2_, iv (Int.tmod a2_ 2000), iv (w64 (r1.When + (Int.tmod a2_ 5)))]), (44, iv 0)], [(7, (c_api_Change r1)), (9, (c_api_Change r1))], []⟩) (APath.fin (by kernel_rfl)) (by kernel_rfl) ?_
    refine vc_seq ?_
    obtain ⟨r6, hr6, h⟩ := bind_some h
    refine vc_reg (S := ⟨[(2, iv a2_), (7, .loc 7 0), (9, .loc 9 0), (11, iv a2_), (12, iv r6.1), (13, iv r6.2), (26, .agg [s_e_api_Entry false r1.Oper.Entries, iv r1.Oper.Cycle, iv r1.Base, bv r1.Pending, s_e_api_Entry false r1.Admin.Entries, iv r1.Admin.Cycle, iv r1.When, s_e_api_Entry false r2.Oper.Entries, iv r2.Oper.Cycle, iv r2.Base, bv r2.Pending, s_e_api_Entry false r2.Admin.Entries, iv r2.Admin.Cycle, iv r2.When]), (27, iv 0), (43, .agg [iv a2_, iv (Int.tmod a2_ 2000), iv (w64 (r1.When + (Int.tmod a2_ 5)))]), (44, iv 0)], [(7, (c_api_Change r1)), (9, (c_api_Change r1))], []⟩) (APath.chunk 2 (by kernel_rfl) (APath.one (.call (some 50) 13 [.t 48, .t 49]) (by kernel_rfl) (st_call (by kernel_rfl) (swap_Mask_ok N r1 a2_ r6 hr6)) (APath.fin (by kernel_rfl)))) (by kernel_rfl) ?_
    refine vc_seq ?_
    obtain ⟨r7, hr7, h⟩ := bind_some h
    refine vc_reg (S := ⟨[(2, iv a2_), (7, .loc 7 0), (9, .loc 9 0), (11, iv a2_), (12, iv r6.1), (13, iv r6.2), (14, iv r7.1), (15, iv r7.2), (26, .agg [s_e_api_Entry false r1.Oper.Entries, iv r1.Oper.Cycle, iv r1.Base, bv r1.Pending, s_e_api_Entry false r1.Admin.Entries, iv r1.Admin.Cycle, iv r1.When, s_e_api_Entry false r2.Oper.Entries, iv r2.Oper.Cycle, iv r2.Base, bv r2.Pending, s_e_api_Entry false r2.Admin.Entries, iv r2.Admin.Cycle, iv r2.When]), (27, iv 0), (43, .agg [iv a2_, iv (Int.tmod a2_ 2000), iv (w64 (r1.When + (Int.tmod a2_ 5)))]), (44, iv 0)], [(7, (c_api_Change r1)), (9, (c_api_Change r1))], []⟩) (APath.chunk 2 (by kernel_rfl) (APath.one (.call (some 56) 14 [.t 54, .t 55]) (by kernel_rfl) (st_call (by kernel_rfl) (ref29_Mask_ok N r1 a2_ r7 hr7)) (APath.fin (by kernel_rfl)))) (by kernel_rfl) ?_
    refine vc_seq ?_
    obtain ⟨r8, hr8, h⟩ := bind_some h
    refine vc_reg (S := ⟨[(2, iv a2_), (7, .loc 7 0), (9, .loc 9 0), (11, iv a2_), (12, iv r6.1), (13, iv r6.2), (14, iv r7.1), (15, iv r7.2), (16, .loc 16 0), (17, iv r8.2), (26, .agg [s_e_api_Entry false r1.Oper.Entries, iv r1.Oper.Cycle, iv r1.Base, bv r1.Pending, s_e_api_Entry false r1.Admin.Entries, iv r1.Admin.Cycle, iv r1.When, s_e_api_Entry false r2.Oper.Entries, iv r2.Oper.Cycle, iv r2.Base, bv r2.Pending, s_e_api_Entry false r2.Admin.Entries, iv r2.Admin.Cycle, iv r2.When]), (27, iv 0), (43, .agg [iv a2_, iv (Int.tmod a2_ 2000), iv (w64 (r1.When + (Int.tmod a2_ 5)))]), (44, iv 0)], [(7, (c_api_Change r1)), (9, (c_api_Change r1)), (16, (c_api_Change r8.1))], []⟩) (APath.chunk 3 (by kernel_rfl) (APath.one (.call (some 63) 15 [.t 61, .t 62]) (by kernel_rfl) (st_call (by kernel_rfl) (swap_New_ok N r1.Oper a2_ r8 hr8)) (APath.fin (by kernel_rfl)))) (by kernel_rfl) ?_
    refine vc_seq ?_
    obtain ⟨r9, hr9, h⟩ := bind_some h
    refine vc_reg (S := ⟨[(2, iv a2_), (7, .loc 7 0), (9, .loc 9 0), (12, iv r6.1), (13, iv r6.2), (14, iv r7.1), (15, iv r7.2), (16, .loc 16 0), (17, iv r8.2), (18, .loc 18 0), (19, iv r9.2), (26, .agg [s_e_api_Entry false r1.Oper.Entries, iv r1.Oper.Cycle, iv r1.Base, bv r1.Pending, s_e_api_Entry false r1.Admin.Entries, iv r1.Admin.Cycle, iv r1.When, s_e_api_Entry false r2.Oper.Entries, iv r2.Oper.Cycle, iv r2.Base, bv r2.Pending, s_e_api_Entry false r2.Admin.Entries, iv r2.Admin.Cycle, iv r2.When]), (27, iv 0), (43, .agg [iv a2_, iv (Int.tmod a2_ 2000), iv (w64 (r1.When + (Int.tmod a2_ 5)))]), (44, iv 0)], [(7, (c_api_Change r1)), (9, (c_api_Change r1)), (16, (c_api_Change r8.1)), (18, (c_api_Change r9.1))], []⟩) (APath.chunk 3 (by kernel_rfl) (APath.one (.call (some 70) 16 [.t 68, .t 69]) (by kernel_rfl) (st_call (by kernel_rfl) (ref29_New_ok N r1.Oper a2_ r9 hr9)) (APath.fin (by kernel_rfl)))) (by kernel_rfl) ?_
    refine vc_seq ?_
    obtain ⟨j17, hj, h⟩ := bind_some h
    refine vc_regXR (fun s => s = ⟨[(2, iv a2_), (7, .loc 7 0), (9, .loc 9 0), (26, .agg [s_e_api_Entry false r1.Oper.Entries, iv r1.Oper.Cycle, iv r1.Base, bv r1.Pending, s_e_api_Entry false r1.Admin.Entries, iv r1.Admin.Cycle, iv r1.When, s_e_api_Entry false r2.Oper.Entries, iv r2.Oper.Cycle, iv r2.Base, bv r2.Pending, s_e_api_Entry false r2.Admin.Entries, iv r2.Admin.Cycle, iv r2.When]), (27, iv 0), (43, .agg [iv a2_, iv (Int.tmod a2_ 2000), iv (w64 (r1.When + (Int.tmod a2_ 5)))]), (44, iv 0), (91, bv j17)], [(7, (c_api_Change r1)), (9, (c_api_Change r1))], []⟩) ?_ ?_
    · clear h
      rcases ite_some hj with ⟨hc10, hj⟩ | ⟨hc11, hj⟩
      · obtain rfl := some_inj hj
        exact ⟨_, (APath.chunk 2 (by kernel_rfl) (APath.one (.val 75 (.bin .neq) [.t 73, .t 74]) (by kernel_rfl) (st_bool (c := (r6.1 != r7.1)) (by kernel_rfl) hc10) (APath.fin (by kernel_rfl)))), (by show _ = _; kernel_rfl)⟩
      · rcases ite_some hj with ⟨hc12, hj⟩ | ⟨hc13, hj⟩
        · obtain rfl := some_inj hj
          exact ⟨_, (APath.chunk 2 (by kernel_rfl) (APath.one (.val 75 (.bin .neq) [.t 73, .t 74]) (by kernel_rfl) (st_bool (c := (r6.1 != r7.1)) (by kernel_rfl) hc11) (APath.chunk 3 (by kernel_rfl) (APath.oneG (.val 79 (.bin .neq) [.t 77, .t 78]) 76 false (by kernel_rfl) (by kernel_rfl) (st_bool (c := (r6.2 != r7.2)) (by kernel_rfl) hc12) (APath.fin (by kernel_rfl)))))), (by show _ = _; kernel_rfl)⟩
        · rcases ite_some hj with ⟨hc14, hj⟩ | ⟨hc15, hj⟩
          · obtain rfl := some_inj hj
            exact ⟨_, (APath.chunk 2 (by kernel_rfl) (APath.one (.val 75 (.bin .neq) [.t 73, .t 74]) (by kernel_rfl) (st_bool (c := (r6.1 != r7.1)) (by kernel_rfl) hc11) (APath.chunk 3 (by kernel_rfl) (APath.oneG (.val 79 (.bin .neq) [.t 77, .t 78]) 76 false (by kernel_rfl) (by kernel_rfl) (st_bool (c := (r6.2 != r7.2)) (by kernel_rfl) hc13) (APath.chunk 4 (by kernel_rfl) (APath.oneG (.val 84 (.bin .neq) [.t 82, .t 83]) 81 false (by kernel_rfl) (by kernel_rfl) (st_bool (c := (r8.2 != r9.2)) (by kernel_rfl) hc14) (APath.fin (by kernel_rfl)))))))), (by show _ = _; kernel_rfl)⟩
          · obtain ⟨r16, hr16, hj⟩ := bind_some hj
            obtain rfl := some_inj hj
            exact ⟨_, (APath.chunk 2 (by kernel_rfl) (APath.one (.val 75 (.bin .neq) [.t 73, .t 74]) (by kernel_rfl) (st_bool (c := (r6.1 != r7.1)) (by kernel_rfl) hc11) (APath.chunk 3 (by kernel_rfl) (APath.oneG (.val 79 (.bin .neq) [.t 77, .t 78]) 76 false (by kernel_rfl) (by kernel_rfl) (st_bool (c := (r6.2 != r7.2)) (by kernel_rfl) hc13) (APath.chunk 4 (by kernel_rfl) (APath.oneG (.val 84 (.bin .neq) [.t 82, .t 83]) 81 false (by kernel_rfl) (by kernel_rfl) (st_bool (c := (r8.2 != r9.2)) (by kernel_rfl) hc15) (APath.chunk 4 (by kernel_rfl) (APath.oneG (.call (some 89) 17 [.t 87, .t 88]) 86 false (by kernel_rfl) (by kernel_rfl) (st_call (by kernel_rfl) (ref29_Same_ok N r8.1 r9.1 r16 hr16)) (APath.fin (by kernel_rfl)))))))))), (by show _ = _; kernel_rfl)⟩
    · clear hj
      rintro s hR
      obtain rfl := hR
      refine vc_ite (by kernel_rfl) h (fun hc18 h => ?_) (fun hc18 h => ?_)
      · refine vc_seq ?_
        refine vc_reg (S := ⟨[(6, bv false)], [], []⟩) (APath.fin (by kernel_rfl)) (by kernel_rfl) ?_
        refine vc_ret ?_
        obtain rfl := some_inj h
        exact ret_of (by kernel_rfl)
      · refine vc_skip ?_
        refine vc_kp ?_
        refine vc_reg (S := ⟨[(2, iv a2_), (7, .loc 7 0), (9, .loc 9 0), (26, .agg [s_e_api_Entry false r1.Oper.Entries, iv r1.Oper.Cycle, iv r1.Base, bv r1.Pending, s_e_api_Entry false r1.Admin.Entries, iv r1.Admin.Cycle, iv r1.When, s_e_api_Entry false r2.Oper.Entries, iv r2.Oper.Cycle, iv r2.Base, bv r2.Pending, s_e_api_Entry false r2.Admin.Entries, iv r2.Admin.Cycle, iv r2.When]), (27, iv 0), (43, .agg [iv a2_, iv (Int.tmod a2_ 2000), iv (w64 (r1.When + (Int.tmod a2_ 5)))]), (44, iv 1)], [(7, (c_api_Change r1)), (9, (c_api_Change r1))], []⟩) (APath.fin (by kernel_rfl)) (by kernel_rfl) ?_
        refine unr_step ?_
        refine vc_seq ?_
        refine vc_reg (S := ⟨[(2, iv a2_), (7, .loc 7 0), (9, .loc 9 0), (26, .agg [s_e_api_Entry false r1.Oper.Entries, iv r1.Oper.Cycle, iv r1.Base, bv r1.Pending, s_e_api_Entry false r1.Admin.Entries, iv r1.Admin.Cycle, iv r1.When, s_e_api_Entry false r2.Oper.Entries, iv r2.Oper.Cycle, iv r2.Base, bv r2.Pending, s_e_api_Entry false r2.Admin.Entries, iv r2.Admin.Cycle, iv r2.When]), (27, iv 0), (43, .agg [iv a2_, iv (Int.tmod a2_ 2000), iv (w64 (r1.When + (Int.tmod a2_ 5)))]), (44, iv 1), (45, bv true)], [(7, (c_api_Change r1)), (9, (c_api_Change r1))], []⟩) (APath.fin (by kernel_rfl)) (by kernel_rfl) ?_
        refine vc_seq ?_
        refine vc_true (by kernel_rfl) ?_
        refine vc_skip ?_
        refine vc_kp ?_
        refine vc_seq ?_
        refine vc_block ?_
        refine vc_seq ?_
        refine vc_reg (S := ⟨[(2, iv a2_), (7, .loc 7 0), (9, .loc 9 0), (11, iv (Int.tmod a2_ 2000)), (26, .agg [s_e_api_Entry false r1.Oper.Entries, iv r1.Oper.Cycle, iv r1.Base, bv r1.Pending, s_e_api_Entry false r1.Admin.Entries, iv r1.Admin.Cycle, iv r1.When, s_e_api_Entry false r2.Oper.Entries, iv r2.Oper.Cycle, iv r2.Base, bv r2.Pending, s_e_api_Entry false r2.Admin.Entries, iv r2.Admin.Cycle, iv r2.When]), (27, iv 0), (43, .agg [iv a2_, iv (Int.tmod a2_ 2000), iv (w64 (r1.When + (Int.tmod a2_ 5)))]), (44, iv 1)], [(7, (c_api_Change r1)), (9, (c_api_Change r1))], []⟩) (APath.fin (by kernel_rfl)) (by kernel_rfl) ?_
        refine vc_seq ?_
        obtain ⟨r19, hr19, h⟩ := bind_some h
        refine vc_reg (S := ⟨[(2, iv a2_), (7, .loc 7 0), (9, .loc 9 0), (11, iv (Int.tmod a2_ 2000)), (12, iv r19.1), (13, iv r19.2), (26, .agg [s_e_api_Entry false r1.Oper.Entries, iv r1.Oper.Cycle, iv r1.Base, bv r1.Pending, s_e_api_Entry false r1.Admin.Entries, iv r1.Admin.Cycle, iv r1.When, s_e_api_Entry false r2.Oper.Entries, iv r2.Oper.Cycle, iv r2.Base, bv r2.Pending, s_e_api_Entry false r2.Admin.Entries, iv r2.Admin.Cycle, iv r2.When]), (27, iv 0), (43, .agg [iv a2_, iv (Int.tmod a2_ 2000), iv (w64 (r1.When + (Int.tmod a2_ 5)))]), (44, iv 1)], [(7, (c_api_Change r1)), (9, (c_api_Change r1))], []⟩) (APath.chunk 2 (by kernel_rfl) (APath.one (.call (some 50) 13 [.t 48, .t 49]) (by kernel_rfl) (st_call (by kernel_rfl) (swap_Mask_ok N r1 (Int.tmod a2_ 2000) r19 hr19)) (APath.fin (by kernel_rfl)))) (by kernel_rfl) ?_
        refine vc_seq ?_
        obtain ⟨r20, hr20, h⟩ := bind_some h
        refine vc_reg (S := ⟨[(2, iv a2_), (7, .loc 7 0), (9, .loc 9 0), (11, iv (Int.tmod a2_ 2000)), (12, iv r19.1), (13, iv r19.2), (14, iv r20.1), (15, iv r20.2), (26, .agg [s_e_api_Entry false r1.Oper.Entries, iv r1.Oper.Cycle, iv r1.Base, bv r1.Pending, s_e_api_Entry false r1.Admin.Entries, iv r1.Admin.Cycle, iv r1.When, s_e_api_Entry false r2.Oper.Entries, iv r2.Oper.Cycle, iv r2.Base, bv r2.Pending, s_e_api_Entry false r2.Admin.Entries, iv r2.Admin.Cycle, iv r2.When]), (27, iv 0), (43, .agg [iv a2_, iv (Int.tmod a2_ 2000), iv (w64 (r1.When + (Int.tmod a2_ 5)))]), (44, iv 1)], [(7, (c_api_Change r1)), (9, (c_api_Change r1))], []⟩) (APath.chunk 2 (by kernel_rfl) (APath.one (.call (some 56) 14 [.t 54, .t 55]) (by kernel_rfl) (st_call (by kernel_rfl) (ref29_Mask_ok N r1 (Int.tmod a2_ 2000) r20 hr20)) (APath.fin (by kernel_rfl)))) (by kernel_rfl) ?_
        refine vc_seq ?_
        obtain ⟨r21, hr21, h⟩ := bind_some h
        refine vc_reg (S := ⟨[(2, iv a2_), (7, .loc 7 0), (9, .loc 9 0), (11, iv (Int.tmod a2_ 2000)), (12, iv r19.1), (13, iv r19.2), (14, iv r20.1), (15, iv r20.2), (16, .loc 16 0), (17, iv r21.2), (26, .agg [s_e_api_Entry false r1.Oper.Entries, iv r1.Oper.Cycle, iv r1.Base, bv r1.Pending, s_e_api_Entry false r1.Admin.Entries, iv r1.Admin.Cycle, iv r1.When, s_e_api_Entry false r2.Oper.Entries, iv r2.Oper.Cycle, iv r2.Base, bv r2.Pending, s_e_api_Entry false r2.Admin.Entries, iv r2.Admin.Cycle, iv r2.When]), (27, iv 0), (43, .agg [iv a2_, iv (Int.tmod a2_ 2000), iv (w64 (r1.When + (Int.tmod a2_ 5)))]), (44, iv 1)], [(7, (c_api_Change r1)), (9, (c_api_Change r1)), (16, (c_api_Change r21.1))], []⟩) (APath.chunk 3 (by kernel_rfl) (APath.one (.call (some 63) 15 [.t 61, .t 62]) (by kernel_rfl) (st_call (by kernel_rfl) (swap_New_ok N r1.Oper (Int.tmod a2_ 2000) r21 hr21)) (APath.fin (by kernel_rfl)))) (by kernel_rfl) ?_
        refine vc_seq ?_
        obtain ⟨r22, hr22, h⟩ := bind_some h
        refine vc_reg (S := ⟨[(2, iv a2_), (7, .loc 7 0), (9, .loc 9 0), (12, iv r19.1), (13, iv r19.2), (14, iv r20.1), (15, iv r20.2), (16, .loc 16 0), (17, iv r21.2), (18, .loc 18 0), (19, iv r22.2), (26, .agg [s_e_api_Entry false r1.Oper.Entries, iv r1.Oper.Cycle, iv r1.Base, bv r1.Pending, s_e_api_Entry false r1.Admin.Entries, iv r1.Admin.Cycle, iv r1.When, s_e_api_Entry false r2.Oper.Entries, iv r2.Oper.Cycle, iv r2.Base, bv r2.Pending, s_e_api_Entry false r2.Admin.Entries, iv r2.Admin.Cycle, iv r2.When]), (27, iv 0), (43, .agg [iv a2_, iv (Int.tmod a2_ 2000), iv (w64 (r1.When + (Int.tmod a2_ 5)))]), (44, iv 1)], [(7, (c_api_Change r1)), (9, (c_api_Change r1)), (16, (c_api_Change r21.1)), (18, (c_api_Change r22.1))], []⟩) (APath.chunk 3 (by kernel_rfl) (APath.one (.call (some 70) 16 [.t 68, .t 69]) (by kernel_rfl) (st_call (by kernel_rfl) (ref29_New_ok N r1.Oper (Int.tmod a2_ 2000) r22 hr22)) (APath.fin (by kernel_rfl)))) (by kernel_rfl) ?_
        refine vc_seq ?_
        obtain ⟨j30, hj, h⟩ := bind_some h
        refine vc_regXR (fun s => s = ⟨[(2, iv a2_), (7, .loc 7 0), (9, .loc 9 0), (26, .agg [s_e_api_Entry false r1.Oper.Entries, iv r1.Oper.Cycle, iv r1.Base, bv r1.Pending, s_e_api_Entry false r1.Admin.Entries, iv r1.Admin.Cycle, iv r1.When, s_e_api_Entry false r2.Oper.Entries, iv r2.Oper.Cycle, iv r2.Base, bv r2.Pending, s_e_api_Entry false r2.Admin.Entries, iv r2.Admin.Cycle, iv r2.When]), (27, iv 0), (43, .agg [iv a2_, iv (Int.tmod a2_ 2000), iv (w64 (r1.When + (Int.tmod a2_ 5)))]), (44, iv 1), (91, bv j30)], [(7, (c_api_Change r1)), (9, (c_api_Change r1))], []⟩) ?_ ?_
        · clear h
          rcases ite_some hj with ⟨hc23, hj⟩ | ⟨hc24, hj⟩
          · obtain rfl := some_inj hj
            exact ⟨_, (APath.chunk 2 (by kernel_rfl) (APath.one (.val 75 (.bin .neq) [.t 73, .t 74]) (by kernel_rfl) (st_bool (c := (r19.1 != r20.1)) (by kernel_rfl) hc23) (APath.fin (by kernel_rfl)))), (by show _ = _; kernel_rfl)⟩
          · rcases ite_some hj with ⟨hc25, hj⟩ | ⟨hc26, hj⟩
            · obtain rfl := some_inj hj
              exact ⟨_, (APath.chunk 2 (by kernel_rfl) (APath.one (.val 75 (.bin .neq) [.t 73, .t 74]) (by kernel_rfl) (st_bool (c := (r19.1 != r20.1)) (by kernel_rfl) hc24) (APath.chunk 3 (by kernel_rfl) (APath.oneG (.val 79 (.bin .neq) [.t 77, .t 78]) 76 false (by kernel_rfl) (by kernel_rfl) (st_bool (c := (r19.2 != r20.2)) (by kernel_rfl) hc25) (APath.fin (by kernel_rfl)))))), (by show _ = _; kernel_rfl)⟩
            · rcases ite_some hj with ⟨hc27, hj⟩ | ⟨hc28, hj⟩
              · obtain rfl := some_inj hj
                exact ⟨_, (APath.chunk 2 (by kernel_rfl) (APath.one (.val 75 (.bin .neq) [.t 73, .t 74]) (by kernel_rfl) (st_bool (c := (r19.1 != r20.1)) (by kernel_rfl) hc24) (APath.chunk 3 (by kernel_rfl) (APath.oneG (.val 79 (.bin .neq) [.t 77, .t 78]) 76 false (by kernel_rfl) (by kernel_rfl) (st_bool (c := (r19.2 != r20.2)) (by kernel_rfl) hc26) (APath.chunk 4 (by kernel_rfl) (APath.oneG (.val 84 (.bin .neq) [.t 82, .t 83]) 81 false (by kernel_rfl) (by kernel_rfl) (st_bool (c := (r21.2 != r22.2)) (by kernel_rfl) hc27) (APath.fin (by kernel_rfl)))))))), (by show _ = _; kernel_rfl)⟩
              · obtain ⟨r29, hr29, hj⟩ := bind_some hj
                obtain rfl := some_inj hj
                exact ⟨_, (APath.chunk 2 (by kernel_rfl) (APath.one (.val 75 (.bin .neq) [.t 73, .t 74]) (by kernel_rfl) (st_bool (c := (r19.1 != r20.1)) (by kernel_rfl) hc24) (APath.chunk 3 (by kernel_rfl) (APath.oneG (.val 79 (.bin .neq) [.t 77, .t 78]) 76 false (by kernel_rfl) (by kernel_rfl) (st_bool (c := (r19.2 != r20.2)) (by kernel_rfl) hc26) (APath.chunk 4 (by kernel_rfl) (APath.oneG (.val 84 (.bin .neq) [.t 82, .t 83]) 81 false (by kernel_rfl) (by kernel_rfl) (st_bool (c := (r21.2 != r22.2)) (by kernel_rfl) hc28) (APath.chunk 4 (by kernel_rfl) (APath.oneG (.call (some 89) 17 [.t 87, .t 88]) 86 false (by kernel_rfl) (by kernel_rfl) (st_call (by kernel_rfl) (ref29_Same_ok N r21.1 r22.1 r29 hr29)) (APath.fin (by kernel_rfl)))))))))), (by show _ = _; kernel_rfl)⟩
        · clear hj
          rintro s hR
          obtain rfl := hR
          refine vc_ite (by kernel_rfl) h (fun hc31 h => ?_) (fun hc31 h => ?_)
          · refine vc_seq ?_
            refine vc_reg (S := ⟨[(6, bv false)], [], []⟩) (APath.fin (by kernel_rfl)) (by kernel_rfl) ?_
            refine vc_ret ?_
            obtain rfl := some_inj h
            exact ret_of (by kernel_rfl)
          · refine vc_skip ?_
            refine vc_kp ?_
            refine vc_reg (S := ⟨[(2, iv a2_), (7, .loc 7 0), (9, .loc 9 0), (26, .agg [s_e_api_Entry false r1.Oper.Entries, iv r1.Oper.Cycle, iv r1.Base, bv r1.Pending, s_e_api_Entry false r1.Admin.Entries, iv r1.Admin.Cycle, iv r1.When, s_e_api_Entry false r2.Oper.Entries, iv r2.Oper.Cycle, iv r2.Base, bv r2.Pending, s_e_api_Entry false r2.Admin.Entries, iv r2.Admin.Cycle, iv r2.When]), (27, iv 0), (43, .agg [iv a2_, iv (Int.tmod a2_ 2000), iv (w64 (r1.When + (Int.tmod a2_ 5)))]), (44, iv 2)], [(7, (c_api_Change r1)), (9, (c_api_Change r1))], []⟩) (APath.fin (by kernel_rfl)) (by kernel_rfl) ?_
            refine unr_step ?_
            refine vc_seq ?_
            refine vc_reg (S := ⟨[(2, iv a2_), (7, .loc 7 0), (9, .loc 9 0), (26, .agg [s_e_api_Entry false r1.Oper.Entries, iv r1.Oper.Cycle, iv r1.Base, bv r1.Pending, s_e_api_Entry false r1.Admin.Entries, iv r1.Admin.Cycle, iv r1.When, s_e_api_Entry false r2.Oper.Entries, iv r2.Oper.Cycle, iv r2.Base, bv r2.Pending, s_e_api_Entry false r2.Admin.Entries, iv r2.Admin.Cycle, iv r2.When]), (27, iv 0), (43, .agg [iv a2_, iv (Int.tmod a2_ 2000), iv (w64 (r1.When + (Int.tmod a2_ 5)))]), (44, iv 2), (45, bv true)], [(7, (c_api_Change r1)), (9, (c_api_Change r1))], []⟩) (APath.fin (by kernel_rfl)) (by kernel_rfl) ?_
            refine vc_seq ?_
            refine vc_true (by kernel_rfl) ?_
            refine vc_skip ?_
            refine vc_kp ?_
            refine vc_seq ?_
            refine vc_block ?_
            refine vc_seq ?_
            refine vc_reg (S := ⟨[(2, iv a2_), (7, .loc 7 0), (9, .loc 9 0), (11, iv (w64 (r1.When + (Int.tmod a2_ 5)))), (26, .agg [s_e_api_Entry false r1.Oper.Entries, iv r1.Oper.Cycle, iv r1.Base, bv r1.Pending, s_e_api_Entry false r1.Admin.Entries, iv r1.Admin.Cycle, iv r1.When, s_e_api_Entry false r2.Oper.Entries, iv r2.Oper.Cycle, iv r2.Base, bv r2.Pending, s_e_api_Entry false r2.Admin.Entries, iv r2.Admin.Cycle, iv r2.When]), (27, iv 0), (43, .agg [iv a2_, iv (Int.tmod a2_ 2000), iv (w64 (r1.When + (Int.tmod a2_ 5)))]), (44, iv 2)], [(7, (c_api_Change r1)), (9, (c_api_Change r1))], []⟩) (APath.fin (by kernel_rfl)) (by kernel_rfl) ?_
            refine vc_seq ?_
            obtain ⟨r32, hr32, h⟩ := bind_some h
            refine vc_reg (S := ⟨[(2, iv a2_), (7, .loc 7 0), (9, .loc 9 0), (11, iv (w64 (r1.When + (Int.tmod a2_ 5)))), (12, iv r32.1), (13, iv r32.2), (26, .agg [s_e_api_Entry false r1.Oper.Entries, iv r1.Oper.Cycle, iv r1.Base, bv r1.Pending, s_e_api_Entry false r1.Admin.Entries, iv r1.Admin.Cycle, iv r1.When, s_e_api_Entry false r2.Oper.Entries, iv r2.Oper.Cycle, iv r2.Base, bv r2.Pending, s_e_api_Entry false r2.Admin.Entries, iv r2.Admin.Cycle, iv r2.When]), (27, iv 0), (43, .agg [iv a2_, iv (Int.tmod a2_ 2000), iv (w64 (r1.When + (Int.tmod a2_ 5)))]), (44, iv 2)], [(7, (c_api_Change r1)), (9, (c_api_Change r1))], []⟩) (APath.chunk 2 (by kernel_rfl) (APath.one (.call (some 50) 13 [.t 48, .t 49]) (by kernel_rfl) (st_call (by kernel_rfl) (swap_Mask_ok N r1 (w64 (r1.When + (Int.tmod a2_ 5))) r32 hr32)) (APath.fin (by kernel_rfl)))) (by kernel_rfl) ?_
            refine vc_seq ?_
            obtain ⟨r33, hr33, h⟩ := bind_some h
            refine vc_reg (S := ⟨[(2, iv a2_), (7, .loc 7 0), (9, .loc 9 0), (11, iv (w64 (r1.When + (Int.tmod a2_ 5)))), (12, iv r32.1), (13, iv r32.2), (14, iv r33.1), (15, iv r33.2), (26, .agg [s_e_api_Entry false r1.Oper.Entries, iv r1.Oper.Cycle, iv r1.Base, bv r1.Pending, s_e_api_Entry false r1.Admin.Entries, iv r1.Admin.Cycle, iv r1.When, s_e_api_Entry false r2.Oper.Entries, iv r2.Oper.Cycle, iv r2.Base, bv r2.Pending, s_e_api_Entry false r2.Admin.Entries, iv r2.Admin.Cycle, iv r2.When]), (27, iv 0), (43, .agg [iv a2_, iv (Int.tmod a2_ 2000), iv (w64 (r1.When + (Int.tmod a2_ 5)))]), (44, iv 2)], [(7, (c_api_Change r1)), (9, (c_api_Change r1))], []⟩) (APath.chunk 2 (by kernel_rfl) (APath.one (.call (some 56) 14 [.t 54, .t 55]) (by kernel_rfl) (st_call (by kernel_rfl) (ref29_Mask_ok N r1 (w64 (r1.When + (Int.tmod a2_ 5))) r33 hr33)) (APath.fin (by kernel_rfl)))) (by kernel_rfl) ?_
            refine vc_seq ?_
            obtain ⟨r34, hr34, h⟩ := bind_some h
            refine vc_reg (S := ⟨[(2, iv a2_), (7, .loc 7 0), (9, .loc 9 0), (11, iv (w64 (r1.When + (Int.tmod a2_ 5)))), (12, iv r32.1), (13, iv r32.2), (14, iv r33.1), (15, iv r33.2), (16, .loc 16 0), (17, iv r34.2), (26, .agg [s_e_api_Entry false r1.Oper.Entries, iv r1.Oper.Cycle, iv r1.Base, bv r1.Pending, s_e_api_Entry false r1.Admin.Entries, iv r1.Admin.Cycle, iv r1.When, s_e_api_Entry false r2.Oper.Entries, iv r2.Oper.Cycle, iv r2.Base, bv r2.Pending, s_e_api_Entry false r2.Admin.Entries, iv r2.Admin.Cycle, iv r2.When]), (27, iv 0), (43, .agg [iv a2_, iv (Int.tmod a2_ 2000), iv (w64 (r1.When + (Int.tmod a2_ 5)))]), (44, iv 2)], [(7, (c_api_Change r1)), (9, (c_api_Change r1)), (16, (c_api_Change r34.1))], []⟩) (APath.chunk 3 (by kernel_rfl) (APath.one (.call (some 63) 15 [.t 61, .t 62]) (by kernel_rfl) (st_call (by kernel_rfl) (swap_New_ok N r1.Oper (w64 (r1.When + (Int.tmod a2_ 5))) r34 hr34)) (APath.fin (by kernel_rfl)))) (by kernel_rfl) ?_
            refine vc_seq ?_
            obtain ⟨r35, hr35, h⟩ := bind_some h
            refine vc_reg (S := ⟨[(2, iv a2_), (7, .loc 7 0), (9, .loc 9 0), (12, iv r32.1), (13, iv r32.2), (14, iv r33.1), (15, iv r33.2), (16, .loc 16 0), (17, iv r34.2), (18, .loc 18 0), (19, iv r35.2), (26, .agg [s_e_api_Entry false r1.Oper.Entries, iv r1.Oper.Cycle, iv r1.Base, bv r1.Pending, s_e_api_Entry false r1.Admin.Entries, iv r1.Admin.Cycle, iv r1.When, s_e_api_Entry false r2.Oper.Entries, iv r2.Oper.Cycle, iv r2.Base, bv r2.Pending, s_e_api_Entry false r2.Admin.Entries, iv r2.Admin.Cycle, iv r2.When]), (27, iv 0), (43, .agg [iv a2_, iv (Int.tmod a2_ 2000), iv (w64 (r1.When + (Int.tmod a2_ 5)))]), (44, iv 2)], [(7, (c_api_Change r1)), (9, (c_api_Change r1)), (16, (c_api_Change r34.1)), (18, (c_api_Change r35.1))], []⟩) (APath.chunk 3 (by kernel_rfl) (APath.one (.call (some 70) 16 [.t 68, .t 69]) (by kernel_rfl) (st_call (by kernel_rfl) (ref29_New_ok N r1.Oper (w64 (r1.When + (Int.tmod a2_ 5))) r35 hr35)) (APath.fin (by kernel_rfl)))) (by kernel_rfl) ?_
            refine vc_seq ?_
            obtain ⟨j43, hj, h⟩ := bind_some h
            refine vc_regXR (fun s => s = ⟨[(2, iv a2_), (7, .loc 7 0), (9, .loc 9 0), (26, .agg [s_e_api_Entry false r1.Oper.Entries, iv r1.Oper.Cycle, iv r1.Base, bv r1.Pending, s_e_api_Entry false r1.Admin.Entries, iv r1.Admin.Cycle, iv r1.When, s_e_api_Entry false r2.Oper.Entries, iv r2.Oper.Cycle, iv r2.Base, bv r2.Pending, s_e_api_Entry false r2.Admin.Entries, iv r2.Admin.Cycle, iv r2.When]), (27, iv 0), (43, .agg [iv a2_, iv (Int.tmod a2_ 2000), iv (w64 (r1.When + (Int.tmod a2_ 5)))]), (44, iv 2), (91, bv j43)], [(7, (c_api_Change r1)), (9, (c_api_Change r1))], []⟩) ?_ ?_
            · clear h
              rcases ite_some hj with ⟨hc36, hj⟩ | ⟨hc37, hj⟩
              · obtain rfl := some_inj hj
                exact ⟨_, (APath.chunk 2 (by kernel_rfl) (APath.one (.val 75 (.bin .neq) [.t 73, .t 74]) (by kernel_rfl) (st_bool (c := (r32.1 != r33.1)) (by kernel_rfl) hc36) (APath.fin (by kernel_rfl)))), (by show _ = _; kernel_rfl)⟩
              · rcases ite_some hj with ⟨hc38, hj⟩ | ⟨hc39, hj⟩
                · obtain rfl := some_inj hj
                  exact ⟨_, (APath.chunk 2 (by kernel_rfl) (APath.one (.val 75 (.bin .neq) [.t 73, .t 74]) (by kernel_rfl) (st_bool (c := (r32.1 != r33.1)) (by kernel_rfl) hc37) (APath.chunk 3 (by kernel_rfl) (APath.oneG (.val 79 (.bin .neq) [.t 77, .t 78]) 76 false (by kernel_rfl) (by kernel_rfl) (st_bool (c := (r32.2 != r33.2)) (by kernel_rfl) hc38) (APath.fin (by kernel_rfl)))))), (by show _ = _; kernel_rfl)⟩
                · rcases ite_some hj with ⟨hc40, hj⟩ | ⟨hc41, hj⟩
                  · obtain rfl := some_inj hj
                    exact ⟨_, (APath.chunk 2 (by kernel_rfl) (APath.one (.val 75 (.bin .neq) [.t 73, .t 74]) (by kernel_rfl) (st_bool (c := (r32.1 != r33.1)) (by kernel_rfl) hc37) (APath.chunk 3 (by kernel_rfl) (APath.oneG (.val 79 (.bin .neq) [.t 77, .t 78]) 76 false (by kernel_rfl) (by kernel_rfl) (st_bool (c := (r32.2 != r33.2)) (by kernel_rfl) hc39) (APath.chunk 4 (by kernel_rfl) (APath.oneG (.val 84 (.bin .neq) [.t 82, .t 83]) 81 false (by kernel_rfl) (by kernel_rfl) (st_bool (c := (r34.2 != r35.2)) (by kernel_rfl) hc40) (APath.fin (by kernel_rfl)))))))), (by show _ = _; kernel_rfl)⟩
                  · obtain ⟨r42, hr42, hj⟩ := bind_some hj
                    obtain rfl := some_inj hj
                    exact ⟨_, (APath.chunk 2 (by kernel_rfl) (APath.one (.val 75 (.bin .neq) [.t 73, .t 74]) (by kernel_rfl) (st_bool (c := (r32.1 != r33.1)) (by kernel_rfl) hc37) (APath.chunk 3 (by kernel_rfl) (APath.oneG (.val 79 (.bin .neq) [.t 77, .t 78]) 76 false (by kernel_rfl) (by kernel_rfl) (st_bool (c := (r32.2 != r33.2)) (by kernel_rfl) hc39) (APath.chunk 4 (by kernel_rfl) (APath.oneG (.val 84 (.bin .neq) [.t 82, .t 83]) 81 false (by kernel_rfl) (by kernel_rfl) (st_bool (c := (r34.2 != r35.2)) (by kernel_rfl) hc41) (APath.chunk 4 (by kernel_rfl) (APath.oneG (.call (some 89) 17 [.t 87, .t 88]) 86 false (by kernel_rfl) (by kernel_rfl) (st_call (by kernel_rfl) (ref29_Same_ok N r34.1 r35.1 r42 hr42)) (APath.fin (by kernel_rfl)))))))))), (by show _ = _; kernel_rfl)⟩
            · clear hj
              rintro s hR
              obtain rfl := hR
              refine vc_ite (by kernel_rfl) h (fun hc44 h => ?_) (fun hc44 h => ?_)
              · refine vc_seq ?_
                refine vc_reg (S := ⟨[(6, bv false)], [], []⟩) (APath.fin (by kernel_rfl)) (by kernel_rfl) ?_
                refine vc_ret ?_
                obtain rfl := some_inj h
                exact ret_of (by kernel_rfl)
              · refine vc_skip ?_
                refine vc_kp ?_
                refine vc_reg (S := ⟨[(2, iv a2_), (7, .loc 7 0), (9, .loc 9 0), (26, .agg [s_e_api_Entry false r1.Oper.Entries, iv r1.Oper.Cycle, iv r1.Base, bv r1.Pending, s_e_api_Entry false r1.Admin.Entries, iv r1.Admin.Cycle, iv r1.When, s_e_api_Entry false r2.Oper.Entries, iv r2.Oper.Cycle, iv r2.Base, bv r2.Pending, s_e_api_Entry false r2.Admin.Entries, iv r2.Admin.Cycle, iv r2.When]), (27, iv 0), (43, .agg [iv a2_, iv (Int.tmod a2_ 2000), iv (w64 (r1.When + (Int.tmod a2_ 5)))]), (44, iv 3)], [(7, (c_api_Change r1)), (9, (c_api_Change r1))], []⟩) (APath.fin (by kernel_rfl)) (by kernel_rfl) ?_
                refine unr_step ?_
                refine vc_seq ?_
                refine vc_reg (S := ⟨[(2, iv a2_), (7, .loc 7 0), (9, .loc 9 0), (26, .agg [s_e_api_Entry false r1.Oper.Entries, iv r1.Oper.Cycle, iv r1.Base, bv r1.Pending, s_e_api_Entry false r1.Admin.Entries, iv r1.Admin.Cycle, iv r1.When, s_e_api_Entry false r2.Oper.Entries, iv r2.Oper.Cycle, iv r2.Base, bv r2.Pending, s_e_api_Entry false r2.Admin.Entries, iv r2.Admin.Cycle, iv r2.When]), (27, iv 0), (43, .agg [iv a2_, iv (Int.tmod a2_ 2000), iv (w64 (r1.When + (Int.tmod a2_ 5)))]), (44, iv 3), (45, bv false)], [(7, (c_api_Change r1)), (9, (c_api_Change r1))], []⟩) (APath.fin (by kernel_rfl)) (by kernel_rfl) ?_
                refine vc_seq ?_
                refine vc_false (by kernel_rfl) ?_
                refine vc_exit ?_
                try show vc _ _ _ _ _
                refine vc_kp ?_
                refine vc_reg (S := ⟨[(2, iv a2_), (7, .loc 7 0), (26, .agg [s_e_api_Entry false r1.Oper.Entries, iv r1.Oper.Cycle, iv r1.Base, bv r1.Pending, s_e_api_Entry false r1.Admin.Entries, iv r1.Admin.Cycle, iv r1.When, s_e_api_Entry false r2.Oper.Entries, iv r2.Oper.Cycle, iv r2.Base, bv r2.Pending, s_e_api_Entry false r2.Admin.Entries, iv r2.Admin.Cycle, iv r2.When]), (27, iv 1)], [(7, (c_api_Change r1))], []⟩) (APath.fin (by kernel_rfl)) (by kernel_rfl) ?_
                refine unr_step ?_
                refine vc_seq ?_
                refine vc_reg (S := ⟨[(2, iv a2_), (7, .loc 7 0), (26, .agg [s_e_api_Entry false r1.Oper.Entries, iv r1.Oper.Cycle, iv r1.Base, bv r1.Pending, s_e_api_Entry false r1.Admin.Entries, iv r1.Admin.Cycle, iv r1.When, s_e_api_Entry false r2.Oper.Entries, iv r2.Oper.Cycle, iv r2.Base, bv r2.Pending, s_e_api_Entry false r2.Admin.Entries, iv r2.Admin.Cycle, iv r2.When]), (27, iv 1), (28, bv true)], [(7, (c_api_Change r1))], []⟩) (APath.fin (by kernel_rfl)) (by kernel_rfl) ?_
                refine vc_seq ?_
                refine vc_true (by kernel_rfl) ?_
                refine vc_skip ?_
                refine vc_kp ?_
                refine vc_seq ?_
                refine vc_block ?_
                refine vc_seq ?_
                refine vc_reg (S := ⟨[(2, iv a2_), (7, .loc 7 0), (9, .loc 9 0), (26, .agg [s_e_api_Entry false r1.Oper.Entries, iv r1.Oper.Cycle, iv r1.Base, bv r1.Pending, s_e_api_Entry false r1.Admin.Entries, iv r1.Admin.Cycle, iv r1.When, s_e_api_Entry false r2.Oper.Entries, iv r2.Oper.Cycle, iv r2.Base, bv r2.Pending, s_e_api_Entry false r2.Admin.Entries, iv r2.Admin.Cycle, iv r2.When]), (27, iv 1)], [(7, (c_api_Change r1)), (9, (c_api_Change r2))], []⟩) (APath.fin (by kernel_rfl)) (by kernel_rfl) ?_
                refine vc_seq ?_
                refine vc_seq ?_
                obtain ⟨r45, hr45, h⟩ := bind_some h
                obtain ⟨r46, hr46, h⟩ := bind_some h
                refine vc_regD (S := ⟨[(2, iv a2_), (7, .loc 7 0), (9, .loc 9 0), (26, .agg [s_e_api_Entry false r1.Oper.Entries, iv r1.Oper.Cycle, iv r1.Base, bv r1.Pending, s_e_api_Entry false r1.Admin.Entries, iv r1.Admin.Cycle, iv r1.When, s_e_api_Entry false r2.Oper.Entries, iv r2.Oper.Cycle, iv r2.Base, bv r2.Pending, s_e_api_Entry false r2.Admin.Entries, iv r2.Admin.Cycle, iv r2.When]), (27, iv 1), (34, bv (r45 != r46))], [(7, (c_api_Change r1)), (9, (c_api_Change r2))], []⟩) (by kernel_rfl) (APath.chunk 1 (by kernel_rfl) (APath.one (.callP 31 11 [.t 30]) (by kernel_rfl) (st_callP (by kernel_rfl) (swap_Check_ok N r2 r45 hr45)) (APath.chunk 1 (by kernel_rfl) (APath.one (.callP 33 12 [.t 32]) (by kernel_rfl) (st_callP (by kernel_rfl) (ref29_Check_ok N r2 r46 hr46)) (APath.fin (by kernel_rfl)))))) (by kernel_rfl) ?_
                refine vc_ite (by kernel_rfl) h (fun hc47 h => ?_) (fun hc47 h => ?_)
                · refine vc_seq ?_
                  refine vc_reg (S := ⟨[(6, bv false)], [], []⟩) (APath.fin (by kernel_rfl)) (by kernel_rfl) ?_
                  refine vc_ret ?_
                  obtain rfl := some_inj h
                  exact ret_of (by kernel_rfl)
                · refine vc_skip ?_
                  refine vc_kp ?_
                  refine vc_seq ?_
                  refine vc_reg (S := ⟨[(2, iv a2_), (7, .loc 7 0), (9, .loc 9 0), (26, .agg [s_e_api_Entry false r1.Oper.Entries, iv r1.Oper.Cycle, iv r1.Base, bv r1.Pending, s_e_api_Entry false r1.Admin.Entries, iv r1.Admin.Cycle, iv r1.When, s_e_api_Entry false r2.Oper.Entries, iv r2.Oper.Cycle, iv r2.Base, bv r2.Pending, s_e_api_Entry false r2.Admin.Entries, iv r2.Admin.Cycle, iv r2.When]), (27, iv 1), (43, .agg [iv a2_, iv (Int.tmod a2_ 2000), iv (w64 (r1.When + (Int.tmod a2_ 5)))]), (44, iv 0)], [(7, (c_api_Change r1)), (9, (c_api_Change r2))], []⟩) (APath.fin (by kernel_rfl)) (by kernel_rfl) ?_
                  refine vc_block ?_
                  refine vc_unroll 14 ?_
                  refine unr_step ?_
                  refine vc_seq ?_
                  refine vc_reg (S := ⟨[(2, iv a2_), (7, .loc 7 0), (9, .loc 9 0), (26, .agg [s_e_api_Entry false r1.Oper.Entries, iv r1.Oper.Cycle, iv r1.Base, bv r1.Pending, s_e_api_Entry false r1.Admin.Entries, iv r1.Admin.Cycle, iv r1.When, s_e_api_Entry false r2.Oper.Entries, iv r2.Oper.Cycle, iv r2.Base, bv r2.Pending, s_e_api_Entry false r2.Admin.Entries, iv r2.Admin.Cycle, iv r2.When]), (27, iv 1), (43, .agg [iv a2_, iv (Int.tmod a2_ 2000), iv (w64 (r1.When + (Int.tmod a2_ 5)))]), (44, iv 0), (45, bv true)], [(7, (c_api_Change r1)), (9, (c_api_Change r2))], []⟩) (APath.fin (by kernel_rfl)) (by kernel_rfl) ?_
                  refine vc_seq ?_
                  refine vc_true (by kernel_rfl) ?_
                  refine vc_skip ?_
                  refine vc_kp ?_
                  refine vc_seq ?_
                  refine vc_block ?_
                  refine vc_seq ?_
                  refine vc_reg (S := ⟨[(2, iv a2_), (7, .loc 7 0), (9, .loc 9 0), (11, iv a2_), (26, .agg [s_e_api_Entry false r1.Oper.Entries, iv r1.Oper.Cycle, iv r1.Base, bv r1.Pending, s_e_api_Entry false r1.Admin.Entries, iv r1.Admin.Cycle, iv r1.When, s_e_api_Entry false r2.Oper.Entries, iv r2.Oper.Cycle, iv r2.Base, bv r2.Pending, s_e_api_Entry false r2.Admin.Entries, iv r2.Admin.Cycle, iv r2.When]), (27, iv 1), (43, .agg [iv a2_, iv (Int.tmod a2_ 2000), iv (w64 (r1.When + (Int.tmod a2_ 5)))]), (44, iv 0)], [(7, (c_api_Change r1)), (9, (c_api_Change r2))], []⟩) (APath.fin (by kernel_rfl)) (by kernel_rfl) ?_
                  refine vc_seq ?_
                  obtain ⟨r48, hr48, h⟩ := bind_some h
                  refine vc_reg (S := ⟨[(2, iv a2_), (7, .loc 7 0), (9, .loc 9 0), (11, iv a2_), (12, iv r48.1), (13, iv r48.2), (26, .agg [s_e_api_Entry false r1.Oper.Entries, iv r1.Oper.Cycle, iv r1.Base, bv r1.Pending, s_e_api_Entry false r1.Admin.Entries, iv r1.Admin.Cycle, iv r1.When, s_e_api_Entry false r2.Oper.Entries, iv r2.Oper.Cycle, iv r2.Base, bv r2.Pending, s_e_api_Entry false r2.Admin.Entries, iv r2.Admin.Cycle, iv r2.When]), (27, iv 1), (43, .agg [iv a2_, iv (Int.tmod a2_ 2000), iv (w64 (r1.When + (Int.tmod a2_ 5)))]), (44, iv 0)], [(7, (c_api_Change r1)), (9, (c_api_Change r2))], []⟩) (APath.chunk 2 (by kernel_rfl) (APath.one (.call (some 50) 13 [.t 48, .t 49]) (by kernel_rfl) (st_call (by kernel_rfl) (swap_Mask_ok N r2 a2_ r48 hr48)) (APath.fin (by kernel_rfl)))) (by kernel_rfl) ?_
                  refine vc_seq ?_
                  obtain ⟨r49, hr49, h⟩ := bind_some h
                  refine vc_reg (S := ⟨[(2, iv a2_), (7, .loc 7 0), (9, .loc 9 0), (11, iv a2_), (12, iv r48.1), (13, iv r48.2), (14, iv r49.1), (15, iv r49.2), (26, .agg [s_e_api_Entry false r1.Oper.Entries, iv r1.Oper.Cycle, iv r1.Base, bv r1.Pending, s_e_api_Entry false r1.Admin.Entries, iv r1.Admin.Cycle, iv r1.When, s_e_api_Entry false r2.Oper.Entries, iv r2.Oper.Cycle, iv r2.Base, bv r2.Pending, s_e_api_Entry false r2.Admin.Entries, iv r2.Admin.Cycle, iv r2.When]), (27, iv 1), (43, .agg [iv a2_, iv (Int.tmod a2_ 2000), iv (w64 (r1.When + (Int.tmod a2_ 5)))]), (44, iv 0)], [(7, (c_api_Change r1)), (9, (c_api_Change r2))], []⟩) (APath.chunk 2 (by kernel_rfl) (APath.one (.call (some 56) 14 [.t 54, .t 55]) (by kernel_rfl) (st_call (by kernel_rfl) (ref29_Mask_ok N r2 a2_ r49 hr49)) (APath.fin (by kernel_rfl)))) (by kernel_rfl) ?_
                  refine vc_seq ?_
                  obtain ⟨r50, hr50, h⟩ := bind_some h
                  refine vc_reg (S := ⟨[(2, iv a2_), (7, .loc 7 0), (9, .loc 9 0), (11, iv a2_), (12, iv r48.1), (13, iv r48.2), (14, iv r49.1), (15, iv r49.2), (16, .loc 16 0), (17, iv r50.2), (26, .agg [s_e_api_Entry false r1.Oper.Entries, iv r1.Oper.Cycle, iv r1.Base, bv r1.Pending, s_e_api_Entry false r1.Admin.Entries, iv r1.Admin.Cycle, iv r1.When, s_e_api_Entry false r2.Oper.Entries, iv r2.Oper.Cycle, iv r2.Base, bv r2.Pending, s_e_api_Entry false r2.Admin.Entries, iv r2.Admin.Cycle, iv r2.When]), (27, iv 1), (43, .agg [iv a2_, iv (Int.tmod a2_ 2000), iv (w64 (r1.When + (Int.tmod a2_ 5)))]), (44, iv 0)], [(7, (c_api_Change r1)), (9, (c_api_Change r2)), (16, (c_api_Change r50.1))], []⟩) (APath.chunk 3 (by kernel_rfl) (APath.one (.call (some 63) 15 [.t 61, .t 62]) (by kernel_rfl) (st_call (by kernel_rfl) (swap_New_ok N r2.Oper a2_ r50 hr50)) (APath.fin (by kernel_rfl)))) (by kernel_rfl) ?_
                  refine vc_seq ?_
                  obtain ⟨r51, hr51, h⟩ := bind_some h
                  refine vc_reg (S := ⟨[(2, iv a2_), (7, .loc 7 0), (9, .loc 9 0), (12, iv r48.1), (13, iv r48.2), (14, iv r49.1), (15, iv r49.2), (16, .loc 16 0), (17, iv r50.2), (18, .loc 18 0), (19, iv r51.2), (26, .agg [s_e_api_Entry false r1.Oper.Entries, iv r1.Oper.Cycle, iv r1.Base, bv r1.Pending, s_e_api_Entry false r1.Admin.Entries, iv r1.Admin.Cycle, iv r1.When, s_e_api_Entry false r2.Oper.Entries, iv r2.Oper.Cycle, iv r2.Base, bv r2.Pending, s_e_api_Entry false r2.Admin.Entries, iv r2.Admin.Cycle, iv r2.When]), (27, iv 1), (43, .agg [iv a2_, iv (Int.tmod a2_ 2000), iv (w64 (r1.When + (Int.tmod a2_ 5)))]), (44, iv 0)], [(7, (c_api_Change r1)), (9, (c_api_Change r2)), (16, (c_api_Change r50.1)), (18, (c_api_Change r51.1))], []⟩) (APath.chunk 3 (by kernel_rfl) (APath.one (.call (some 70) 16 [.t 68, .t 69]) (by kernel_rfl) (st_call (by kernel_rfl) (ref29_New_ok N r2.Oper a2_ r51 hr51)) (APath.fin (by kernel_rfl)))) (by kernel_rfl) ?_
                  refine vc_seq ?_
                  obtain ⟨j59, hj, h⟩ := bind_some h
                  refine vc_regXR (fun s => s = ⟨[(2, iv a2_), (7, .loc 7 0), (9, .loc 9 0), (26, .agg [s_e_api_Entry false r1.Oper.Entries, iv r1.Oper.Cycle, iv r1.Base, bv r1.Pending, s_e_api_Entry false r1.Admin.Entries, iv r1.Admin.Cycle, iv r1.When, s_e_api_Entry false r2.Oper.Entries, iv r2.Oper.Cycle, iv r2.Base, bv r2.Pending, s_e_api_Entry false r2.Admin.Entries, iv r2.Admin.Cycle, iv r2.When]), (27, iv 1), (43, .agg [iv a2_, iv (Int.tmod a2_ 2000), iv (w64 (r1.When + (Int.tmod a2_ 5)))]), (44, iv 0), (91, bv j59)], [(7, (c_api_Change r1)), (9, (c_api_Change r2))], []⟩) ?_ ?_
                  · clear h
                    rcases ite_some hj with ⟨hc52, hj⟩ | ⟨hc53, hj⟩
                    · obtain rfl := some_inj hj
                      exact ⟨_, (APath.chunk 2 (by kernel_rfl) (APath.one (.val 75 (.bin .neq) [.t 73, .t 74]) (by kernel_rfl) (st_bool (c := (r48.1 != r49.1)) (by kernel_rfl) hc52) (APath.fin (by kernel_rfl)))), (by show _ = _; kernel_rfl)⟩
                    · rcases ite_some hj with ⟨hc54, hj⟩ | ⟨hc55, hj⟩
                      · obtain rfl := some_inj hj
                        exact ⟨_, (APath.chunk 2 (by kernel_rfl) (APath.one (.val 75 (.bin .neq) [.t 73, .t 74]) (by kernel_rfl) (st_bool (c := (r48.1 != r49.1)) (by kernel_rfl) hc53) (APath.chunk 3 (by kernel_rfl) (APath.oneG (.val 79 (.bin .neq) [.t 77, .t 78]) 76 false (by kernel_rfl) (by kernel_rfl) (st_bool (c := (r48.2 != r49.2)) (by kernel_rfl) hc54) (APath.fin (by kernel_rfl)))))), (by show _ = _; kernel_rfl)⟩
                      · rcases ite_some hj with ⟨hc56, hj⟩ | ⟨hc57, hj⟩
                        · obtain rfl := some_inj hj
                          exact ⟨_, (APath.chunk 2 (by kernel_rfl) (APath.one (.val 75 (.bin .neq) [.t 73, .t 74]) (by kernel_rfl) (st_bool (c := (r48.1 != r49.1)) (by kernel_rfl) hc53) (APath.chunk 3 (by kernel_rfl) (APath.oneG (.val 79 (.bin .neq) [.t 77, .t 78]) 76 false (by kernel_rfl) (by kernel_rfl) (st_bool (c := (r48.2 != r49.2)) (by kernel_rfl) hc55) (APath.chunk 4 (by kernel_rfl) (APath.oneG (.val 84 (.bin .neq) [.t 82, .t 83]) 81 false (by kernel_rfl) (by kernel_rfl) (st_bool (c := (r50.2 != r51.2)) (by kernel_rfl) hc56) (APath.fin (by kernel_rfl)))))))), (by show _ = _; kernel_rfl)⟩
                        · obtain ⟨r58, hr58, hj⟩ := bind_some hj
                          obtain rfl := some_inj hj
                          exact ⟨_, (APath.chunk 2 (by kernel_rfl) (APath.one (.val 75 (.bin .neq) [.t 73, .t 74]) (by kernel_rfl) (st_bool (c := (r48.1 != r49.1)) (by kernel_rfl) hc53) (APath.chunk 3 (by kernel_rfl) (APath.oneG (.val 79 (.bin .neq) [.t 77, .t 78]) 76 false (by kernel_rfl) (by kernel_rfl) (st_bool (c := (r48.2 != r49.2)) (by kernel_rfl) hc55) (APath.chunk 4 (by kernel_rfl) (APath.oneG (.val 84 (.bin .neq) [.t 82, .t 83]) 81 false (by kernel_rfl) (by kernel_rfl) (st_bool (c := (r50.2 != r51.2)) (by kernel_rfl) hc57) (APath.chunk 4 (by kernel_rfl) (APath.oneG (.call (some 89) 17 [.t 87, .t 88]) 86 false (by kernel_rfl) (by kernel_rfl) (st_call (by kernel_rfl) (ref29_Same_ok N r50.1 r51.1 r58 hr58)) (APath.fin (by kernel_rfl)))))))))), (by show _ = _; kernel_rfl)⟩
                  · clear hj
                    rintro s hR
                    obtain rfl := hR
                    refine vc_ite (by kernel_rfl) h (fun hc60 h => ?_) (fun hc60 h => ?_)
                    · refine vc_seq ?_
                      refine vc_reg (S := ⟨[(6, bv false)], [], []⟩) (APath.fin (by kernel_rfl)) (by kernel_rfl) ?_
                      refine vc_ret ?_
                      obtain rfl := some_inj h
                      exact ret_of (by kernel_rfl)
                    · refine vc_skip ?_
                      refine vc_kp ?_
                      refine vc_reg (S := ⟨[(2, iv a2_), (7, .loc 7 0), (9, .loc 9 0), (26, .agg [s_e_api_Entry false r1.Oper.Entries, iv r1.Oper.Cycle, iv r1.Base, bv r1.Pending, s_e_api_Entry false r1.Admin.Entries, iv r1.Admin.Cycle, iv r1.When, s_e_api_Entry false r2.Oper.Entries, iv r2.Oper.Cycle, iv r2.Base, bv r2.Pending, s_e_api_Entry false r2.Admin.Entries, iv r2.Admin.Cycle, iv r2.When]), (27, iv 1), (43, .agg [iv a2_, iv (Int.tmod a2_ 2000), iv (w64 (r1.When + (Int.tmod a2_ 5)))]), (44, iv 1)], [(7, (c_api_Change r1)), (9, (c_api_Change r2))], []⟩) (APath.fin (by kernel_rfl)) (by kernel_rfl) ?_
                      refine unr_step ?_
                      refine vc_seq ?_
                      refine vc_reg (S := ⟨[(2, iv a2_), (7, .loc 7 0), (9, .loc 9 0), (26, .agg [s_e_api_Entry false r1.Oper.Entries, iv r1.Oper.Cycle, iv r1.Base, bv r1.Pending, s_e_api_Entry false r1.Admin.Entries, iv r1.Admin.Cycle, iv r1.When, s_e_api_Entry false r2.Oper.Entries, iv r2.Oper.Cycle, iv r2.Base, bv r2.Pending, s_e_api_Entry false r2.Admin.Entries, iv r2.Admin.Cycle, iv r2.When]), (27, iv 1), (43, .agg [iv a2_, iv (Int.tmod a2_ 2000), iv (w64 (r1.When + (Int.tmod a2_ 5)))]), (44, iv 1), (45, bv true)], [(7, (c_api_Change r1)), (9, (c_api_Change r2))], []⟩) (APath.fin (by kernel_rfl)) (by kernel_rfl) ?_
                      refine vc_seq ?_
                      refine vc_true (by kernel_rfl) ?_
                      refine vc_skip ?_
                      refine vc_kp ?_
                      refine vc_seq ?_
                      refine vc_block ?_
                      refine vc_seq ?_
                      refine vc_reg (S := ⟨[(2, iv a2_), (7, .loc 7 0), (9, .loc 9 0), (11, iv (Int.tmod a2_ 2000)), (26, .agg [s_e_api_Entry false r1.Oper.Entries, iv r1.Oper.Cycle, iv r1.Base, bv r1.Pending, s_e_api_Entry false r1.Admin.Entries, iv r1.Admin.Cycle, iv r1.When, s_e_api_Entry false r2.Oper.Entries, iv r2.Oper.Cycle, iv r2.Base, bv r2.Pending, s_e_api_Entry false r2.Admin.Entries, iv r2.Admin.Cycle, iv r2.When]), (27, iv 1), (43, .agg [iv a2_, iv (Int.tmod a2_ 2000), iv (w64 (r1.When + (Int.tmod a2_ 5)))]), (44, iv 1)], [(7, (c_api_Change r1)), (9, (c_api_Change r2))], []⟩) (APath.fin (by kernel_rfl)) (by kernel_rfl) ?_
                      refine vc_seq ?_
                      obtain ⟨r61, hr61, h⟩ := bind_some h
                      refine vc_reg (S := ⟨[(2, iv a2_), (7, .loc 7 0), (9, .loc 9 0), (11, iv (Int.tmod a2_ 2000)), (12, iv r61.1), (13, iv r61.2), (26, .agg [s_e_api_Entry false r1.Oper.Entries, iv r1.Oper.Cycle, iv r1.Base, bv r1.Pending, s_e_api_Entry false r1.Admin.Entries, iv r1.Admin.Cycle, iv r1.When, s_e_api_Entry false r2.Oper.Entries, iv r2.Oper.Cycle, iv r2.Base, bv r2.Pending, s_e_api_Entry false r2.Admin.Entries, iv r2.Admin.Cycle, iv r2.When]), (27, iv 1), (43, .agg [iv a2_, iv (Int.tmod a2_ 2000), iv (w64 (r1.When + (Int.tmod a2_ 5)))]), (44, iv 1)], [(7, (c_api_Change r1)), (9, (c_api_Change r2))], []⟩) (APath.chunk 2 (by kernel_rfl) (APath.one (.call (some 50) 13 [.t 48, .t 49]) (by kernel_rfl) (st_call (by kernel_rfl) (swap_Mask_ok N r2 (Int.tmod a2_ 2000) r61 hr61)) (APath.fin (by kernel_rfl)))) (by kernel_rfl) ?_
                      refine vc_seq ?_
                      obtain ⟨r62, hr62, h⟩ := bind_some h
                      refine vc_reg (S := ⟨[(2, iv a2_), (7, .loc 7 0), (9, .loc 9 0), (11, iv (Int.tmod a2_ 2000)), (12, iv r61.1), (13, iv r61.2), (14, iv r62.1), (15, iv r62.2), (26, .agg [s_e_api_Entry false r1.Oper.Entries, iv r1.Oper.Cycle, iv r1.Base, bv r1.Pending, s_e_api_Entry false r1.Admin.Entries, iv r1.Admin.Cycle, iv r1.When, s_e_api_Entry false r2.Oper.Entries, iv r2.Oper.Cycle, iv r2.Base, bv r2.Pending, s_e_api_Entry false r2.Admin.Entries, iv r2.Admin.Cycle, iv r2.When]), (27, iv 1), (43, .agg [iv a2_, iv (Int.tmod a2_ 2000), iv (w64 (r1.When + (Int.tmod a2_ 5)))]), (44, iv 1)], [(7, (c_api_Change r1)), (9, (c_api_Change r2))], []⟩) (APath.chunk 2 (by kernel_rfl) (APath.one (.call (some 56) 14 [.t 54, .t 55]) (by kernel_rfl) (st_call (by kernel_rfl) (ref29_Mask_ok N r2 (Int.tmod a2_ 2000) r62 hr62)) (APath.fin (by kernel_rfl)))) (by kernel_rfl) ?_
                      refine vc_seq ?_
                      obtain ⟨r63, hr63, h⟩ := bind_some h
                      refine vc_reg (S := ⟨[(2, iv a2_), (7, .loc 7 0), (9, .loc 9 0), (11, iv (Int.tmod a2_ 2000)), (12, iv r61.1), (13, iv r61.2), (14, iv r62.1), (15, iv r62.2), (16, .loc 16 0), (17, iv r63.2), (26, .agg [s_e_api_Entry false r1.Oper.Entries, iv r1.Oper.Cycle, iv r1.Base, bv r1.Pending, s_e_api_Entry false r1.Admin.Entries, iv r1.Admin.Cycle, iv r1.When, s_e_api_Entry false r2.Oper.Entries, iv r2.Oper.Cycle, iv r2.Base, bv r2.Pending, s_e_api_Entry false r2.Admin.Entries, iv r2.Admin.Cycle, iv r2.When]), (27, iv 1), (43, .agg [iv a2_, iv (Int.tmod a2_ 2000), iv (w64 (r1.When + (Int.tmod a2_ 5)))]), (44, iv 1)], [(7, (c_api_Change r1)), (9, (c_api_Change r2)), (16, (c_api_Change r63.1))], []⟩) (APath.chunk 3 (by kernel_rfl) (APath.one (.call (some 63) 15 [.t 61, .t 62]) (by kernel_rfl) (st_call (by kernel_rfl) (swap_New_ok N r2.Oper (Int.tmod a2_ 2000) r63 hr63)) (APath.fin (by kernel_rfl)))) (by kernel_rfl) ?_
                      refine vc_seq ?_
                      obtain ⟨r64, hr64, h⟩ := bind_some h
                      refine vc_reg (S := ⟨[(2, iv a2_), (7, .loc 7 0), (9, .loc 9 0), (12, iv r61.1), (13, iv r61.2), (14, iv r62.1), (15, iv r62.2), (16, .loc 16 0), (17, iv r63.2), (18, .loc 18 0), (19, iv r64.2), (26, .agg [s_e_api_Entry false r1.Oper.Entries, iv r1.Oper.Cycle, iv r1.Base, bv r1.Pending, s_e_api_Entry false r1.Admin.Entries, iv r1.Admin.Cycle, iv r1.When, s_e_api_Entry false r2.Oper.Entries, iv r2.Oper.Cycle, iv r2.Base, bv r2.Pending, s_e_api_Entry false r2.Admin.Entries, iv r2.Admin.Cycle, iv r2.When]), (27, iv 1), (43, .agg [iv a2_, iv (Int.tmod a2_ 2000), iv (w64 (r1.When + (Int.tmod a2_ 5)))]), (44, iv 1)], [(7, (c_api_Change r1)), (9, (c_api_Change r2)), (16, (c_api_Change r63.1)), (18, (c_api_Change r64.1))], []⟩) (APath.chunk 3 (by kernel_rfl) (APath.one (.call (some 70) 16 [.t 68, .t 69]) (by kernel_rfl) (st_call (by kernel_rfl) (ref29_New_ok N r2.Oper (Int.tmod a2_ 2000) r64 hr64)) (APath.fin (by kernel_rfl)))) (by kernel_rfl) ?_
                      refine vc_seq ?_
                      obtain ⟨j72, hj, h⟩ := bind_some h
                      refine vc_regXR (fun s => s = ⟨[(2, iv a2_), (7, .loc 7 0), (9, .loc 9 0), (26, .agg [s_e_api_Entry false r1.Oper.Entries, iv r1.Oper.Cycle, iv r1.Base, bv r1.Pending, s_e_api_Entry false r1.Admin.Entries, iv r1.Admin.Cycle, iv r1.When, s_e_api_Entry false r2.Oper.Entries, iv r2.Oper.Cycle, iv r2.Base, bv r2.Pending, s_e_api_Entry false r2.Admin.Entries, iv r2.Admin.Cycle, iv r2.When]), (27, iv 1), (43, .agg [iv a2_, iv (Int.tmod a2_ 2000), iv (w64 (r1.When + (Int.tmod a2_ 5)))]), (44, iv 1), (91, bv j72)], [(7, (c_api_Change r1)), (9, (c_api_Change r2))], []⟩) ?_ ?_
                      · clear h
                        rcases ite_some hj with ⟨hc65, hj⟩ | ⟨hc66, hj⟩
                        · obtain rfl := some_inj hj
                          exact ⟨_, (APath.chunk 2 (by kernel_rfl) (APath.one (.val 75 (.bin .neq) [.t 73, .t 74]) (by kernel_rfl) (st_bool (c := (r61.1 != r62.1)) (by kernel_rfl) hc65) (APath.fin (by kernel_rfl)))), (by show _ = _; kernel_rfl)⟩
                        · rcases ite_some hj with ⟨hc67, hj⟩ | ⟨hc68, hj⟩
                          · obtain rfl := some_inj hj
                            exact ⟨_, (APath.chunk 2 (by kernel_rfl) (APath.one (.val 75 (.bin .neq) [.t 73, .t 74]) (by kernel_rfl) (st_bool (c := (r61.1 != r62.1)) (by kernel_rfl) hc66) (APath.chunk 3 (by kernel_rfl) (APath.oneG (.val 79 (.bin .neq) [.t 77, .t 78]) 76 false (by kernel_rfl) (by kernel_rfl) (st_bool (c := (r61.2 != r62.2)) (by kernel_rfl) hc67) (APath.fin (by kernel_rfl)))))), (by show _ = _; kernel_rfl)⟩
                          · rcases ite_some hj with ⟨hc69, hj⟩ | ⟨hc70, hj⟩
                            · obtain rfl := some_inj hj
                              exact ⟨_, (APath.chunk 2 (by kernel_rfl) (APath.one (.val 75 (.bin .neq) [.t 73, .t 74]) (by kernel_rfl) (st_bool (c := (r61.1 != r62.1)) (by kernel_rfl) hc66) (APath.chunk 3 (by kernel_rfl) (APath.oneG (.val 79 (.bin .neq) [.t 77, .t 78]) 76 false (by kernel_rfl) (by kernel_rfl) (st_bool (c := (r61.2 != r62.2)) (by kernel_rfl) hc68) (APath.chunk 4 (by kernel_rfl) (APath.oneG (.val 84 (.bin .neq) [.t 82, .t 83]) 81 false (by kernel_rfl) (by kernel_rfl) (st_bool (c := (r63.2 != r64.2)) (by kernel_rfl) hc69) (APath.fin (by kernel_rfl)))))))), (by show _ = _; kernel_rfl)⟩
                            · obtain ⟨r71, hr71, hj⟩ := bind_some hj
                              obtain rfl := some_inj hj
                              exact ⟨_, (APath.chunk 2 (by kernel_rfl) (APath.one (.val 75 (.bin .neq) [.t 73, .t 74]) (by kernel_rfl) (st_bool (c := (r61.1 != r62.1)) (by kernel_rfl) hc66) (APath.chunk 3 (by kernel_rfl) (APath.oneG (.val 79 (.bin .neq) [.t 77, .t 78]) 76 false (by kernel_rfl) (by kernel_rfl) (st_bool (c := (r61.2 != r62.2)) (by kernel_rfl) hc68) (APath.chunk 4 (by kernel_rfl) (APath.oneG (.val 84 (.bin .neq) [.t 82, .t 83]) 81 false (by kernel_rfl) (by kernel_rfl) (st_bool (c := (r63.2 != r64.2)) (by kernel_rfl) hc70) (APath.chunk 4 (by kernel_rfl) (APath.oneG (.call (some 89) 17 [.t 87, .t 88]) 86 false (by kernel_rfl) (by kernel_rfl) (st_call (by kernel_rfl) (ref29_Same_ok N r63.1 r64.1 r71 hr71)) (APath.fin (by kernel_rfl)))))))))), (by show _ = _; kernel_rfl)⟩
                      · clear hj
                        rintro s hR
                        obtain rfl := hR
                        refine vc_ite (by kernel_rfl) h (fun hc73 h => ?_) (fun hc73 h => ?_)
                        · refine vc_seq ?_
                          refine vc_reg (S := ⟨[(6, bv false)], [], []⟩) (APath.fin (by kernel_rfl)) (by kernel_rfl) ?_
                          refine vc_ret ?_
                          obtain rfl := some_inj h
                          exact ret_of (by kernel_rfl)
                        · refine vc_skip ?_
                          refine vc_kp ?_
                          refine vc_reg (S := ⟨[(2, iv a2_), (7, .loc 7 0), (9, .loc 9 0), (26, .agg [s_e_api_Entry false r1.Oper.Entries, iv r1.Oper.Cycle, iv r1.Base, bv r1.Pending, s_e_api_Entry false r1.Admin.Entries, iv r1.Admin.Cycle, iv r1.When, s_e_api_Entry false r2.Oper.Entries, iv r2.Oper.Cycle, iv r2.Base, bv r2.Pending, s_e_api_Entry false r2.Admin.Entries, iv r2.Admin.Cycle, iv r2.When]), (27, iv 1), (43, .agg [iv a2_, iv (Int.tmod a2_ 2000), iv (w64 (r1.When + (Int.tmod a2_ 5)))]), (44, iv 2)], [(7, (c_api_Change r1)), (9, (c_api_Change r2))], []⟩) (APath.fin (by kernel_rfl)) (by kernel_rfl) ?_
                          refine unr_step ?_
                          refine vc_seq ?_
                          refine vc_reg (S := ⟨[(2, iv a2_), (7, .loc 7 0), (9, .loc 9 0), (26, .agg [s_e_api_Entry false r1.Oper.Entries, iv r1.Oper.Cycle, iv r1.Base, bv r1.Pending, s_e_api_Entry false r1.Admin.Entries, iv r1.Admin.Cycle, iv r1.When, s_e_api_Entry false r2.Oper.Entries, iv r2.Oper.Cycle, iv r2.Base, bv r2.Pending, s_e_api_Entry false r2.Admin.Entries, iv r2.Admin.Cycle, iv r2.When]), (27, iv 1), (43, .agg [iv a2_, iv (Int.tmod a2_ 2000), iv (w64 (r1.When + (Int.tmod a2_ 5)))]), (44, iv 2), (45, bv true)], [(7, (c_api_Change r1)), (9, (c_api_Change r2))], []⟩) (APath.fin (by kernel_rfl)) (by kernel_rfl) ?_
                          refine vc_seq ?_
                          refine vc_true (by kernel_rfl) ?_
                          refine vc_skip ?_
                          refine vc_kp ?_
                          refine vc_seq ?_
                          refine vc_block ?_
                          refine vc_seq ?_
                          refine vc_reg (S := ⟨[(2, iv a2_), (7, .loc 7 0), (9, .loc 9 0), (11, iv (w64 (r1.When + (Int.tmod a2_ 5)))), (26, .agg [s_e_api_Entry false r1.Oper.Entries, iv r1.Oper.Cycle, iv r1.Base, bv r1.Pending, s_e_api_Entry false r1.Admin.Entries, iv r1.Admin.Cycle, iv r1.When, s_e_api_Entry false r2.Oper.Entries, iv r2.Oper.Cycle, iv r2.Base, bv r2.Pending, s_e_api_Entry false r2.Admin.Entries, iv r2.Admin.Cycle, iv r2.When]), (27, iv 1), (43, .agg [iv a2_, iv (Int.tmod a2_ 2000), iv (w64 (r1.When + (Int.tmod a2_ 5)))]), (44, iv 2)], [(7, (c_api_Change r1)), (9, (c_api_Change r2))], []⟩) (APath.fin (by kernel_rfl)) (by kernel_rfl) ?_
                          refine vc_seq ?_
                          obtain ⟨r74, hr74, h⟩ := bind_some h
                          refine vc_reg (S := ⟨[(2, iv a2_), (7, .loc 7 0), (9, .loc 9 0), (11, iv (w64 (r1.When + (Int.tmod a2_ 5)))), (12, iv r74.1), (13, iv r74.2), (26, .agg [s_e_api_Entry false r1.Oper.Entries, iv r1.Oper.Cycle, iv r1.Base, bv r1.Pending, s_e_api_Entry false r1.Admin.Entries, iv r1.Admin.Cycle, iv r1.When, s_e_api_Entry false r2.Oper.Entries, iv r2.Oper.Cycle, iv r2.Base, bv r2.Pending, s_e_api_Entry false r2.Admin.Entries, iv r2.Admin.Cycle, iv r2.When]), (27, iv 1), (43, .agg [iv a2_, iv (Int.tmod a2_ 2000), iv (w64 (r1.When + (Int.tmod a2_ 5)))]), (44, iv 2)], [(7, (c_api_Change r1)), (9, (c_api_Change r2))], []⟩) (APath.chunk 2 (by kernel_rfl) (APath.one (.call (some 50) 13 [.t 48, .t 49]) (by kernel_rfl) (st_call (by kernel_rfl) (swap_Mask_ok N r2 (w64 (r1.When + (Int.tmod a2_ 5))) r74 hr74)) (APath.fin (by kernel_rfl)))) (by kernel_rfl) ?_
                          refine vc_seq ?_
                          obtain ⟨r75, hr75, h⟩ := bind_some h
                          refine vc_reg (S := ⟨[(2, iv a2_), (7, .loc 7 0), (9, .loc 9 0), (11, iv (w64 (r1.When + (Int.tmod a2_ 5)))), (12, iv r74.1), (13, iv r74.2), (14, iv r75.1), (15, iv r75.2), (26, .agg [s_e_api_Entry false r1.Oper.Entries, iv r1.Oper.Cycle, iv r1.Base, bv r1.Pending, s_e_api_Entry false r1.Admin.Entries, iv r1.Admin.Cycle, iv r1.When, s_e_api_Entry false r2.Oper.Entries, iv r2.Oper.Cycle, iv r2.Base, bv r2.Pending, s_e_api_Entry false r2.Admin.Entries, iv r2.Admin.Cycle, iv r2.When]), (27, iv 1), (43, .agg [iv a2_, iv (Int.tmod a2_ 2000), iv (w64 (r1.When + (Int.tmod a2_ 5)))]), (44, iv 2)], [(7, (c_api_Change r1)), (9, (c_api_Change r2))], []⟩) (APath.chunk 2 (by kernel_rfl) (APath.one (.call (some 56) 14 [.t 54, .t 55]) (by kernel_rfl) (st_call (by kernel_rfl) (ref29_Mask_ok N r2 (w64 (r1.When + (Int.tmod a2_ 5))) r75 hr75)) (APath.fin (by kernel_rfl)))) (by kernel_rfl) ?_
                          refine vc_seq ?_
                          obtain ⟨r76, hr76, h⟩ := bind_some h
                          refine vc_reg (S := ⟨[(2, iv a2_), (7, .loc 7 0), (9, .loc 9 0), (11, iv (w64 (r1.When + (Int.tmod a2_ 5)))), (12, iv r74.1), (13, iv r74.2), (14, iv r75.1), (15, iv r75.2), (16, .loc 16 0), (17, iv r76.2), (26, .agg [s_e_api_Entry false r1.Oper.Entries, iv r1.Oper.Cycle, iv r1.Base, bv r1.Pending, s_e_api_Entry false r1.Admin.Entries, iv r1.Admin.Cycle, iv r1.When, s_e_api_Entry false r2.Oper.Entries, iv r2.Oper.Cycle, iv r2.Base, bv r2.Pending, s_e_api_Entry false r2.Admin.Entries, iv r2.Admin.Cycle, iv r2.When]), (27, iv 1), (43, .agg [iv a2_, iv (Int.tmod a2_ 2000), iv (w64 (r1.When + (Int.tmod a2_ 5)))]), (44, iv 2)], [(7, (c_api_Change r1)), (9, (c_api_Change r2)), (16, (c_api_Change r76.1))], []⟩) (APath.chunk 3 (by kernel_rfl) (APath.one (.call (some 63) 15 [.t 61, .t 62]) (by kernel_rfl) (st_call (by kernel_rfl) (swap_New_ok N r2.Oper (w64 (r1.When + (Int.tmod a2_ 5))) r76 hr76)) (APath.fin (by kernel_rfl)))) (by kernel_rfl) ?_
                          refine vc_seq ?_
                          obtain ⟨r77, hr77, h⟩ := bind_some h
                          refine vc_reg (S := ⟨[(2, iv a2_), (7, .loc 7 0), (9, .loc 9 0), (12, iv r74.1), (13, iv r74.2), (14, iv r75.1), (15, iv r75.2), (16, .loc 16 0), (17, iv r76.2), (18, .loc 18 0), (19, iv r77.2), (26, .agg [s_e_api_Entry false r1.Oper.Entries, iv r1.Oper.Cycle, iv r1.Base, bv r1.Pending, s_e_api_Entry false r1.Admin.Entries, iv r1.Admin.Cycle, iv r1.When, s_e_api_Entry false r2.Oper.Entries, iv r2.Oper.Cycle, iv r2.Base, bv r2.Pending, s_e_api_Entry false r2.Admin.Entries, iv r2.Admin.Cycle, iv r2.When]), (27, iv 1), (43, .agg [iv a2_, iv (Int.tmod a2_ 2000), iv (w64 (r1.When + (Int.tmod a2_ 5)))]), (44, iv 2)], [(7, (c_api_Change r1)), (9, (c_api_Change r2)), (16, (c_api_Change r76.1)), (18, (c_api_Change r77.1))], []⟩) (APath.chunk 3 (by kernel_rfl) (APath.one (.call (some 70) 16 [.t 68, .t 69]) (by kernel_rfl) (st_call (by kernel_rfl) (ref29_New_ok N r2.Oper (w64 (r1.When + (Int.tmod a2_ 5))) r77 hr77)) (APath.fin (by kernel_rfl)))) (by kernel_rfl) ?_
                          refine vc_seq ?_
                          obtain ⟨j85, hj, h⟩ := bind_some h
                          refine vc_regXR (fun s => s = ⟨[(2, iv a2_), (7, .loc 7 0), (9, .loc 9 0), (26, .agg [s_e_api_Entry false r1.Oper.Entries, iv r1.Oper.Cycle, iv r1.Base, bv r1.Pending, s_e_api_Entry false r1.Admin.Entries, iv r1.Admin.Cycle, iv r1.When, s_e_api_Entry false r2.Oper.Entries, iv r2.Oper.Cycle, iv r2.Base, bv r2.Pending, s_e_api_Entry false r2.Admin.Entries, iv r2.Admin.Cycle, iv r2.When]), (27, iv 1), (43, .agg [iv a2_, iv (Int.tmod a2_ 2000), iv (w64 (r1.When + (Int.tmod a2_ 5)))]), (44, iv 2), (91, bv j85)], [(7, (c_api_Change r1)), (9, (c_api_Change r2))], []⟩) ?_ ?_
                          · clear h
                            rcases ite_some hj with ⟨hc78, hj⟩ | ⟨hc79, hj⟩
                            · obtain rfl := some_inj hj
                              exact ⟨_, (APath.chunk 2 (by kernel_rfl) (APath.one (.val 75 (.bin .neq) [.t 73, .t 74]) (by kernel_rfl) (st_bool (c := (r74.1 != r75.1)) (by kernel_rfl) hc78) (APath.fin (by kernel_rfl)))), (by show _ = _; kernel_rfl)⟩
                            · rcases ite_some hj with ⟨hc80, hj⟩ | ⟨hc81, hj⟩
                              · obtain rfl := some_inj hj
                                exact ⟨_, (APath.chunk 2 (by kernel_rfl) (APath.one (.val 75 (.bin .neq) [.t 73, .t 74]) (by kernel_rfl) (st_bool (c := (r74.1 != r75.1)) (by kernel_rfl) hc79) (APath.chunk 3 (by kernel_rfl) (APath.oneG (.val 79 (.bin .neq) [.t 77, .t 78]) 76 false (by kernel_rfl) (by kernel_rfl) (st_bool (c := (r74.2 != r75.2)) (by kernel_rfl) hc80) (APath.fin (by kernel_rfl)))))), (by show _ = _; kernel_rfl)⟩
                              · rcases ite_some hj with ⟨hc82, hj⟩ | ⟨hc83, hj⟩
                                · obtain rfl := some_inj hj
                                  exact ⟨_, (APath.chunk 2 (by kernel_rfl) (APath.one (.val 75 (.bin .neq) [.t 73, .t 74]) (by kernel_rfl) (st_bool (c := (r74.1 != r75.1)) (by kernel_rfl) hc79) (APath.chunk 3 (by kernel_rfl) (APath.oneG (.val 79 (.bin .neq) [.t 77, .t 78]) 76 false (by kernel_rfl) (by kernel_rfl) (st_bool (c := (r74.2 != r75.2)) (by kernel_rfl) hc81) (APath.chunk 4 (by kernel_rfl) (APath.oneG (.val 84 (.bin .neq) [.t 82, .t 83]) 81 false (by kernel_rfl) (by kernel_rfl) (st_bool (c := (r76.2 != r77.2)) (by kernel_rfl) hc82) (APath.fin (by kernel_rfl)))))))), (by show _ = _; kernel_rfl)⟩
                                · obtain ⟨r84, hr84, hj⟩ := bind_some hj
                                  obtain rfl := some_inj hj
                                  exact ⟨_, (APath.chunk 2 (by kernel_rfl) (APath.one (.val 75 (.bin .neq) [.t 73, .t 74]) (by kernel_rfl) (st_bool (c := (r74.1 != r75.1)) (by kernel_rfl) hc79) (APath.chunk 3 (by kernel_rfl) (APath.oneG (.val 79 (.bin .neq) [.t 77, .t 78]) 76 false (by kernel_rfl) (by kernel_rfl) (st_bool (c := (r74.2 != r75.2)) (by kernel_rfl) hc81) (APath.chunk 4 (by kernel_rfl) (APath.oneG (.val 84 (.bin .neq) [.t 82, .t 83]) 81 false (by kernel_rfl) (by kernel_rfl) (st_bool (c := (r76.2 != r77.2)) (by kernel_rfl) hc83) (APath.chunk 4 (by kernel_rfl) (APath.oneG (.call (some 89) 17 [.t 87, .t 88]) 86 false (by kernel_rfl) (by kernel_rfl) (st_call (by kernel_rfl) (ref29_Same_ok N r76.1 r77.1 r84 hr84)) (APath.fin (by kernel_rfl)))))))))), (by show _ = _; kernel_rfl)⟩
                          · clear hj
                            rintro s hR
                            obtain rfl := hR
                            refine vc_ite (by kernel_rfl) h (fun hc86 h => ?_) (fun hc86 h => ?_)
                            · refine vc_seq ?_
                              refine vc_reg (S := ⟨[(6, bv false)], [], []⟩) (APath.fin (by kernel_rfl)) (by kernel_rfl) ?_
                              refine vc_ret ?_
                              obtain rfl := some_inj h
                              exact ret_of (by kernel_rfl)
                            · refine vc_skip ?_
                              refine vc_kp ?_
                              refine vc_reg (S := ⟨[(2, iv a2_), (7, .loc 7 0), (9, .loc 9 0), (26, .agg [s_e_api_Entry false r1.Oper.Entries, iv r1.Oper.Cycle, iv r1.Base, bv r1.Pending, s_e_api_Entry false r1.Admin.Entries, iv r1.Admin.Cycle, iv r1.When, s_e_api_Entry false r2.Oper.Entries, iv r2.Oper.Cycle, iv r2.Base, bv r2.Pending, s_e_api_Entry false r2.Admin.Entries, iv r2.Admin.Cycle, iv r2.When]), (27, iv 1), (43, .agg [iv a2_, iv (Int.tmod a2_ 2000), iv (w64 (r1.When + (Int.tmod a2_ 5)))]), (44, iv 3)], [(7, (c_api_Change r1)), (9, (c_api_Change r2))], []⟩) (APath.fin (by kernel_rfl)) (by kernel_rfl) ?_
                              refine unr_step ?_
                              refine vc_seq ?_
                              refine vc_reg (S := ⟨[(2, iv a2_), (7, .loc 7 0), (9, .loc 9 0), (26, .agg [s_e_api_Entry false r1.Oper.Entries, iv r1.Oper.Cycle, iv r1.Base, bv r1.Pending, s_e_api_Entry false r1.Admin.Entries, iv r1.Admin.Cycle, iv r1.When, s_e_api_Entry false r2.Oper.Entries, iv r2.Oper.Cycle, iv r2.Base, bv r2.Pending, s_e_api_Entry false r2.Admin.Entries, iv r2.Admin.Cycle, iv r2.When]), (27, iv 1), (43, .agg [iv a2_, iv (Int.tmod a2_ 2000), iv (w64 (r1.When + (Int.tmod a2_ 5)))]), (44, iv 3), (45, bv false)], [(7, (c_api_Change r1)), (9, (c_api_Change r2))], []⟩) (APath.fin (by kernel_rfl)) (by kernel_rfl) ?_
                              refine vc_seq ?_
                              refine vc_false (by kernel_rfl) ?_
                              refine vc_exit ?_
                              try show vc _ _ _ _ _
                              refine vc_kp ?_
                              refine vc_reg (S := ⟨[(2, iv a2_), (7, .loc 7 0), (26, .agg [s_e_api_Entry false r1.Oper.Entries, iv r1.Oper.Cycle, iv r1.Base, bv r1.Pending, s_e_api_Entry false r1.Admin.Entries, iv r1.Admin.Cycle, iv r1.When, s_e_api_Entry false r2.Oper.Entries, iv r2.Oper.Cycle, iv r2.Base, bv r2.Pending, s_e_api_Entry false r2.Admin.Entries, iv r2.Admin.Cycle, iv r2.When]), (27, iv 2)], [(7, (c_api_Change r1))], []⟩) (APath.fin (by kernel_rfl)) (by kernel_rfl) ?_
                              refine unr_step ?_
                              refine vc_seq ?_
                              refine vc_reg (S := ⟨[(2, iv a2_), (7, .loc 7 0), (26, .agg [s_e_api_Entry false r1.Oper.Entries, iv r1.Oper.Cycle, iv r1.Base, bv r1.Pending, s_e_api_Entry false r1.Admin.Entries, iv r1.Admin.Cycle, iv r1.When, s_e_api_Entry false r2.Oper.Entries, iv r2.Oper.Cycle, iv r2.Base, bv r2.Pending, s_e_api_Entry false r2.Admin.Entries, iv r2.Admin.Cycle, iv r2.When]), (27, iv 2), (28, bv false)], [(7, (c_api_Change r1))], []⟩) (APath.fin (by kernel_rfl)) (by kernel_rfl) ?_
                              refine vc_seq ?_
                              refine vc_false (by kernel_rfl) ?_
                              refine vc_exit ?_
                              try show vc _ _ _ _ _
                              refine vc_seq ?_
                              obtain ⟨r87, hr87, h⟩ := bind_some h
                              refine vc_reg (S := ⟨[(6, bv r87)], [], []⟩) (APath.one (.call (some 94) 18 []) (by kernel_rfl) (st_call (by kernel_rfl) (law29_works_ok N  r87 hr87)) (APath.fin (by kernel_rfl))) (by kernel_rfl) ?_
                              refine vc_ret ?_
                              obtain rfl := some_inj h
                              exact ret_of (by kernel_rfl)
end Go.Sh
