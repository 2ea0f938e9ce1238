/- The law's own function; written by sym.py. -/
import Derived.Test.YtcbolnjnhiaiiaaOk2
namespace Go.Sh
open Go Go.Eng Go.Proofs
set_option linter.unusedVariables false
set_option linter.unusedSimpArgs false
set_option maxRecDepth 100000
/- isochronlaw30.ServiceCycles -/
theorem law30_ServiceCycles_ok (N : Nat) (a0_ : ref30_Draft) (a1_ : Int) (a2_ : Int) (r : Bool) (h : law30_ServiceCycles N a0_ a1_ a2_ = some r) : PCall Try.prog 9 [.agg (c_ref30_Draft a0_), .p (.int .u8 a1_), .p (.int .u8 a2_)] (bv r) := by
  unfold law30_ServiceCycles at h
  have hH : HP ([] : List HO) [] := trivial
  refine pcall_of chk9 rfl rfl (vc_sound _ _ _ ?_) rfl
  refine vc_seq ?_
  refine vc_reg (S := ⟨[(1, .p (.int .u8 a1_)), (2, .p (.int .u8 a2_)), (3, .loc 3 0)], [(3, (c_ref30_Draft a0_))], []⟩) (APath.fin (by kernel_rfl)) (by kernel_rfl) ?_
  refine vc_seq ?_
  refine vc_seq ?_
  obtain ⟨r1, hr1, h⟩ := bind_some h
  refine vc_reg (S := ⟨[(1, .p (.int .u8 a1_)), (2, .p (.int .u8 a2_)), (3, .loc 3 0), (15, bv (!r1))], [(3, (c_ref30_Draft a0_))], []⟩) (APath.one (.call (some 14) 14 []) (by kernel_rfl) (st_call (by kernel_rfl) (law30_works_ok N  r1 hr1)) (APath.fin (by kernel_rfl))) (by kernel_rfl) ?_
  refine vc_ite (by kernel_rfl) h (fun hc2 h => ?_) (fun hc2 h => ?_)
  · refine vc_seq ?_
    refine vc_reg (S := ⟨[(6, bv false)], [], []⟩) (APath.fin (by kernel_rfl)) (by kernel_rfl) ?_
    refine vc_ret ?_
    obtain rfl := some_inj h
    exact ret_of (by kernel_rfl)
  · refine vc_skip ?_
    refine vc_kp ?_
    refine vc_seq ?_
    obtain ⟨r3, hr3, h⟩ := bind_some h
    refine vc_reg (S := ⟨[(1, .p (.int .u8 a1_)), (2, .p (.int .u8 a2_)), (7, .loc 7 0)], [(7, (c_api_Gates r3))], []⟩) (APath.chunk 1 (by kernel_rfl) (APath.one (.call (some 17) 10 [.t 16]) (by kernel_rfl) (st_call (by kernel_rfl) (ref30_Draft_Gates_ok N a0_ r3 hr3)) (APath.fin (by kernel_rfl)))) (by kernel_rfl) ?_
    refine vc_seq ?_
    refine vc_reg (S := ⟨[(7, .loc 7 0), (8, iv (w64 (1 + (w64 ((Int.tmod a1_ 5)))))), (9, iv (w64 (84 + (w64 (a2_)))))], [(7, (c_api_Gates r3))], []⟩) (APath.fin (by kernel_rfl)) (by kernel_rfl) ?_
    refine vc_seq ?_
    obtain ⟨r4, hr4, h⟩ := bind_some h
    refine vc_reg (S := ⟨[(7, .loc 7 0), (8, iv (w64 (1 + (w64 ((Int.tmod a1_ 5)))))), (9, iv (w64 (84 + (w64 (a2_))))), (10, iv r4.1), (11, iv r4.2)], [(7, (c_api_Gates r3))], []⟩) (APath.chunk 3 (by kernel_rfl) (APath.one (.call (some 29) 12 [.t 26, .t 27, .t 28]) (by kernel_rfl) (st_call (by kernel_rfl) (service_Yield_ok N r3 (w64 (1 + (w64 ((Int.tmod a1_ 5))))) (w64 (84 + (w64 (a2_)))) r4 hr4)) (APath.fin (by kernel_rfl)))) (by kernel_rfl) ?_
    refine vc_seq ?_
    obtain ⟨r5, hr5, h⟩ := bind_some h
    refine vc_reg (S := ⟨[(7, .loc 7 0), (8, iv (w64 (1 + (w64 ((Int.tmod a1_ 5)))))), (9, iv (w64 (84 + (w64 (a2_))))), (10, iv r4.1), (11, iv r4.2), (12, .loc 12 0), (13, iv r5.2)], [(7, (c_api_Gates r3)), (12, (c_api_Serve r5.1))], []⟩) (APath.chunk 3 (by kernel_rfl) (APath.one (.call (some 36) 17 [.t 33, .t 34, .t 35]) (by kernel_rfl) (st_call (by kernel_rfl) (service_Of_ok N r3 (w64 (1 + (w64 ((Int.tmod a1_ 5))))) (w64 (84 + (w64 (a2_)))) r5 hr5)) (APath.fin (by kernel_rfl)))) (by kernel_rfl) ?_
    refine vc_seq ?_
    refine vc_seq ?_
    obtain ⟨j9, hj, h⟩ := bind_some h
    refine vc_regXR (fun s => s = ⟨[(7, .loc 7 0), (8, iv (w64 (1 + (w64 ((Int.tmod a1_ 5)))))), (10, iv r4.1), (12, .loc 12 0), (13, iv r5.2), (47, bv j9)], [(7, (c_api_Gates r3)), (12, (c_api_Serve r5.1))], []⟩) ?_ ?_
    · clear h
      rcases ite_some hj with ⟨hc6, hj⟩ | ⟨hc7, hj⟩
      · obtain rfl := some_inj hj
        exact ⟨_, (APath.chunk 1 (by kernel_rfl) (APath.one (.val 40 (.bin .neq) [.t 39, .k (.p (.int .i64 0))]) (by kernel_rfl) (st_bool (c := (r4.2 != 0)) (by kernel_rfl) hc6) (APath.fin (by kernel_rfl)))), (by show _ = _; kernel_rfl)⟩
      · obtain ⟨r8, hr8, hj⟩ := bind_some hj
        obtain rfl := some_inj hj
        exact ⟨_, (APath.chunk 1 (by kernel_rfl) (APath.one (.val 40 (.bin .neq) [.t 39, .k (.p (.int .i64 0))]) (by kernel_rfl) (st_bool (c := (r4.2 != 0)) (by kernel_rfl) hc7) (APath.chunk 4 (by kernel_rfl) (APath.oneG (.call (some 45) 24 [.t 42, .t 43, .t 44]) 41 false (by kernel_rfl) (by kernel_rfl) (st_call (by kernel_rfl) (law30_yields_ok N r3 (w64 (1 + (w64 ((Int.tmod a1_ 5))))) (w64 (84 + (w64 (a2_)))) r8 hr8)) (APath.fin (by kernel_rfl)))))), (by show _ = _; kernel_rfl)⟩
    · clear hj
      rintro s hR
      obtain rfl := hR
      refine vc_ite (by kernel_rfl) h (fun hc10 h => ?_) (fun hc10 h => ?_)
      · refine vc_seq ?_
        refine vc_reg (S := ⟨[(6, bv false)], [], []⟩) (APath.fin (by kernel_rfl)) (by kernel_rfl) ?_
        refine vc_ret ?_
        obtain rfl := some_inj h
        exact ret_of (by kernel_rfl)
      · refine vc_skip ?_
        refine vc_kp ?_
        refine vc_seq ?_
        refine vc_seq ?_
        refine vc_reg (S := ⟨[(7, .loc 7 0), (8, iv (w64 (1 + (w64 ((Int.tmod a1_ 5)))))), (10, iv r4.1), (12, .loc 12 0), (13, iv r5.2), (49, bv (r5.2 == 4))], [(7, (c_api_Gates r3)), (12, (c_api_Serve r5.1))], []⟩) (APath.fin (by kernel_rfl)) (by kernel_rfl) ?_
        refine vc_ite (by kernel_rfl) h (fun hc11 h => ?_) (fun hc11 h => ?_)
        · refine vc_seq ?_
          refine vc_reg (S := ⟨[(6, bv (decide ((w64 (r4.1 * 1048576)) < (w64 (r3.Cycle * (w64 (1 + (w64 ((Int.tmod a1_ 5))))))))))], [], []⟩) (APath.fin (by kernel_rfl)) (by kernel_rfl) ?_
          refine vc_ret ?_
          obtain rfl := some_inj h
          exact ret_of (by kernel_rfl)
        · refine vc_skip ?_
          refine vc_kp ?_
          refine vc_seq ?_
          refine vc_regX ⟨[(6, bv ((r5.2 == 0) && ((decide ((w64 ((w64 (r5.1.Rate * r3.Cycle)) * (w64 (1 + (w64 ((Int.tmod a1_ 5))))))) ≤ (w64 (r4.1 * 1048576)))) && (decide ((w64 ((w64 ((w64 (r5.1.Rate + 1)) * r3.Cycle)) * (w64 (1 + (w64 ((Int.tmod a1_ 5))))))) > (w64 (r4.1 * 1048576)))))))], [], []⟩ ?_ ?_
          · rcases Bool.eq_false_or_eq_true (r5.2 == 0) with hc12 | hc15
            · rcases Bool.eq_false_or_eq_true (decide ((w64 ((w64 (r5.1.Rate * r3.Cycle)) * (w64 (1 + (w64 ((Int.tmod a1_ 5))))))) ≤ (w64 (r4.1 * 1048576)))) with hc13 | hc14
              · exact ⟨_, (APath.chunk 1 (by kernel_rfl) (APath.one (.val 58 (.bin .eql) [.t 57, .k (.p (.int .i64 0))]) (by kernel_rfl) (st_bool (c := (r5.2 == 0)) (by kernel_rfl) hc12) (APath.chunk 10 (by kernel_rfl) (APath.oneG (.val 69 (.bin .leq) [.t 66, .t 68]) 59 true (by kernel_rfl) (by kernel_rfl) (st_bool (c := (decide ((w64 ((w64 (r5.1.Rate * r3.Cycle)) * (w64 (1 + (w64 ((Int.tmod a1_ 5))))))) ≤ (w64 (r4.1 * 1048576))))) (by kernel_rfl) hc13) (APath.fin (by kernel_rfl)))))), by simp only [hc12, hc13]; kernel_rfl⟩
              · exact ⟨_, (APath.chunk 1 (by kernel_rfl) (APath.one (.val 58 (.bin .eql) [.t 57, .k (.p (.int .i64 0))]) (by kernel_rfl) (st_bool (c := (r5.2 == 0)) (by kernel_rfl) hc12) (APath.chunk 10 (by kernel_rfl) (APath.oneG (.val 69 (.bin .leq) [.t 66, .t 68]) 59 true (by kernel_rfl) (by kernel_rfl) (st_bool (c := (decide ((w64 ((w64 (r5.1.Rate * r3.Cycle)) * (w64 (1 + (w64 ((Int.tmod a1_ 5))))))) ≤ (w64 (r4.1 * 1048576))))) (by kernel_rfl) hc14) (APath.fin (by kernel_rfl)))))), by simp only [hc12, hc14]; kernel_rfl⟩
            · exact ⟨_, (APath.chunk 1 (by kernel_rfl) (APath.one (.val 58 (.bin .eql) [.t 57, .k (.p (.int .i64 0))]) (by kernel_rfl) (st_bool (c := (r5.2 == 0)) (by kernel_rfl) hc15) (APath.fin (by kernel_rfl)))), by simp only [hc15]; kernel_rfl⟩
          · refine vc_ret ?_
            obtain rfl := some_inj h
            exact ret_of (by kernel_rfl)
end Go.Sh
