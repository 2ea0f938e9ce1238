/- The law's own function; written by sym.py. -/
import Derived.Test.YtcbolnjnhiaiiaaOk2
namespace Go.Sh
open Go Go.Eng Go.Proofs
set_option linter.unusedVariables false
set_option linter.unusedSimpArgs false
set_option maxRecDepth 100000
/- isochronlaw30.ServiceHolds -/
theorem law30_ServiceHolds_ok (N : Nat) (a0_ : ref30_Draft) (a1_ : Int) (a2_ : Int) (a3_ : Int) (a4_ : Int) (r : Bool) (h : law30_ServiceHolds N a0_ a1_ a2_ a3_ a4_ = some r) : PCall Try.prog 7 [.agg (c_ref30_Draft a0_), .p (.int .u8 a1_), .p (.int .u8 a2_), .p (.int .i16 a3_), .p (.int .u16 a4_)] (bv r) := by
  unfold law30_ServiceHolds at h
  have hH : HP ([] : List HO) [] := trivial
  refine pcall_of chk7 rfl rfl (vc_sound _ _ _ ?_) rfl
  refine vc_seq ?_
  refine vc_reg (S := ⟨[(1, .p (.int .u8 a1_)), (2, .p (.int .u8 a2_)), (3, .p (.int .i16 a3_)), (4, .p (.int .u16 a4_)), (5, .loc 5 0)], [(5, (c_ref30_Draft a0_))], []⟩) (APath.fin (by kernel_rfl)) (by kernel_rfl) ?_
  refine vc_seq ?_
  refine vc_seq ?_
  obtain ⟨r1, hr1, h⟩ := bind_some h
  refine vc_reg (S := ⟨[(1, .p (.int .u8 a1_)), (2, .p (.int .u8 a2_)), (3, .p (.int .i16 a3_)), (4, .p (.int .u16 a4_)), (5, .loc 5 0), (20, bv (!r1))], [(5, (c_ref30_Draft a0_))], []⟩) (APath.one (.call (some 19) 14 []) (by kernel_rfl) (st_call (by kernel_rfl) (law30_works_ok N  r1 hr1)) (APath.fin (by kernel_rfl))) (by kernel_rfl) ?_
  refine vc_ite (by kernel_rfl) h (fun hc2 h => ?_) (fun hc2 h => ?_)
  · refine vc_seq ?_
    refine vc_reg (S := ⟨[(10, bv false)], [], []⟩) (APath.fin (by kernel_rfl)) (by kernel_rfl) ?_
    refine vc_ret ?_
    obtain rfl := some_inj h
    exact ret_of (by kernel_rfl)
  · refine vc_skip ?_
    refine vc_kp ?_
    refine vc_seq ?_
    obtain ⟨r3, hr3, h⟩ := bind_some h
    refine vc_reg (S := ⟨[(1, .p (.int .u8 a1_)), (2, .p (.int .u8 a2_)), (3, .p (.int .i16 a3_)), (4, .p (.int .u16 a4_)), (11, .loc 11 0)], [(11, (c_api_Gates r3))], []⟩) (APath.chunk 1 (by kernel_rfl) (APath.one (.call (some 22) 10 [.t 21]) (by kernel_rfl) (st_call (by kernel_rfl) (ref30_Draft_Gates_ok N a0_ r3 hr3)) (APath.fin (by kernel_rfl)))) (by kernel_rfl) ?_
    refine vc_seq ?_
    refine vc_reg (S := ⟨[(3, .p (.int .i16 a3_)), (4, .p (.int .u16 a4_)), (11, .loc 11 0), (12, iv (w64 (1 + (w64 ((Int.tmod a1_ 5)))))), (13, iv (w64 (84 + (w64 (a2_)))))], [(11, (c_api_Gates r3))], []⟩) (APath.fin (by kernel_rfl)) (by kernel_rfl) ?_
    refine vc_seq ?_
    obtain ⟨r4, hr4, h⟩ := bind_some h
    refine vc_reg (S := ⟨[(3, .p (.int .i16 a3_)), (4, .p (.int .u16 a4_)), (11, .loc 11 0), (12, iv (w64 (1 + (w64 ((Int.tmod a1_ 5)))))), (13, iv (w64 (84 + (w64 (a2_))))), (14, .loc 14 0), (15, iv r4.2)], [(11, (c_api_Gates r3)), (14, (c_api_Serve r4.1))], []⟩) (APath.chunk 3 (by kernel_rfl) (APath.one (.call (some 34) 17 [.t 31, .t 32, .t 33]) (by kernel_rfl) (st_call (by kernel_rfl) (service_Of_ok N r3 (w64 (1 + (w64 ((Int.tmod a1_ 5))))) (w64 (84 + (w64 (a2_)))) r4 hr4)) (APath.fin (by kernel_rfl)))) (by kernel_rfl) ?_
    refine vc_seq ?_
    refine vc_seq ?_
    refine vc_reg (S := ⟨[(3, .p (.int .i16 a3_)), (4, .p (.int .u16 a4_)), (11, .loc 11 0), (12, iv (w64 (1 + (w64 ((Int.tmod a1_ 5)))))), (13, iv (w64 (84 + (w64 (a2_))))), (14, .loc 14 0), (15, iv r4.2), (38, bv (r4.2 != 0))], [(11, (c_api_Gates r3)), (14, (c_api_Serve r4.1))], []⟩) (APath.fin (by kernel_rfl)) (by kernel_rfl) ?_
    refine vc_ite (by kernel_rfl) h (fun hc5 h => ?_) (fun hc5 h => ?_)
    · refine vc_seq ?_
      refine vc_reg (S := ⟨[(10, bv (r4.2 == 4))], [], []⟩) (APath.fin (by kernel_rfl)) (by kernel_rfl) ?_
      refine vc_ret ?_
      obtain rfl := some_inj h
      exact ret_of (by kernel_rfl)
    · refine vc_skip ?_
      refine vc_kp ?_
      refine vc_seq ?_
      refine vc_seq ?_
      obtain ⟨m6, hm6, h⟩ := bind_some h
      obtain ⟨m7, hm7, h⟩ := bind_some h
      obtain ⟨m8, hm8, h⟩ := bind_some h
      refine vc_regD (S := ⟨[(3, .p (.int .i16 a3_)), (11, .loc 11 0), (12, iv (w64 (1 + (w64 ((Int.tmod a1_ 5)))))), (13, iv (w64 (84 + (w64 (a2_))))), (14, .loc 14 0), (61, .agg [iv m6, iv m7, iv m8]), (62, iv 0)], [(11, (c_api_Gates r3)), (14, (c_api_Serve r4.1))], []⟩) (by kernel_rfl) (APath.chunk 6 (by kernel_rfl) (APath.one (.val 47 (.bin .rem) [.t 42, .t 46]) (by kernel_rfl) (st_val (ys := [iv (w64 (a4_)), iv (w64 ((w64 (4 * r3.Cycle)) + 1))]) (by kernel_rfl) (vexec_rem hm6)) (APath.chunk 5 (by kernel_rfl) (APath.one (.val 53 (.bin .rem) [.t 49, .t 52]) (by kernel_rfl) (st_val (ys := [iv (w64 (a4_)), iv (w64 (r3.Cycle + 1))]) (by kernel_rfl) (vexec_rem hm7)) (APath.chunk 6 (by kernel_rfl) (APath.one (.val 60 (.bin .rem) [.t 56, .t 59]) (by kernel_rfl) (st_val (ys := [iv (Int.tmod (w64 (a4_)) 600), iv (w64 (r3.Cycle + 1))]) (by kernel_rfl) (vexec_rem hm8)) (APath.fin (by kernel_rfl)))))))) (by kernel_rfl) ?_
      refine vc_block ?_
      refine vc_unroll 14 ?_
      refine unr_step ?_
      refine vc_seq ?_
      refine vc_reg (S := ⟨[(3, .p (.int .i16 a3_)), (11, .loc 11 0), (12, iv (w64 (1 + (w64 ((Int.tmod a1_ 5)))))), (13, iv (w64 (84 + (w64 (a2_))))), (14, .loc 14 0), (61, .agg [iv m6, iv m7, iv m8]), (62, iv 0), (63, bv true)], [(11, (c_api_Gates r3)), (14, (c_api_Serve r4.1))], []⟩) (APath.fin (by kernel_rfl)) (by kernel_rfl) ?_
      refine vc_seq ?_
      refine vc_true (by kernel_rfl) ?_
      refine vc_skip ?_
      refine vc_kp ?_
      refine vc_seq ?_
      refine vc_block ?_
      refine vc_seq ?_
      refine vc_reg (S := ⟨[(3, .p (.int .i16 a3_)), (11, .loc 11 0), (12, iv (w64 (1 + (w64 ((Int.tmod a1_ 5)))))), (13, iv (w64 (84 + (w64 (a2_))))), (14, .loc 14 0), (17, iv m6), (61, .agg [iv m6, iv m7, iv m8]), (62, iv 0)], [(11, (c_api_Gates r3)), (14, (c_api_Serve r4.1))], []⟩) (APath.fin (by kernel_rfl)) (by kernel_rfl) ?_
      refine vc_seq ?_
      obtain ⟨r9, hr9, h⟩ := bind_some h
      refine vc_reg (S := ⟨[(3, .p (.int .i16 a3_)), (11, .loc 11 0), (12, iv (w64 (1 + (w64 ((Int.tmod a1_ 5)))))), (13, iv (w64 (84 + (w64 (a2_))))), (14, .loc 14 0), (17, iv m6), (18, iv r9), (61, .agg [iv m6, iv m7, iv m8]), (62, iv 0)], [(11, (c_api_Gates r3)), (14, (c_api_Serve r4.1))], []⟩) (APath.chunk 6 (by kernel_rfl) (APath.one (.call (some 71) 20 [.t 65, .t 66, .t 67, .t 69, .t 70]) (by kernel_rfl) (st_call (by kernel_rfl) (law30_sends_ok N r3 (w64 (1 + (w64 ((Int.tmod a1_ 5))))) (w64 (84 + (w64 (a2_)))) (w64 (a3_)) m6 r9 hr9)) (APath.fin (by kernel_rfl)))) (by kernel_rfl) ?_
      refine vc_seq ?_
      refine vc_regX ⟨[(3, .p (.int .i16 a3_)), (11, .loc 11 0), (12, iv (w64 (1 + (w64 ((Int.tmod a1_ 5)))))), (13, iv (w64 (84 + (w64 (a2_))))), (14, .loc 14 0), (61, .agg [iv m6, iv m7, iv m8]), (62, iv 0), (87, bv ((decide (r9 < 0)) || (decide ((w64 (r9 * 1048576)) < (w64 ((w64 (r4.1.Rate * (w64 (1 + (w64 ((Int.tmod a1_ 5))))))) * (w64 (m6 - r4.1.Latency))))))))], [(11, (c_api_Gates r3)), (14, (c_api_Serve r4.1))], []⟩ ?_ ?_
      · rcases Bool.eq_false_or_eq_true (decide (r9 < 0)) with hc10 | hc11
        · exact ⟨_, (APath.chunk 1 (by kernel_rfl) (APath.one (.val 73 (.bin .lss) [.t 72, .k (.p (.int .i64 0))]) (by kernel_rfl) (st_bool (c := (decide (r9 < 0))) (by kernel_rfl) hc10) (APath.fin (by kernel_rfl)))), by simp only [hc10]; kernel_rfl⟩
        · exact ⟨_, (APath.chunk 1 (by kernel_rfl) (APath.one (.val 73 (.bin .lss) [.t 72, .k (.p (.int .i64 0))]) (by kernel_rfl) (st_bool (c := (decide (r9 < 0))) (by kernel_rfl) hc11) (APath.fin (by kernel_rfl)))), by simp only [hc11]; kernel_rfl⟩
      · refine vc_ite (by kernel_rfl) h (fun hc12 h => ?_) (fun hc12 h => ?_)
        · refine vc_seq ?_
          refine vc_reg (S := ⟨[(10, bv false)], [], []⟩) (APath.fin (by kernel_rfl)) (by kernel_rfl) ?_
          refine vc_ret ?_
          obtain rfl := some_inj h
          exact ret_of (by kernel_rfl)
        · refine vc_skip ?_
          refine vc_kp ?_
          refine vc_reg (S := ⟨[(3, .p (.int .i16 a3_)), (11, .loc 11 0), (12, iv (w64 (1 + (w64 ((Int.tmod a1_ 5)))))), (13, iv (w64 (84 + (w64 (a2_))))), (14, .loc 14 0), (61, .agg [iv m6, iv m7, iv m8]), (62, iv 1)], [(11, (c_api_Gates r3)), (14, (c_api_Serve r4.1))], []⟩) (APath.fin (by kernel_rfl)) (by kernel_rfl) ?_
          refine unr_step ?_
          refine vc_seq ?_
          refine vc_reg (S := ⟨[(3, .p (.int .i16 a3_)), (11, .loc 11 0), (12, iv (w64 (1 + (w64 ((Int.tmod a1_ 5)))))), (13, iv (w64 (84 + (w64 (a2_))))), (14, .loc 14 0), (61, .agg [iv m6, iv m7, iv m8]), (62, iv 1), (63, bv true)], [(11, (c_api_Gates r3)), (14, (c_api_Serve r4.1))], []⟩) (APath.fin (by kernel_rfl)) (by kernel_rfl) ?_
          refine vc_seq ?_
          refine vc_true (by kernel_rfl) ?_
          refine vc_skip ?_
          refine vc_kp ?_
          refine vc_seq ?_
          refine vc_block ?_
          refine vc_seq ?_
          refine vc_reg (S := ⟨[(3, .p (.int .i16 a3_)), (11, .loc 11 0), (12, iv (w64 (1 + (w64 ((Int.tmod a1_ 5)))))), (13, iv (w64 (84 + (w64 (a2_))))), (14, .loc 14 0), (17, iv m7), (61, .agg [iv m6, iv m7, iv m8]), (62, iv 1)], [(11, (c_api_Gates r3)), (14, (c_api_Serve r4.1))], []⟩) (APath.fin (by kernel_rfl)) (by kernel_rfl) ?_
          refine vc_seq ?_
          obtain ⟨r13, hr13, h⟩ := bind_some h
          refine vc_reg (S := ⟨[(3, .p (.int .i16 a3_)), (11, .loc 11 0), (12, iv (w64 (1 + (w64 ((Int.tmod a1_ 5)))))), (13, iv (w64 (84 + (w64 (a2_))))), (14, .loc 14 0), (17, iv m7), (18, iv r13), (61, .agg [iv m6, iv m7, iv m8]), (62, iv 1)], [(11, (c_api_Gates r3)), (14, (c_api_Serve r4.1))], []⟩) (APath.chunk 6 (by kernel_rfl) (APath.one (.call (some 71) 20 [.t 65, .t 66, .t 67, .t 69, .t 70]) (by kernel_rfl) (st_call (by kernel_rfl) (law30_sends_ok N r3 (w64 (1 + (w64 ((Int.tmod a1_ 5))))) (w64 (84 + (w64 (a2_)))) (w64 (a3_)) m7 r13 hr13)) (APath.fin (by kernel_rfl)))) (by kernel_rfl) ?_
          refine vc_seq ?_
          refine vc_regX ⟨[(3, .p (.int .i16 a3_)), (11, .loc 11 0), (12, iv (w64 (1 + (w64 ((Int.tmod a1_ 5)))))), (13, iv (w64 (84 + (w64 (a2_))))), (14, .loc 14 0), (61, .agg [iv m6, iv m7, iv m8]), (62, iv 1), (87, bv ((decide (r13 < 0)) || (decide ((w64 (r13 * 1048576)) < (w64 ((w64 (r4.1.Rate * (w64 (1 + (w64 ((Int.tmod a1_ 5))))))) * (w64 (m7 - r4.1.Latency))))))))], [(11, (c_api_Gates r3)), (14, (c_api_Serve r4.1))], []⟩ ?_ ?_
          · rcases Bool.eq_false_or_eq_true (decide (r13 < 0)) with hc14 | hc15
            · exact ⟨_, (APath.chunk 1 (by kernel_rfl) (APath.one (.val 73 (.bin .lss) [.t 72, .k (.p (.int .i64 0))]) (by kernel_rfl) (st_bool (c := (decide (r13 < 0))) (by kernel_rfl) hc14) (APath.fin (by kernel_rfl)))), by simp only [hc14]; kernel_rfl⟩
            · exact ⟨_, (APath.chunk 1 (by kernel_rfl) (APath.one (.val 73 (.bin .lss) [.t 72, .k (.p (.int .i64 0))]) (by kernel_rfl) (st_bool (c := (decide (r13 < 0))) (by kernel_rfl) hc15) (APath.fin (by kernel_rfl)))), by simp only [hc15]; kernel_rfl⟩
          · refine vc_ite (by kernel_rfl) h (fun hc16 h => ?_) (fun hc16 h => ?_)
            · refine vc_seq ?_
              refine vc_reg (S := ⟨[(10, bv false)], [], []⟩) (APath.fin (by kernel_rfl)) (by kernel_rfl) ?_
              refine vc_ret ?_
              obtain rfl := some_inj h
              exact ret_of (by kernel_rfl)
            · refine vc_skip ?_
              refine vc_kp ?_
              refine vc_reg (S := ⟨[(3, .p (.int .i16 a3_)), (11, .loc 11 0), (12, iv (w64 (1 + (w64 ((Int.tmod a1_ 5)))))), (13, iv (w64 (84 + (w64 (a2_))))), (14, .loc 14 0), (61, .agg [iv m6, iv m7, iv m8]), (62, iv 2)], [(11, (c_api_Gates r3)), (14, (c_api_Serve r4.1))], []⟩) (APath.fin (by kernel_rfl)) (by kernel_rfl) ?_
              refine unr_step ?_
              refine vc_seq ?_
              refine vc_reg (S := ⟨[(3, .p (.int .i16 a3_)), (11, .loc 11 0), (12, iv (w64 (1 + (w64 ((Int.tmod a1_ 5)))))), (13, iv (w64 (84 + (w64 (a2_))))), (14, .loc 14 0), (61, .agg [iv m6, iv m7, iv m8]), (62, iv 2), (63, bv true)], [(11, (c_api_Gates r3)), (14, (c_api_Serve r4.1))], []⟩) (APath.fin (by kernel_rfl)) (by kernel_rfl) ?_
              refine vc_seq ?_
              refine vc_true (by kernel_rfl) ?_
              refine vc_skip ?_
              refine vc_kp ?_
              refine vc_seq ?_
              refine vc_block ?_
              refine vc_seq ?_
              refine vc_reg (S := ⟨[(3, .p (.int .i16 a3_)), (11, .loc 11 0), (12, iv (w64 (1 + (w64 ((Int.tmod a1_ 5)))))), (13, iv (w64 (84 + (w64 (a2_))))), (14, .loc 14 0), (17, iv m8), (61, .agg [iv m6, iv m7, iv m8]), (62, iv 2)], [(11, (c_api_Gates r3)), (14, (c_api_Serve r4.1))], []⟩) (APath.fin (by kernel_rfl)) (by kernel_rfl) ?_
              refine vc_seq ?_
              obtain ⟨r17, hr17, h⟩ := bind_some h
              refine vc_reg (S := ⟨[(3, .p (.int .i16 a3_)), (11, .loc 11 0), (12, iv (w64 (1 + (w64 ((Int.tmod a1_ 5)))))), (13, iv (w64 (84 + (w64 (a2_))))), (14, .loc 14 0), (17, iv m8), (18, iv r17), (61, .agg [iv m6, iv m7, iv m8]), (62, iv 2)], [(11, (c_api_Gates r3)), (14, (c_api_Serve r4.1))], []⟩) (APath.chunk 6 (by kernel_rfl) (APath.one (.call (some 71) 20 [.t 65, .t 66, .t 67, .t 69, .t 70]) (by kernel_rfl) (st_call (by kernel_rfl) (law30_sends_ok N r3 (w64 (1 + (w64 ((Int.tmod a1_ 5))))) (w64 (84 + (w64 (a2_)))) (w64 (a3_)) m8 r17 hr17)) (APath.fin (by kernel_rfl)))) (by kernel_rfl) ?_
              refine vc_seq ?_
              refine vc_regX ⟨[(3, .p (.int .i16 a3_)), (11, .loc 11 0), (12, iv (w64 (1 + (w64 ((Int.tmod a1_ 5)))))), (13, iv (w64 (84 + (w64 (a2_))))), (14, .loc 14 0), (61, .agg [iv m6, iv m7, iv m8]), (62, iv 2), (87, bv ((decide (r17 < 0)) || (decide ((w64 (r17 * 1048576)) < (w64 ((w64 (r4.1.Rate * (w64 (1 + (w64 ((Int.tmod a1_ 5))))))) * (w64 (m8 - r4.1.Latency))))))))], [(11, (c_api_Gates r3)), (14, (c_api_Serve r4.1))], []⟩ ?_ ?_
              · rcases Bool.eq_false_or_eq_true (decide (r17 < 0)) with hc18 | hc19
                · exact ⟨_, (APath.chunk 1 (by kernel_rfl) (APath.one (.val 73 (.bin .lss) [.t 72, .k (.p (.int .i64 0))]) (by kernel_rfl) (st_bool (c := (decide (r17 < 0))) (by kernel_rfl) hc18) (APath.fin (by kernel_rfl)))), by simp only [hc18]; kernel_rfl⟩
                · exact ⟨_, (APath.chunk 1 (by kernel_rfl) (APath.one (.val 73 (.bin .lss) [.t 72, .k (.p (.int .i64 0))]) (by kernel_rfl) (st_bool (c := (decide (r17 < 0))) (by kernel_rfl) hc19) (APath.fin (by kernel_rfl)))), by simp only [hc19]; kernel_rfl⟩
              · refine vc_ite (by kernel_rfl) h (fun hc20 h => ?_) (fun hc20 h => ?_)
                · refine vc_seq ?_
                  refine vc_reg (S := ⟨[(10, bv false)], [], []⟩) (APath.fin (by kernel_rfl)) (by kernel_rfl) ?_
                  refine vc_ret ?_
                  obtain rfl := some_inj h
                  exact ret_of (by kernel_rfl)
                · refine vc_skip ?_
                  refine vc_kp ?_
                  refine vc_reg (S := ⟨[(3, .p (.int .i16 a3_)), (11, .loc 11 0), (12, iv (w64 (1 + (w64 ((Int.tmod a1_ 5)))))), (13, iv (w64 (84 + (w64 (a2_))))), (14, .loc 14 0), (61, .agg [iv m6, iv m7, iv m8]), (62, iv 3)], [(11, (c_api_Gates r3)), (14, (c_api_Serve r4.1))], []⟩) (APath.fin (by kernel_rfl)) (by kernel_rfl) ?_
                  refine unr_step ?_
                  refine vc_seq ?_
                  refine vc_reg (S := ⟨[(3, .p (.int .i16 a3_)), (11, .loc 11 0), (12, iv (w64 (1 + (w64 ((Int.tmod a1_ 5)))))), (13, iv (w64 (84 + (w64 (a2_))))), (14, .loc 14 0), (61, .agg [iv m6, iv m7, iv m8]), (62, iv 3), (63, bv false)], [(11, (c_api_Gates r3)), (14, (c_api_Serve r4.1))], []⟩) (APath.fin (by kernel_rfl)) (by kernel_rfl) ?_
                  refine vc_seq ?_
                  refine vc_false (by kernel_rfl) ?_
                  refine vc_exit ?_
                  try show vc _ _ _ _ _
                  refine vc_seq ?_
                  obtain ⟨j24, hj, h⟩ := bind_some h
                  refine vc_regXR (fun s => s = ⟨[(10, bv j24)], [], []⟩) ?_ ?_
                  · clear h
                    obtain ⟨r21, hr21, hj⟩ := bind_some hj
                    rcases ite_some hj with ⟨hc22, hj⟩ | ⟨hc23, hj⟩
                    · obtain rfl := some_inj hj
                      exact ⟨_, (APath.chunk 1 (by kernel_rfl) (APath.one (.call (some 90) 21 [.t 89]) (by kernel_rfl) (st_call (by kernel_rfl) (curve_Check_ok N r4.1 r21 hr21)) (APath.one (.val 91 (.bin .eql) [.t 90, .k (.p (.int .i64 0))]) (by kernel_rfl) (st_bool (c := (r21 == 0)) (by kernel_rfl) hc22) (APath.fin (by kernel_rfl))))), (by show _ = _; kernel_rfl)⟩
                    · obtain rfl := some_inj hj
                      exact ⟨_, (APath.chunk 1 (by kernel_rfl) (APath.one (.call (some 90) 21 [.t 89]) (by kernel_rfl) (st_call (by kernel_rfl) (curve_Check_ok N r4.1 r21 hr21)) (APath.one (.val 91 (.bin .eql) [.t 90, .k (.p (.int .i64 0))]) (by kernel_rfl) (st_bool (c := (r21 == 0)) (by kernel_rfl) hc23) (APath.fin (by kernel_rfl))))), (by show _ = _; kernel_rfl)⟩
                  · clear hj
                    rintro s hR
                    obtain rfl := hR
                    refine vc_ret ?_
                    obtain rfl := some_inj h
                    exact ret_of (by kernel_rfl)
end Go.Sh
