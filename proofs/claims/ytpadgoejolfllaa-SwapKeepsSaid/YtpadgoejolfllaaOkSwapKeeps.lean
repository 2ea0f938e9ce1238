/- The law's own function; written by sym.py. -/
import Derived.Test.YtpadgoejolfllaaOk2
namespace Go.Sh
open Go Go.Eng Go.Proofs
set_option linter.unusedVariables false
set_option linter.unusedSimpArgs false
set_option maxRecDepth 100000
/- isochronlaw29.SwapKeeps -/
theorem law29_SwapKeeps_ok (N : Nat) (a0_ : ref29_Draft) (a1_ : ref27_Draft) (a2_ : Int) (a3_ : Int) (a4_ : Int) (r : Bool) (h : law29_SwapKeeps N a0_ a1_ a2_ a3_ a4_ = some r) : PCall Try.prog 6 [.agg (c_ref29_Draft a0_), .agg (c_ref27_Draft a1_), .p (.int .i16 a2_), .p (.int .i16 a3_), .p (.int .u16 a4_)] (bv r) := by
  unfold law29_SwapKeeps at h
  have hH : HP ([] : List HO) [] := trivial
  refine pcall_of chk6 rfl rfl (vc_sound _ _ _ ?_) rfl
  refine vc_seq ?_
  refine vc_reg (S := ⟨[(2, .p (.int .i16 a2_)), (3, .p (.int .i16 a3_)), (4, .p (.int .u16 a4_)), (5, .loc 5 0), (6, .loc 6 0)], [(5, (c_ref29_Draft a0_)), (6, (c_ref27_Draft a1_))], []⟩) (APath.fin (by kernel_rfl)) (by kernel_rfl) ?_
  refine vc_seq ?_
  refine vc_seq ?_
  obtain ⟨r1, hr1, h⟩ := bind_some h
  refine vc_reg (S := ⟨[(2, .p (.int .i16 a2_)), (3, .p (.int .i16 a3_)), (4, .p (.int .u16 a4_)), (5, .loc 5 0), (6, .loc 6 0), (24, bv (!r1))], [(5, (c_ref29_Draft a0_)), (6, (c_ref27_Draft a1_))], []⟩) (APath.one (.call (some 23) 18 []) (by kernel_rfl) (st_call (by kernel_rfl) (law29_works_ok N  r1 hr1)) (APath.fin (by kernel_rfl))) (by kernel_rfl) ?_
  refine vc_ite (by kernel_rfl) h (fun hc2 h => ?_) (fun hc2 h => ?_)
  · refine vc_seq ?_
    refine vc_reg (S := ⟨[(10, bv false)], [], []⟩) (APath.fin (by kernel_rfl)) (by kernel_rfl) ?_
    refine vc_ret ?_
    obtain rfl := some_inj h
    exact ret_of (by kernel_rfl)
  · refine vc_skip ?_
    refine vc_kp ?_
    refine vc_seq ?_
    obtain ⟨r3, hr3, h⟩ := bind_some h
    obtain ⟨r4, hr4, h⟩ := bind_some h
    refine vc_regD (S := ⟨[(2, .p (.int .i16 a2_)), (3, .p (.int .i16 a3_)), (4, .p (.int .u16 a4_)), (11, .loc 11 0), (12, .loc 12 0)], [(11, (c_api_Change r3)), (12, (c_api_Gates r4))], []⟩) (by kernel_rfl) (APath.chunk 1 (by kernel_rfl) (APath.one (.callP 26 9 [.t 25]) (by kernel_rfl) (st_callP (by kernel_rfl) (ref29_Draft_Change_ok N a0_ r3 hr3)) (APath.chunk 1 (by kernel_rfl) (APath.one (.callP 28 21 [.t 27]) (by kernel_rfl) (st_callP (by kernel_rfl) (ref27_Draft_Gates_ok N a1_ r4 hr4)) (APath.fin (by kernel_rfl)))))) (by kernel_rfl) ?_
    refine vc_seq ?_
    obtain ⟨r5, hr5, h⟩ := bind_some h
    refine vc_reg (S := ⟨[(2, .p (.int .i16 a2_)), (3, .p (.int .i16 a3_)), (4, .p (.int .u16 a4_)), (11, .loc 11 0), (12, .loc 12 0), (13, .loc 13 0), (14, iv r5.2)], [(11, (c_api_Change r3)), (12, (c_api_Gates r4)), (13, (c_api_Change r5.1))], []⟩) (APath.chunk 3 (by kernel_rfl) (APath.one (.call (some 33) 19 [.t 30, .t 32]) (by kernel_rfl) (st_call (by kernel_rfl) (swap_Advance_ok N r3 (w64 (a2_)) r5 hr5)) (APath.fin (by kernel_rfl)))) (by kernel_rfl) ?_
    refine vc_seq ?_
    obtain ⟨r6, hr6, h⟩ := bind_some h
    refine vc_reg (S := ⟨[(2, .p (.int .i16 a2_)), (3, .p (.int .i16 a3_)), (4, .p (.int .u16 a4_)), (11, .loc 11 0), (12, .loc 12 0), (13, .loc 13 0), (14, iv r5.2), (15, .loc 15 0), (16, iv r6.2)], [(11, (c_api_Change r3)), (12, (c_api_Gates r4)), (13, (c_api_Change r5.1)), (15, (c_api_Change r6.1))], []⟩) (APath.chunk 6 (by kernel_rfl) (APath.one (.call (some 43) 22 [.t 37, .t 39, .t 40, .t 42]) (by kernel_rfl) (st_call (by kernel_rfl) (swap_Set_ok N r3 (w64 (a2_)) r4 (w64 (a3_)) r6 hr6)) (APath.fin (by kernel_rfl)))) (by kernel_rfl) ?_
    refine vc_seq ?_
    refine vc_seq ?_
    obtain ⟨j17, hj, h⟩ := bind_some h
    refine vc_regXR (fun s => s = ⟨[(2, .p (.int .i16 a2_)), (3, .p (.int .i16 a3_)), (4, .p (.int .u16 a4_)), (11, .loc 11 0), (12, .loc 12 0), (13, .loc 13 0), (15, .loc 15 0), (66, bv j17)], [(11, (c_api_Change r3)), (12, (c_api_Gates r4)), (13, (c_api_Change r5.1)), (15, (c_api_Change r6.1))], []⟩) ?_ ?_
    · clear h
      rcases ite_some hj with ⟨hc7, hj⟩ | ⟨hc8, hj⟩
      · obtain rfl := some_inj hj
        exact ⟨_, (APath.chunk 1 (by kernel_rfl) (APath.one (.val 47 (.bin .neq) [.t 46, .k (.p (.int .i64 0))]) (by kernel_rfl) (st_bool (c := (r5.2 != 0)) (by kernel_rfl) hc7) (APath.fin (by kernel_rfl)))), (by show _ = _; kernel_rfl)⟩
      · rcases ite_some hj with ⟨hc9, hj⟩ | ⟨hc10, hj⟩
        · obtain rfl := some_inj hj
          exact ⟨_, (APath.chunk 1 (by kernel_rfl) (APath.one (.val 47 (.bin .neq) [.t 46, .k (.p (.int .i64 0))]) (by kernel_rfl) (st_bool (c := (r5.2 != 0)) (by kernel_rfl) hc8) (APath.chunk 2 (by kernel_rfl) (APath.oneG (.val 50 (.bin .neq) [.t 49, .k (.p (.int .i64 0))]) 48 false (by kernel_rfl) (by kernel_rfl) (st_bool (c := (r6.2 != 0)) (by kernel_rfl) hc9) (APath.fin (by kernel_rfl)))))), (by show _ = _; kernel_rfl)⟩
        · obtain ⟨r11, hr11, hj⟩ := bind_some hj
          rcases ite_some hj with ⟨hc12, hj⟩ | ⟨hc13, hj⟩
          · obtain rfl := some_inj hj
            exact ⟨_, (APath.chunk 1 (by kernel_rfl) (APath.one (.val 47 (.bin .neq) [.t 46, .k (.p (.int .i64 0))]) (by kernel_rfl) (st_bool (c := (r5.2 != 0)) (by kernel_rfl) hc8) (APath.chunk 2 (by kernel_rfl) (APath.oneG (.val 50 (.bin .neq) [.t 49, .k (.p (.int .i64 0))]) 48 false (by kernel_rfl) (by kernel_rfl) (st_bool (c := (r6.2 != 0)) (by kernel_rfl) hc10) (APath.chunk 3 (by kernel_rfl) (APath.oneG (.call (some 54) 11 [.t 53]) 52 false (by kernel_rfl) (by kernel_rfl) (st_call (by kernel_rfl) (swap_Check_ok N r5.1 r11 hr11)) (APath.oneG (.val 55 (.bin .neq) [.t 54, .k (.p (.int .i64 0))]) 52 false (by kernel_rfl) (by kernel_rfl) (st_bool (c := (r11 != 0)) (by kernel_rfl) hc12) (APath.fin (by kernel_rfl))))))))), (by show _ = _; kernel_rfl)⟩
          · obtain ⟨r14, hr14, hj⟩ := bind_some hj
            rcases ite_some hj with ⟨hc15, hj⟩ | ⟨hc16, hj⟩
            · obtain rfl := some_inj hj
              exact ⟨_, (APath.chunk 1 (by kernel_rfl) (APath.one (.val 47 (.bin .neq) [.t 46, .k (.p (.int .i64 0))]) (by kernel_rfl) (st_bool (c := (r5.2 != 0)) (by kernel_rfl) hc8) (APath.chunk 2 (by kernel_rfl) (APath.oneG (.val 50 (.bin .neq) [.t 49, .k (.p (.int .i64 0))]) 48 false (by kernel_rfl) (by kernel_rfl) (st_bool (c := (r6.2 != 0)) (by kernel_rfl) hc10) (APath.chunk 3 (by kernel_rfl) (APath.oneG (.call (some 54) 11 [.t 53]) 52 false (by kernel_rfl) (by kernel_rfl) (st_call (by kernel_rfl) (swap_Check_ok N r5.1 r11 hr11)) (APath.oneG (.val 55 (.bin .neq) [.t 54, .k (.p (.int .i64 0))]) 52 false (by kernel_rfl) (by kernel_rfl) (st_bool (c := (r11 != 0)) (by kernel_rfl) hc13) (APath.chunk 3 (by kernel_rfl) (APath.oneG (.call (some 59) 11 [.t 58]) 57 false (by kernel_rfl) (by kernel_rfl) (st_call (by kernel_rfl) (swap_Check_ok N r6.1 r14 hr14)) (APath.oneG (.val 60 (.bin .neq) [.t 59, .k (.p (.int .i64 0))]) 57 false (by kernel_rfl) (by kernel_rfl) (st_bool (c := (r14 != 0)) (by kernel_rfl) hc15) (APath.fin (by kernel_rfl)))))))))))), (by show _ = _; kernel_rfl)⟩
            · obtain rfl := some_inj hj
              exact ⟨_, (APath.chunk 1 (by kernel_rfl) (APath.one (.val 47 (.bin .neq) [.t 46, .k (.p (.int .i64 0))]) (by kernel_rfl) (st_bool (c := (r5.2 != 0)) (by kernel_rfl) hc8) (APath.chunk 2 (by kernel_rfl) (APath.oneG (.val 50 (.bin .neq) [.t 49, .k (.p (.int .i64 0))]) 48 false (by kernel_rfl) (by kernel_rfl) (st_bool (c := (r6.2 != 0)) (by kernel_rfl) hc10) (APath.chunk 3 (by kernel_rfl) (APath.oneG (.call (some 54) 11 [.t 53]) 52 false (by kernel_rfl) (by kernel_rfl) (st_call (by kernel_rfl) (swap_Check_ok N r5.1 r11 hr11)) (APath.oneG (.val 55 (.bin .neq) [.t 54, .k (.p (.int .i64 0))]) 52 false (by kernel_rfl) (by kernel_rfl) (st_bool (c := (r11 != 0)) (by kernel_rfl) hc13) (APath.chunk 3 (by kernel_rfl) (APath.oneG (.call (some 59) 11 [.t 58]) 57 false (by kernel_rfl) (by kernel_rfl) (st_call (by kernel_rfl) (swap_Check_ok N r6.1 r14 hr14)) (APath.oneG (.val 60 (.bin .neq) [.t 59, .k (.p (.int .i64 0))]) 57 false (by kernel_rfl) (by kernel_rfl) (st_bool (c := (r14 != 0)) (by kernel_rfl) hc16) (APath.fin (by kernel_rfl)))))))))))), (by show _ = _; kernel_rfl)⟩
    · clear hj
      rintro s hR
      obtain rfl := hR
      refine vc_ite (by kernel_rfl) h (fun hc18 h => ?_) (fun hc18 h => ?_)
      · refine vc_seq ?_
        refine vc_reg (S := ⟨[(10, bv false)], [], []⟩) (APath.fin (by kernel_rfl)) (by kernel_rfl) ?_
        refine vc_ret ?_
        obtain rfl := some_inj h
        exact ret_of (by kernel_rfl)
      · refine vc_skip ?_
        refine vc_kp ?_
        refine vc_seq ?_
        refine vc_reg (S := ⟨[(2, .p (.int .i16 a2_)), (4, .p (.int .u16 a4_)), (11, .loc 11 0), (12, .loc 12 0), (13, .loc 13 0), (15, .loc 15 0), (17, iv (if (w64 (a3_)) > (w64 (a2_)) then (w64 (a3_)) else (w64 (a2_))))], [(11, (c_api_Change r3)), (12, (c_api_Gates r4)), (13, (c_api_Change r5.1)), (15, (c_api_Change r6.1))], []⟩) (APath.fin (by kernel_rfl)) (by kernel_rfl) ?_
        refine vc_seq ?_
        refine vc_reg (S := ⟨[(4, .p (.int .u16 a4_)), (11, .loc 11 0), (12, .loc 12 0), (13, .loc 13 0), (15, .loc 15 0), (17, iv (if (w64 (a3_)) > (w64 (a2_)) then (w64 (a3_)) else (w64 (a2_)))), (18, iv (w64 ((w64 (a2_)) + (w64 (a4_)))))], [(11, (c_api_Change r3)), (12, (c_api_Gates r4)), (13, (c_api_Change r5.1)), (15, (c_api_Change r6.1))], []⟩) (APath.fin (by kernel_rfl)) (by kernel_rfl) ?_
        refine vc_seq ?_
        obtain ⟨j24, hj, h⟩ := bind_some h
        refine vc_regDXR (fun s => s = ⟨[(4, .p (.int .u16 a4_)), (12, .loc 12 0), (13, .loc 13 0), (15, .loc 15 0), (17, iv (if (w64 (a3_)) > (w64 (a2_)) then (w64 (a3_)) else (w64 (a2_)))), (18, iv (w64 ((w64 (a2_)) + (w64 (a4_))))), (19, bv j24)], [(12, (c_api_Gates r4)), (13, (c_api_Change r5.1)), (15, (c_api_Change r6.1))], []⟩) (by kernel_rfl) ?_ ?_
        · clear h
          obtain ⟨r19, hr19, hj⟩ := bind_some hj
          obtain ⟨r20, hr20, hj⟩ := bind_some hj
          rcases ite_some hj with ⟨hc21, hj⟩ | ⟨hc23, hj⟩
          · obtain ⟨r22, hr22, hj⟩ := bind_some hj
            obtain rfl := some_inj hj
            exact ⟨_, (APath.chunk 2 (by kernel_rfl) (APath.one (.callP 79 26 [.t 77, .t 78]) (by kernel_rfl) (st_callP (by kernel_rfl) (law29_mask_ok N r5.1 (w64 ((w64 (a2_)) + (w64 (a4_)))) r19 hr19)) (APath.chunk 2 (by kernel_rfl) (APath.one (.callP 82 26 [.t 80, .t 81]) (by kernel_rfl) (st_callP (by kernel_rfl) (law29_mask_ok N r3 (w64 ((w64 (a2_)) + (w64 (a4_)))) r20 hr20)) (APath.one (.val 83 (.bin .eql) [.t 79, .t 82]) (by kernel_rfl) (st_bool (c := (r19 == r20)) (by kernel_rfl) hc21) (APath.chunk 3 (by kernel_rfl) (APath.oneG (.callP 87 26 [.t 85, .t 86]) 84 true (by kernel_rfl) (by kernel_rfl) (st_callP (by kernel_rfl) (law29_mask_ok N r3 (w64 ((w64 (a2_)) + (w64 (a4_)))) r22 hr22)) (APath.fin (by kernel_rfl))))))))), (by show _ = _; kernel_rfl)⟩
          · obtain rfl := some_inj hj
            exact ⟨_, (APath.chunk 2 (by kernel_rfl) (APath.one (.callP 79 26 [.t 77, .t 78]) (by kernel_rfl) (st_callP (by kernel_rfl) (law29_mask_ok N r5.1 (w64 ((w64 (a2_)) + (w64 (a4_)))) r19 hr19)) (APath.chunk 2 (by kernel_rfl) (APath.one (.callP 82 26 [.t 80, .t 81]) (by kernel_rfl) (st_callP (by kernel_rfl) (law29_mask_ok N r3 (w64 ((w64 (a2_)) + (w64 (a4_)))) r20 hr20)) (APath.one (.val 83 (.bin .eql) [.t 79, .t 82]) (by kernel_rfl) (st_bool (c := (r19 == r20)) (by kernel_rfl) hc23) (APath.fin (by kernel_rfl))))))), (by show _ = _; kernel_rfl)⟩
        · clear hj
          rintro s hR
          obtain rfl := hR
          obtain ⟨j525, hj525, h⟩ := bind_some h
          refine vc_joinK [4, 12, 13, 15, 17, 19] (fun s => s = ⟨[(4, .p (.int .u16 a4_)), (12, .loc 12 0), (13, .loc 13 0), (15, .loc 15 0), (17, iv (if (w64 (a3_)) > (w64 (a2_)) then (w64 (a3_)) else (w64 (a2_)))), (19, bv j525)], [(12, (c_api_Gates r4)), (13, (c_api_Change r5.1)), (15, (c_api_Change r6.1))], []⟩) ?_ ?_
          · clear h
            have h := hj525
            refine vc_seq ?_
            refine vc_reg (S := ⟨[(4, .p (.int .u16 a4_)), (12, .loc 12 0), (13, .loc 13 0), (15, .loc 15 0), (17, iv (if (w64 (a3_)) > (w64 (a2_)) then (w64 (a3_)) else (w64 (a2_)))), (18, iv (w64 ((w64 (a2_)) + (w64 (a4_))))), (19, bv j24), (93, bv (decide ((w64 ((w64 (a2_)) + (w64 (a4_)))) < r6.1.When)))], [(12, (c_api_Gates r4)), (13, (c_api_Change r5.1)), (15, (c_api_Change r6.1))], []⟩) (APath.fin (by kernel_rfl)) (by kernel_rfl) ?_
            refine vc_ite (by kernel_rfl) h (fun hc526 h => ?_) (fun hc526 h => ?_)
            · refine vc_seq ?_
              refine vc_reg (S := ⟨[(4, .p (.int .u16 a4_)), (12, .loc 12 0), (13, .loc 13 0), (15, .loc 15 0), (17, iv (if (w64 (a3_)) > (w64 (a2_)) then (w64 (a3_)) else (w64 (a2_)))), (18, iv (w64 ((w64 (a2_)) + (w64 (a4_))))), (19, bv j24), (20, .loc 20 0)], [(12, (c_api_Gates r4)), (13, (c_api_Change r5.1)), (15, (c_api_Change r6.1)), (20, (c_api_Change r5.1))], []⟩) (APath.fin (by kernel_rfl)) (by kernel_rfl) ?_
              refine vc_seq ?_
              refine vc_reg (S := ⟨[(4, .p (.int .u16 a4_)), (12, .loc 12 0), (13, .loc 13 0), (15, .loc 15 0), (17, iv (if (w64 (a3_)) > (w64 (a2_)) then (w64 (a3_)) else (w64 (a2_)))), (18, iv (w64 ((w64 (a2_)) + (w64 (a4_))))), (19, bv j24), (20, .loc 20 0)], [(12, (c_api_Gates r4)), (13, (c_api_Change r5.1)), (15, (c_api_Change r6.1)), (20, [s_e_api_Entry false r5.1.Oper.Entries, iv r5.1.Oper.Cycle, iv r5.1.Base, bv false, s_e_api_Entry true [], iv 0, iv 0])], []⟩) (APath.fin (by kernel_rfl)) (by kernel_rfl) ?_
              obtain ⟨j533, hj, h⟩ := bind_some h
              refine vc_regDXR (fun s => s = ⟨[(4, .p (.int .u16 a4_)), (12, .loc 12 0), (13, .loc 13 0), (15, .loc 15 0), (17, iv (if (w64 (a3_)) > (w64 (a2_)) then (w64 (a3_)) else (w64 (a2_)))), (19, bv j533)], [(12, (c_api_Gates r4)), (13, (c_api_Change r5.1)), (15, (c_api_Change r6.1))], []⟩) (by kernel_rfl) ?_ ?_
              · clear h
                rcases ite_some hj with ⟨hc527, hj⟩ | ⟨hc532, hj⟩
                · obtain ⟨r528, hr528, hj⟩ := bind_some hj
                  obtain ⟨r529, hr529, hj⟩ := bind_some hj
                  rcases ite_some hj with ⟨hc530, hj⟩ | ⟨hc531, hj⟩
                  · obtain rfl := some_inj hj
                    exact ⟨_, (APath.one (.val 99 .mov [.t 19]) (by kernel_rfl) (st_bool (c := j24) (by kernel_rfl) hc527) (APath.chunk 3 (by kernel_rfl) (APath.oneG (.callP 103 26 [.t 101, .t 102]) 100 true (by kernel_rfl) (by kernel_rfl) (st_callP (by kernel_rfl) (law29_mask_ok N r6.1 (w64 ((w64 (a2_)) + (w64 (a4_)))) r528 hr528)) (APath.chunk 2 (by kernel_rfl) (APath.oneG (.callP 106 26 [.t 104, .t 105]) 100 true (by kernel_rfl) (by kernel_rfl) (st_callP (by kernel_rfl) (law29_mask_ok N (api_Change.mk r5.1.Oper r5.1.Base false (api_Gates.mk ([]) 0) 0) (w64 ((w64 (a2_)) + (w64 (a4_)))) r529 hr529)) (APath.chunk 2 (by kernel_rfl) (APath.one (.val 19 .mov [.t 108]) (by kernel_rfl) (st_bool (c := (r528 == r529)) (by kernel_rfl) hc530) APath.done))))))), (by show _ = _; kernel_rfl)⟩
                  · obtain rfl := some_inj hj
                    exact ⟨_, (APath.one (.val 99 .mov [.t 19]) (by kernel_rfl) (st_bool (c := j24) (by kernel_rfl) hc527) (APath.chunk 3 (by kernel_rfl) (APath.oneG (.callP 103 26 [.t 101, .t 102]) 100 true (by kernel_rfl) (by kernel_rfl) (st_callP (by kernel_rfl) (law29_mask_ok N r6.1 (w64 ((w64 (a2_)) + (w64 (a4_)))) r528 hr528)) (APath.chunk 2 (by kernel_rfl) (APath.oneG (.callP 106 26 [.t 104, .t 105]) 100 true (by kernel_rfl) (by kernel_rfl) (st_callP (by kernel_rfl) (law29_mask_ok N (api_Change.mk r5.1.Oper r5.1.Base false (api_Gates.mk ([]) 0) 0) (w64 ((w64 (a2_)) + (w64 (a4_)))) r529 hr529)) (APath.chunk 2 (by kernel_rfl) (APath.one (.val 19 .mov [.t 108]) (by kernel_rfl) (st_bool (c := (r528 == r529)) (by kernel_rfl) hc531) APath.done))))))), (by show _ = _; kernel_rfl)⟩
                · obtain rfl := some_inj hj
                  exact ⟨_, (APath.one (.val 99 .mov [.t 19]) (by kernel_rfl) (st_bool (c := j24) (by kernel_rfl) hc532) (APath.fin (by kernel_rfl))), (by show _ = _; kernel_rfl)⟩
              · clear hj
                rintro s hR
                obtain rfl := hR
                obtain rfl := some_inj h
                exact ⟨rfl, (by show _ = _; kernel_rfl)⟩
            · refine vc_skip ?_
              obtain rfl := some_inj h
              exact ⟨rfl, (by show _ = _; kernel_rfl)⟩
          · clear hj525
            rintro s hR
            obtain rfl := hR
            refine vc_seq ?_
            obtain ⟨m534, hm534, h⟩ := bind_some h
            refine vc_reg (S := ⟨[(12, .loc 12 0), (13, .loc 13 0), (15, .loc 15 0), (17, iv (if (w64 (a3_)) > (w64 (a2_)) then (w64 (a3_)) else (w64 (a2_)))), (19, bv j525), (21, iv m534)], [(12, (c_api_Gates r4)), (13, (c_api_Change r5.1)), (15, (c_api_Change r6.1))], []⟩) (APath.chunk 5 (by kernel_rfl) (APath.one (.val 114 (.bin .rem) [.t 110, .t 113]) (by kernel_rfl) (st_val (ys := [iv (w64 (a4_)), iv (w64 (2 * r4.Cycle))]) (by kernel_rfl) (vexec_rem hm534)) (APath.fin (by kernel_rfl)))) (by kernel_rfl) ?_
            refine vc_seq ?_
            refine vc_reg (S := ⟨[(13, .loc 13 0), (15, .loc 15 0), (17, iv (if (w64 (a3_)) > (w64 (a2_)) then (w64 (a3_)) else (w64 (a2_)))), (19, bv j525), (21, iv m534), (22, .loc 22 0)], [(13, (c_api_Change r5.1)), (15, (c_api_Change r6.1)), (22, [s_e_api_Entry false r4.Entries, iv r4.Cycle, iv 0, bv false, s_e_api_Entry true [], iv 0, iv 0])], []⟩) (APath.fin (by kernel_rfl)) (by kernel_rfl) ?_
            refine vc_seq ?_
            obtain ⟨j546, hj, h⟩ := bind_some h
            refine vc_regDXR (fun s => s = ⟨[(10, bv j546)], [], []⟩) (by kernel_rfl) ?_ ?_
            · clear h
              rcases ite_some hj with ⟨hc535, hj⟩ | ⟨hc545, hj⟩
              · rcases ite_some hj with ⟨hc536, hj⟩ | ⟨hc544, hj⟩
                · rcases ite_some hj with ⟨hc537, hj⟩ | ⟨hc543, hj⟩
                  · obtain ⟨m538, hm538, hj⟩ := bind_some hj
                    rcases ite_some hj with ⟨hc539, hj⟩ | ⟨hc542, hj⟩
                    · obtain ⟨r540, hr540, hj⟩ := bind_some hj
                      obtain ⟨r541, hr541, hj⟩ := bind_some hj
                      obtain rfl := some_inj hj
                      exact ⟨_, (APath.one (.val 117 .mov [.t 19]) (by kernel_rfl) (st_bool (c := j525) (by kernel_rfl) hc535) (APath.chunk 4 (by kernel_rfl) (APath.oneG (.val 122 (.bin .geq) [.t 120, .t 121]) 118 true (by kernel_rfl) (by kernel_rfl) (st_bool (c := (decide (r6.1.When ≥ (if (w64 (a3_)) > (w64 (a2_)) then (w64 (a3_)) else (w64 (a2_)))))) (by kernel_rfl) hc536) (APath.chunk 9 (by kernel_rfl) (APath.oneG (.val 132 (.bin .lss) [.t 130, .t 131]) 124 true (by kernel_rfl) (by kernel_rfl) (st_bool (c := (decide ((w64 (r6.1.When - r5.1.Oper.Cycle)) < (if (w64 (a3_)) > (w64 (a2_)) then (w64 (a3_)) else (w64 (a2_)))))) (by kernel_rfl) hc537) (APath.chunk 10 (by kernel_rfl) (APath.oneG (.val 143 (.bin .rem) [.t 139, .t 142]) 134 true (by kernel_rfl) (by kernel_rfl) (st_val (ys := [iv (w64 (r6.1.When - r5.1.Base)), iv r5.1.Oper.Cycle]) (by kernel_rfl) (vexec_rem hm538)) (APath.oneG (.val 144 (.bin .eql) [.t 143, .k (.p (.int .i64 0))]) 134 true (by kernel_rfl) (by kernel_rfl) (st_bool (c := (m538 == 0)) (by kernel_rfl) hc539) (APath.chunk 7 (by kernel_rfl) (APath.oneG (.callP 152 26 [.t 147, .t 151]) 146 true (by kernel_rfl) (by kernel_rfl) (st_callP (by kernel_rfl) (law29_mask_ok N r6.1 (w64 (r6.1.When + m534)) r540 hr540)) (APath.chunk 2 (by kernel_rfl) (APath.oneG (.callP 155 26 [.t 153, .t 154]) 146 true (by kernel_rfl) (by kernel_rfl) (st_callP (by kernel_rfl) (law29_mask_ok N (api_Change.mk r4 0 false (api_Gates.mk ([]) 0) 0) m534 r541 hr541)) (APath.fin (by kernel_rfl)))))))))))))), (by show _ = _; kernel_rfl)⟩
                    · obtain rfl := some_inj hj
                      exact ⟨_, (APath.one (.val 117 .mov [.t 19]) (by kernel_rfl) (st_bool (c := j525) (by kernel_rfl) hc535) (APath.chunk 4 (by kernel_rfl) (APath.oneG (.val 122 (.bin .geq) [.t 120, .t 121]) 118 true (by kernel_rfl) (by kernel_rfl) (st_bool (c := (decide (r6.1.When ≥ (if (w64 (a3_)) > (w64 (a2_)) then (w64 (a3_)) else (w64 (a2_)))))) (by kernel_rfl) hc536) (APath.chunk 9 (by kernel_rfl) (APath.oneG (.val 132 (.bin .lss) [.t 130, .t 131]) 124 true (by kernel_rfl) (by kernel_rfl) (st_bool (c := (decide ((w64 (r6.1.When - r5.1.Oper.Cycle)) < (if (w64 (a3_)) > (w64 (a2_)) then (w64 (a3_)) else (w64 (a2_)))))) (by kernel_rfl) hc537) (APath.chunk 10 (by kernel_rfl) (APath.oneG (.val 143 (.bin .rem) [.t 139, .t 142]) 134 true (by kernel_rfl) (by kernel_rfl) (st_val (ys := [iv (w64 (r6.1.When - r5.1.Base)), iv r5.1.Oper.Cycle]) (by kernel_rfl) (vexec_rem hm538)) (APath.oneG (.val 144 (.bin .eql) [.t 143, .k (.p (.int .i64 0))]) 134 true (by kernel_rfl) (by kernel_rfl) (st_bool (c := (m538 == 0)) (by kernel_rfl) hc542) (APath.fin (by kernel_rfl)))))))))), (by show _ = _; kernel_rfl)⟩
                  · obtain rfl := some_inj hj
                    exact ⟨_, (APath.one (.val 117 .mov [.t 19]) (by kernel_rfl) (st_bool (c := j525) (by kernel_rfl) hc535) (APath.chunk 4 (by kernel_rfl) (APath.oneG (.val 122 (.bin .geq) [.t 120, .t 121]) 118 true (by kernel_rfl) (by kernel_rfl) (st_bool (c := (decide (r6.1.When ≥ (if (w64 (a3_)) > (w64 (a2_)) then (w64 (a3_)) else (w64 (a2_)))))) (by kernel_rfl) hc536) (APath.chunk 9 (by kernel_rfl) (APath.oneG (.val 132 (.bin .lss) [.t 130, .t 131]) 124 true (by kernel_rfl) (by kernel_rfl) (st_bool (c := (decide ((w64 (r6.1.When - r5.1.Oper.Cycle)) < (if (w64 (a3_)) > (w64 (a2_)) then (w64 (a3_)) else (w64 (a2_)))))) (by kernel_rfl) hc543) (APath.fin (by kernel_rfl))))))), (by show _ = _; kernel_rfl)⟩
                · obtain rfl := some_inj hj
                  exact ⟨_, (APath.one (.val 117 .mov [.t 19]) (by kernel_rfl) (st_bool (c := j525) (by kernel_rfl) hc535) (APath.chunk 4 (by kernel_rfl) (APath.oneG (.val 122 (.bin .geq) [.t 120, .t 121]) 118 true (by kernel_rfl) (by kernel_rfl) (st_bool (c := (decide (r6.1.When ≥ (if (w64 (a3_)) > (w64 (a2_)) then (w64 (a3_)) else (w64 (a2_)))))) (by kernel_rfl) hc544) (APath.fin (by kernel_rfl))))), (by show _ = _; kernel_rfl)⟩
              · obtain rfl := some_inj hj
                exact ⟨_, (APath.one (.val 117 .mov [.t 19]) (by kernel_rfl) (st_bool (c := j525) (by kernel_rfl) hc545) (APath.fin (by kernel_rfl))), (by show _ = _; kernel_rfl)⟩
            · clear hj
              rintro s hR
              obtain rfl := hR
              refine vc_ret ?_
              obtain rfl := some_inj h
              exact ret_of (by kernel_rfl)
end Go.Sh
