/- Part of the proof; written by a program out of the texts in wip/. -/
import Derived.Test.YtoboapnbbcedbaaRouteEitherOk3
namespace Go.Sh
open Go Go.Eng Go.Proofs
set_option linter.unusedVariables false
set_option linter.unusedSimpArgs false
set_option maxRecDepth 100000
theorem law21_RouteEither_ok (N : Nat) (a0_ : ref16_Draft) (a1_ : Int) (a2_ : Int) (a3_ : Int) (a4_ : Int) (r : Bool) (h : law21_RouteEither N a0_ a1_ a2_ a3_ a4_ = some r) : PCall Try.prog 7 [.agg (c_ref16_Draft a0_), .p (.int .u8 a1_), .p (.int .u8 a2_), .p (.int .u8 a3_), .p (.int .u8 a4_)] (bv r) := by
  unfold law21_RouteEither at h
  have hH : HP ([] : List HO) [] := trivial
  refine pcall_of chk7 rfl rfl (vc_sound _ _ _ ?_) rfl
  refine vc_seq ?_
  refine vc_reg (S := ⟨[(1, .p (.int .u8 a1_)), (2, .p (.int .u8 a2_)), (3, .p (.int .u8 a3_)), (4, .p (.int .u8 a4_)), (5, .loc 5 0)], [(5, (c_ref16_Draft a0_))], []⟩) (APath.fin (by kernel_rfl)) (by kernel_rfl) ?_
  refine vc_seq ?_
  refine vc_seq ?_
  obtain ⟨r1, hr1, h⟩ := bind_some h
  refine vc_reg (S := ⟨[(1, .p (.int .u8 a1_)), (2, .p (.int .u8 a2_)), (3, .p (.int .u8 a3_)), (4, .p (.int .u8 a4_)), (5, .loc 5 0), (25, bv (!r1))], [(5, (c_ref16_Draft a0_))], []⟩) (APath.one (.call (some 24) 10 []) (by kernel_rfl) (st_call (by kernel_rfl) (law21_wakes_ok N  r1 hr1)) (APath.fin (by kernel_rfl))) (by kernel_rfl) ?_
  refine vc_ite (by kernel_rfl) h (fun hc2 h => ?_) (fun hc2 h => ?_)
  · refine vc_seq ?_
    refine vc_reg (S := ⟨[(10, bv false)], [], []⟩) (APath.fin (by kernel_rfl)) (by kernel_rfl) ?_
    refine vc_ret ?_
    obtain rfl := some_inj h
    exact ret_of (by kernel_rfl)
  · refine vc_skip ?_
    refine vc_kp ?_
    refine vc_seq ?_
    obtain ⟨r3, hr3, h⟩ := bind_some h
    refine vc_reg (S := ⟨[(1, .p (.int .u8 a1_)), (2, .p (.int .u8 a2_)), (3, .p (.int .u8 a3_)), (4, .p (.int .u8 a4_)), (11, .loc 11 0)], [(11, (c_api_Topo r3))], []⟩) (APath.chunk 1 (by kernel_rfl) (APath.one (.call (some 27) 31 [.t 26]) (by kernel_rfl) (st_call (by kernel_rfl) (ref16_Draft_Topo_ok N a0_ r3 hr3)) (APath.fin (by kernel_rfl)))) (by kernel_rfl) ?_
    refine vc_seq ?_
    obtain ⟨r4, hr4, h⟩ := bind_some h
    obtain ⟨r5, hr5, h⟩ := bind_some h
    refine vc_regD (S := ⟨[(11, .loc 11 0), (12, s_eI64 false r4), (13, s_eI64 false r5)], [(11, (c_api_Topo r3))], []⟩) (by kernel_rfl) (APath.chunk 3 (by kernel_rfl) (APath.one (.callP 31 32 [.t 28, .t 29, .t 30]) (by kernel_rfl) (st_callP (by kernel_rfl) (ref21_Some_ok N r3 a1_ a2_ r4 hr4)) (APath.chunk 3 (by kernel_rfl) (APath.one (.call (some 35) 32 [.t 32, .t 33, .t 34]) (by kernel_rfl) (st_call (by kernel_rfl) (ref21_Some_ok N r3 a3_ a4_ r5 hr5)) (APath.fin (by kernel_rfl)))))) (by kernel_rfl) ?_
    refine vc_seq ?_
    obtain ⟨r6, hr6, h⟩ := bind_some h
    refine vc_reg (S := ⟨[(11, .loc 11 0), (12, s_eI64 false r4), (13, s_eI64 false r5), (14, bv r6.1), (15, iv r6.2)], [(11, (c_api_Topo r3))], []⟩) (APath.chunk 3 (by kernel_rfl) (APath.one (.call (some 40) 26 [.t 37, .t 38, .t 39]) (by kernel_rfl) (st_call (by kernel_rfl) (route_Apart_ok N r3 r4 r5 r6 hr6)) (APath.fin (by kernel_rfl)))) (by kernel_rfl) ?_
    refine vc_seq ?_
    obtain ⟨r7, hr7, h⟩ := bind_some h
    refine vc_reg (S := ⟨[(11, .loc 11 0), (12, s_eI64 false r4), (13, s_eI64 false r5), (14, bv r6.1), (15, iv r6.2), (16, bv r7.1), (17, iv r7.2)], [(11, (c_api_Topo r3))], []⟩) (APath.chunk 3 (by kernel_rfl) (APath.one (.call (some 47) 26 [.t 44, .t 45, .t 46]) (by kernel_rfl) (st_call (by kernel_rfl) (route_Apart_ok N r3 r5 r4 r7 hr7)) (APath.fin (by kernel_rfl)))) (by kernel_rfl) ?_
    refine vc_seq ?_
    obtain ⟨r8, hr8, h⟩ := bind_some h
    refine vc_reg (S := ⟨[(11, .loc 11 0), (12, s_eI64 false r4), (13, s_eI64 false r5), (14, bv r6.1), (15, iv r6.2), (16, bv r7.1), (17, iv r7.2), (18, bv r8.1), (19, iv r8.2)], [(11, (c_api_Topo r3))], []⟩) (APath.chunk 3 (by kernel_rfl) (APath.one (.call (some 54) 26 [.t 51, .t 52, .t 53]) (by kernel_rfl) (st_call (by kernel_rfl) (route_Apart_ok N r3 r4 r4 r8 hr8)) (APath.fin (by kernel_rfl)))) (by kernel_rfl) ?_
    refine vc_seq ?_
    obtain ⟨r9, hr9, h⟩ := bind_some h
    refine vc_reg (S := ⟨[(11, .loc 11 0), (12, s_eI64 false r4), (14, bv r6.1), (15, iv r6.2), (16, bv r7.1), (17, iv r7.2), (18, bv r8.1), (19, iv r8.2), (20, s_eI64 false r9.1), (21, iv r9.2)], [(11, (c_api_Topo r3))], []⟩) (APath.chunk 2 (by kernel_rfl) (APath.one (.call (some 60) 17 [.t 58, .t 59]) (by kernel_rfl) (st_call (by kernel_rfl) (route_Back_ok N r3 r5 r9 hr9)) (APath.fin (by kernel_rfl)))) (by kernel_rfl) ?_
    refine vc_seq ?_
    obtain ⟨r10, hr10, h⟩ := bind_some h
    refine vc_reg (S := ⟨[(14, bv r6.1), (15, iv r6.2), (16, bv r7.1), (17, iv r7.2), (18, bv r8.1), (19, iv r8.2), (21, iv r9.2), (22, bv r10.1), (23, iv r10.2)], [], []⟩) (APath.chunk 3 (by kernel_rfl) (APath.one (.call (some 67) 26 [.t 64, .t 65, .t 66]) (by kernel_rfl) (st_call (by kernel_rfl) (route_Apart_ok N r3 r4 r9.1 r10 hr10)) (APath.fin (by kernel_rfl)))) (by kernel_rfl) ?_
    refine vc_seq ?_
    refine vc_regX ⟨[(10, bv ((r6.2 == 0) && ((r7.2 == 0) && ((r8.2 == 0) && ((r9.2 == 0) && ((r10.2 == 0) && ((r6.1 == r7.1) && ((r6.1 == r10.1) && (!r8.1)))))))))], [], []⟩ ?_ ?_
    · rcases Bool.eq_false_or_eq_true (r6.2 == 0) with hc11 | hc24
      · rcases Bool.eq_false_or_eq_true (r7.2 == 0) with hc12 | hc23
        · rcases Bool.eq_false_or_eq_true (r8.2 == 0) with hc13 | hc22
          · rcases Bool.eq_false_or_eq_true (r9.2 == 0) with hc14 | hc21
            · rcases Bool.eq_false_or_eq_true (r10.2 == 0) with hc15 | hc20
              · rcases Bool.eq_false_or_eq_true (r6.1 == r7.1) with hc16 | hc19
                · rcases Bool.eq_false_or_eq_true (r6.1 == r10.1) with hc17 | hc18
                  · exact ⟨_, (APath.chunk 1 (by kernel_rfl) (APath.one (.val 71 (.bin .eql) [.t 70, .k (.p (.int .i64 0))]) (by kernel_rfl) (st_bool (c := (r6.2 == 0)) (by kernel_rfl) hc11) (APath.chunk 2 (by kernel_rfl) (APath.oneG (.val 74 (.bin .eql) [.t 73, .k (.p (.int .i64 0))]) 72 true (by kernel_rfl) (by kernel_rfl) (st_bool (c := (r7.2 == 0)) (by kernel_rfl) hc12) (APath.chunk 3 (by kernel_rfl) (APath.oneG (.val 78 (.bin .eql) [.t 77, .k (.p (.int .i64 0))]) 76 true (by kernel_rfl) (by kernel_rfl) (st_bool (c := (r8.2 == 0)) (by kernel_rfl) hc13) (APath.chunk 3 (by kernel_rfl) (APath.oneG (.val 82 (.bin .eql) [.t 81, .k (.p (.int .i64 0))]) 80 true (by kernel_rfl) (by kernel_rfl) (st_bool (c := (r9.2 == 0)) (by kernel_rfl) hc14) (APath.chunk 3 (by kernel_rfl) (APath.oneG (.val 86 (.bin .eql) [.t 85, .k (.p (.int .i64 0))]) 84 true (by kernel_rfl) (by kernel_rfl) (st_bool (c := (r10.2 == 0)) (by kernel_rfl) hc15) (APath.chunk 4 (by kernel_rfl) (APath.oneG (.val 91 (.eqB false) [.t 89, .t 90]) 88 true (by kernel_rfl) (by kernel_rfl) (st_bool (c := (r6.1 == r7.1)) (by kernel_rfl) hc16) (APath.chunk 4 (by kernel_rfl) (APath.oneG (.val 96 (.eqB false) [.t 94, .t 95]) 93 true (by kernel_rfl) (by kernel_rfl) (st_bool (c := (r6.1 == r10.1)) (by kernel_rfl) hc17) (APath.fin (by kernel_rfl)))))))))))))))), by simp only [hc11, hc12, hc13, hc14, hc15, hc16, hc17]; kernel_rfl⟩
                  · exact ⟨_, (APath.chunk 1 (by kernel_rfl) (APath.one (.val 71 (.bin .eql) [.t 70, .k (.p (.int .i64 0))]) (by kernel_rfl) (st_bool (c := (r6.2 == 0)) (by kernel_rfl) hc11) (APath.chunk 2 (by kernel_rfl) (APath.oneG (.val 74 (.bin .eql) [.t 73, .k (.p (.int .i64 0))]) 72 true (by kernel_rfl) (by kernel_rfl) (st_bool (c := (r7.2 == 0)) (by kernel_rfl) hc12) (APath.chunk 3 (by kernel_rfl) (APath.oneG (.val 78 (.bin .eql) [.t 77, .k (.p (.int .i64 0))]) 76 true (by kernel_rfl) (by kernel_rfl) (st_bool (c := (r8.2 == 0)) (by kernel_rfl) hc13) (APath.chunk 3 (by kernel_rfl) (APath.oneG (.val 82 (.bin .eql) [.t 81, .k (.p (.int .i64 0))]) 80 true (by kernel_rfl) (by kernel_rfl) (st_bool (c := (r9.2 == 0)) (by kernel_rfl) hc14) (APath.chunk 3 (by kernel_rfl) (APath.oneG (.val 86 (.bin .eql) [.t 85, .k (.p (.int .i64 0))]) 84 true (by kernel_rfl) (by kernel_rfl) (st_bool (c := (r10.2 == 0)) (by kernel_rfl) hc15) (APath.chunk 4 (by kernel_rfl) (APath.oneG (.val 91 (.eqB false) [.t 89, .t 90]) 88 true (by kernel_rfl) (by kernel_rfl) (st_bool (c := (r6.1 == r7.1)) (by kernel_rfl) hc16) (APath.chunk 4 (by kernel_rfl) (APath.oneG (.val 96 (.eqB false) [.t 94, .t 95]) 93 true (by kernel_rfl) (by kernel_rfl) (st_bool (c := (r6.1 == r10.1)) (by kernel_rfl) hc18) (APath.fin (by kernel_rfl)))))))))))))))), by simp only [hc11, hc12, hc13, hc14, hc15, hc16, hc18]; kernel_rfl⟩
                · exact ⟨_, (APath.chunk 1 (by kernel_rfl) (APath.one (.val 71 (.bin .eql) [.t 70, .k (.p (.int .i64 0))]) (by kernel_rfl) (st_bool (c := (r6.2 == 0)) (by kernel_rfl) hc11) (APath.chunk 2 (by kernel_rfl) (APath.oneG (.val 74 (.bin .eql) [.t 73, .k (.p (.int .i64 0))]) 72 true (by kernel_rfl) (by kernel_rfl) (st_bool (c := (r7.2 == 0)) (by kernel_rfl) hc12) (APath.chunk 3 (by kernel_rfl) (APath.oneG (.val 78 (.bin .eql) [.t 77, .k (.p (.int .i64 0))]) 76 true (by kernel_rfl) (by kernel_rfl) (st_bool (c := (r8.2 == 0)) (by kernel_rfl) hc13) (APath.chunk 3 (by kernel_rfl) (APath.oneG (.val 82 (.bin .eql) [.t 81, .k (.p (.int .i64 0))]) 80 true (by kernel_rfl) (by kernel_rfl) (st_bool (c := (r9.2 == 0)) (by kernel_rfl) hc14) (APath.chunk 3 (by kernel_rfl) (APath.oneG (.val 86 (.bin .eql) [.t 85, .k (.p (.int .i64 0))]) 84 true (by kernel_rfl) (by kernel_rfl) (st_bool (c := (r10.2 == 0)) (by kernel_rfl) hc15) (APath.chunk 4 (by kernel_rfl) (APath.oneG (.val 91 (.eqB false) [.t 89, .t 90]) 88 true (by kernel_rfl) (by kernel_rfl) (st_bool (c := (r6.1 == r7.1)) (by kernel_rfl) hc19) (APath.fin (by kernel_rfl)))))))))))))), by simp only [hc11, hc12, hc13, hc14, hc15, hc19]; kernel_rfl⟩
              · exact ⟨_, (APath.chunk 1 (by kernel_rfl) (APath.one (.val 71 (.bin .eql) [.t 70, .k (.p (.int .i64 0))]) (by kernel_rfl) (st_bool (c := (r6.2 == 0)) (by kernel_rfl) hc11) (APath.chunk 2 (by kernel_rfl) (APath.oneG (.val 74 (.bin .eql) [.t 73, .k (.p (.int .i64 0))]) 72 true (by kernel_rfl) (by kernel_rfl) (st_bool (c := (r7.2 == 0)) (by kernel_rfl) hc12) (APath.chunk 3 (by kernel_rfl) (APath.oneG (.val 78 (.bin .eql) [.t 77, .k (.p (.int .i64 0))]) 76 true (by kernel_rfl) (by kernel_rfl) (st_bool (c := (r8.2 == 0)) (by kernel_rfl) hc13) (APath.chunk 3 (by kernel_rfl) (APath.oneG (.val 82 (.bin .eql) [.t 81, .k (.p (.int .i64 0))]) 80 true (by kernel_rfl) (by kernel_rfl) (st_bool (c := (r9.2 == 0)) (by kernel_rfl) hc14) (APath.chunk 3 (by kernel_rfl) (APath.oneG (.val 86 (.bin .eql) [.t 85, .k (.p (.int .i64 0))]) 84 true (by kernel_rfl) (by kernel_rfl) (st_bool (c := (r10.2 == 0)) (by kernel_rfl) hc20) (APath.fin (by kernel_rfl)))))))))))), by simp only [hc11, hc12, hc13, hc14, hc20]; kernel_rfl⟩
            · exact ⟨_, (APath.chunk 1 (by kernel_rfl) (APath.one (.val 71 (.bin .eql) [.t 70, .k (.p (.int .i64 0))]) (by kernel_rfl) (st_bool (c := (r6.2 == 0)) (by kernel_rfl) hc11) (APath.chunk 2 (by kernel_rfl) (APath.oneG (.val 74 (.bin .eql) [.t 73, .k (.p (.int .i64 0))]) 72 true (by kernel_rfl) (by kernel_rfl) (st_bool (c := (r7.2 == 0)) (by kernel_rfl) hc12) (APath.chunk 3 (by kernel_rfl) (APath.oneG (.val 78 (.bin .eql) [.t 77, .k (.p (.int .i64 0))]) 76 true (by kernel_rfl) (by kernel_rfl) (st_bool (c := (r8.2 == 0)) (by kernel_rfl) hc13) (APath.chunk 3 (by kernel_rfl) (APath.oneG (.val 82 (.bin .eql) [.t 81, .k (.p (.int .i64 0))]) 80 true (by kernel_rfl) (by kernel_rfl) (st_bool (c := (r9.2 == 0)) (by kernel_rfl) hc21) (APath.fin (by kernel_rfl)))))))))), by simp only [hc11, hc12, hc13, hc21]; kernel_rfl⟩
          · exact ⟨_, (APath.chunk 1 (by kernel_rfl) (APath.one (.val 71 (.bin .eql) [.t 70, .k (.p (.int .i64 0))]) (by kernel_rfl) (st_bool (c := (r6.2 == 0)) (by kernel_rfl) hc11) (APath.chunk 2 (by kernel_rfl) (APath.oneG (.val 74 (.bin .eql) [.t 73, .k (.p (.int .i64 0))]) 72 true (by kernel_rfl) (by kernel_rfl) (st_bool (c := (r7.2 == 0)) (by kernel_rfl) hc12) (APath.chunk 3 (by kernel_rfl) (APath.oneG (.val 78 (.bin .eql) [.t 77, .k (.p (.int .i64 0))]) 76 true (by kernel_rfl) (by kernel_rfl) (st_bool (c := (r8.2 == 0)) (by kernel_rfl) hc22) (APath.fin (by kernel_rfl)))))))), by simp only [hc11, hc12, hc22]; kernel_rfl⟩
        · exact ⟨_, (APath.chunk 1 (by kernel_rfl) (APath.one (.val 71 (.bin .eql) [.t 70, .k (.p (.int .i64 0))]) (by kernel_rfl) (st_bool (c := (r6.2 == 0)) (by kernel_rfl) hc11) (APath.chunk 2 (by kernel_rfl) (APath.oneG (.val 74 (.bin .eql) [.t 73, .k (.p (.int .i64 0))]) 72 true (by kernel_rfl) (by kernel_rfl) (st_bool (c := (r7.2 == 0)) (by kernel_rfl) hc23) (APath.fin (by kernel_rfl)))))), by simp only [hc11, hc23]; kernel_rfl⟩
      · exact ⟨_, (APath.chunk 1 (by kernel_rfl) (APath.one (.val 71 (.bin .eql) [.t 70, .k (.p (.int .i64 0))]) (by kernel_rfl) (st_bool (c := (r6.2 == 0)) (by kernel_rfl) hc24) (APath.fin (by kernel_rfl)))), by simp only [hc24]; kernel_rfl⟩
    · refine vc_ret ?_
      obtain rfl := some_inj h
      exact ret_of (by kernel_rfl)
end Go.Sh

