/- Part of the proof; written by a program out of the texts in wip/. -/
import Derived.Test.YtoboapnbbcedbaaRouteChecksOk3
namespace Go.Sh
open Go Go.Eng Go.Proofs
set_option linter.unusedVariables false
set_option linter.unusedSimpArgs false
set_option maxRecDepth 100000
theorem law21_RouteChecks_ok (N : Nat) (a0_ : api_Topo) (a1_ : (List Int)) (a2_ : Int) (r : Bool) (h : law21_RouteChecks N a0_ a1_ a2_ = some r) : PCall Try.prog 3 [.agg (c_api_Topo a0_), s_eI64 false a1_, iv a2_] (bv r) := by
  unfold law21_RouteChecks at h
  have hH : HP ([] : List HO) [] := trivial
  refine pcall_of chk3 rfl rfl (vc_sound _ _ _ ?_) rfl
  refine vc_seq ?_
  refine vc_reg (S := ⟨[(1, s_eI64 false a1_), (2, iv a2_), (3, .loc 3 0)], [(3, (c_api_Topo a0_))], []⟩) (APath.fin (by kernel_rfl)) (by kernel_rfl) ?_
  refine vc_seq ?_
  refine vc_seq ?_
  obtain ⟨r1, hr1, h⟩ := bind_some h
  refine vc_reg (S := ⟨[(1, s_eI64 false a1_), (2, iv a2_), (3, .loc 3 0), (22, bv (!r1))], [(3, (c_api_Topo a0_))], []⟩) (APath.one (.call (some 21) 10 []) (by kernel_rfl) (st_call (by kernel_rfl) (law21_wakes_ok N  r1 hr1)) (APath.fin (by kernel_rfl))) (by kernel_rfl) ?_
  refine vc_ite (by kernel_rfl) h (fun hc2 h => ?_) (fun hc2 h => ?_)
  · refine vc_seq ?_
    refine vc_reg (S := ⟨[(6, bv false)], [], []⟩) (APath.fin (by kernel_rfl)) (by kernel_rfl) ?_
    refine vc_ret ?_
    obtain rfl := some_inj h
    exact ret_of (by kernel_rfl)
  · refine vc_skip ?_
    refine vc_kp ?_
    refine vc_seq ?_
    obtain ⟨r3, hr3, h⟩ := bind_some h
    refine vc_reg (S := ⟨[(1, s_eI64 false a1_), (2, iv a2_), (3, .loc 3 0)], [(3, (c_api_Topo r3))], []⟩) (APath.chunk 1 (by kernel_rfl) (APath.one (.call (some 24) 11 [.t 23]) (by kernel_rfl) (st_call (by kernel_rfl) (law21_few_ok N a0_ r3 hr3)) (APath.fin (by kernel_rfl)))) (by kernel_rfl) ?_
    refine vc_seq ?_
    obtain ⟨r4, hr4, h⟩ := bind_some h
    refine vc_reg (S := ⟨[(2, iv a2_), (3, .loc 3 0), (7, s_eI64 false r4)], [(3, (c_api_Topo r3))], []⟩) (APath.chunk 1 (by kernel_rfl) (APath.one (.call (some 26) 12 [.t 25]) (by kernel_rfl) (st_call (by kernel_rfl) (law21_cut_ok N a1_ r4 hr4)) (APath.fin (by kernel_rfl)))) (by kernel_rfl) ?_
    refine vc_seq ?_
    obtain ⟨r5, hr5, h⟩ := bind_some h
    refine vc_reg (S := ⟨[(2, iv a2_), (3, .loc 3 0), (7, s_eI64 false r4), (8, s_eI64 false r5.1), (9, iv r5.2)], [(3, (c_api_Topo r3))], []⟩) (APath.chunk 2 (by kernel_rfl) (APath.one (.call (some 30) 13 [.t 28, .t 29]) (by kernel_rfl) (st_call (by kernel_rfl) (route_Nodes_ok N r3 r4 r5 hr5)) (APath.fin (by kernel_rfl)))) (by kernel_rfl) ?_
    refine vc_seq ?_
    obtain ⟨r6, hr6, h⟩ := bind_some h
    refine vc_reg (S := ⟨[(2, iv a2_), (3, .loc 3 0), (7, s_eI64 false r4), (8, s_eI64 false r5.1), (9, iv r5.2), (10, iv r6.1), (11, iv r6.2.1), (12, iv r6.2.2)], [(3, (c_api_Topo r3))], []⟩) (APath.chunk 2 (by kernel_rfl) (APath.one (.call (some 36) 14 [.t 34, .t 35]) (by kernel_rfl) (st_call (by kernel_rfl) (route_Ends_ok N r3 r4 r6 hr6)) (APath.fin (by kernel_rfl)))) (by kernel_rfl) ?_
    refine vc_seq ?_
    obtain ⟨r7, hr7, h⟩ := bind_some h
    refine vc_reg (S := ⟨[(2, iv a2_), (3, .loc 3 0), (7, s_eI64 false r4), (8, s_eI64 false r5.1), (9, iv r5.2), (10, iv r6.1), (11, iv r6.2.1), (12, iv r6.2.2), (13, iv r7.1), (14, iv r7.2)], [(3, (c_api_Topo r3))], []⟩) (APath.chunk 2 (by kernel_rfl) (APath.one (.call (some 43) 15 [.t 41, .t 42]) (by kernel_rfl) (st_call (by kernel_rfl) (route_Delay_ok N r3 r4 r7 hr7)) (APath.fin (by kernel_rfl)))) (by kernel_rfl) ?_
    refine vc_seq ?_
    obtain ⟨r8, hr8, h⟩ := bind_some h
    refine vc_reg (S := ⟨[(2, iv a2_), (3, .loc 3 0), (7, s_eI64 false r4), (8, s_eI64 false r5.1), (9, iv r5.2), (10, iv r6.1), (11, iv r6.2.1), (12, iv r6.2.2), (13, iv r7.1), (14, iv r7.2), (15, iv r8.1), (16, iv r8.2)], [(3, (c_api_Topo r3))], []⟩) (APath.chunk 3 (by kernel_rfl) (APath.one (.call (some 50) 16 [.t 47, .t 48, .t 49]) (by kernel_rfl) (st_call (by kernel_rfl) (route_Time_ok N r3 r4 a2_ r8 hr8)) (APath.fin (by kernel_rfl)))) (by kernel_rfl) ?_
    refine vc_seq ?_
    obtain ⟨r9, hr9, h⟩ := bind_some h
    refine vc_reg (S := ⟨[(2, iv a2_), (3, .loc 3 0), (7, s_eI64 false r4), (8, s_eI64 false r5.1), (9, iv r5.2), (10, iv r6.1), (11, iv r6.2.1), (12, iv r6.2.2), (13, iv r7.1), (14, iv r7.2), (15, iv r8.1), (16, iv r8.2), (17, s_eI64 false r9.1), (18, iv r9.2)], [(3, (c_api_Topo r3))], []⟩) (APath.chunk 2 (by kernel_rfl) (APath.one (.call (some 56) 17 [.t 54, .t 55]) (by kernel_rfl) (st_call (by kernel_rfl) (route_Back_ok N r3 r4 r9 hr9)) (APath.fin (by kernel_rfl)))) (by kernel_rfl) ?_
    refine vc_seq ?_
    obtain ⟨r10, hr10, h⟩ := bind_some h
    refine vc_reg (S := ⟨[(2, iv a2_), (3, .loc 3 0), (7, s_eI64 false r4), (8, s_eI64 false r5.1), (9, iv r5.2), (10, iv r6.1), (11, iv r6.2.1), (12, iv r6.2.2), (13, iv r7.1), (14, iv r7.2), (15, iv r8.1), (16, iv r8.2), (17, s_eI64 false r9.1), (18, iv r9.2), (19, iv r10)], [(3, (c_api_Topo r3))], []⟩) (APath.chunk 3 (by kernel_rfl) (APath.one (.call (some 62) 18 [.t 59, .t 61]) (by kernel_rfl) (st_call (by kernel_rfl) (law21_want_ok N r3 ([r4]) r10 hr10)) (APath.fin (by kernel_rfl)))) (by kernel_rfl) ?_
    refine vc_seq ?_
    refine vc_seq ?_
    obtain ⟨j20, hj, h⟩ := bind_some h
    refine vc_regXR (fun s => s = ⟨[(2, iv a2_), (3, .loc 3 0), (7, s_eI64 false r4), (8, s_eI64 false r5.1), (10, iv r6.1), (11, iv r6.2.1), (13, iv r7.1), (15, iv r8.1), (16, iv r8.2), (17, s_eI64 false r9.1), (19, iv r10), (87, bv j20)], [(3, (c_api_Topo r3))], []⟩) ?_ ?_
    · clear h
      obtain ⟨r11, hr11, hj⟩ := bind_some hj
      rcases ite_some hj with ⟨hc12, hj⟩ | ⟨hc13, hj⟩
      · obtain rfl := some_inj hj
        exact ⟨_, (APath.chunk 2 (by kernel_rfl) (APath.one (.call (some 65) 19 [.t 63, .t 64]) (by kernel_rfl) (st_call (by kernel_rfl) (route_Check_ok N r3 r4 r11 hr11)) (APath.chunk 1 (by kernel_rfl) (APath.one (.val 67 (.bin .neq) [.t 65, .t 66]) (by kernel_rfl) (st_bool (c := (r11 != r10)) (by kernel_rfl) hc12) (APath.fin (by kernel_rfl)))))), (by show _ = _; kernel_rfl)⟩
      · rcases ite_some hj with ⟨hc14, hj⟩ | ⟨hc15, hj⟩
        · obtain rfl := some_inj hj
          exact ⟨_, (APath.chunk 2 (by kernel_rfl) (APath.one (.call (some 65) 19 [.t 63, .t 64]) (by kernel_rfl) (st_call (by kernel_rfl) (route_Check_ok N r3 r4 r11 hr11)) (APath.chunk 1 (by kernel_rfl) (APath.one (.val 67 (.bin .neq) [.t 65, .t 66]) (by kernel_rfl) (st_bool (c := (r11 != r10)) (by kernel_rfl) hc13) (APath.chunk 3 (by kernel_rfl) (APath.oneG (.val 71 (.bin .neq) [.t 69, .t 70]) 68 false (by kernel_rfl) (by kernel_rfl) (st_bool (c := (r5.2 != r10)) (by kernel_rfl) hc14) (APath.fin (by kernel_rfl)))))))), (by show _ = _; kernel_rfl)⟩
        · rcases ite_some hj with ⟨hc16, hj⟩ | ⟨hc17, hj⟩
          · obtain rfl := some_inj hj
            exact ⟨_, (APath.chunk 2 (by kernel_rfl) (APath.one (.call (some 65) 19 [.t 63, .t 64]) (by kernel_rfl) (st_call (by kernel_rfl) (route_Check_ok N r3 r4 r11 hr11)) (APath.chunk 1 (by kernel_rfl) (APath.one (.val 67 (.bin .neq) [.t 65, .t 66]) (by kernel_rfl) (st_bool (c := (r11 != r10)) (by kernel_rfl) hc13) (APath.chunk 3 (by kernel_rfl) (APath.oneG (.val 71 (.bin .neq) [.t 69, .t 70]) 68 false (by kernel_rfl) (by kernel_rfl) (st_bool (c := (r5.2 != r10)) (by kernel_rfl) hc15) (APath.chunk 4 (by kernel_rfl) (APath.oneG (.val 76 (.bin .neq) [.t 74, .t 75]) 73 false (by kernel_rfl) (by kernel_rfl) (st_bool (c := (r6.2.2 != r10)) (by kernel_rfl) hc16) (APath.fin (by kernel_rfl)))))))))), (by show _ = _; kernel_rfl)⟩
          · rcases ite_some hj with ⟨hc18, hj⟩ | ⟨hc19, hj⟩
            · obtain rfl := some_inj hj
              exact ⟨_, (APath.chunk 2 (by kernel_rfl) (APath.one (.call (some 65) 19 [.t 63, .t 64]) (by kernel_rfl) (st_call (by kernel_rfl) (route_Check_ok N r3 r4 r11 hr11)) (APath.chunk 1 (by kernel_rfl) (APath.one (.val 67 (.bin .neq) [.t 65, .t 66]) (by kernel_rfl) (st_bool (c := (r11 != r10)) (by kernel_rfl) hc13) (APath.chunk 3 (by kernel_rfl) (APath.oneG (.val 71 (.bin .neq) [.t 69, .t 70]) 68 false (by kernel_rfl) (by kernel_rfl) (st_bool (c := (r5.2 != r10)) (by kernel_rfl) hc15) (APath.chunk 4 (by kernel_rfl) (APath.oneG (.val 76 (.bin .neq) [.t 74, .t 75]) 73 false (by kernel_rfl) (by kernel_rfl) (st_bool (c := (r6.2.2 != r10)) (by kernel_rfl) hc17) (APath.chunk 4 (by kernel_rfl) (APath.oneG (.val 81 (.bin .neq) [.t 79, .t 80]) 78 false (by kernel_rfl) (by kernel_rfl) (st_bool (c := (r7.2 != r10)) (by kernel_rfl) hc18) (APath.fin (by kernel_rfl)))))))))))), (by show _ = _; kernel_rfl)⟩
            · obtain rfl := some_inj hj
              exact ⟨_, (APath.chunk 2 (by kernel_rfl) (APath.one (.call (some 65) 19 [.t 63, .t 64]) (by kernel_rfl) (st_call (by kernel_rfl) (route_Check_ok N r3 r4 r11 hr11)) (APath.chunk 1 (by kernel_rfl) (APath.one (.val 67 (.bin .neq) [.t 65, .t 66]) (by kernel_rfl) (st_bool (c := (r11 != r10)) (by kernel_rfl) hc13) (APath.chunk 3 (by kernel_rfl) (APath.oneG (.val 71 (.bin .neq) [.t 69, .t 70]) 68 false (by kernel_rfl) (by kernel_rfl) (st_bool (c := (r5.2 != r10)) (by kernel_rfl) hc15) (APath.chunk 4 (by kernel_rfl) (APath.oneG (.val 76 (.bin .neq) [.t 74, .t 75]) 73 false (by kernel_rfl) (by kernel_rfl) (st_bool (c := (r6.2.2 != r10)) (by kernel_rfl) hc17) (APath.chunk 4 (by kernel_rfl) (APath.oneG (.val 81 (.bin .neq) [.t 79, .t 80]) 78 false (by kernel_rfl) (by kernel_rfl) (st_bool (c := (r7.2 != r10)) (by kernel_rfl) hc19) (APath.fin (by kernel_rfl)))))))))))), (by show _ = _; kernel_rfl)⟩
    · clear hj
      rintro s hR
      obtain rfl := hR
      refine vc_ite (by kernel_rfl) h (fun hc21 h => ?_) (fun hc21 h => ?_)
      · refine vc_seq ?_
        refine vc_reg (S := ⟨[(6, bv false)], [], []⟩) (APath.fin (by kernel_rfl)) (by kernel_rfl) ?_
        refine vc_ret ?_
        obtain rfl := some_inj h
        exact ret_of (by kernel_rfl)
      · refine vc_skip ?_
        refine vc_kp ?_
        refine vc_seq ?_
        refine vc_seq ?_
        refine vc_reg (S := ⟨[(2, iv a2_), (3, .loc 3 0), (7, s_eI64 false r4), (8, s_eI64 false r5.1), (10, iv r6.1), (11, iv r6.2.1), (13, iv r7.1), (15, iv r8.1), (16, iv r8.2), (17, s_eI64 false r9.1), (19, iv r10), (89, bv (r10 != 0))], [(3, (c_api_Topo r3))], []⟩) (APath.fin (by kernel_rfl)) (by kernel_rfl) ?_
        refine vc_ite (by kernel_rfl) h (fun hc22 h => ?_) (fun hc22 h => ?_)
        · refine vc_seq ?_
          refine vc_regX ⟨[(6, bv ((r8.2 == r10) && ((((List.length r5.1 : Nat) : Int) == 0) && ((r6.1 == 0) && ((r6.2.1 == 0) && ((r7.1 == 0) && ((r8.1 == 0) && (((List.length r9.1 : Nat) : Int) == 0))))))))], [], []⟩ ?_ ?_
          · rcases Bool.eq_false_or_eq_true (r8.2 == r10) with hc23 | hc34
            · rcases Bool.eq_false_or_eq_true (((List.length r5.1 : Nat) : Int) == 0) with hc24 | hc33
              · rcases Bool.eq_false_or_eq_true (r6.1 == 0) with hc25 | hc32
                · rcases Bool.eq_false_or_eq_true (r6.2.1 == 0) with hc26 | hc31
                  · rcases Bool.eq_false_or_eq_true (r7.1 == 0) with hc27 | hc30
                    · rcases Bool.eq_false_or_eq_true (r8.1 == 0) with hc28 | hc29
                      · exact ⟨_, (APath.chunk 2 (by kernel_rfl) (APath.one (.val 92 (.bin .eql) [.t 90, .t 91]) (by kernel_rfl) (st_bool (c := (r8.2 == r10)) (by kernel_rfl) hc23) (APath.chunk 2 (by kernel_rfl) (APath.oneG (.val 95 .len [.t 94]) 93 true (by kernel_rfl) (by kernel_rfl) (st_val (ys := [s_eI64 false r5.1]) (by kernel_rfl) (vexec_len eI64)) (APath.oneG (.val 96 (.bin .eql) [.t 95, .k (.p (.int .i64 0))]) 93 true (by kernel_rfl) (by kernel_rfl) (st_bool (c := (((List.length r5.1 : Nat) : Int) == 0)) (by kernel_rfl) hc24) (APath.chunk 3 (by kernel_rfl) (APath.oneG (.val 100 (.bin .eql) [.t 99, .k (.p (.int .i64 0))]) 98 true (by kernel_rfl) (by kernel_rfl) (st_bool (c := (r6.1 == 0)) (by kernel_rfl) hc25) (APath.chunk 3 (by kernel_rfl) (APath.oneG (.val 104 (.bin .eql) [.t 103, .k (.p (.int .i64 0))]) 102 true (by kernel_rfl) (by kernel_rfl) (st_bool (c := (r6.2.1 == 0)) (by kernel_rfl) hc26) (APath.chunk 3 (by kernel_rfl) (APath.oneG (.val 108 (.bin .eql) [.t 107, .k (.p (.int .i64 0))]) 106 true (by kernel_rfl) (by kernel_rfl) (st_bool (c := (r7.1 == 0)) (by kernel_rfl) hc27) (APath.chunk 3 (by kernel_rfl) (APath.oneG (.val 112 (.bin .eql) [.t 111, .k (.p (.int .i64 0))]) 110 true (by kernel_rfl) (by kernel_rfl) (st_bool (c := (r8.1 == 0)) (by kernel_rfl) hc28) (APath.chunk 3 (by kernel_rfl) (APath.oneG (.val 116 .len [.t 115]) 114 true (by kernel_rfl) (by kernel_rfl) (st_val (ys := [s_eI64 false r9.1]) (by kernel_rfl) (vexec_len eI64)) (APath.fin (by kernel_rfl))))))))))))))))), by simp only [hc23, hc24, hc25, hc26, hc27, hc28]; kernel_rfl⟩
                      · exact ⟨_, (APath.chunk 2 (by kernel_rfl) (APath.one (.val 92 (.bin .eql) [.t 90, .t 91]) (by kernel_rfl) (st_bool (c := (r8.2 == r10)) (by kernel_rfl) hc23) (APath.chunk 2 (by kernel_rfl) (APath.oneG (.val 95 .len [.t 94]) 93 true (by kernel_rfl) (by kernel_rfl) (st_val (ys := [s_eI64 false r5.1]) (by kernel_rfl) (vexec_len eI64)) (APath.oneG (.val 96 (.bin .eql) [.t 95, .k (.p (.int .i64 0))]) 93 true (by kernel_rfl) (by kernel_rfl) (st_bool (c := (((List.length r5.1 : Nat) : Int) == 0)) (by kernel_rfl) hc24) (APath.chunk 3 (by kernel_rfl) (APath.oneG (.val 100 (.bin .eql) [.t 99, .k (.p (.int .i64 0))]) 98 true (by kernel_rfl) (by kernel_rfl) (st_bool (c := (r6.1 == 0)) (by kernel_rfl) hc25) (APath.chunk 3 (by kernel_rfl) (APath.oneG (.val 104 (.bin .eql) [.t 103, .k (.p (.int .i64 0))]) 102 true (by kernel_rfl) (by kernel_rfl) (st_bool (c := (r6.2.1 == 0)) (by kernel_rfl) hc26) (APath.chunk 3 (by kernel_rfl) (APath.oneG (.val 108 (.bin .eql) [.t 107, .k (.p (.int .i64 0))]) 106 true (by kernel_rfl) (by kernel_rfl) (st_bool (c := (r7.1 == 0)) (by kernel_rfl) hc27) (APath.chunk 3 (by kernel_rfl) (APath.oneG (.val 112 (.bin .eql) [.t 111, .k (.p (.int .i64 0))]) 110 true (by kernel_rfl) (by kernel_rfl) (st_bool (c := (r8.1 == 0)) (by kernel_rfl) hc29) (APath.fin (by kernel_rfl))))))))))))))), by simp only [hc23, hc24, hc25, hc26, hc27, hc29]; kernel_rfl⟩
                    · exact ⟨_, (APath.chunk 2 (by kernel_rfl) (APath.one (.val 92 (.bin .eql) [.t 90, .t 91]) (by kernel_rfl) (st_bool (c := (r8.2 == r10)) (by kernel_rfl) hc23) (APath.chunk 2 (by kernel_rfl) (APath.oneG (.val 95 .len [.t 94]) 93 true (by kernel_rfl) (by kernel_rfl) (st_val (ys := [s_eI64 false r5.1]) (by kernel_rfl) (vexec_len eI64)) (APath.oneG (.val 96 (.bin .eql) [.t 95, .k (.p (.int .i64 0))]) 93 true (by kernel_rfl) (by kernel_rfl) (st_bool (c := (((List.length r5.1 : Nat) : Int) == 0)) (by kernel_rfl) hc24) (APath.chunk 3 (by kernel_rfl) (APath.oneG (.val 100 (.bin .eql) [.t 99, .k (.p (.int .i64 0))]) 98 true (by kernel_rfl) (by kernel_rfl) (st_bool (c := (r6.1 == 0)) (by kernel_rfl) hc25) (APath.chunk 3 (by kernel_rfl) (APath.oneG (.val 104 (.bin .eql) [.t 103, .k (.p (.int .i64 0))]) 102 true (by kernel_rfl) (by kernel_rfl) (st_bool (c := (r6.2.1 == 0)) (by kernel_rfl) hc26) (APath.chunk 3 (by kernel_rfl) (APath.oneG (.val 108 (.bin .eql) [.t 107, .k (.p (.int .i64 0))]) 106 true (by kernel_rfl) (by kernel_rfl) (st_bool (c := (r7.1 == 0)) (by kernel_rfl) hc30) (APath.fin (by kernel_rfl))))))))))))), by simp only [hc23, hc24, hc25, hc26, hc30]; kernel_rfl⟩
                  · exact ⟨_, (APath.chunk 2 (by kernel_rfl) (APath.one (.val 92 (.bin .eql) [.t 90, .t 91]) (by kernel_rfl) (st_bool (c := (r8.2 == r10)) (by kernel_rfl) hc23) (APath.chunk 2 (by kernel_rfl) (APath.oneG (.val 95 .len [.t 94]) 93 true (by kernel_rfl) (by kernel_rfl) (st_val (ys := [s_eI64 false r5.1]) (by kernel_rfl) (vexec_len eI64)) (APath.oneG (.val 96 (.bin .eql) [.t 95, .k (.p (.int .i64 0))]) 93 true (by kernel_rfl) (by kernel_rfl) (st_bool (c := (((List.length r5.1 : Nat) : Int) == 0)) (by kernel_rfl) hc24) (APath.chunk 3 (by kernel_rfl) (APath.oneG (.val 100 (.bin .eql) [.t 99, .k (.p (.int .i64 0))]) 98 true (by kernel_rfl) (by kernel_rfl) (st_bool (c := (r6.1 == 0)) (by kernel_rfl) hc25) (APath.chunk 3 (by kernel_rfl) (APath.oneG (.val 104 (.bin .eql) [.t 103, .k (.p (.int .i64 0))]) 102 true (by kernel_rfl) (by kernel_rfl) (st_bool (c := (r6.2.1 == 0)) (by kernel_rfl) hc31) (APath.fin (by kernel_rfl))))))))))), by simp only [hc23, hc24, hc25, hc31]; kernel_rfl⟩
                · exact ⟨_, (APath.chunk 2 (by kernel_rfl) (APath.one (.val 92 (.bin .eql) [.t 90, .t 91]) (by kernel_rfl) (st_bool (c := (r8.2 == r10)) (by kernel_rfl) hc23) (APath.chunk 2 (by kernel_rfl) (APath.oneG (.val 95 .len [.t 94]) 93 true (by kernel_rfl) (by kernel_rfl) (st_val (ys := [s_eI64 false r5.1]) (by kernel_rfl) (vexec_len eI64)) (APath.oneG (.val 96 (.bin .eql) [.t 95, .k (.p (.int .i64 0))]) 93 true (by kernel_rfl) (by kernel_rfl) (st_bool (c := (((List.length r5.1 : Nat) : Int) == 0)) (by kernel_rfl) hc24) (APath.chunk 3 (by kernel_rfl) (APath.oneG (.val 100 (.bin .eql) [.t 99, .k (.p (.int .i64 0))]) 98 true (by kernel_rfl) (by kernel_rfl) (st_bool (c := (r6.1 == 0)) (by kernel_rfl) hc32) (APath.fin (by kernel_rfl))))))))), by simp only [hc23, hc24, hc32]; kernel_rfl⟩
              · exact ⟨_, (APath.chunk 2 (by kernel_rfl) (APath.one (.val 92 (.bin .eql) [.t 90, .t 91]) (by kernel_rfl) (st_bool (c := (r8.2 == r10)) (by kernel_rfl) hc23) (APath.chunk 2 (by kernel_rfl) (APath.oneG (.val 95 .len [.t 94]) 93 true (by kernel_rfl) (by kernel_rfl) (st_val (ys := [s_eI64 false r5.1]) (by kernel_rfl) (vexec_len eI64)) (APath.oneG (.val 96 (.bin .eql) [.t 95, .k (.p (.int .i64 0))]) 93 true (by kernel_rfl) (by kernel_rfl) (st_bool (c := (((List.length r5.1 : Nat) : Int) == 0)) (by kernel_rfl) hc33) (APath.fin (by kernel_rfl))))))), by simp only [hc23, hc33]; kernel_rfl⟩
            · exact ⟨_, (APath.chunk 2 (by kernel_rfl) (APath.one (.val 92 (.bin .eql) [.t 90, .t 91]) (by kernel_rfl) (st_bool (c := (r8.2 == r10)) (by kernel_rfl) hc34) (APath.fin (by kernel_rfl)))), by simp only [hc34]; kernel_rfl⟩
          · refine vc_ret ?_
            obtain rfl := some_inj h
            exact ret_of (by kernel_rfl)
        · refine vc_skip ?_
          refine vc_kp ?_
          refine vc_seq ?_
          obtain ⟨r35, hr35, h⟩ := bind_some h
          refine vc_reg (S := ⟨[(2, iv a2_), (3, .loc 3 0), (7, s_eI64 false r4), (8, s_eI64 false r5.1), (10, iv r6.1), (11, iv r6.2.1), (13, iv r7.1), (15, iv r8.1), (16, iv r8.2), (17, s_eI64 false r9.1), (20, s_eI64 false r35)], [(3, (c_api_Topo r3))], []⟩) (APath.chunk 2 (by kernel_rfl) (APath.one (.call (some 121) 20 [.t 119, .t 120]) (by kernel_rfl) (st_call (by kernel_rfl) (ref21_Nodes_ok N r3 r4 r35 hr35)) (APath.fin (by kernel_rfl)))) (by kernel_rfl) ?_
          refine vc_seq ?_
          refine vc_seq ?_
          obtain ⟨j50, hj, h⟩ := bind_some h
          refine vc_regXR (fun s => s = ⟨[(2, iv a2_), (3, .loc 3 0), (7, s_eI64 false r4), (15, iv r8.1), (16, iv r8.2), (156, bv j50)], [(3, (c_api_Topo r3))], []⟩) ?_ ?_
          · clear h
            obtain ⟨r36, hr36, hj⟩ := bind_some hj
            rcases ite_some hj with ⟨hc37, hj⟩ | ⟨hc38, hj⟩
            · obtain rfl := some_inj hj
              exact ⟨_, (APath.chunk 2 (by kernel_rfl) (APath.one (.call (some 124) 21 [.t 122, .t 123]) (by kernel_rfl) (st_call (by kernel_rfl) (slices_Equal__int_int_ok N r5.1 r35 r36 hr36)) (APath.one (.val 125 .not [.t 124]) (by kernel_rfl) (st_bool (c := (!r36)) (by kernel_rfl) hc37) (APath.fin (by kernel_rfl))))), (by show _ = _; kernel_rfl)⟩
            · obtain ⟨e39, he39, hj⟩ := bind_some hj
              rcases ite_some hj with ⟨hc40, hj⟩ | ⟨hc41, hj⟩
              · obtain rfl := some_inj hj
                exact ⟨_, (APath.chunk 2 (by kernel_rfl) (APath.one (.call (some 124) 21 [.t 122, .t 123]) (by kernel_rfl) (st_call (by kernel_rfl) (slices_Equal__int_int_ok N r5.1 r35 r36 hr36)) (APath.one (.val 125 .not [.t 124]) (by kernel_rfl) (st_bool (c := (!r36)) (by kernel_rfl) hc38) (APath.chunk 3 (by kernel_rfl) (APath.oneG (.val 129 (.iaddrS 1) [.t 128, .k (.p (.int .i64 0))]) 126 false (by kernel_rfl) (by kernel_rfl) (st_val (ys := [s_eI64 false r35, iv 0]) (by kernel_rfl) (vexec_iaddrS eI64 he39)) (APath.oneG (.load 130 (.t 129) 1 false) 126 false (by kernel_rfl) (by kernel_rfl) (st_loadP (sz := 1) (off := 0) (cs := [.int .i64 e39]) (r := iv e39) eI64 he39 (by kernel_rfl) (by kernel_rfl) (by kernel_rfl)) (APath.oneG (.val 131 (.bin .neq) [.t 127, .t 130]) 126 false (by kernel_rfl) (by kernel_rfl) (st_bool (c := (r6.1 != e39)) (by kernel_rfl) hc40) (APath.fin (by kernel_rfl))))))))), (by show _ = _; kernel_rfl)⟩
              · obtain ⟨e42, he42, hj⟩ := bind_some hj
                rcases ite_some hj with ⟨hc43, hj⟩ | ⟨hc44, hj⟩
                · obtain rfl := some_inj hj
                  exact ⟨_, (APath.chunk 2 (by kernel_rfl) (APath.one (.call (some 124) 21 [.t 122, .t 123]) (by kernel_rfl) (st_call (by kernel_rfl) (slices_Equal__int_int_ok N r5.1 r35 r36 hr36)) (APath.one (.val 125 .not [.t 124]) (by kernel_rfl) (st_bool (c := (!r36)) (by kernel_rfl) hc38) (APath.chunk 3 (by kernel_rfl) (APath.oneG (.val 129 (.iaddrS 1) [.t 128, .k (.p (.int .i64 0))]) 126 false (by kernel_rfl) (by kernel_rfl) (st_val (ys := [s_eI64 false r35, iv 0]) (by kernel_rfl) (vexec_iaddrS eI64 he39)) (APath.oneG (.load 130 (.t 129) 1 false) 126 false (by kernel_rfl) (by kernel_rfl) (st_loadP (sz := 1) (off := 0) (cs := [.int .i64 e39]) (r := iv e39) eI64 he39 (by kernel_rfl) (by kernel_rfl) (by kernel_rfl)) (APath.oneG (.val 131 (.bin .neq) [.t 127, .t 130]) 126 false (by kernel_rfl) (by kernel_rfl) (st_bool (c := (r6.1 != e39)) (by kernel_rfl) hc41) (APath.chunk 5 (by kernel_rfl) (APath.oneG (.val 137 .len [.t 136]) 133 false (by kernel_rfl) (by kernel_rfl) (st_val (ys := [s_eI64 false r35]) (by kernel_rfl) (vexec_len eI64)) (APath.chunk 1 (by kernel_rfl) (APath.oneG (.val 139 (.iaddrS 1) [.t 135, .t 138]) 133 false (by kernel_rfl) (by kernel_rfl) (st_val (ys := [s_eI64 false r35, iv (w64 (((List.length r35 : Nat) : Int) - 1))]) (by kernel_rfl) (vexec_iaddrS eI64 he42)) (APath.oneG (.load 140 (.t 139) 1 false) 133 false (by kernel_rfl) (by kernel_rfl) (st_loadP (sz := 1) (off := 0) (cs := [.int .i64 e42]) (r := iv e42) eI64 he42 (by kernel_rfl) (by kernel_rfl) (by kernel_rfl)) (APath.oneG (.val 141 (.bin .neq) [.t 134, .t 140]) 133 false (by kernel_rfl) (by kernel_rfl) (st_bool (c := (r6.2.1 != e42)) (by kernel_rfl) hc43) (APath.fin (by kernel_rfl))))))))))))))), (by show _ = _; kernel_rfl)⟩
                · obtain ⟨r45, hr45, hj⟩ := bind_some hj
                  rcases ite_some hj with ⟨hc46, hj⟩ | ⟨hc47, hj⟩
                  · obtain rfl := some_inj hj
                    exact ⟨_, (APath.chunk 2 (by kernel_rfl) (APath.one (.call (some 124) 21 [.t 122, .t 123]) (by kernel_rfl) (st_call (by kernel_rfl) (slices_Equal__int_int_ok N r5.1 r35 r36 hr36)) (APath.one (.val 125 .not [.t 124]) (by kernel_rfl) (st_bool (c := (!r36)) (by kernel_rfl) hc38) (APath.chunk 3 (by kernel_rfl) (APath.oneG (.val 129 (.iaddrS 1) [.t 128, .k (.p (.int .i64 0))]) 126 false (by kernel_rfl) (by kernel_rfl) (st_val (ys := [s_eI64 false r35, iv 0]) (by kernel_rfl) (vexec_iaddrS eI64 he39)) (APath.oneG (.load 130 (.t 129) 1 false) 126 false (by kernel_rfl) (by kernel_rfl) (st_loadP (sz := 1) (off := 0) (cs := [.int .i64 e39]) (r := iv e39) eI64 he39 (by kernel_rfl) (by kernel_rfl) (by kernel_rfl)) (APath.oneG (.val 131 (.bin .neq) [.t 127, .t 130]) 126 false (by kernel_rfl) (by kernel_rfl) (st_bool (c := (r6.1 != e39)) (by kernel_rfl) hc41) (APath.chunk 5 (by kernel_rfl) (APath.oneG (.val 137 .len [.t 136]) 133 false (by kernel_rfl) (by kernel_rfl) (st_val (ys := [s_eI64 false r35]) (by kernel_rfl) (vexec_len eI64)) (APath.chunk 1 (by kernel_rfl) (APath.oneG (.val 139 (.iaddrS 1) [.t 135, .t 138]) 133 false (by kernel_rfl) (by kernel_rfl) (st_val (ys := [s_eI64 false r35, iv (w64 (((List.length r35 : Nat) : Int) - 1))]) (by kernel_rfl) (vexec_iaddrS eI64 he42)) (APath.oneG (.load 140 (.t 139) 1 false) 133 false (by kernel_rfl) (by kernel_rfl) (st_loadP (sz := 1) (off := 0) (cs := [.int .i64 e42]) (r := iv e42) eI64 he42 (by kernel_rfl) (by kernel_rfl) (by kernel_rfl)) (APath.oneG (.val 141 (.bin .neq) [.t 134, .t 140]) 133 false (by kernel_rfl) (by kernel_rfl) (st_bool (c := (r6.2.1 != e42)) (by kernel_rfl) hc44) (APath.chunk 5 (by kernel_rfl) (APath.oneG (.call (some 147) 22 [.t 145, .t 146]) 143 false (by kernel_rfl) (by kernel_rfl) (st_call (by kernel_rfl) (ref21_Delay_ok N r3 r4 r45 hr45)) (APath.oneG (.val 148 (.bin .neq) [.t 144, .t 147]) 143 false (by kernel_rfl) (by kernel_rfl) (st_bool (c := (r7.1 != r45)) (by kernel_rfl) hc46) (APath.fin (by kernel_rfl)))))))))))))))))), (by show _ = _; kernel_rfl)⟩
                  · obtain ⟨r48, hr48, hj⟩ := bind_some hj
                    obtain ⟨r49, hr49, hj⟩ := bind_some hj
                    obtain rfl := some_inj hj
                    exact ⟨_, (APath.chunk 2 (by kernel_rfl) (APath.one (.call (some 124) 21 [.t 122, .t 123]) (by kernel_rfl) (st_call (by kernel_rfl) (slices_Equal__int_int_ok N r5.1 r35 r36 hr36)) (APath.one (.val 125 .not [.t 124]) (by kernel_rfl) (st_bool (c := (!r36)) (by kernel_rfl) hc38) (APath.chunk 3 (by kernel_rfl) (APath.oneG (.val 129 (.iaddrS 1) [.t 128, .k (.p (.int .i64 0))]) 126 false (by kernel_rfl) (by kernel_rfl) (st_val (ys := [s_eI64 false r35, iv 0]) (by kernel_rfl) (vexec_iaddrS eI64 he39)) (APath.oneG (.load 130 (.t 129) 1 false) 126 false (by kernel_rfl) (by kernel_rfl) (st_loadP (sz := 1) (off := 0) (cs := [.int .i64 e39]) (r := iv e39) eI64 he39 (by kernel_rfl) (by kernel_rfl) (by kernel_rfl)) (APath.oneG (.val 131 (.bin .neq) [.t 127, .t 130]) 126 false (by kernel_rfl) (by kernel_rfl) (st_bool (c := (r6.1 != e39)) (by kernel_rfl) hc41) (APath.chunk 5 (by kernel_rfl) (APath.oneG (.val 137 .len [.t 136]) 133 false (by kernel_rfl) (by kernel_rfl) (st_val (ys := [s_eI64 false r35]) (by kernel_rfl) (vexec_len eI64)) (APath.chunk 1 (by kernel_rfl) (APath.oneG (.val 139 (.iaddrS 1) [.t 135, .t 138]) 133 false (by kernel_rfl) (by kernel_rfl) (st_val (ys := [s_eI64 false r35, iv (w64 (((List.length r35 : Nat) : Int) - 1))]) (by kernel_rfl) (vexec_iaddrS eI64 he42)) (APath.oneG (.load 140 (.t 139) 1 false) 133 false (by kernel_rfl) (by kernel_rfl) (st_loadP (sz := 1) (off := 0) (cs := [.int .i64 e42]) (r := iv e42) eI64 he42 (by kernel_rfl) (by kernel_rfl) (by kernel_rfl)) (APath.oneG (.val 141 (.bin .neq) [.t 134, .t 140]) 133 false (by kernel_rfl) (by kernel_rfl) (st_bool (c := (r6.2.1 != e42)) (by kernel_rfl) hc44) (APath.chunk 5 (by kernel_rfl) (APath.oneG (.call (some 147) 22 [.t 145, .t 146]) 143 false (by kernel_rfl) (by kernel_rfl) (st_call (by kernel_rfl) (ref21_Delay_ok N r3 r4 r45 hr45)) (APath.oneG (.val 148 (.bin .neq) [.t 144, .t 147]) 143 false (by kernel_rfl) (by kernel_rfl) (st_bool (c := (r7.1 != r45)) (by kernel_rfl) hc47) (APath.chunk 4 (by kernel_rfl) (APath.oneG (.call (some 153) 24 [.t 152]) 150 false (by kernel_rfl) (by kernel_rfl) (st_call (by kernel_rfl) (ref21_Back_ok N r4 r48 hr48)) (APath.oneG (.call (some 154) 23 [.t 151, .t 153]) 150 false (by kernel_rfl) (by kernel_rfl) (st_call (by kernel_rfl) (slices_Equal_api_Route_int_ok N r9.1 r48 r49 hr49)) (APath.fin (by kernel_rfl))))))))))))))))))))), (by show _ = _; kernel_rfl)⟩
          · clear hj
            rintro s hR
            obtain rfl := hR
            refine vc_ite (by kernel_rfl) h (fun hc51 h => ?_) (fun hc51 h => ?_)
            · refine vc_seq ?_
              refine vc_reg (S := ⟨[(6, bv false)], [], []⟩) (APath.fin (by kernel_rfl)) (by kernel_rfl) ?_
              refine vc_ret ?_
              obtain rfl := some_inj h
              exact ret_of (by kernel_rfl)
            · refine vc_skip ?_
              refine vc_kp ?_
              refine vc_seq ?_
              refine vc_seq ?_
              refine vc_regX ⟨[(2, iv a2_), (3, .loc 3 0), (7, s_eI64 false r4), (15, iv r8.1), (16, iv r8.2), (162, bv ((decide (a2_ < 84)) || (decide (a2_ > 1542))))], [(3, (c_api_Topo r3))], []⟩ ?_ ?_
              · rcases Bool.eq_false_or_eq_true (decide (a2_ < 84)) with hc52 | hc53
                · exact ⟨_, (APath.chunk 1 (by kernel_rfl) (APath.one (.val 158 (.bin .lss) [.t 157, .k (.p (.int .i64 84))]) (by kernel_rfl) (st_bool (c := (decide (a2_ < 84))) (by kernel_rfl) hc52) (APath.fin (by kernel_rfl)))), by simp only [hc52]; kernel_rfl⟩
                · exact ⟨_, (APath.chunk 1 (by kernel_rfl) (APath.one (.val 158 (.bin .lss) [.t 157, .k (.p (.int .i64 84))]) (by kernel_rfl) (st_bool (c := (decide (a2_ < 84))) (by kernel_rfl) hc53) (APath.fin (by kernel_rfl)))), by simp only [hc53]; kernel_rfl⟩
              · refine vc_ite (by kernel_rfl) h (fun hc54 h => ?_) (fun hc54 h => ?_)
                · refine vc_seq ?_
                  refine vc_regX ⟨[(6, bv ((r8.1 == 0) && (r8.2 == 2)))], [], []⟩ ?_ ?_
                  · rcases Bool.eq_false_or_eq_true (r8.1 == 0) with hc55 | hc56
                    · exact ⟨_, (APath.chunk 1 (by kernel_rfl) (APath.one (.val 164 (.bin .eql) [.t 163, .k (.p (.int .i64 0))]) (by kernel_rfl) (st_bool (c := (r8.1 == 0)) (by kernel_rfl) hc55) (APath.fin (by kernel_rfl)))), by simp only [hc55]; kernel_rfl⟩
                    · exact ⟨_, (APath.chunk 1 (by kernel_rfl) (APath.one (.val 164 (.bin .eql) [.t 163, .k (.p (.int .i64 0))]) (by kernel_rfl) (st_bool (c := (r8.1 == 0)) (by kernel_rfl) hc56) (APath.fin (by kernel_rfl)))), by simp only [hc56]; kernel_rfl⟩
                  · refine vc_ret ?_
                    obtain rfl := some_inj h
                    exact ret_of (by kernel_rfl)
                · refine vc_skip ?_
                  refine vc_kp ?_
                  refine vc_seq ?_
                  obtain ⟨j60, hj, h⟩ := bind_some h
                  refine vc_regXR (fun s => s = ⟨[(6, bv j60)], [], []⟩) ?_ ?_
                  · clear h
                    obtain ⟨r57, hr57, hj⟩ := bind_some hj
                    rcases ite_some hj with ⟨hc58, hj⟩ | ⟨hc59, hj⟩
                    · obtain rfl := some_inj hj
                      exact ⟨_, (APath.chunk 4 (by kernel_rfl) (APath.one (.call (some 173) 25 [.t 170, .t 171, .t 172]) (by kernel_rfl) (st_call (by kernel_rfl) (ref21_Time_ok N r3 r4 a2_ r57 hr57)) (APath.one (.val 174 (.bin .eql) [.t 169, .t 173]) (by kernel_rfl) (st_bool (c := (r8.1 == r57)) (by kernel_rfl) hc58) (APath.fin (by kernel_rfl))))), (by show _ = _; kernel_rfl)⟩
                    · obtain rfl := some_inj hj
                      exact ⟨_, (APath.chunk 4 (by kernel_rfl) (APath.one (.call (some 173) 25 [.t 170, .t 171, .t 172]) (by kernel_rfl) (st_call (by kernel_rfl) (ref21_Time_ok N r3 r4 a2_ r57 hr57)) (APath.one (.val 174 (.bin .eql) [.t 169, .t 173]) (by kernel_rfl) (st_bool (c := (r8.1 == r57)) (by kernel_rfl) hc59) (APath.fin (by kernel_rfl))))), (by show _ = _; kernel_rfl)⟩
                  · clear hj
                    rintro s hR
                    obtain rfl := hR
                    refine vc_ret ?_
                    obtain rfl := some_inj h
                    exact ret_of (by kernel_rfl)
end Go.Sh

