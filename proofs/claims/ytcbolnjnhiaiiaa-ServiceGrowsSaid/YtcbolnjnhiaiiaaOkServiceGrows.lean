/- The law's own function; written by sym.py. -/
import Derived.Test.YtcbolnjnhiaiiaaOk2
namespace Go.Sh
open Go Go.Eng Go.Proofs
set_option linter.unusedVariables false
set_option linter.unusedSimpArgs false
set_option maxRecDepth 100000
/- isochronlaw30.ServiceGrows -/
theorem law30_ServiceGrows_ok (N : Nat) (a0_ : ref30_Draft) (a1_ : Int) (a2_ : Int) (a3_ : Int) (a4_ : Int) (a5_ : Arr2_u8) (r : Bool) (h : law30_ServiceGrows N a0_ a1_ a2_ a3_ a4_ a5_ = some r) : PCall Try.prog 8 [.agg (c_ref30_Draft a0_), .p (.int .u8 a1_), .p (.int .u8 a2_), .p (.int .i16 a3_), .p (.int .u16 a4_), .agg (c_Arr2_u8 a5_)] (bv r) := by
  unfold law30_ServiceGrows at h
  have hH : HP ([] : List HO) [] := trivial
  refine pcall_of chk8 rfl rfl (vc_sound _ _ _ ?_) rfl
  refine vc_seq ?_
  refine vc_reg (S := ⟨[(1, .p (.int .u8 a1_)), (2, .p (.int .u8 a2_)), (3, .p (.int .i16 a3_)), (4, .p (.int .u16 a4_)), (6, .loc 6 0), (11, .loc 11 0)], [(6, (c_ref30_Draft a0_)), (11, (c_Arr2_u8 a5_))], []⟩) (APath.fin (by kernel_rfl)) (by kernel_rfl) ?_
  refine vc_seq ?_
  refine vc_seq ?_
  obtain ⟨r1, hr1, h⟩ := bind_some h
  refine vc_reg (S := ⟨[(1, .p (.int .u8 a1_)), (2, .p (.int .u8 a2_)), (3, .p (.int .i16 a3_)), (4, .p (.int .u16 a4_)), (6, .loc 6 0), (11, .loc 11 0), (26, bv (!r1))], [(6, (c_ref30_Draft a0_)), (11, (c_Arr2_u8 a5_))], []⟩) (APath.one (.call (some 25) 14 []) (by kernel_rfl) (st_call (by kernel_rfl) (law30_works_ok N  r1 hr1)) (APath.fin (by kernel_rfl))) (by kernel_rfl) ?_
  refine vc_ite (by kernel_rfl) h (fun hc2 h => ?_) (fun hc2 h => ?_)
  · refine vc_seq ?_
    refine vc_reg (S := ⟨[(12, bv false)], [], []⟩) (APath.fin (by kernel_rfl)) (by kernel_rfl) ?_
    refine vc_ret ?_
    obtain rfl := some_inj h
    exact ret_of (by kernel_rfl)
  · refine vc_skip ?_
    refine vc_kp ?_
    refine vc_seq ?_
    obtain ⟨r3, hr3, h⟩ := bind_some h
    refine vc_reg (S := ⟨[(1, .p (.int .u8 a1_)), (2, .p (.int .u8 a2_)), (3, .p (.int .i16 a3_)), (4, .p (.int .u16 a4_)), (11, .loc 11 0), (13, .loc 13 0)], [(11, (c_Arr2_u8 a5_)), (13, (c_api_Gates r3))], []⟩) (APath.chunk 1 (by kernel_rfl) (APath.one (.call (some 28) 10 [.t 27]) (by kernel_rfl) (st_call (by kernel_rfl) (ref30_Draft_Gates_ok N a0_ r3 hr3)) (APath.fin (by kernel_rfl)))) (by kernel_rfl) ?_
    refine vc_seq ?_
    refine vc_reg (S := ⟨[(3, .p (.int .i16 a3_)), (4, .p (.int .u16 a4_)), (11, .loc 11 0), (13, .loc 13 0), (14, iv (w64 (1 + (w64 ((Int.tmod a1_ 5)))))), (15, iv (w64 (84 + (w64 (a2_)))))], [(11, (c_Arr2_u8 a5_)), (13, (c_api_Gates r3))], []⟩) (APath.fin (by kernel_rfl)) (by kernel_rfl) ?_
    refine vc_seq ?_
    obtain ⟨m4, hm4, h⟩ := bind_some h
    refine vc_regD (S := ⟨[(11, .loc 11 0), (13, .loc 13 0), (14, iv (w64 (1 + (w64 ((Int.tmod a1_ 5)))))), (15, iv (w64 (84 + (w64 (a2_))))), (16, iv (w64 (a3_))), (17, iv m4)], [(11, (c_Arr2_u8 a5_)), (13, (c_api_Gates r3))], []⟩) (by kernel_rfl) (APath.chunk 7 (by kernel_rfl) (APath.one (.val 43 (.bin .rem) [.t 39, .t 42]) (by kernel_rfl) (st_val (ys := [iv (w64 (a4_)), iv (w64 (r3.Cycle + 1))]) (by kernel_rfl) (vexec_rem hm4)) (APath.fin (by kernel_rfl)))) (by kernel_rfl) ?_
    refine vc_seq ?_
    obtain ⟨r5, hr5, h⟩ := bind_some h
    refine vc_reg (S := ⟨[(11, .loc 11 0), (13, .loc 13 0), (14, iv (w64 (1 + (w64 ((Int.tmod a1_ 5)))))), (15, iv (w64 (84 + (w64 (a2_))))), (16, iv (w64 (a3_))), (17, iv m4), (18, iv r5)], [(11, (c_Arr2_u8 a5_)), (13, (c_api_Gates r3))], []⟩) (APath.chunk 5 (by kernel_rfl) (APath.one (.call (some 49) 20 [.t 44, .t 45, .t 46, .t 47, .t 48]) (by kernel_rfl) (st_call (by kernel_rfl) (law30_sends_ok N r3 (w64 (1 + (w64 ((Int.tmod a1_ 5))))) (w64 (84 + (w64 (a2_)))) (w64 (a3_)) m4 r5 hr5)) (APath.fin (by kernel_rfl)))) (by kernel_rfl) ?_
    refine vc_seq ?_
    obtain ⟨m6, hm6, h⟩ := bind_some h
    obtain ⟨m7, hm7, h⟩ := bind_some h
    refine vc_regD (S := ⟨[(13, .loc 13 0), (14, iv (w64 (1 + (w64 ((Int.tmod a1_ 5)))))), (15, iv (w64 (84 + (w64 (a2_))))), (16, iv (w64 (a3_))), (17, iv m4), (18, iv r5), (19, iv m6), (20, iv m7)], [(13, (c_api_Gates r3))], []⟩) (by kernel_rfl) (APath.chunk 6 (by kernel_rfl) (APath.one (.val 56 (.bin .rem) [.t 52, .t 55]) (by kernel_rfl) (st_val (ys := [iv (w64 (a5_.x0)), iv (w64 (r3.Cycle + 1))]) (by kernel_rfl) (vexec_rem hm6)) (APath.chunk 6 (by kernel_rfl) (APath.one (.val 63 (.bin .rem) [.t 59, .t 62]) (by kernel_rfl) (st_val (ys := [iv (w64 (a5_.x1)), iv (w64 (r3.Cycle + 1))]) (by kernel_rfl) (vexec_rem hm7)) (APath.fin (by kernel_rfl)))))) (by kernel_rfl) ?_
    refine vc_seq ?_
    refine vc_reg (S := ⟨[(13, .loc 13 0), (14, iv (w64 (1 + (w64 ((Int.tmod a1_ 5)))))), (15, iv (w64 (84 + (w64 (a2_))))), (16, iv (w64 (a3_))), (17, iv m4), (18, iv r5), (19, iv m6), (20, iv m7), (21, iv 0)], [(13, (c_api_Gates r3))], []⟩) (APath.fin (by kernel_rfl)) (by kernel_rfl) ?_
    refine vc_seq ?_
    refine vc_seq ?_
    refine vc_reg (S := ⟨[(13, .loc 13 0), (14, iv (w64 (1 + (w64 ((Int.tmod a1_ 5)))))), (15, iv (w64 (84 + (w64 (a2_))))), (16, iv (w64 (a3_))), (17, iv m4), (18, iv r5), (19, iv m6), (20, iv m7), (21, iv 0), (22, iv (w64 (a3_)))], [(13, (c_api_Gates r3))], []⟩) (APath.fin (by kernel_rfl)) (by kernel_rfl) ?_
    refine vc_block ?_
    obtain ⟨o1017, ho1017, h⟩ := bind_some h
    refine vc_loop ((loop_sim (fun (x : Int × Int) s => s = ⟨[(13, .loc 13 0), (14, iv (w64 (1 + (w64 ((Int.tmod a1_ 5)))))), (15, iv (w64 (84 + (w64 (a2_))))), (16, iv (w64 (a3_))), (17, iv m4), (18, iv r5), (19, iv m6), (20, iv m7), (21, iv x.1), (22, iv x.2)], [(13, (c_api_Gates r3))], []⟩) (fun x : Int × Int => law30_ServiceGrows_L1 N a3_ r3 m4 x.1 x.2) (fun (p : (Int × Int) ⊕ (Bool)) e s => match p with | (.inl p) => e = .exit 0 ∧ (s = ⟨[(13, .loc 13 0), (14, iv (w64 (1 + (w64 ((Int.tmod a1_ 5)))))), (15, iv (w64 (84 + (w64 (a2_))))), (16, iv (w64 (a3_))), (17, iv m4), (18, iv r5), (19, iv m6), (20, iv m7), (21, iv p.1), (22, iv p.2)], [(13, (c_api_Gates r3))], []⟩) | (.inr p) => e = .ret ∧ ∃ xs, resL s i8.res = some xs ∧ tupOf xs = bv p) ?_ N _ o1017 _ ho1017 (by show _ = _; kernel_rfl)).mono ?_)
    · clear h ho1017
      rintro ⟨i8, i9⟩ o s h hR
      obtain rfl := hR
      replace h : law30_ServiceGrows_L1 N a3_ r3 m4 i8 i9 = some o := h
      unfold law30_ServiceGrows_L1 at h
      refine vc_seq ?_
      refine vc_seq ?_
      refine vc_reg (S := ⟨[(13, .loc 13 0), (14, iv (w64 (1 + (w64 ((Int.tmod a1_ 5)))))), (15, iv (w64 (84 + (w64 (a2_))))), (16, iv (w64 (a3_))), (17, iv m4), (18, iv r5), (19, iv m6), (20, iv m7), (21, iv i8), (22, iv i9), (69, bv (decide (i9 < (w64 ((w64 (a3_)) + m4)))))], [(13, (c_api_Gates r3))], []⟩) (APath.fin (by kernel_rfl)) (by kernel_rfl) ?_
      refine vc_ite (by kernel_rfl) h (fun hc510 h => ?_) (fun hc510 h => ?_)
      · refine vc_skip ?_
        refine vc_kp ?_
        refine vc_block ?_
        refine vc_seq ?_
        obtain ⟨r511, hr511, h⟩ := bind_some h
        refine vc_reg (S := ⟨[(13, .loc 13 0), (14, iv (w64 (1 + (w64 ((Int.tmod a1_ 5)))))), (15, iv (w64 (84 + (w64 (a2_))))), (16, iv (w64 (a3_))), (17, iv m4), (18, iv r5), (19, iv m6), (20, iv m7), (21, iv i8), (22, iv i9), (23, iv r511.1), (24, iv r511.2)], [(13, (c_api_Gates r3))], []⟩) (APath.chunk 2 (by kernel_rfl) (APath.one (.call (some 73) 22 [.t 71, .k (.p (.int .i64 6)), .t 72]) (by kernel_rfl) (st_call (by kernel_rfl) (gates_Open_ok N r3 6 i9 r511 hr511)) (APath.fin (by kernel_rfl)))) (by kernel_rfl) ?_
        refine vc_seq ?_
        refine vc_seq ?_
        refine vc_reg (S := ⟨[(13, .loc 13 0), (14, iv (w64 (1 + (w64 ((Int.tmod a1_ 5)))))), (15, iv (w64 (84 + (w64 (a2_))))), (16, iv (w64 (a3_))), (17, iv m4), (18, iv r5), (19, iv m6), (20, iv m7), (21, iv i8), (22, iv i9), (23, iv r511.1), (77, bv (r511.2 != 0))], [(13, (c_api_Gates r3))], []⟩) (APath.fin (by kernel_rfl)) (by kernel_rfl) ?_
        refine vc_ite (by kernel_rfl) h (fun hc512 h => ?_) (fun hc512 h => ?_)
        · refine vc_seq ?_
          refine vc_reg (S := ⟨[(12, bv false)], [], []⟩) (APath.fin (by kernel_rfl)) (by kernel_rfl) ?_
          refine vc_ret ?_
          obtain rfl := some_inj h
          exact ⟨_, rfl, rfl, ret_of (by kernel_rfl)⟩
        · refine vc_skip ?_
          refine vc_kp ?_
          refine vc_seq ?_
          refine vc_seq ?_
          refine vc_reg (S := ⟨[(13, .loc 13 0), (14, iv (w64 (1 + (w64 ((Int.tmod a1_ 5)))))), (15, iv (w64 (84 + (w64 (a2_))))), (16, iv (w64 (a3_))), (17, iv m4), (18, iv r5), (19, iv m6), (20, iv m7), (21, iv i8), (22, iv i9), (23, iv r511.1), (79, bv (r511.1 == 0))], [(13, (c_api_Gates r3))], []⟩) (APath.fin (by kernel_rfl)) (by kernel_rfl) ?_
          refine vc_ite (by kernel_rfl) h (fun hc513 h => ?_) (fun hc513 h => ?_)
          · obtain ⟨j1014, hj1014, h⟩ := bind_some h
            refine vc_joinR (fun s => s = ⟨[(13, .loc 13 0), (14, iv (w64 (1 + (w64 ((Int.tmod a1_ 5)))))), (15, iv (w64 (84 + (w64 (a2_))))), (16, iv (w64 (a3_))), (17, iv m4), (18, iv r5), (19, iv m6), (20, iv m7), (21, iv i8), (22, iv j1014)], [(13, (c_api_Gates r3))], []⟩) ?_ ?_
            · clear h
              have h := hj1014
              refine vc_seq ?_
              obtain ⟨r1015, hr1015, h⟩ := bind_some h
              refine vc_reg (S := ⟨[(13, .loc 13 0), (14, iv (w64 (1 + (w64 ((Int.tmod a1_ 5)))))), (15, iv (w64 (84 + (w64 (a2_))))), (16, iv (w64 (a3_))), (17, iv m4), (18, iv r5), (19, iv m6), (20, iv m7), (21, iv i8), (22, iv r1015.1), (24, iv r1015.2)], [(13, (c_api_Gates r3))], []⟩) (APath.chunk 2 (by kernel_rfl) (APath.one (.call (some 83) 23 [.t 81, .t 82]) (by kernel_rfl) (st_call (by kernel_rfl) (gates_Turn_ok N r3 i9 r1015 hr1015)) (APath.fin (by kernel_rfl)))) (by kernel_rfl) ?_
              refine vc_seq ?_
              refine vc_reg (S := ⟨[(13, .loc 13 0), (14, iv (w64 (1 + (w64 ((Int.tmod a1_ 5)))))), (15, iv (w64 (84 + (w64 (a2_))))), (16, iv (w64 (a3_))), (17, iv m4), (18, iv r5), (19, iv m6), (20, iv m7), (21, iv i8), (22, iv r1015.1), (87, bv (r1015.2 != 0))], [(13, (c_api_Gates r3))], []⟩) (APath.fin (by kernel_rfl)) (by kernel_rfl) ?_
              refine vc_ite (by kernel_rfl) h (fun hc1016 h => ?_) (fun hc1016 h => ?_)
              · refine vc_reg (S := ⟨[(13, .loc 13 0), (14, iv (w64 (1 + (w64 ((Int.tmod a1_ 5)))))), (15, iv (w64 (84 + (w64 (a2_))))), (16, iv (w64 (a3_))), (17, iv m4), (18, iv r5), (19, iv m6), (20, iv m7), (21, iv i8), (22, iv (w64 ((w64 (a3_)) + m4)))], [(13, (c_api_Gates r3))], []⟩) (APath.fin (by kernel_rfl)) (by kernel_rfl) ?_
                obtain rfl := some_inj h
                exact ⟨rfl, (by show _ = _; kernel_rfl)⟩
              · refine vc_skip ?_
                obtain rfl := some_inj h
                exact ⟨rfl, (by show _ = _; kernel_rfl)⟩
            · clear hj1014
              rintro s hR
              obtain rfl := hR
              refine vc_exit ?_
              try show vc _ _ _ _ _
              obtain rfl := some_inj h
              exact ⟨_, rfl, (by show _ = _; kernel_rfl)⟩
          · refine vc_skip ?_
            refine vc_kp ?_
            refine vc_seq ?_
            refine vc_reg (S := ⟨[(13, .loc 13 0), (14, iv (w64 (1 + (w64 ((Int.tmod a1_ 5)))))), (15, iv (w64 (84 + (w64 (a2_))))), (16, iv (w64 (a3_))), (17, iv m4), (18, iv r5), (19, iv m6), (20, iv m7), (21, iv i8), (22, iv i9), (23, iv (if (w64 ((w64 ((w64 (a3_)) + m4)) - i9)) < r511.1 then (w64 ((w64 ((w64 (a3_)) + m4)) - i9)) else r511.1))], [(13, (c_api_Gates r3))], []⟩) (APath.fin (by kernel_rfl)) (by kernel_rfl) ?_
            refine vc_reg (S := ⟨[(13, .loc 13 0), (14, iv (w64 (1 + (w64 ((Int.tmod a1_ 5)))))), (15, iv (w64 (84 + (w64 (a2_))))), (16, iv (w64 (a3_))), (17, iv m4), (18, iv r5), (19, iv m6), (20, iv m7), (21, iv (w64 (i8 + (if (w64 ((w64 ((w64 (a3_)) + m4)) - i9)) < r511.1 then (w64 ((w64 ((w64 (a3_)) + m4)) - i9)) else r511.1)))), (22, iv (w64 (i9 + (if (w64 ((w64 ((w64 (a3_)) + m4)) - i9)) < r511.1 then (w64 ((w64 ((w64 (a3_)) + m4)) - i9)) else r511.1))))], [(13, (c_api_Gates r3))], []⟩) (APath.fin (by kernel_rfl)) (by kernel_rfl) ?_
            obtain rfl := some_inj h
            exact ⟨_, rfl, (by show _ = _; kernel_rfl)⟩
      · refine vc_exit ?_
        try show vc _ _ _ _ _
        obtain rfl := some_inj h
        exact ⟨_, rfl, rfl, (by show _ = _; kernel_rfl)⟩
    · rintro e s hq
      rcases o1017 with p1018 | p1031
      · dsimp only at h hq
        obtain ⟨rfl, hR⟩ := hq
        obtain rfl := hR
        try show vc _ _ _ _ _
        refine vc_seq ?_
        obtain ⟨j1030, hj, h⟩ := bind_some h
        refine vc_regXR (fun s => s = ⟨[(12, bv j1030)], [], []⟩) ?_ ?_
        · clear h
          rcases ite_some hj with ⟨hc1019, hj⟩ | ⟨hc1029, hj⟩
          · rcases ite_some hj with ⟨hc1020, hj⟩ | ⟨hc1028, hj⟩
            · obtain ⟨r1021, hr1021, hj⟩ := bind_some hj
              rcases ite_some hj with ⟨hc1022, hj⟩ | ⟨hc1027, hj⟩
              · obtain ⟨r1023, hr1023, hj⟩ := bind_some hj
                rcases ite_some hj with ⟨hc1024, hj⟩ | ⟨hc1026, hj⟩
                · obtain ⟨r1025, hr1025, hj⟩ := bind_some hj
                  obtain rfl := some_inj hj
                  exact ⟨_, (APath.chunk 1 (by kernel_rfl) (APath.one (.val 105 (.bin .geq) [.t 104, .k (.p (.int .i64 0))]) (by kernel_rfl) (st_bool (c := (decide (r5 ≥ 0))) (by kernel_rfl) hc1019) (APath.chunk 3 (by kernel_rfl) (APath.oneG (.val 109 (.bin .leq) [.t 107, .t 108]) 106 true (by kernel_rfl) (by kernel_rfl) (st_bool (c := (decide (r5 ≤ p1018.1))) (by kernel_rfl) hc1020) (APath.chunk 11 (by kernel_rfl) (APath.oneG (.call (some 121) 20 [.t 112, .t 113, .t 114, .t 117, .t 120]) 111 true (by kernel_rfl) (by kernel_rfl) (st_call (by kernel_rfl) (law30_sends_ok N r3 (w64 (1 + (w64 ((Int.tmod a1_ 5))))) (w64 (84 + (w64 (a2_)))) (w64 ((w64 (a3_)) - m6)) (w64 (m4 + m6)) r1021 hr1021)) (APath.chunk 1 (by kernel_rfl) (APath.oneG (.val 123 (.bin .geq) [.t 121, .t 122]) 111 true (by kernel_rfl) (by kernel_rfl) (st_bool (c := (decide (r1021 ≥ r5))) (by kernel_rfl) hc1022) (APath.chunk 9 (by kernel_rfl) (APath.oneG (.call (some 133) 20 [.t 126, .t 127, .t 128, .t 129, .t 132]) 125 true (by kernel_rfl) (by kernel_rfl) (st_call (by kernel_rfl) (law30_sends_ok N r3 (w64 (1 + (w64 ((Int.tmod a1_ 5))))) (w64 (84 + (w64 (a2_)))) (w64 (a3_)) (w64 (m4 + m7)) r1023 hr1023)) (APath.chunk 1 (by kernel_rfl) (APath.oneG (.val 135 (.bin .geq) [.t 133, .t 134]) 125 true (by kernel_rfl) (by kernel_rfl) (st_bool (c := (decide (r1023 ≥ r5))) (by kernel_rfl) hc1024) (APath.chunk 10 (by kernel_rfl) (APath.oneG (.call (some 146) 20 [.t 138, .t 139, .t 140, .t 144, .t 145]) 137 true (by kernel_rfl) (by kernel_rfl) (st_call (by kernel_rfl) (law30_sends_ok N r3 (w64 (1 + (w64 ((Int.tmod a1_ 5))))) (w64 (84 + (w64 (a2_)))) (w64 ((w64 (a3_)) + r3.Cycle)) m4 r1025 hr1025)) (APath.fin (by kernel_rfl)))))))))))))))), (by show _ = _; kernel_rfl)⟩
                · obtain rfl := some_inj hj
                  exact ⟨_, (APath.chunk 1 (by kernel_rfl) (APath.one (.val 105 (.bin .geq) [.t 104, .k (.p (.int .i64 0))]) (by kernel_rfl) (st_bool (c := (decide (r5 ≥ 0))) (by kernel_rfl) hc1019) (APath.chunk 3 (by kernel_rfl) (APath.oneG (.val 109 (.bin .leq) [.t 107, .t 108]) 106 true (by kernel_rfl) (by kernel_rfl) (st_bool (c := (decide (r5 ≤ p1018.1))) (by kernel_rfl) hc1020) (APath.chunk 11 (by kernel_rfl) (APath.oneG (.call (some 121) 20 [.t 112, .t 113, .t 114, .t 117, .t 120]) 111 true (by kernel_rfl) (by kernel_rfl) (st_call (by kernel_rfl) (law30_sends_ok N r3 (w64 (1 + (w64 ((Int.tmod a1_ 5))))) (w64 (84 + (w64 (a2_)))) (w64 ((w64 (a3_)) - m6)) (w64 (m4 + m6)) r1021 hr1021)) (APath.chunk 1 (by kernel_rfl) (APath.oneG (.val 123 (.bin .geq) [.t 121, .t 122]) 111 true (by kernel_rfl) (by kernel_rfl) (st_bool (c := (decide (r1021 ≥ r5))) (by kernel_rfl) hc1022) (APath.chunk 9 (by kernel_rfl) (APath.oneG (.call (some 133) 20 [.t 126, .t 127, .t 128, .t 129, .t 132]) 125 true (by kernel_rfl) (by kernel_rfl) (st_call (by kernel_rfl) (law30_sends_ok N r3 (w64 (1 + (w64 ((Int.tmod a1_ 5))))) (w64 (84 + (w64 (a2_)))) (w64 (a3_)) (w64 (m4 + m7)) r1023 hr1023)) (APath.chunk 1 (by kernel_rfl) (APath.oneG (.val 135 (.bin .geq) [.t 133, .t 134]) 125 true (by kernel_rfl) (by kernel_rfl) (st_bool (c := (decide (r1023 ≥ r5))) (by kernel_rfl) hc1026) (APath.fin (by kernel_rfl)))))))))))))), (by show _ = _; kernel_rfl)⟩
              · obtain rfl := some_inj hj
                exact ⟨_, (APath.chunk 1 (by kernel_rfl) (APath.one (.val 105 (.bin .geq) [.t 104, .k (.p (.int .i64 0))]) (by kernel_rfl) (st_bool (c := (decide (r5 ≥ 0))) (by kernel_rfl) hc1019) (APath.chunk 3 (by kernel_rfl) (APath.oneG (.val 109 (.bin .leq) [.t 107, .t 108]) 106 true (by kernel_rfl) (by kernel_rfl) (st_bool (c := (decide (r5 ≤ p1018.1))) (by kernel_rfl) hc1020) (APath.chunk 11 (by kernel_rfl) (APath.oneG (.call (some 121) 20 [.t 112, .t 113, .t 114, .t 117, .t 120]) 111 true (by kernel_rfl) (by kernel_rfl) (st_call (by kernel_rfl) (law30_sends_ok N r3 (w64 (1 + (w64 ((Int.tmod a1_ 5))))) (w64 (84 + (w64 (a2_)))) (w64 ((w64 (a3_)) - m6)) (w64 (m4 + m6)) r1021 hr1021)) (APath.chunk 1 (by kernel_rfl) (APath.oneG (.val 123 (.bin .geq) [.t 121, .t 122]) 111 true (by kernel_rfl) (by kernel_rfl) (st_bool (c := (decide (r1021 ≥ r5))) (by kernel_rfl) hc1027) (APath.fin (by kernel_rfl)))))))))), (by show _ = _; kernel_rfl)⟩
            · obtain rfl := some_inj hj
              exact ⟨_, (APath.chunk 1 (by kernel_rfl) (APath.one (.val 105 (.bin .geq) [.t 104, .k (.p (.int .i64 0))]) (by kernel_rfl) (st_bool (c := (decide (r5 ≥ 0))) (by kernel_rfl) hc1019) (APath.chunk 3 (by kernel_rfl) (APath.oneG (.val 109 (.bin .leq) [.t 107, .t 108]) 106 true (by kernel_rfl) (by kernel_rfl) (st_bool (c := (decide (r5 ≤ p1018.1))) (by kernel_rfl) hc1028) (APath.fin (by kernel_rfl)))))), (by show _ = _; kernel_rfl)⟩
          · obtain rfl := some_inj hj
            exact ⟨_, (APath.chunk 1 (by kernel_rfl) (APath.one (.val 105 (.bin .geq) [.t 104, .k (.p (.int .i64 0))]) (by kernel_rfl) (st_bool (c := (decide (r5 ≥ 0))) (by kernel_rfl) hc1029) (APath.fin (by kernel_rfl)))), (by show _ = _; kernel_rfl)⟩
        · clear hj
          rintro s hR
          obtain rfl := hR
          refine vc_ret ?_
          obtain rfl := some_inj h
          exact ret_of (by kernel_rfl)
      · dsimp only at h hq
        obtain ⟨rfl, hq⟩ := hq
        obtain rfl := some_inj h
        exact hq
end Go.Sh
