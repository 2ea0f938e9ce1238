/- The law's own function; written by sym.py. -/
import Derived.Test.YtpadgoejolfllaaOk2
namespace Go.Sh
open Go Go.Eng Go.Proofs
set_option linter.unusedVariables false
set_option linter.unusedSimpArgs false
set_option maxRecDepth 100000
/- isochronlaw29.SwapMeans -/
theorem law29_SwapMeans_ok (N : Nat) (a0_ : ref29_Draft) (a1_ : Int) (a2_ : Int) (a3_ : Int) (a4_ : Int) (r : Bool) (h : law29_SwapMeans N a0_ a1_ a2_ a3_ a4_ = some r) : PCall Try.prog 7 [.agg (c_ref29_Draft a0_), .p (.int .u8 a1_), .p (.int .i16 a2_), .p (.int .u8 a3_), .p (.int .u8 a4_)] (bv r) := by
  unfold law29_SwapMeans at h
  have hH : HP ([] : List HO) [] := trivial
  refine pcall_of chk7 rfl rfl (vc_sound _ _ _ ?_) rfl
  refine vc_seq ?_
  refine vc_reg (S := ⟨[(1, .p (.int .u8 a1_)), (2, .p (.int .i16 a2_)), (3, .p (.int .u8 a3_)), (4, .p (.int .u8 a4_)), (5, .loc 5 0)], [(5, (c_ref29_Draft a0_))], []⟩) (APath.fin (by kernel_rfl)) (by kernel_rfl) ?_
  refine vc_seq ?_
  refine vc_seq ?_
  obtain ⟨r1, hr1, h⟩ := bind_some h
  refine vc_reg (S := ⟨[(1, .p (.int .u8 a1_)), (2, .p (.int .i16 a2_)), (3, .p (.int .u8 a3_)), (4, .p (.int .u8 a4_)), (5, .loc 5 0), (22, bv (!r1))], [(5, (c_ref29_Draft a0_))], []⟩) (APath.one (.call (some 21) 18 []) (by kernel_rfl) (st_call (by kernel_rfl) (law29_works_ok N  r1 hr1)) (APath.fin (by kernel_rfl))) (by kernel_rfl) ?_
  refine vc_ite (by kernel_rfl) h (fun hc2 h => ?_) (fun hc2 h => ?_)
  · refine vc_seq ?_
    refine vc_reg (S := ⟨[(10, bv false)], [], []⟩) (APath.fin (by kernel_rfl)) (by kernel_rfl) ?_
    refine vc_ret ?_
    obtain rfl := some_inj h
    exact ret_of (by kernel_rfl)
  · refine vc_skip ?_
    refine vc_kp ?_
    refine vc_seq ?_
    obtain ⟨r3, hr3, h⟩ := bind_some h
    refine vc_reg (S := ⟨[(1, .p (.int .u8 a1_)), (2, .p (.int .i16 a2_)), (3, .p (.int .u8 a3_)), (4, .p (.int .u8 a4_)), (11, .loc 11 0)], [(11, (c_api_Change r3))], []⟩) (APath.chunk 1 (by kernel_rfl) (APath.one (.call (some 24) 9 [.t 23]) (by kernel_rfl) (st_call (by kernel_rfl) (ref29_Draft_Change_ok N a0_ r3 hr3)) (APath.fin (by kernel_rfl)))) (by kernel_rfl) ?_
    refine vc_seq ?_
    refine vc_reg (S := ⟨[(2, .p (.int .i16 a2_)), (3, .p (.int .u8 a3_)), (4, .p (.int .u8 a4_)), (11, .loc 11 0), (12, iv (w64 ((Int.tmod a1_ 8))))], [(11, (c_api_Change r3))], []⟩) (APath.fin (by kernel_rfl)) (by kernel_rfl) ?_
    refine vc_seq ?_
    refine vc_seq ?_
    refine vc_reg (S := ⟨[(4, .p (.int .u8 a4_)), (11, .loc 11 0), (12, iv (w64 ((Int.tmod a1_ 8)))), (36, .agg [iv (w64 (a2_)), iv (w64 (r3.When - (w64 ((Int.tmod a3_ 40)))))]), (37, iv 0)], [(11, (c_api_Change r3))], []⟩) (APath.fin (by kernel_rfl)) (by kernel_rfl) ?_
    refine vc_block ?_
    refine vc_unroll 14 ?_
    refine unr_step ?_
    refine vc_seq ?_
    refine vc_reg (S := ⟨[(4, .p (.int .u8 a4_)), (11, .loc 11 0), (12, iv (w64 ((Int.tmod a1_ 8)))), (36, .agg [iv (w64 (a2_)), iv (w64 (r3.When - (w64 ((Int.tmod a3_ 40)))))]), (37, iv 0), (38, bv true)], [(11, (c_api_Change r3))], []⟩) (APath.fin (by kernel_rfl)) (by kernel_rfl) ?_
    refine vc_seq ?_
    refine vc_true (by kernel_rfl) ?_
    refine vc_skip ?_
    refine vc_kp ?_
    refine vc_seq ?_
    refine vc_block ?_
    refine vc_seq ?_
    refine vc_reg (S := ⟨[(4, .p (.int .u8 a4_)), (11, .loc 11 0), (12, iv (w64 ((Int.tmod a1_ 8)))), (14, iv (w64 (a2_))), (36, .agg [iv (w64 (a2_)), iv (w64 (r3.When - (w64 ((Int.tmod a3_ 40)))))]), (37, iv 0)], [(11, (c_api_Change r3))], []⟩) (APath.fin (by kernel_rfl)) (by kernel_rfl) ?_
    refine vc_seq ?_
    refine vc_reg (S := ⟨[(4, .p (.int .u8 a4_)), (11, .loc 11 0), (12, iv (w64 ((Int.tmod a1_ 8)))), (14, iv (w64 (a2_))), (15, iv (if (w64 (4 * r3.Oper.Cycle)) < (w64 ((Int.tmod a4_ 60))) then (w64 (4 * r3.Oper.Cycle)) else (w64 ((Int.tmod a4_ 60))))), (36, .agg [iv (w64 (a2_)), iv (w64 (r3.When - (w64 ((Int.tmod a3_ 40)))))]), (37, iv 0)], [(11, (c_api_Change r3))], []⟩) (APath.fin (by kernel_rfl)) (by kernel_rfl) ?_
    refine vc_seq ?_
    refine vc_reg (S := ⟨[(4, .p (.int .u8 a4_)), (11, .loc 11 0), (12, iv (w64 ((Int.tmod a1_ 8)))), (14, iv (w64 (a2_))), (15, iv (if (w64 (4 * r3.Oper.Cycle)) < (w64 ((Int.tmod a4_ 60))) then (w64 (4 * r3.Oper.Cycle)) else (w64 ((Int.tmod a4_ 60))))), (16, bv true), (36, .agg [iv (w64 (a2_)), iv (w64 (r3.When - (w64 ((Int.tmod a3_ 40)))))]), (37, iv 0)], [(11, (c_api_Change r3))], []⟩) (APath.fin (by kernel_rfl)) (by kernel_rfl) ?_
    refine vc_seq ?_
    refine vc_seq ?_
    refine vc_reg (S := ⟨[(4, .p (.int .u8 a4_)), (11, .loc 11 0), (12, iv (w64 ((Int.tmod a1_ 8)))), (14, iv (w64 (a2_))), (15, iv (if (w64 (4 * r3.Oper.Cycle)) < (w64 ((Int.tmod a4_ 60))) then (w64 (4 * r3.Oper.Cycle)) else (w64 ((Int.tmod a4_ 60))))), (16, bv true), (17, iv 0), (36, .agg [iv (w64 (a2_)), iv (w64 (r3.When - (w64 ((Int.tmod a3_ 40)))))]), (37, iv 0)], [(11, (c_api_Change r3))], []⟩) (APath.fin (by kernel_rfl)) (by kernel_rfl) ?_
    refine vc_block ?_
    obtain ⟨o515, ho515, h⟩ := bind_some h
    refine vc_loop ((loop_sim (fun (x : Bool × Int) s => s = ⟨[(4, .p (.int .u8 a4_)), (11, .loc 11 0), (12, iv (w64 ((Int.tmod a1_ 8)))), (14, iv (w64 (a2_))), (15, iv (if (w64 (4 * r3.Oper.Cycle)) < (w64 ((Int.tmod a4_ 60))) then (w64 (4 * r3.Oper.Cycle)) else (w64 ((Int.tmod a4_ 60))))), (16, bv x.1), (17, iv x.2), (36, .agg [iv (w64 (a2_)), iv (w64 (r3.When - (w64 ((Int.tmod a3_ 40)))))]), (37, iv 0)], [(11, (c_api_Change r3))], []⟩) (fun x : Bool × Int => law29_SwapMeans_L1 N a1_ a2_ a4_ r3 x.1 x.2) (fun (p : (Bool × Int) ⊕ (Bool)) e s => match p with | (.inl p) => e = .exit 2 ∧ (s = ⟨[(4, .p (.int .u8 a4_)), (11, .loc 11 0), (12, iv (w64 ((Int.tmod a1_ 8)))), (14, iv (w64 (a2_))), (15, iv (if (w64 (4 * r3.Oper.Cycle)) < (w64 ((Int.tmod a4_ 60))) then (w64 (4 * r3.Oper.Cycle)) else (w64 ((Int.tmod a4_ 60))))), (16, bv p.1), (17, iv p.2), (36, .agg [iv (w64 (a2_)), iv (w64 (r3.When - (w64 ((Int.tmod a3_ 40)))))]), (37, iv 0)], [(11, (c_api_Change r3))], []⟩) | (.inr p) => e = .ret ∧ ∃ xs, resL s i7.res = some xs ∧ tupOf xs = bv p) ?_ N _ o515 _ ho515 (by show _ = _; kernel_rfl)).mono ?_)
    · clear h ho515
      rintro ⟨b4, i5⟩ o s h hR
      obtain rfl := hR
      replace h : law29_SwapMeans_L1 N a1_ a2_ a4_ r3 b4 i5 = some o := h
      unfold law29_SwapMeans_L1 at h
      refine vc_seq ?_
      refine vc_seq ?_
      refine vc_reg (S := ⟨[(4, .p (.int .u8 a4_)), (11, .loc 11 0), (12, iv (w64 ((Int.tmod a1_ 8)))), (14, iv (w64 (a2_))), (15, iv (if (w64 (4 * r3.Oper.Cycle)) < (w64 ((Int.tmod a4_ 60))) then (w64 (4 * r3.Oper.Cycle)) else (w64 ((Int.tmod a4_ 60))))), (16, bv b4), (17, iv i5), (36, .agg [iv (w64 (a2_)), iv (w64 (r3.When - (w64 ((Int.tmod a3_ 40)))))]), (37, iv 0), (50, bv (decide (i5 < (if (w64 (4 * r3.Oper.Cycle)) < (w64 ((Int.tmod a4_ 60))) then (w64 (4 * r3.Oper.Cycle)) else (w64 ((Int.tmod a4_ 60)))))))], [(11, (c_api_Change r3))], []⟩) (APath.fin (by kernel_rfl)) (by kernel_rfl) ?_
      refine vc_ite (by kernel_rfl) h (fun hc506 h => ?_) (fun hc506 h => ?_)
      · refine vc_skip ?_
        refine vc_kp ?_
        refine vc_seq ?_
        refine vc_block ?_
        refine vc_seq ?_
        obtain ⟨r507, hr507, h⟩ := bind_some h
        refine vc_reg (S := ⟨[(4, .p (.int .u8 a4_)), (11, .loc 11 0), (12, iv (w64 ((Int.tmod a1_ 8)))), (14, iv (w64 (a2_))), (15, iv (if (w64 (4 * r3.Oper.Cycle)) < (w64 ((Int.tmod a4_ 60))) then (w64 (4 * r3.Oper.Cycle)) else (w64 ((Int.tmod a4_ 60))))), (16, bv b4), (17, iv i5), (18, iv r507), (36, .agg [iv (w64 (a2_)), iv (w64 (r3.When - (w64 ((Int.tmod a3_ 40)))))]), (37, iv 0)], [(11, (c_api_Change r3))], []⟩) (APath.chunk 4 (by kernel_rfl) (APath.one (.call (some 57) 26 [.t 53, .t 56]) (by kernel_rfl) (st_call (by kernel_rfl) (law29_mask_ok N r3 (w64 ((w64 (a2_)) + i5)) r507 hr507)) (APath.fin (by kernel_rfl)))) (by kernel_rfl) ?_
        refine vc_seq ?_
        refine vc_seq ?_
        refine vc_reg (S := ⟨[(4, .p (.int .u8 a4_)), (11, .loc 11 0), (12, iv (w64 ((Int.tmod a1_ 8)))), (14, iv (w64 (a2_))), (15, iv (if (w64 (4 * r3.Oper.Cycle)) < (w64 ((Int.tmod a4_ 60))) then (w64 (4 * r3.Oper.Cycle)) else (w64 ((Int.tmod a4_ 60))))), (16, bv b4), (17, iv i5), (18, iv r507), (36, .agg [iv (w64 (a2_)), iv (w64 (r3.When - (w64 ((Int.tmod a3_ 40)))))]), (37, iv 0), (59, bv (decide (r507 < 0)))], [(11, (c_api_Change r3))], []⟩) (APath.fin (by kernel_rfl)) (by kernel_rfl) ?_
        refine vc_ite (by kernel_rfl) h (fun hc508 h => ?_) (fun hc508 h => ?_)
        · refine vc_seq ?_
          refine vc_reg (S := ⟨[(10, bv false)], [], []⟩) (APath.fin (by kernel_rfl)) (by kernel_rfl) ?_
          refine vc_ret ?_
          obtain rfl := some_inj h
          exact ⟨_, rfl, rfl, ret_of (by kernel_rfl)⟩
        · refine vc_skip ?_
          refine vc_kp ?_
          obtain ⟨j514, hj, h⟩ := bind_some h
          refine vc_regXR (fun s => s = ⟨[(4, .p (.int .u8 a4_)), (11, .loc 11 0), (12, iv (w64 ((Int.tmod a1_ 8)))), (14, iv (w64 (a2_))), (15, iv (if (w64 (4 * r3.Oper.Cycle)) < (w64 ((Int.tmod a4_ 60))) then (w64 (4 * r3.Oper.Cycle)) else (w64 ((Int.tmod a4_ 60))))), (16, bv j514), (17, iv i5), (36, .agg [iv (w64 (a2_)), iv (w64 (r3.When - (w64 ((Int.tmod a3_ 40)))))]), (37, iv 0)], [(11, (c_api_Change r3))], []⟩) ?_ ?_
          · clear h
            rcases ite_some hj with ⟨hc509, hj⟩ | ⟨hc513, hj⟩
            · obtain ⟨sh510, hsh510, hj⟩ := bind_some hj
              rcases ite_some hj with ⟨hc511, hj⟩ | ⟨hc512, hj⟩
              · obtain rfl := some_inj hj
                exact ⟨_, (APath.one (.val 60 .mov [.t 16]) (by kernel_rfl) (st_bool (c := b4) (by kernel_rfl) hc509) (APath.chunk 4 (by kernel_rfl) (APath.oneG (.val 65 (.sh .shr) [.t 62, .t 64]) 61 true (by kernel_rfl) (by kernel_rfl) (st_val (ys := [iv r507, .p (.int .u64 (IntKind.u64.wrap ((w64 ((Int.tmod a1_ 8))))))]) (by kernel_rfl) (vexec_shr hsh510)) (APath.chunk 3 (by kernel_rfl) (APath.one (.val 16 .mov [.t 68]) (by kernel_rfl) (st_bool (c := ((andI .i64 sh510 1) == 1)) (by kernel_rfl) hc511) APath.done))))), (by show _ = _; kernel_rfl)⟩
              · obtain rfl := some_inj hj
                exact ⟨_, (APath.one (.val 60 .mov [.t 16]) (by kernel_rfl) (st_bool (c := b4) (by kernel_rfl) hc509) (APath.chunk 4 (by kernel_rfl) (APath.oneG (.val 65 (.sh .shr) [.t 62, .t 64]) 61 true (by kernel_rfl) (by kernel_rfl) (st_val (ys := [iv r507, .p (.int .u64 (IntKind.u64.wrap ((w64 ((Int.tmod a1_ 8))))))]) (by kernel_rfl) (vexec_shr hsh510)) (APath.chunk 3 (by kernel_rfl) (APath.one (.val 16 .mov [.t 68]) (by kernel_rfl) (st_bool (c := ((andI .i64 sh510 1) == 1)) (by kernel_rfl) hc512) APath.done))))), (by show _ = _; kernel_rfl)⟩
            · obtain rfl := some_inj hj
              exact ⟨_, (APath.one (.val 60 .mov [.t 16]) (by kernel_rfl) (st_bool (c := b4) (by kernel_rfl) hc513) (APath.fin (by kernel_rfl))), (by show _ = _; kernel_rfl)⟩
          · clear hj
            rintro s hR
            obtain rfl := hR
            refine vc_kp ?_
            refine vc_reg (S := ⟨[(4, .p (.int .u8 a4_)), (11, .loc 11 0), (12, iv (w64 ((Int.tmod a1_ 8)))), (14, iv (w64 (a2_))), (15, iv (if (w64 (4 * r3.Oper.Cycle)) < (w64 ((Int.tmod a4_ 60))) then (w64 (4 * r3.Oper.Cycle)) else (w64 ((Int.tmod a4_ 60))))), (16, bv j514), (17, iv (w64 (i5 + 1))), (36, .agg [iv (w64 (a2_)), iv (w64 (r3.When - (w64 ((Int.tmod a3_ 40)))))]), (37, iv 0)], [(11, (c_api_Change r3))], []⟩) (APath.fin (by kernel_rfl)) (by kernel_rfl) ?_
            obtain rfl := some_inj h
            exact ⟨_, rfl, (by show _ = _; kernel_rfl)⟩
      · refine vc_exit ?_
        try show vc _ _ _ _ _
        obtain rfl := some_inj h
        exact ⟨_, rfl, rfl, (by show _ = _; kernel_rfl)⟩
    · rintro e s hq
      rcases o515 with p516 | p1053
      · dsimp only at h hq
        obtain ⟨rfl, hR⟩ := hq
        obtain rfl := hR
        try show vc _ _ _ _ _
        refine vc_seq ?_
        obtain ⟨r517, hr517, h⟩ := bind_some h
        refine vc_reg (S := ⟨[(4, .p (.int .u8 a4_)), (11, .loc 11 0), (12, iv (w64 ((Int.tmod a1_ 8)))), (14, iv (w64 (a2_))), (15, iv (if (w64 (4 * r3.Oper.Cycle)) < (w64 ((Int.tmod a4_ 60))) then (w64 (4 * r3.Oper.Cycle)) else (w64 ((Int.tmod a4_ 60))))), (16, bv p516.1), (19, .loc 19 0), (20, iv r517.2), (36, .agg [iv (w64 (a2_)), iv (w64 (r3.When - (w64 ((Int.tmod a3_ 40)))))]), (37, iv 0)], [(11, (c_api_Change r3)), (19, (c_api_Change r517.1))], []⟩) (APath.chunk 2 (by kernel_rfl) (APath.one (.call (some 72) 19 [.t 70, .t 71]) (by kernel_rfl) (st_call (by kernel_rfl) (swap_Advance_ok N r3 (w64 (a2_)) r517 hr517)) (APath.fin (by kernel_rfl)))) (by kernel_rfl) ?_
        refine vc_seq ?_
        obtain ⟨j526, hj, h⟩ := bind_some h
        refine vc_regXR (fun s => s = ⟨[(4, .p (.int .u8 a4_)), (11, .loc 11 0), (12, iv (w64 ((Int.tmod a1_ 8)))), (36, .agg [iv (w64 (a2_)), iv (w64 (r3.When - (w64 ((Int.tmod a3_ 40)))))]), (37, iv 0), (102, bv j526)], [(11, (c_api_Change r3))], []⟩) ?_ ?_
        · clear h
          rcases ite_some hj with ⟨hc518, hj⟩ | ⟨hc519, hj⟩
          · obtain rfl := some_inj hj
            exact ⟨_, (APath.chunk 1 (by kernel_rfl) (APath.one (.val 76 (.bin .neq) [.t 75, .k (.p (.int .i64 0))]) (by kernel_rfl) (st_bool (c := (r517.2 != 0)) (by kernel_rfl) hc518) (APath.fin (by kernel_rfl)))), (by show _ = _; kernel_rfl)⟩
          · obtain ⟨r520, hr520, hj⟩ := bind_some hj
            rcases ite_some hj with ⟨hc521, hj⟩ | ⟨hc522, hj⟩
            · obtain rfl := some_inj hj
              exact ⟨_, (APath.chunk 1 (by kernel_rfl) (APath.one (.val 76 (.bin .neq) [.t 75, .k (.p (.int .i64 0))]) (by kernel_rfl) (st_bool (c := (r517.2 != 0)) (by kernel_rfl) hc519) (APath.chunk 5 (by kernel_rfl) (APath.oneG (.call (some 82) 27 [.t 78, .t 79, .t 80, .t 81]) 77 false (by kernel_rfl) (by kernel_rfl) (st_call (by kernel_rfl) (law29_fits_ok N r3 (w64 ((Int.tmod a1_ 8))) (w64 (a2_)) (if (w64 (4 * r3.Oper.Cycle)) < (w64 ((Int.tmod a4_ 60))) then (w64 (4 * r3.Oper.Cycle)) else (w64 ((Int.tmod a4_ 60)))) r520 hr520)) (APath.chunk 1 (by kernel_rfl) (APath.oneG (.val 84 (.eqB true) [.t 82, .t 83]) 77 false (by kernel_rfl) (by kernel_rfl) (st_bool (c := (r520 != p516.1)) (by kernel_rfl) hc521) (APath.fin (by kernel_rfl)))))))), (by show _ = _; kernel_rfl)⟩
            · rcases ite_some hj with ⟨hc523, hj⟩ | ⟨hc525, hj⟩
              · obtain ⟨r524, hr524, hj⟩ := bind_some hj
                obtain rfl := some_inj hj
                exact ⟨_, (APath.chunk 1 (by kernel_rfl) (APath.one (.val 76 (.bin .neq) [.t 75, .k (.p (.int .i64 0))]) (by kernel_rfl) (st_bool (c := (r517.2 != 0)) (by kernel_rfl) hc519) (APath.chunk 5 (by kernel_rfl) (APath.oneG (.call (some 82) 27 [.t 78, .t 79, .t 80, .t 81]) 77 false (by kernel_rfl) (by kernel_rfl) (st_call (by kernel_rfl) (law29_fits_ok N r3 (w64 ((Int.tmod a1_ 8))) (w64 (a2_)) (if (w64 (4 * r3.Oper.Cycle)) < (w64 ((Int.tmod a4_ 60))) then (w64 (4 * r3.Oper.Cycle)) else (w64 ((Int.tmod a4_ 60)))) r520 hr520)) (APath.chunk 1 (by kernel_rfl) (APath.oneG (.val 84 (.eqB true) [.t 82, .t 83]) 77 false (by kernel_rfl) (by kernel_rfl) (st_bool (c := (r520 != p516.1)) (by kernel_rfl) hc522) (APath.chunk 7 (by kernel_rfl) (APath.oneG (.val 92 (.bin .leq) [.t 87, .t 91]) 86 false (by kernel_rfl) (by kernel_rfl) (st_bool (c := (decide ((if (w64 (4 * r3.Oper.Cycle)) < (w64 ((Int.tmod a4_ 60))) then (w64 (4 * r3.Oper.Cycle)) else (w64 ((Int.tmod a4_ 60)))) ≤ (w64 (4 * r517.1.Oper.Cycle))))) (by kernel_rfl) hc523) (APath.chunk 5 (by kernel_rfl) (APath.oneG (.call (some 98) 27 [.t 94, .t 95, .t 96, .t 97]) 93 true (by kernel_rfl) (by kernel_rfl) (st_call (by kernel_rfl) (law29_fits_ok N r517.1 (w64 ((Int.tmod a1_ 8))) (w64 (a2_)) (if (w64 (4 * r3.Oper.Cycle)) < (w64 ((Int.tmod a4_ 60))) then (w64 (4 * r3.Oper.Cycle)) else (w64 ((Int.tmod a4_ 60)))) r524 hr524)) (APath.fin (by kernel_rfl)))))))))))), (by show _ = _; kernel_rfl)⟩
              · obtain rfl := some_inj hj
                exact ⟨_, (APath.chunk 1 (by kernel_rfl) (APath.one (.val 76 (.bin .neq) [.t 75, .k (.p (.int .i64 0))]) (by kernel_rfl) (st_bool (c := (r517.2 != 0)) (by kernel_rfl) hc519) (APath.chunk 5 (by kernel_rfl) (APath.oneG (.call (some 82) 27 [.t 78, .t 79, .t 80, .t 81]) 77 false (by kernel_rfl) (by kernel_rfl) (st_call (by kernel_rfl) (law29_fits_ok N r3 (w64 ((Int.tmod a1_ 8))) (w64 (a2_)) (if (w64 (4 * r3.Oper.Cycle)) < (w64 ((Int.tmod a4_ 60))) then (w64 (4 * r3.Oper.Cycle)) else (w64 ((Int.tmod a4_ 60)))) r520 hr520)) (APath.chunk 1 (by kernel_rfl) (APath.oneG (.val 84 (.eqB true) [.t 82, .t 83]) 77 false (by kernel_rfl) (by kernel_rfl) (st_bool (c := (r520 != p516.1)) (by kernel_rfl) hc522) (APath.chunk 7 (by kernel_rfl) (APath.oneG (.val 92 (.bin .leq) [.t 87, .t 91]) 86 false (by kernel_rfl) (by kernel_rfl) (st_bool (c := (decide ((if (w64 (4 * r3.Oper.Cycle)) < (w64 ((Int.tmod a4_ 60))) then (w64 (4 * r3.Oper.Cycle)) else (w64 ((Int.tmod a4_ 60)))) ≤ (w64 (4 * r517.1.Oper.Cycle))))) (by kernel_rfl) hc525) (APath.fin (by kernel_rfl)))))))))), (by show _ = _; kernel_rfl)⟩
        · clear hj
          rintro s hR
          obtain rfl := hR
          refine vc_ite (by kernel_rfl) h (fun hc527 h => ?_) (fun hc527 h => ?_)
          · refine vc_seq ?_
            refine vc_reg (S := ⟨[(10, bv false)], [], []⟩) (APath.fin (by kernel_rfl)) (by kernel_rfl) ?_
            refine vc_ret ?_
            obtain rfl := some_inj h
            exact ret_of (by kernel_rfl)
          · refine vc_skip ?_
            refine vc_kp ?_
            refine vc_reg (S := ⟨[(4, .p (.int .u8 a4_)), (11, .loc 11 0), (12, iv (w64 ((Int.tmod a1_ 8)))), (36, .agg [iv (w64 (a2_)), iv (w64 (r3.When - (w64 ((Int.tmod a3_ 40)))))]), (37, iv 1)], [(11, (c_api_Change r3))], []⟩) (APath.fin (by kernel_rfl)) (by kernel_rfl) ?_
            refine unr_step ?_
            refine vc_seq ?_
            refine vc_reg (S := ⟨[(4, .p (.int .u8 a4_)), (11, .loc 11 0), (12, iv (w64 ((Int.tmod a1_ 8)))), (36, .agg [iv (w64 (a2_)), iv (w64 (r3.When - (w64 ((Int.tmod a3_ 40)))))]), (37, iv 1), (38, bv true)], [(11, (c_api_Change r3))], []⟩) (APath.fin (by kernel_rfl)) (by kernel_rfl) ?_
            refine vc_seq ?_
            refine vc_true (by kernel_rfl) ?_
            refine vc_skip ?_
            refine vc_kp ?_
            refine vc_seq ?_
            refine vc_block ?_
            refine vc_seq ?_
            refine vc_reg (S := ⟨[(4, .p (.int .u8 a4_)), (11, .loc 11 0), (12, iv (w64 ((Int.tmod a1_ 8)))), (14, iv (w64 (r3.When - (w64 ((Int.tmod a3_ 40)))))), (36, .agg [iv (w64 (a2_)), iv (w64 (r3.When - (w64 ((Int.tmod a3_ 40)))))]), (37, iv 1)], [(11, (c_api_Change r3))], []⟩) (APath.fin (by kernel_rfl)) (by kernel_rfl) ?_
            refine vc_seq ?_
            refine vc_reg (S := ⟨[(4, .p (.int .u8 a4_)), (11, .loc 11 0), (12, iv (w64 ((Int.tmod a1_ 8)))), (14, iv (w64 (r3.When - (w64 ((Int.tmod a3_ 40)))))), (15, iv (if (w64 (4 * r3.Oper.Cycle)) < (w64 ((Int.tmod a4_ 60))) then (w64 (4 * r3.Oper.Cycle)) else (w64 ((Int.tmod a4_ 60))))), (36, .agg [iv (w64 (a2_)), iv (w64 (r3.When - (w64 ((Int.tmod a3_ 40)))))]), (37, iv 1)], [(11, (c_api_Change r3))], []⟩) (APath.fin (by kernel_rfl)) (by kernel_rfl) ?_
            refine vc_seq ?_
            refine vc_reg (S := ⟨[(4, .p (.int .u8 a4_)), (11, .loc 11 0), (12, iv (w64 ((Int.tmod a1_ 8)))), (14, iv (w64 (r3.When - (w64 ((Int.tmod a3_ 40)))))), (15, iv (if (w64 (4 * r3.Oper.Cycle)) < (w64 ((Int.tmod a4_ 60))) then (w64 (4 * r3.Oper.Cycle)) else (w64 ((Int.tmod a4_ 60))))), (16, bv true), (36, .agg [iv (w64 (a2_)), iv (w64 (r3.When - (w64 ((Int.tmod a3_ 40)))))]), (37, iv 1)], [(11, (c_api_Change r3))], []⟩) (APath.fin (by kernel_rfl)) (by kernel_rfl) ?_
            refine vc_seq ?_
            refine vc_seq ?_
            refine vc_reg (S := ⟨[(4, .p (.int .u8 a4_)), (11, .loc 11 0), (12, iv (w64 ((Int.tmod a1_ 8)))), (14, iv (w64 (r3.When - (w64 ((Int.tmod a3_ 40)))))), (15, iv (if (w64 (4 * r3.Oper.Cycle)) < (w64 ((Int.tmod a4_ 60))) then (w64 (4 * r3.Oper.Cycle)) else (w64 ((Int.tmod a4_ 60))))), (16, bv true), (17, iv 0), (36, .agg [iv (w64 (a2_)), iv (w64 (r3.When - (w64 ((Int.tmod a3_ 40)))))]), (37, iv 1)], [(11, (c_api_Change r3))], []⟩) (APath.fin (by kernel_rfl)) (by kernel_rfl) ?_
            refine vc_block ?_
            obtain ⟨o1039, ho1039, h⟩ := bind_some h
            refine vc_loop ((loop_sim (fun (x : Bool × Int) s => s = ⟨[(4, .p (.int .u8 a4_)), (11, .loc 11 0), (12, iv (w64 ((Int.tmod a1_ 8)))), (14, iv (w64 (r3.When - (w64 ((Int.tmod a3_ 40)))))), (15, iv (if (w64 (4 * r3.Oper.Cycle)) < (w64 ((Int.tmod a4_ 60))) then (w64 (4 * r3.Oper.Cycle)) else (w64 ((Int.tmod a4_ 60))))), (16, bv x.1), (17, iv x.2), (36, .agg [iv (w64 (a2_)), iv (w64 (r3.When - (w64 ((Int.tmod a3_ 40)))))]), (37, iv 1)], [(11, (c_api_Change r3))], []⟩) (fun x : Bool × Int => law29_SwapMeans_L2 N a1_ a3_ a4_ r3 x.1 x.2) (fun (p : (Bool × Int) ⊕ (Bool)) e s => match p with | (.inl p) => e = .exit 2 ∧ (s = ⟨[(4, .p (.int .u8 a4_)), (11, .loc 11 0), (12, iv (w64 ((Int.tmod a1_ 8)))), (14, iv (w64 (r3.When - (w64 ((Int.tmod a3_ 40)))))), (15, iv (if (w64 (4 * r3.Oper.Cycle)) < (w64 ((Int.tmod a4_ 60))) then (w64 (4 * r3.Oper.Cycle)) else (w64 ((Int.tmod a4_ 60))))), (16, bv p.1), (17, iv p.2), (36, .agg [iv (w64 (a2_)), iv (w64 (r3.When - (w64 ((Int.tmod a3_ 40)))))]), (37, iv 1)], [(11, (c_api_Change r3))], []⟩) | (.inr p) => e = .ret ∧ ∃ xs, resL s i7.res = some xs ∧ tupOf xs = bv p) ?_ N _ o1039 _ ho1039 (by show _ = _; kernel_rfl)).mono ?_)
            · clear h ho1039
              rintro ⟨b528, i529⟩ o s h hR
              obtain rfl := hR
              replace h : law29_SwapMeans_L2 N a1_ a3_ a4_ r3 b528 i529 = some o := h
              unfold law29_SwapMeans_L2 at h
              refine vc_seq ?_
              refine vc_seq ?_
              refine vc_reg (S := ⟨[(4, .p (.int .u8 a4_)), (11, .loc 11 0), (12, iv (w64 ((Int.tmod a1_ 8)))), (14, iv (w64 (r3.When - (w64 ((Int.tmod a3_ 40)))))), (15, iv (if (w64 (4 * r3.Oper.Cycle)) < (w64 ((Int.tmod a4_ 60))) then (w64 (4 * r3.Oper.Cycle)) else (w64 ((Int.tmod a4_ 60))))), (16, bv b528), (17, iv i529), (36, .agg [iv (w64 (a2_)), iv (w64 (r3.When - (w64 ((Int.tmod a3_ 40)))))]), (37, iv 1), (50, bv (decide (i529 < (if (w64 (4 * r3.Oper.Cycle)) < (w64 ((Int.tmod a4_ 60))) then (w64 (4 * r3.Oper.Cycle)) else (w64 ((Int.tmod a4_ 60)))))))], [(11, (c_api_Change r3))], []⟩) (APath.fin (by kernel_rfl)) (by kernel_rfl) ?_
              refine vc_ite (by kernel_rfl) h (fun hc1030 h => ?_) (fun hc1030 h => ?_)
              · refine vc_skip ?_
                refine vc_kp ?_
                refine vc_seq ?_
                refine vc_block ?_
                refine vc_seq ?_
                obtain ⟨r1031, hr1031, h⟩ := bind_some h
                refine vc_reg (S := ⟨[(4, .p (.int .u8 a4_)), (11, .loc 11 0), (12, iv (w64 ((Int.tmod a1_ 8)))), (14, iv (w64 (r3.When - (w64 ((Int.tmod a3_ 40)))))), (15, iv (if (w64 (4 * r3.Oper.Cycle)) < (w64 ((Int.tmod a4_ 60))) then (w64 (4 * r3.Oper.Cycle)) else (w64 ((Int.tmod a4_ 60))))), (16, bv b528), (17, iv i529), (18, iv r1031), (36, .agg [iv (w64 (a2_)), iv (w64 (r3.When - (w64 ((Int.tmod a3_ 40)))))]), (37, iv 1)], [(11, (c_api_Change r3))], []⟩) (APath.chunk 4 (by kernel_rfl) (APath.one (.call (some 57) 26 [.t 53, .t 56]) (by kernel_rfl) (st_call (by kernel_rfl) (law29_mask_ok N r3 (w64 ((w64 (r3.When - (w64 ((Int.tmod a3_ 40))))) + i529)) r1031 hr1031)) (APath.fin (by kernel_rfl)))) (by kernel_rfl) ?_
                refine vc_seq ?_
                refine vc_seq ?_
                refine vc_reg (S := ⟨[(4, .p (.int .u8 a4_)), (11, .loc 11 0), (12, iv (w64 ((Int.tmod a1_ 8)))), (14, iv (w64 (r3.When - (w64 ((Int.tmod a3_ 40)))))), (15, iv (if (w64 (4 * r3.Oper.Cycle)) < (w64 ((Int.tmod a4_ 60))) then (w64 (4 * r3.Oper.Cycle)) else (w64 ((Int.tmod a4_ 60))))), (16, bv b528), (17, iv i529), (18, iv r1031), (36, .agg [iv (w64 (a2_)), iv (w64 (r3.When - (w64 ((Int.tmod a3_ 40)))))]), (37, iv 1), (59, bv (decide (r1031 < 0)))], [(11, (c_api_Change r3))], []⟩) (APath.fin (by kernel_rfl)) (by kernel_rfl) ?_
                refine vc_ite (by kernel_rfl) h (fun hc1032 h => ?_) (fun hc1032 h => ?_)
                · refine vc_seq ?_
                  refine vc_reg (S := ⟨[(10, bv false)], [], []⟩) (APath.fin (by kernel_rfl)) (by kernel_rfl) ?_
                  refine vc_ret ?_
                  obtain rfl := some_inj h
                  exact ⟨_, rfl, rfl, ret_of (by kernel_rfl)⟩
                · refine vc_skip ?_
                  refine vc_kp ?_
                  obtain ⟨j1038, hj, h⟩ := bind_some h
                  refine vc_regXR (fun s => s = ⟨[(4, .p (.int .u8 a4_)), (11, .loc 11 0), (12, iv (w64 ((Int.tmod a1_ 8)))), (14, iv (w64 (r3.When - (w64 ((Int.tmod a3_ 40)))))), (15, iv (if (w64 (4 * r3.Oper.Cycle)) < (w64 ((Int.tmod a4_ 60))) then (w64 (4 * r3.Oper.Cycle)) else (w64 ((Int.tmod a4_ 60))))), (16, bv j1038), (17, iv i529), (36, .agg [iv (w64 (a2_)), iv (w64 (r3.When - (w64 ((Int.tmod a3_ 40)))))]), (37, iv 1)], [(11, (c_api_Change r3))], []⟩) ?_ ?_
                  · clear h
                    rcases ite_some hj with ⟨hc1033, hj⟩ | ⟨hc1037, hj⟩
                    · obtain ⟨sh1034, hsh1034, hj⟩ := bind_some hj
                      rcases ite_some hj with ⟨hc1035, hj⟩ | ⟨hc1036, hj⟩
                      · obtain rfl := some_inj hj
                        exact ⟨_, (APath.one (.val 60 .mov [.t 16]) (by kernel_rfl) (st_bool (c := b528) (by kernel_rfl) hc1033) (APath.chunk 4 (by kernel_rfl) (APath.oneG (.val 65 (.sh .shr) [.t 62, .t 64]) 61 true (by kernel_rfl) (by kernel_rfl) (st_val (ys := [iv r1031, .p (.int .u64 (IntKind.u64.wrap ((w64 ((Int.tmod a1_ 8))))))]) (by kernel_rfl) (vexec_shr hsh1034)) (APath.chunk 3 (by kernel_rfl) (APath.one (.val 16 .mov [.t 68]) (by kernel_rfl) (st_bool (c := ((andI .i64 sh1034 1) == 1)) (by kernel_rfl) hc1035) APath.done))))), (by show _ = _; kernel_rfl)⟩
                      · obtain rfl := some_inj hj
                        exact ⟨_, (APath.one (.val 60 .mov [.t 16]) (by kernel_rfl) (st_bool (c := b528) (by kernel_rfl) hc1033) (APath.chunk 4 (by kernel_rfl) (APath.oneG (.val 65 (.sh .shr) [.t 62, .t 64]) 61 true (by kernel_rfl) (by kernel_rfl) (st_val (ys := [iv r1031, .p (.int .u64 (IntKind.u64.wrap ((w64 ((Int.tmod a1_ 8))))))]) (by kernel_rfl) (vexec_shr hsh1034)) (APath.chunk 3 (by kernel_rfl) (APath.one (.val 16 .mov [.t 68]) (by kernel_rfl) (st_bool (c := ((andI .i64 sh1034 1) == 1)) (by kernel_rfl) hc1036) APath.done))))), (by show _ = _; kernel_rfl)⟩
                    · obtain rfl := some_inj hj
                      exact ⟨_, (APath.one (.val 60 .mov [.t 16]) (by kernel_rfl) (st_bool (c := b528) (by kernel_rfl) hc1037) (APath.fin (by kernel_rfl))), (by show _ = _; kernel_rfl)⟩
                  · clear hj
                    rintro s hR
                    obtain rfl := hR
                    refine vc_kp ?_
                    refine vc_reg (S := ⟨[(4, .p (.int .u8 a4_)), (11, .loc 11 0), (12, iv (w64 ((Int.tmod a1_ 8)))), (14, iv (w64 (r3.When - (w64 ((Int.tmod a3_ 40)))))), (15, iv (if (w64 (4 * r3.Oper.Cycle)) < (w64 ((Int.tmod a4_ 60))) then (w64 (4 * r3.Oper.Cycle)) else (w64 ((Int.tmod a4_ 60))))), (16, bv j1038), (17, iv (w64 (i529 + 1))), (36, .agg [iv (w64 (a2_)), iv (w64 (r3.When - (w64 ((Int.tmod a3_ 40)))))]), (37, iv 1)], [(11, (c_api_Change r3))], []⟩) (APath.fin (by kernel_rfl)) (by kernel_rfl) ?_
                    obtain rfl := some_inj h
                    exact ⟨_, rfl, (by show _ = _; kernel_rfl)⟩
              · refine vc_exit ?_
                try show vc _ _ _ _ _
                obtain rfl := some_inj h
                exact ⟨_, rfl, rfl, (by show _ = _; kernel_rfl)⟩
            · rintro e s hq
              rcases o1039 with p1040 | p1052
              · dsimp only at h hq
                obtain ⟨rfl, hR⟩ := hq
                obtain rfl := hR
                try show vc _ _ _ _ _
                refine vc_seq ?_
                obtain ⟨r1041, hr1041, h⟩ := bind_some h
                refine vc_reg (S := ⟨[(4, .p (.int .u8 a4_)), (11, .loc 11 0), (12, iv (w64 ((Int.tmod a1_ 8)))), (14, iv (w64 (r3.When - (w64 ((Int.tmod a3_ 40)))))), (15, iv (if (w64 (4 * r3.Oper.Cycle)) < (w64 ((Int.tmod a4_ 60))) then (w64 (4 * r3.Oper.Cycle)) else (w64 ((Int.tmod a4_ 60))))), (16, bv p1040.1), (19, .loc 19 0), (20, iv r1041.2), (36, .agg [iv (w64 (a2_)), iv (w64 (r3.When - (w64 ((Int.tmod a3_ 40)))))]), (37, iv 1)], [(11, (c_api_Change r3)), (19, (c_api_Change r1041.1))], []⟩) (APath.chunk 2 (by kernel_rfl) (APath.one (.call (some 72) 19 [.t 70, .t 71]) (by kernel_rfl) (st_call (by kernel_rfl) (swap_Advance_ok N r3 (w64 (r3.When - (w64 ((Int.tmod a3_ 40))))) r1041 hr1041)) (APath.fin (by kernel_rfl)))) (by kernel_rfl) ?_
                refine vc_seq ?_
                obtain ⟨j1050, hj, h⟩ := bind_some h
                refine vc_regXR (fun s => s = ⟨[(4, .p (.int .u8 a4_)), (11, .loc 11 0), (12, iv (w64 ((Int.tmod a1_ 8)))), (36, .agg [iv (w64 (a2_)), iv (w64 (r3.When - (w64 ((Int.tmod a3_ 40)))))]), (37, iv 1), (102, bv j1050)], [(11, (c_api_Change r3))], []⟩) ?_ ?_
                · clear h
                  rcases ite_some hj with ⟨hc1042, hj⟩ | ⟨hc1043, hj⟩
                  · obtain rfl := some_inj hj
                    exact ⟨_, (APath.chunk 1 (by kernel_rfl) (APath.one (.val 76 (.bin .neq) [.t 75, .k (.p (.int .i64 0))]) (by kernel_rfl) (st_bool (c := (r1041.2 != 0)) (by kernel_rfl) hc1042) (APath.fin (by kernel_rfl)))), (by show _ = _; kernel_rfl)⟩
                  · obtain ⟨r1044, hr1044, hj⟩ := bind_some hj
                    rcases ite_some hj with ⟨hc1045, hj⟩ | ⟨hc1046, hj⟩
                    · obtain rfl := some_inj hj
                      exact ⟨_, (APath.chunk 1 (by kernel_rfl) (APath.one (.val 76 (.bin .neq) [.t 75, .k (.p (.int .i64 0))]) (by kernel_rfl) (st_bool (c := (r1041.2 != 0)) (by kernel_rfl) hc1043) (APath.chunk 5 (by kernel_rfl) (APath.oneG (.call (some 82) 27 [.t 78, .t 79, .t 80, .t 81]) 77 false (by kernel_rfl) (by kernel_rfl) (st_call (by kernel_rfl) (law29_fits_ok N r3 (w64 ((Int.tmod a1_ 8))) (w64 (r3.When - (w64 ((Int.tmod a3_ 40))))) (if (w64 (4 * r3.Oper.Cycle)) < (w64 ((Int.tmod a4_ 60))) then (w64 (4 * r3.Oper.Cycle)) else (w64 ((Int.tmod a4_ 60)))) r1044 hr1044)) (APath.chunk 1 (by kernel_rfl) (APath.oneG (.val 84 (.eqB true) [.t 82, .t 83]) 77 false (by kernel_rfl) (by kernel_rfl) (st_bool (c := (r1044 != p1040.1)) (by kernel_rfl) hc1045) (APath.fin (by kernel_rfl)))))))), (by show _ = _; kernel_rfl)⟩
                    · rcases ite_some hj with ⟨hc1047, hj⟩ | ⟨hc1049, hj⟩
                      · obtain ⟨r1048, hr1048, hj⟩ := bind_some hj
                        obtain rfl := some_inj hj
                        exact ⟨_, (APath.chunk 1 (by kernel_rfl) (APath.one (.val 76 (.bin .neq) [.t 75, .k (.p (.int .i64 0))]) (by kernel_rfl) (st_bool (c := (r1041.2 != 0)) (by kernel_rfl) hc1043) (APath.chunk 5 (by kernel_rfl) (APath.oneG (.call (some 82) 27 [.t 78, .t 79, .t 80, .t 81]) 77 false (by kernel_rfl) (by kernel_rfl) (st_call (by kernel_rfl) (law29_fits_ok N r3 (w64 ((Int.tmod a1_ 8))) (w64 (r3.When - (w64 ((Int.tmod a3_ 40))))) (if (w64 (4 * r3.Oper.Cycle)) < (w64 ((Int.tmod a4_ 60))) then (w64 (4 * r3.Oper.Cycle)) else (w64 ((Int.tmod a4_ 60)))) r1044 hr1044)) (APath.chunk 1 (by kernel_rfl) (APath.oneG (.val 84 (.eqB true) [.t 82, .t 83]) 77 false (by kernel_rfl) (by kernel_rfl) (st_bool (c := (r1044 != p1040.1)) (by kernel_rfl) hc1046) (APath.chunk 7 (by kernel_rfl) (APath.oneG (.val 92 (.bin .leq) [.t 87, .t 91]) 86 false (by kernel_rfl) (by kernel_rfl) (st_bool (c := (decide ((if (w64 (4 * r3.Oper.Cycle)) < (w64 ((Int.tmod a4_ 60))) then (w64 (4 * r3.Oper.Cycle)) else (w64 ((Int.tmod a4_ 60)))) ≤ (w64 (4 * r1041.1.Oper.Cycle))))) (by kernel_rfl) hc1047) (APath.chunk 5 (by kernel_rfl) (APath.oneG (.call (some 98) 27 [.t 94, .t 95, .t 96, .t 97]) 93 true (by kernel_rfl) (by kernel_rfl) (st_call (by kernel_rfl) (law29_fits_ok N r1041.1 (w64 ((Int.tmod a1_ 8))) (w64 (r3.When - (w64 ((Int.tmod a3_ 40))))) (if (w64 (4 * r3.Oper.Cycle)) < (w64 ((Int.tmod a4_ 60))) then (w64 (4 * r3.Oper.Cycle)) else (w64 ((Int.tmod a4_ 60)))) r1048 hr1048)) (APath.fin (by kernel_rfl)))))))))))), (by show _ = _; kernel_rfl)⟩
                      · obtain rfl := some_inj hj
                        exact ⟨_, (APath.chunk 1 (by kernel_rfl) (APath.one (.val 76 (.bin .neq) [.t 75, .k (.p (.int .i64 0))]) (by kernel_rfl) (st_bool (c := (r1041.2 != 0)) (by kernel_rfl) hc1043) (APath.chunk 5 (by kernel_rfl) (APath.oneG (.call (some 82) 27 [.t 78, .t 79, .t 80, .t 81]) 77 false (by kernel_rfl) (by kernel_rfl) (st_call (by kernel_rfl) (law29_fits_ok N r3 (w64 ((Int.tmod a1_ 8))) (w64 (r3.When - (w64 ((Int.tmod a3_ 40))))) (if (w64 (4 * r3.Oper.Cycle)) < (w64 ((Int.tmod a4_ 60))) then (w64 (4 * r3.Oper.Cycle)) else (w64 ((Int.tmod a4_ 60)))) r1044 hr1044)) (APath.chunk 1 (by kernel_rfl) (APath.oneG (.val 84 (.eqB true) [.t 82, .t 83]) 77 false (by kernel_rfl) (by kernel_rfl) (st_bool (c := (r1044 != p1040.1)) (by kernel_rfl) hc1046) (APath.chunk 7 (by kernel_rfl) (APath.oneG (.val 92 (.bin .leq) [.t 87, .t 91]) 86 false (by kernel_rfl) (by kernel_rfl) (st_bool (c := (decide ((if (w64 (4 * r3.Oper.Cycle)) < (w64 ((Int.tmod a4_ 60))) then (w64 (4 * r3.Oper.Cycle)) else (w64 ((Int.tmod a4_ 60)))) ≤ (w64 (4 * r1041.1.Oper.Cycle))))) (by kernel_rfl) hc1049) (APath.fin (by kernel_rfl)))))))))), (by show _ = _; kernel_rfl)⟩
                · clear hj
                  rintro s hR
                  obtain rfl := hR
                  refine vc_ite (by kernel_rfl) h (fun hc1051 h => ?_) (fun hc1051 h => ?_)
                  · refine vc_seq ?_
                    refine vc_reg (S := ⟨[(10, bv false)], [], []⟩) (APath.fin (by kernel_rfl)) (by kernel_rfl) ?_
                    refine vc_ret ?_
                    obtain rfl := some_inj h
                    exact ret_of (by kernel_rfl)
                  · refine vc_skip ?_
                    refine vc_kp ?_
                    refine vc_reg (S := ⟨[(4, .p (.int .u8 a4_)), (11, .loc 11 0), (12, iv (w64 ((Int.tmod a1_ 8)))), (36, .agg [iv (w64 (a2_)), iv (w64 (r3.When - (w64 ((Int.tmod a3_ 40)))))]), (37, iv 2)], [(11, (c_api_Change r3))], []⟩) (APath.fin (by kernel_rfl)) (by kernel_rfl) ?_
                    refine unr_step ?_
                    refine vc_seq ?_
                    refine vc_reg (S := ⟨[(4, .p (.int .u8 a4_)), (11, .loc 11 0), (12, iv (w64 ((Int.tmod a1_ 8)))), (36, .agg [iv (w64 (a2_)), iv (w64 (r3.When - (w64 ((Int.tmod a3_ 40)))))]), (37, iv 2), (38, bv false)], [(11, (c_api_Change r3))], []⟩) (APath.fin (by kernel_rfl)) (by kernel_rfl) ?_
                    refine vc_seq ?_
                    refine vc_false (by kernel_rfl) ?_
                    refine vc_exit ?_
                    try show vc _ _ _ _ _
                    refine vc_seq ?_
                    refine vc_reg (S := ⟨[(10, bv true)], [], []⟩) (APath.fin (by kernel_rfl)) (by kernel_rfl) ?_
                    refine vc_ret ?_
                    obtain rfl := some_inj h
                    exact ret_of (by kernel_rfl)
              · dsimp only at h hq
                obtain ⟨rfl, hq⟩ := hq
                obtain rfl := some_inj h
                exact hq
      · dsimp only at h hq
        obtain ⟨rfl, hq⟩ := hq
        obtain rfl := some_inj h
        exact hq
end Go.Sh
