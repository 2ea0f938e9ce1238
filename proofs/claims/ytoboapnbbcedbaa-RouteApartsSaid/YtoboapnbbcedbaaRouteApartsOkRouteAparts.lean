/- Part of the proof; written by a program out of the texts in wip/. -/
import Derived.Test.YtoboapnbbcedbaaRouteApartsOk3
namespace Go.Sh
open Go Go.Eng Go.Proofs
set_option linter.unusedVariables false
set_option linter.unusedSimpArgs false
set_option maxRecDepth 100000
theorem law21_RouteAparts_ok (N : Nat) (a0_ : api_Topo) (a1_ : (List Int)) (a2_ : (List Int)) (r : Bool) (h : law21_RouteAparts N a0_ a1_ a2_ = some r) : PCall Try.prog 4 [.agg (c_api_Topo a0_), s_eI64 false a1_, s_eI64 false a2_] (bv r) := by
  unfold law21_RouteAparts at h
  have hH : HP ([] : List HO) [] := trivial
  refine pcall_of chk4 rfl rfl (vc_sound _ _ _ ?_) rfl
  refine vc_seq ?_
  refine vc_reg (S := ⟨[(1, s_eI64 false a1_), (2, s_eI64 false a2_), (3, .loc 3 0)], [(3, (c_api_Topo a0_))], []⟩) (APath.fin (by kernel_rfl)) (by kernel_rfl) ?_
  refine vc_seq ?_
  refine vc_seq ?_
  obtain ⟨r1, hr1, h⟩ := bind_some h
  refine vc_reg (S := ⟨[(1, s_eI64 false a1_), (2, s_eI64 false a2_), (3, .loc 3 0), (13, bv (!r1))], [(3, (c_api_Topo a0_))], []⟩) (APath.one (.call (some 12) 10 []) (by kernel_rfl) (st_call (by kernel_rfl) (law21_wakes_ok N  r1 hr1)) (APath.fin (by kernel_rfl))) (by kernel_rfl) ?_
  refine vc_ite (by kernel_rfl) h (fun hc2 h => ?_) (fun hc2 h => ?_)
  · refine vc_seq ?_
    refine vc_reg (S := ⟨[(6, bv false)], [], []⟩) (APath.fin (by kernel_rfl)) (by kernel_rfl) ?_
    refine vc_ret ?_
    obtain rfl := some_inj h
    exact ret_of (by kernel_rfl)
  · refine vc_skip ?_
    refine vc_kp ?_
    refine vc_seq ?_
    obtain ⟨r3, hr3, h⟩ := bind_some h
    refine vc_reg (S := ⟨[(1, s_eI64 false a1_), (2, s_eI64 false a2_), (3, .loc 3 0)], [(3, (c_api_Topo r3))], []⟩) (APath.chunk 1 (by kernel_rfl) (APath.one (.call (some 15) 11 [.t 14]) (by kernel_rfl) (st_call (by kernel_rfl) (law21_few_ok N a0_ r3 hr3)) (APath.fin (by kernel_rfl)))) (by kernel_rfl) ?_
    refine vc_seq ?_
    obtain ⟨r4, hr4, h⟩ := bind_some h
    obtain ⟨r5, hr5, h⟩ := bind_some h
    refine vc_reg (S := ⟨[(3, .loc 3 0), (7, s_eI64 false r4), (8, s_eI64 false r5)], [(3, (c_api_Topo r3))], []⟩) (APath.chunk 1 (by kernel_rfl) (APath.one (.call (some 17) 12 [.t 16]) (by kernel_rfl) (st_call (by kernel_rfl) (law21_cut_ok N a1_ r4 hr4)) (APath.chunk 1 (by kernel_rfl) (APath.one (.call (some 19) 12 [.t 18]) (by kernel_rfl) (st_call (by kernel_rfl) (law21_cut_ok N a2_ r5 hr5)) (APath.fin (by kernel_rfl)))))) (by kernel_rfl) ?_
    refine vc_seq ?_
    obtain ⟨r6, hr6, h⟩ := bind_some h
    refine vc_reg (S := ⟨[(3, .loc 3 0), (7, s_eI64 false r4), (8, s_eI64 false r5), (9, bv r6.1), (10, iv r6.2)], [(3, (c_api_Topo r3))], []⟩) (APath.chunk 3 (by kernel_rfl) (APath.one (.call (some 24) 26 [.t 21, .t 22, .t 23]) (by kernel_rfl) (st_call (by kernel_rfl) (route_Apart_ok N r3 r4 r5 r6 hr6)) (APath.fin (by kernel_rfl)))) (by kernel_rfl) ?_
    refine vc_seq ?_
    refine vc_seq ?_
    obtain ⟨r7, hr7, h⟩ := bind_some h
    refine vc_reg (S := ⟨[(3, .loc 3 0), (7, s_eI64 false r4), (8, s_eI64 false r5), (9, bv r6.1), (10, iv r6.2), (11, iv r7)], [(3, (c_api_Topo r3))], []⟩) (APath.chunk 4 (by kernel_rfl) (APath.one (.call (some 31) 18 [.t 27, .t 30]) (by kernel_rfl) (st_call (by kernel_rfl) (law21_want_ok N r3 ([r4, r5]) r7 hr7)) (APath.fin (by kernel_rfl)))) (by kernel_rfl) ?_
    refine vc_seq ?_
    refine vc_reg (S := ⟨[(3, .loc 3 0), (7, s_eI64 false r4), (8, s_eI64 false r5), (9, bv r6.1), (10, iv r6.2), (11, iv r7), (33, bv (r7 != 0))], [(3, (c_api_Topo r3))], []⟩) (APath.fin (by kernel_rfl)) (by kernel_rfl) ?_
    refine vc_ite (by kernel_rfl) h (fun hc8 h => ?_) (fun hc8 h => ?_)
    · refine vc_seq ?_
      refine vc_regX ⟨[(6, bv ((!r6.1) && (r6.2 == r7)))], [], []⟩ ?_ ?_
      · rcases Bool.eq_false_or_eq_true (!r6.1) with hc9 | hc10
        · exact ⟨_, (APath.chunk 1 (by kernel_rfl) (APath.one (.val 35 .not [.t 34]) (by kernel_rfl) (st_bool (c := (!r6.1)) (by kernel_rfl) hc9) (APath.fin (by kernel_rfl)))), by simp only [hc9]; kernel_rfl⟩
        · exact ⟨_, (APath.chunk 1 (by kernel_rfl) (APath.one (.val 35 .not [.t 34]) (by kernel_rfl) (st_bool (c := (!r6.1)) (by kernel_rfl) hc10) (APath.fin (by kernel_rfl)))), by simp only [hc10]; kernel_rfl⟩
      · refine vc_ret ?_
        obtain rfl := some_inj h
        exact ret_of (by kernel_rfl)
    · refine vc_skip ?_
      refine vc_kp ?_
      refine vc_seq ?_
      obtain ⟨j14, hj, h⟩ := bind_some h
      refine vc_regXR (fun s => s = ⟨[(6, bv j14)], [], []⟩) ?_ ?_
      · clear h
        rcases ite_some hj with ⟨hc11, hj⟩ | ⟨hc13, hj⟩
        · obtain ⟨r12, hr12, hj⟩ := bind_some hj
          obtain rfl := some_inj hj
          exact ⟨_, (APath.chunk 1 (by kernel_rfl) (APath.one (.val 42 (.bin .eql) [.t 41, .k (.p (.int .i64 0))]) (by kernel_rfl) (st_bool (c := (r6.2 == 0)) (by kernel_rfl) hc11) (APath.chunk 5 (by kernel_rfl) (APath.oneG (.call (some 48) 27 [.t 45, .t 46, .t 47]) 43 true (by kernel_rfl) (by kernel_rfl) (st_call (by kernel_rfl) (ref21_Apart_ok N r3 r4 r5 r12 hr12)) (APath.fin (by kernel_rfl)))))), (by show _ = _; kernel_rfl)⟩
        · obtain rfl := some_inj hj
          exact ⟨_, (APath.chunk 1 (by kernel_rfl) (APath.one (.val 42 (.bin .eql) [.t 41, .k (.p (.int .i64 0))]) (by kernel_rfl) (st_bool (c := (r6.2 == 0)) (by kernel_rfl) hc13) (APath.fin (by kernel_rfl)))), (by show _ = _; kernel_rfl)⟩
      · clear hj
        rintro s hR
        obtain rfl := hR
        refine vc_ret ?_
        obtain rfl := some_inj h
        exact ret_of (by kernel_rfl)
end Go.Sh

