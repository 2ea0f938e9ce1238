/- Part of the proof; written by a program out of the texts in wip/. -/
import Derived.Test.YtoboapnbbcedbaaRouteTurnsOk2
namespace Go.Sh
open Go Go.Eng Go.Proofs
set_option linter.unusedVariables false
set_option linter.unusedSimpArgs false
set_option maxRecDepth 100000
set_option maxHeartbeats 4000000
attribute [local irreducible] vc ev keepS opsD opsF dropX upd updH updO
theorem law21_RouteTurns_ok (N : Nat) (a0_ : ref16_Draft) (a1_ : Int) (a2_ : Int) (r : Bool) (h : law21_RouteTurns N a0_ a1_ a2_ = some r) : PCall Try.prog 9 [.agg (c_ref16_Draft a0_), .p (.int .u8 a1_), .p (.int .u8 a2_)] (bv r) := by
  unfold law21_RouteTurns at h
  have hH : HP ([] : List HO) [] := trivial
  refine pcall_of chk9 rfl rfl (vc_sound _ _ _ ?_) rfl
  refine sq (rg APath.f ?_)
  refine tq (sq ?_)
  refine sq ?_
  obtain ⟨r1, hr1, h⟩ := bs h
  refine rg (APath.v 0 (st_call (by kernel_rfl) (law21_wakes_ok N  r1 hr1)) APath.f) (tq ?_)
  refine it h (fun hc2 h => ?_) (fun hc2 h => ?_)
  · refine sq (rg APath.f ?_)
    refine tq (rt ?_)
    refine tr ?_
    obtain rfl := some_inj h
    exact ret_of (by kernel_rfl)
  refine sk (tq ?_)
  refine kq (sq ?_)
  obtain ⟨r3, hr3, h⟩ := bs h
  refine rg (APath.v 1 (st_call (by kernel_rfl) (ref16_Draft_Topo_ok N a0_ r3 hr3)) APath.f) (tq ?_)
  refine sq ?_
  obtain ⟨r4, hr4, h⟩ := bs h
  refine rg (APath.v 3 (st_call (by kernel_rfl) (ref21_Some_ok N r3 a1_ a2_ r4 hr4)) APath.f) (tq ?_)
  refine sq ?_
  obtain ⟨r5, hr5, h⟩ := bs h
  refine rg (APath.v 2 (st_call (by kernel_rfl) (route_Back_ok N r3 r4 r5 hr5)) APath.f) (tq ?_)
  refine sq ?_
  obtain ⟨r6, hr6, h⟩ := bs h
  refine rg (APath.v 2 (st_call (by kernel_rfl) (route_Back_ok N r3 r5.1 r6 hr6)) APath.f) (tq ?_)
  refine sq ?_
  obtain ⟨r7, hr7, h⟩ := bs h
  refine rg (APath.v 2 (st_call (by kernel_rfl) (route_Nodes_ok N r3 r4 r7 hr7)) APath.f) (tq ?_)
  refine sq ?_
  obtain ⟨r8, hr8, h⟩ := bs h
  obtain ⟨a9, H10, hvr8, hpr8⟩ := route_Nodes_V1_ok N r3 r5.1    [] (HP.now (HP.pick hH [] rfl)) r8 hr8
  replace hH : HP H10 [.arr a9 1 false (List.map eI64 r8.1)] := HP.callee (fp := []) (rest := []) (HP.pick hH [] rfl) hpr8
  have hfa9 := own_form (HP.get hH 0 rfl)
  refine rgS ⟨[(7, .loc 7 0), (8, s_eI64 false r4), (9, s_eI64 false r5.1), (10, iv r5.2), (11, s_eI64 false r6.1), (12, iv r6.2), (13, s_eI64 false r7.1), (14, iv r7.2), (15, a9), (16, iv r8.2)], [(7, (c_api_Topo r3))], H10⟩ (APath.v 2 (st_callL (H := []) (ys := [.agg (c_api_Topo r3), s_eI64 false r5.1]) (by kernel_rfl) (by kernel_rfl) [[], []] (passL_cons (passV_frz rfl) (passL_cons (passV_frz rfl) passL_nil')) hvr8) APath.f) (by rcases hfa9 with ha9e | ⟨_, _, ha9e⟩ <;> subst ha9e <;> kernel_rfl) ?_
  refine tq (sq ?_)
  refine sq ?_
  obtain ⟨j22, hj, h⟩ := bs h
  refine rgR (fun s => s = ⟨[(7, .loc 7 0), (8, s_eI64 false r4), (9, s_eI64 false r5.1), (13, s_eI64 false r7.1), (15, a9), (83, bv j22)], [(7, (c_api_Topo r3))], H10⟩) ?_ ?_
  · clear h
    rcases ite_some hj with ⟨hc11, hj⟩ | ⟨hc12, hj⟩
    · obtain rfl := some_inj hj
      exact (EP.u 1 (st_bool (c := (r5.2 != 0)) (by kernel_rfl) hc11) (EP.f (by show _ = _; rcases hfa9 with ha9e | ⟨_, _, ha9e⟩ <;> subst ha9e <;> kernel_rfl)))
    refine (EP.u 1 (st_bool (c := (r5.2 != 0)) (by kernel_rfl) hc12) ?_)
    rcases ite_some hj with ⟨hc13, hj⟩ | ⟨hc14, hj⟩
    · obtain rfl := some_inj hj
      exact (EP.u 2 (st_bool (c := (r6.2 != 0)) (by kernel_rfl) hc13) (EP.f (by show _ = _; rcases hfa9 with ha9e | ⟨_, _, ha9e⟩ <;> subst ha9e <;> kernel_rfl)))
    refine (EP.u 2 (st_bool (c := (r6.2 != 0)) (by kernel_rfl) hc14) ?_)
    rcases ite_some hj with ⟨hc15, hj⟩ | ⟨hc16, hj⟩
    · obtain rfl := some_inj hj
      exact (EP.u 3 (st_bool (c := (r7.2 != 0)) (by kernel_rfl) hc15) (EP.f (by show _ = _; rcases hfa9 with ha9e | ⟨_, _, ha9e⟩ <;> subst ha9e <;> kernel_rfl)))
    refine (EP.u 3 (st_bool (c := (r7.2 != 0)) (by kernel_rfl) hc16) ?_)
    rcases ite_some hj with ⟨hc17, hj⟩ | ⟨hc18, hj⟩
    · obtain rfl := some_inj hj
      exact (EP.u 3 (st_bool (c := (r8.2 != 0)) (by kernel_rfl) hc17) (EP.f (by show _ = _; rcases hfa9 with ha9e | ⟨_, _, ha9e⟩ <;> subst ha9e <;> kernel_rfl)))
    refine (EP.u 3 (st_bool (c := (r8.2 != 0)) (by kernel_rfl) hc18) ?_)
    obtain ⟨r19, hr19, hj⟩ := bs hj
    refine (EP.v 4 (st_call (by kernel_rfl) (slices_Equal_api_Route_int_ok N r6.1 r4 r19 hr19)) ?_)
    rcases ite_some hj with ⟨hc20, hj⟩ | ⟨hc21, hj⟩
    · obtain rfl := some_inj hj
      exact (EP.u 0 (st_bool (c := (!r19)) (by kernel_rfl) hc20) (EP.f (by show _ = _; rcases hfa9 with ha9e | ⟨_, _, ha9e⟩ <;> subst ha9e <;> kernel_rfl)))
    obtain rfl := some_inj hj
    exact (EP.u 0 (st_bool (c := (!r19)) (by kernel_rfl) hc21) (EP.u 3 (st_val (ys := [s_eI64 false r7.1]) (by kernel_rfl) (vexec_len eI64)) (EP.u 1 (st_val (ys := [s_eI64 false r4]) (by kernel_rfl) (vexec_len eI64)) (EP.f (by show _ = _; rcases hfa9 with ha9e | ⟨_, _, ha9e⟩ <;> subst ha9e <;> kernel_rfl)))))
  clear hj
  rintro s hR
  obtain rfl := hR
  refine tq (it h (fun hc23 h => ?_) (fun hc23 h => ?_))
  · refine sq (rgS ⟨[(6, bv false)], [], H10⟩ APath.f (by kernel_rfl) ?_)
    replace hH : HP H10 [] := HP.pick hH [] rfl
    refine tq (rt ?_)
    refine tr ?_
    obtain rfl := some_inj h
    exact ret_of (by kernel_rfl)
  refine sk (tq ?_)
  refine kq (sq ?_)
  obtain ⟨r24, hr24, h⟩ := bs h
  have hl_a9 := HP.get hH 0 rfl
  obtain ⟨H25, hvr24, hpr24⟩ := slices_Reverse__int_int_ok N r8.1   a9 H10 (HP.now (HP.pick hH [0] rfl)) r24 hr24
  replace hH : HP H25 [.arr a9 1 false (List.map eI64 r24)] := HP.callee (fp := [.arr a9 1 false (List.map eI64 r8.1)]) (rest := []) (HP.pick hH [0] rfl) hpr24
  refine rgS ⟨[(7, .loc 7 0), (8, s_eI64 false r4), (9, s_eI64 false r5.1), (13, s_eI64 false r7.1), (15, a9)], [(7, (c_api_Topo r3))], H25⟩ (APath.v 1 (st_callL (H := H10) (ys := [a9]) (by rcases hfa9 with ha9e | ⟨_, _, ha9e⟩ <;> subst ha9e <;> kernel_rfl) (by rcases hfa9 with ha9e | ⟨_, _, ha9e⟩ <;> subst ha9e <;> kernel_rfl) [[true]] (passL_cons (passV_own hl_a9) passL_nil') hvr24) APath.f) (by rcases hfa9 with ha9e | ⟨_, _, ha9e⟩ <;> subst ha9e <;> kernel_rfl) ?_
  refine tq (sq ?_)
  obtain ⟨r26, hr26, h⟩ := bs h
  refine rgS ⟨[(7, .loc 7 0), (8, s_eI64 false r4), (9, s_eI64 false r5.1), (13, s_eI64 false r7.1), (15, a9), (17, iv r26.1), (18, iv r26.2)], [(7, (c_api_Topo r3))], H25⟩ (APath.v 2 (st_call (by kernel_rfl) (route_Time_ok N r3 r4 84 r26 hr26)) APath.f) (by rcases hfa9 with ha9e | ⟨_, _, ha9e⟩ <;> subst ha9e <;> kernel_rfl) ?_
  refine tq (sq ?_)
  obtain ⟨r27, hr27, h⟩ := bs h
  refine rgS ⟨[(7, .loc 7 0), (8, s_eI64 false r4), (13, s_eI64 false r7.1), (15, a9), (17, iv r26.1), (18, iv r26.2), (19, iv r27.1), (20, iv r27.2)], [(7, (c_api_Topo r3))], H25⟩ (APath.v 2 (st_call (by kernel_rfl) (route_Time_ok N r3 r5.1 84 r27 hr27)) APath.f) (by rcases hfa9 with ha9e | ⟨_, _, ha9e⟩ <;> subst ha9e <;> kernel_rfl) ?_
  refine tq (sq ?_)
  obtain ⟨r28, hr28, h⟩ := bs h
  refine rgS ⟨[(8, s_eI64 false r4), (13, s_eI64 false r7.1), (15, a9), (17, iv r26.1), (18, iv r26.2), (19, iv r27.1), (20, iv r27.2), (21, s_eI64 false r28.1), (22, bv r28.2.1), (23, iv r28.2.2)], [], H25⟩ (APath.v 3 (st_call (by kernel_rfl) (route_Tree_ok N r3 ([r4]) r28 hr28)) APath.f) (by rcases hfa9 with ha9e | ⟨_, _, ha9e⟩ <;> subst ha9e <;> kernel_rfl) ?_
  refine tq (sq ?_)
  obtain ⟨j44, hj, h⟩ := bs h
  refine rgR (fun s => ∃ (H43 : List HO), s = ⟨[(6, bv j44)], [], H43⟩ ∧ HP H43 []) ?_ ?_
  · clear h
    obtain ⟨r29, hr29, hj⟩ := bs hj
    obtain ⟨H30, hzH30, hzH30v, hH⟩ := HP.frz (k := 0) (a := a9) (sz := 1) (frz := false) eI64 hH rfl
    replace hH : HP H30 [.arr a9 1 true (List.map eI64 r24)] := hH
    rcases ite_some hj with ⟨hc31, hj⟩ | ⟨hc42, hj⟩
    · refine (EP.o 2 (st_callFB (H := H25) (ys := [s_eI64 false r7.1, a9]) (by rcases hfa9 with ha9e | ⟨_, _, ha9e⟩ <;> subst ha9e <;> kernel_rfl) (by rcases hfa9 with ha9e | ⟨_, _, ha9e⟩ <;> subst ha9e <;> kernel_rfl) (frzL_cons rfl (frzL_cons hzH30v frzL_nil)) (slices_Equal__int_int_ok N r7.1 r24 r29 hr29) hc31) ?_)
      rcases ite_some hj with ⟨hc32, hj⟩ | ⟨hc41, hj⟩
      · refine (EP.u 2 (st_bool (c := (r26.2 == 0)) (by kernel_rfl) hc32) ?_)
        rcases ite_some hj with ⟨hc33, hj⟩ | ⟨hc40, hj⟩
        · refine (EP.u 3 (st_bool (c := (r27.2 == 0)) (by kernel_rfl) hc33) ?_)
          rcases ite_some hj with ⟨hc34, hj⟩ | ⟨hc39, hj⟩
          · refine (EP.u 4 (st_bool (c := (r26.1 == r27.1)) (by kernel_rfl) hc34) ?_)
            rcases ite_some hj with ⟨hc35, hj⟩ | ⟨hc38, hj⟩
            · refine (EP.u 3 (st_bool (c := (r28.2.2 == 0)) (by kernel_rfl) hc35) ?_)
              rcases ite_some hj with ⟨hc36, hj⟩ | ⟨hc37, hj⟩
              · obtain rfl := some_inj hj
                exact (EP.u 2 (st_bool (c := r28.2.1) (by kernel_rfl) hc36) (EP.u 3 (st_val (ys := [s_eI64 false r28.1]) (by kernel_rfl) (vexec_len eI64)) (EP.u 1 (st_val (ys := [s_eI64 false r4]) (by kernel_rfl) (vexec_len eI64)) (EP.f ⟨H30, (by show _ = _; rcases hfa9 with ha9e | ⟨_, _, ha9e⟩ <;> subst ha9e <;> kernel_rfl), (HP.pick hH [] rfl)⟩))))
              obtain rfl := some_inj hj
              exact (EP.u 2 (st_bool (c := r28.2.1) (by kernel_rfl) hc37) (EP.f ⟨H30, (by show _ = _; rcases hfa9 with ha9e | ⟨_, _, ha9e⟩ <;> subst ha9e <;> kernel_rfl), (HP.pick hH [] rfl)⟩))
            obtain rfl := some_inj hj
            exact (EP.u 3 (st_bool (c := (r28.2.2 == 0)) (by kernel_rfl) hc38) (EP.f ⟨H30, (by show _ = _; rcases hfa9 with ha9e | ⟨_, _, ha9e⟩ <;> subst ha9e <;> kernel_rfl), (HP.pick hH [] rfl)⟩))
          obtain rfl := some_inj hj
          exact (EP.u 4 (st_bool (c := (r26.1 == r27.1)) (by kernel_rfl) hc39) (EP.f ⟨H30, (by show _ = _; rcases hfa9 with ha9e | ⟨_, _, ha9e⟩ <;> subst ha9e <;> kernel_rfl), (HP.pick hH [] rfl)⟩))
        obtain rfl := some_inj hj
        exact (EP.u 3 (st_bool (c := (r27.2 == 0)) (by kernel_rfl) hc40) (EP.f ⟨H30, (by show _ = _; rcases hfa9 with ha9e | ⟨_, _, ha9e⟩ <;> subst ha9e <;> kernel_rfl), (HP.pick hH [] rfl)⟩))
      obtain rfl := some_inj hj
      exact (EP.u 2 (st_bool (c := (r26.2 == 0)) (by kernel_rfl) hc41) (EP.f ⟨H30, (by show _ = _; rcases hfa9 with ha9e | ⟨_, _, ha9e⟩ <;> subst ha9e <;> kernel_rfl), (HP.pick hH [] rfl)⟩))
    obtain rfl := some_inj hj
    exact (EP.o 2 (st_callFB (H := H25) (ys := [s_eI64 false r7.1, a9]) (by rcases hfa9 with ha9e | ⟨_, _, ha9e⟩ <;> subst ha9e <;> kernel_rfl) (by rcases hfa9 with ha9e | ⟨_, _, ha9e⟩ <;> subst ha9e <;> kernel_rfl) (frzL_cons rfl (frzL_cons hzH30v frzL_nil)) (slices_Equal__int_int_ok N r7.1 r24 r29 hr29) hc42) (EP.f ⟨H30, (by show _ = _; rcases hfa9 with ha9e | ⟨_, _, ha9e⟩ <;> subst ha9e <;> kernel_rfl), (HP.pick hH [] rfl)⟩))
  clear hj
  rintro s hR
  obtain ⟨H43, rfl, hH⟩ := hR
  replace hH : HP H43 [] := hH
  refine tq (rt ?_)
  obtain rfl := some_inj h
  exact ret_of (by kernel_rfl)
end Go.Sh

