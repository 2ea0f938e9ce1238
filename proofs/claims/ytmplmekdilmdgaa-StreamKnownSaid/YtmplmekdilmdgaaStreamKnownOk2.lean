/- Part of the proof; written by a program out of the texts in wip/. -/
import Derived.Test.YtmplmekdilmdgaaStreamKnownOk1
namespace Go.Sh
open Go Go.Eng Go.Proofs
set_option linter.unusedVariables false
set_option linter.unusedSimpArgs false
set_option maxRecDepth 100000
set_option maxHeartbeats 4000000
attribute [local irreducible] vc ev keepS opsD opsF dropX upd updH updO
theorem ref16_Right_ok (N : Nat) (a0_ : api_Topo) (r : Bool) (h : ref16_Right N a0_ = some r) : PCall Try.prog 29 [.agg (c_api_Topo a0_)] (bv r) := by
  unfold ref16_Right at h
  have hH : HP ([] : List HO) [] := trivial
  refine pcall_of chk29 rfl rfl (vc_sound _ _ _ ?_) rfl
  refine sq (rg APath.f ?_)
  refine tq (sq ?_)
  refine sq (rgX ⟨[(1, .loc 1 0), (30, bv ((decide (a0_.Nodes < 2)) || ((decide (a0_.Nodes > 12)) || ((((List.length a0_.Station : Nat) : Int) != a0_.Nodes) || (decide (((List.length a0_.Links : Nat) : Int) > 24))))))], [(1, (c_api_Topo a0_))], []⟩ ?_ ?_)
  · rcases Bool.eq_false_or_eq_true (decide (a0_.Nodes < 2)) with hc1 | hc2
    · exact (EP.u 2 (st_bool (c := (decide (a0_.Nodes < 2))) (by kernel_rfl) hc1) (EP.f (by simp only [hc1]; kernel_rfl)))
    refine (EP.u 2 (st_bool (c := (decide (a0_.Nodes < 2))) (by kernel_rfl) hc2) ?_)
    rcases Bool.eq_false_or_eq_true (decide (a0_.Nodes > 12)) with hc3 | hc4
    · exact (EP.u 3 (st_bool (c := (decide (a0_.Nodes > 12))) (by kernel_rfl) hc3) (EP.f (by simp only [hc2, hc3]; kernel_rfl)))
    refine (EP.u 3 (st_bool (c := (decide (a0_.Nodes > 12))) (by kernel_rfl) hc4) (EP.u 4 (st_val (ys := [s_eB false a0_.Station]) (by kernel_rfl) (vexec_len eB)) ?_))
    rcases Bool.eq_false_or_eq_true (((List.length a0_.Station : Nat) : Int) != a0_.Nodes) with hc5 | hc6
    · exact (EP.u 2 (st_bool (c := (((List.length a0_.Station : Nat) : Int) != a0_.Nodes)) (by kernel_rfl) hc5) (EP.f (by simp only [hc2, hc4, hc5]; kernel_rfl)))
    exact (EP.u 2 (st_bool (c := (((List.length a0_.Station : Nat) : Int) != a0_.Nodes)) (by kernel_rfl) hc6) (EP.u 4 (st_val (ys := [s_e_api_Link false a0_.Links]) (by kernel_rfl) (vexec_len e_api_Link)) (EP.f (by simp only [hc2, hc4, hc6]; kernel_rfl))))
  refine tq (it h (fun hc7 h => ?_) (fun hc7 h => ?_))
  · refine sq (rg APath.f ?_)
    refine tq (rt ?_)
    refine tr ?_
    obtain rfl := some_inj h
    exact ret_of (by kernel_rfl)
  refine sk (tq ?_)
  refine kq (sq ?_)
  obtain ⟨l10, hl10, h⟩ := bs h
  obtain ⟨a8, H9, ha8, hH9, ha8b, hH⟩ := HP.make eI64 hH hl10
  replace hH : HP H9 [.arr a8 1 false (List.map eI64 l10)] := hH
  have hfa8 := own_form (HP.get hH 0 rfl)
  refine rgS ⟨[(1, .loc 1 0), (3, a8)], [(1, (c_api_Topo a0_))], H9⟩ (APath.h 2 (st_make (H := []) (zero := [.int .i64 0]) (bytes := 8) (by kernel_rfl) (by kernel_rfl) (by kernel_rfl) ha8 hH9 ha8b) APath.f) (by rcases hfa8 with ha8e | ⟨_, _, ha8e⟩ <;> subst ha8e <;> kernel_rfl) ?_
  refine tq (sq ?_)
  refine sq (rgS ⟨[(1, .loc 1 0), (3, a8), (4, iv 0)], [(1, (c_api_Topo a0_))], H9⟩ APath.f (by rcases hfa8 with ha8e | ⟨_, _, ha8e⟩ <;> subst ha8e <;> kernel_rfl) ?_)
  refine tq (bk ?_)
  obtain ⟨o1043, ho1043, h⟩ := bs h
  refine vc_loop ((loop_sim (fun (x : Int × (List Int)) s => ∃ (a11 : AV) (H12 : List HO), s = ⟨[(1, .loc 1 0), (3, a11), (4, iv x.1)], [(1, (c_api_Topo a0_))], H12⟩ ∧ HP H12 [.arr a11 1 false (List.map eI64 x.2)]) (fun x : Int × (List Int) => ref16_Right_L1 N a0_ x.1 x.2) (fun (p : ((List Int)) ⊕ (Bool)) e s => match p with | (.inl p) => e = .exit 0 ∧ (∃ (a515 : AV) (H516 : List HO), s = ⟨[(1, .loc 1 0), (3, a515)], [(1, (c_api_Topo a0_))], H516⟩ ∧ HP H516 [.arr a515 1 false (List.map eI64 p)]) | (.inr p) => e = .ret ∧ ∃ xs, resL s i29.res = some xs ∧ tupOf xs = bv p) ?_ N _ o1043 _ ho1043 ⟨a8, H9, (by show _ = _; rcases hfa8 with ha8e | ⟨_, _, ha8e⟩ <;> subst ha8e <;> kernel_rfl), (HP.pick hH [0] rfl)⟩).mono ?_)
  · clear h ho1043
    rintro ⟨i13, l14⟩ o s h hR
    obtain ⟨a11, H12, rfl, hH⟩ := hR
    replace hH : HP H12 [.arr a11 1 false (List.map eI64 l14)] := hH
    have hfa11 := own_form (HP.get hH 0 rfl)
    replace h : ref16_Right_L1 N a0_ i13 l14 = some o := h
    unfold ref16_Right_L1 at h
    refine sq (sq ?_)
    refine rgS ⟨[(1, .loc 1 0), (3, a11), (4, iv i13), (38, bv (decide (i13 < ((List.length a0_.Links : Nat) : Int))))], [(1, (c_api_Topo a0_))], H12⟩ (APath.u 3 (st_val (ys := [s_e_api_Link false a0_.Links]) (by kernel_rfl) (vexec_len e_api_Link)) APath.f) (by rcases hfa11 with ha11e | ⟨_, _, ha11e⟩ <;> subst ha11e <;> kernel_rfl) ?_
    refine tq (it h (fun hc517 h => ?_) (fun hc517 h => ?_))
    · refine sk (tq ?_)
      refine kq (sq ?_)
      refine bk (sq ?_)
      obtain ⟨e518, he518, h⟩ := bs h
      refine rgS ⟨[(1, .loc 1 0), (3, a11), (4, iv i13), (5, .loc 5 0)], [(1, (c_api_Topo a0_)), (5, (c_api_Link e518))], H12⟩ (APath.u 3 (st_val (ys := [s_e_api_Link false a0_.Links, iv i13]) (by kernel_rfl) (vexec_iaddrS e_api_Link he518)) (APath.u 0 (st_loadP (sz := 4) (off := 0) (cs := [.int .i64 e518.A, .int .i64 e518.B, .int .i64 e518.Per, .int .i64 e518.Delay]) (r := .agg (c_api_Link e518)) e_api_Link he518 (by kernel_rfl) (by kernel_rfl) (by kernel_rfl)) (APath.f (h := (by rcases hfa11 with ha11e | ⟨_, _, ha11e⟩ <;> subst ha11e <;> kernel_rfl))))) (by rcases hfa11 with ha11e | ⟨_, _, ha11e⟩ <;> subst ha11e <;> kernel_rfl) ?_
      refine tq (sq ?_)
      refine sq ?_
      obtain ⟨r519, hr519, h⟩ := bs h
      refine rgS ⟨[(1, .loc 1 0), (3, a11), (4, iv i13), (5, .loc 5 0), (49, bv (!r519))], [(1, (c_api_Topo a0_)), (5, (c_api_Link e518))], H12⟩ (APath.v 2 (st_call (by kernel_rfl) (ref16_link_ok N a0_ e518 r519 hr519)) APath.f) (by rcases hfa11 with ha11e | ⟨_, _, ha11e⟩ <;> subst ha11e <;> kernel_rfl) ?_
      refine tq (it h (fun hc520 h => ?_) (fun hc520 h => ?_))
      · refine sq (rgS ⟨[(2, bv false)], [], H12⟩ APath.f (by kernel_rfl) ?_)
        replace hH : HP H12 [] := HP.pick hH [] rfl
        refine tq (rt ?_)
        refine tr (br ?_)
        refine tr ?_
        obtain rfl := some_inj h
        exact ⟨_, rfl, rfl, ret_of (by kernel_rfl)⟩
      refine sk (tq ?_)
      refine kq (sq ?_)
      refine sq (rgS ⟨[(1, .loc 1 0), (3, a11), (4, iv i13), (5, .loc 5 0), (6, iv 0)], [(1, (c_api_Topo a0_)), (5, (c_api_Link e518))], H12⟩ APath.f (by rcases hfa11 with ha11e | ⟨_, _, ha11e⟩ <;> subst ha11e <;> kernel_rfl) ?_)
      refine tq (bk ?_)
      obtain ⟨o1026, ho1026, h⟩ := bs h
      refine vc_loop ((loop_sim (fun (x : Int) s => s = ⟨[(1, .loc 1 0), (3, a11), (4, iv i13), (5, .loc 5 0), (6, iv x)], [(1, (c_api_Topo a0_)), (5, (c_api_Link e518))], H12⟩) (fun x : Int => ref16_Right_L2 N a0_ i13 e518 x) (fun (p : (Unit) ⊕ (Bool)) e s => match p with | (.inl p) => e = .exit 2 ∧ (s = ⟨[(1, .loc 1 0), (3, a11), (4, iv i13), (5, .loc 5 0)], [(1, (c_api_Topo a0_)), (5, (c_api_Link e518))], H12⟩) | (.inr p) => e = .ret ∧ ∃ xs, resL s i29.res = some xs ∧ tupOf xs = bv p) ?_ N _ o1026 _ ho1026 (by show _ = _; rcases hfa11 with ha11e | ⟨_, _, ha11e⟩ <;> subst ha11e <;> kernel_rfl)).mono ?_)
      · clear h ho1026
        rintro i521 o s h hR
        obtain rfl := hR
        replace h : ref16_Right_L2 N a0_ i13 e518 i521 = some o := h
        unfold ref16_Right_L2 at h
        refine sq (sq ?_)
        refine rgS ⟨[(1, .loc 1 0), (3, a11), (4, iv i13), (5, .loc 5 0), (6, iv i521), (52, bv (decide (i521 < i13)))], [(1, (c_api_Topo a0_)), (5, (c_api_Link e518))], H12⟩ APath.f (by rcases hfa11 with ha11e | ⟨_, _, ha11e⟩ <;> subst ha11e <;> kernel_rfl) ?_
        refine tq (it h (fun hc1022 h => ?_) (fun hc1022 h => ?_))
        · refine sk (tq ?_)
          refine kq (sq ?_)
          refine bk (sq ?_)
          obtain ⟨e1023, he1023, h⟩ := bs h
          obtain ⟨r1024, hr1024, h⟩ := bs h
          refine rqS ⟨[(1, .loc 1 0), (3, a11), (4, iv i13), (5, .loc 5 0), (6, iv i521), (64, bv r1024)], [(1, (c_api_Topo a0_)), (5, (c_api_Link e518))], H12⟩ (APath.u 3 (st_val (ys := [s_e_api_Link false a0_.Links, iv i521]) (by kernel_rfl) (vexec_iaddrS e_api_Link he1023)) (APath.u 0 (st_toLH (st_loadP (sz := 4) (off := 0) (cs := [.int .i64 e1023.A, .int .i64 e1023.B, .int .i64 e1023.Per, .int .i64 e1023.Delay]) (r := .agg (c_api_Link e1023)) e_api_Link he1023 (by kernel_rfl) (by kernel_rfl) (by kernel_rfl)) (by kernel_rfl)) (APath.v 4 (st_call (by kernel_rfl) (ref16_Joins_ok N e1023 e518.A e518.B r1024 hr1024)) APath.f))) (by rcases hfa11 with ha11e | ⟨_, _, ha11e⟩ <;> subst ha11e <;> kernel_rfl) ?_
          refine tq (it h (fun hc1025 h => ?_) (fun hc1025 h => ?_))
          · refine sq (rgS ⟨[(2, bv false)], [], H12⟩ APath.f (by kernel_rfl) ?_)
            replace hH : HP H12 [] := HP.pick hH [] rfl
            refine tq (rt ?_)
            refine br (tr ?_)
            obtain rfl := some_inj h
            exact ⟨_, rfl, rfl, ret_of (by kernel_rfl)⟩
          refine sk (bn ?_)
          refine tq (kq ?_)
          refine rgS ⟨[(1, .loc 1 0), (3, a11), (4, iv i13), (5, .loc 5 0), (6, iv (w64 (i521 + 1)))], [(1, (c_api_Topo a0_)), (5, (c_api_Link e518))], H12⟩ APath.f (by rcases hfa11 with ha11e | ⟨_, _, ha11e⟩ <;> subst ha11e <;> kernel_rfl) ?_
          obtain rfl := some_inj h
          exact ⟨_, rfl, (by show _ = _; rcases hfa11 with ha11e | ⟨_, _, ha11e⟩ <;> subst ha11e <;> kernel_rfl)⟩
        refine kq (xq ?_)
        refine tx ?_
        obtain rfl := some_inj h
        exact ⟨_, rfl, rfl, (by show _ = _; rcases hfa11 with ha11e | ⟨_, _, ha11e⟩ <;> subst ha11e <;> kernel_rfl)⟩
      rintro e s hq
      rcases o1026 with p1027 | p1042
      · dsimp only at h hq
        obtain ⟨rfl, hR⟩ := hq
        obtain rfl := hR
        refine bx (tq ?_)
        refine sq ?_
        obtain ⟨e1028, he1028, h⟩ := bs h
        obtain ⟨id1029, ver1030, _, hid1029f, hid1029, hid1029a, hid1029v⟩ := HP.elem (k := 0) (a := a11) (sz := 1) (frz := false) eI64 hH rfl he1028
        obtain ⟨e1031, he1031, h⟩ := bs h
        obtain ⟨id1032, ver1033, _, hid1032f, hid1032, hid1032a, hid1032v⟩ := HP.elem (k := 0) (a := a11) (sz := 1) (frz := false) eI64 hH rfl he1031
        obtain ⟨H1034, hH1034, hH⟩ := HP.setRow (k := 0) (off := 0) (cs := [iv (w64 (e1028 + 1))]) (ps := [.int .i64 (w64 (e1028 + 1))]) (e' := (w64 (e1028 + 1))) eI64 hH rfl hid1032a hid1032 (hid1032f rfl) he1031 (by kernel_rfl) (by kernel_rfl)
        replace hH : HP H1034 [.arr a11 1 false (List.map eI64 (List.set l14 (Int.toNat e518.A) (w64 (e1028 + 1))))] := hH
        refine rqS ⟨[(1, .loc 1 0), (3, a11), (4, iv i13), (5, .loc 5 0)], [(1, (c_api_Topo a0_)), (5, (c_api_Link e518))], H1034⟩ (APath.u 6 (st_val (ys := [a11, iv e518.A]) (by rcases hfa11 with ha11e | ⟨_, _, ha11e⟩ <;> subst ha11e <;> kernel_rfl) (hid1029v .i64)) (APath.u 0 (st_toLH (st_loadO (H := H12) (off := 0) (cs := [.int .i64 e1028]) (r := iv e1028) eI64 he1028 hid1029 (by kernel_rfl) (by kernel_rfl) (by kernel_rfl) (by kernel_rfl)) (by kernel_rfl)) (APath.u 1 (st_val (ys := [a11, iv e518.A]) (by rcases hfa11 with ha11e | ⟨_, _, ha11e⟩ <;> subst ha11e <;> kernel_rfl) (hid1032v .i64)) (APath.o 0 (st_toH (st_storeH (H := H12) (v := iv (w64 (e1028 + 1))) (by kernel_rfl) (by kernel_rfl) (by kernel_rfl) (by kernel_rfl) hH1034) (by kernel_rfl)) APath.f)))) (by rcases hfa11 with ha11e | ⟨_, _, ha11e⟩ <;> subst ha11e <;> kernel_rfl) ?_
        refine tq ?_
        obtain ⟨e1035, he1035, h⟩ := bs h
        obtain ⟨id1036, ver1037, _, hid1036f, hid1036, hid1036a, hid1036v⟩ := HP.elem (k := 0) (a := a11) (sz := 1) (frz := false) eI64 hH rfl he1035
        obtain ⟨e1038, he1038, h⟩ := bs h
        obtain ⟨id1039, ver1040, _, hid1039f, hid1039, hid1039a, hid1039v⟩ := HP.elem (k := 0) (a := a11) (sz := 1) (frz := false) eI64 hH rfl he1038
        obtain ⟨H1041, hH1041, hH⟩ := HP.setRow (k := 0) (off := 0) (cs := [iv (w64 (e1035 + 1))]) (ps := [.int .i64 (w64 (e1035 + 1))]) (e' := (w64 (e1035 + 1))) eI64 hH rfl hid1039a hid1039 (hid1039f rfl) he1038 (by kernel_rfl) (by kernel_rfl)
        replace hH : HP H1041 [.arr a11 1 false (List.map eI64 (List.set (List.set l14 (Int.toNat e518.A) (w64 (e1028 + 1))) (Int.toNat e518.B) (w64 (e1035 + 1))))] := hH
        refine rqS ⟨[(1, .loc 1 0), (3, a11), (4, iv i13)], [(1, (c_api_Topo a0_))], H1041⟩ (APath.u 6 (st_val (ys := [a11, iv e518.B]) (by rcases hfa11 with ha11e | ⟨_, _, ha11e⟩ <;> subst ha11e <;> kernel_rfl) (hid1036v .i64)) (APath.u 0 (st_toLH (st_loadO (H := H1034) (off := 0) (cs := [.int .i64 e1035]) (r := iv e1035) eI64 he1035 hid1036 (by kernel_rfl) (by kernel_rfl) (by kernel_rfl) (by kernel_rfl)) (by kernel_rfl)) (APath.u 1 (st_val (ys := [a11, iv e518.B]) (by rcases hfa11 with ha11e | ⟨_, _, ha11e⟩ <;> subst ha11e <;> kernel_rfl) (hid1039v .i64)) (APath.o 0 (st_toH (st_storeH (H := H1034) (v := iv (w64 (e1035 + 1))) (by kernel_rfl) (by kernel_rfl) (by kernel_rfl) (by kernel_rfl) hH1041) (by kernel_rfl)) APath.f)))) (by rcases hfa11 with ha11e | ⟨_, _, ha11e⟩ <;> subst ha11e <;> kernel_rfl) ?_
        refine bn (tq ?_)
        refine kq (rgS ⟨[(1, .loc 1 0), (3, a11), (4, iv (w64 (i13 + 1)))], [(1, (c_api_Topo a0_))], H1041⟩ APath.f (by rcases hfa11 with ha11e | ⟨_, _, ha11e⟩ <;> subst ha11e <;> kernel_rfl) ?_)
        obtain rfl := some_inj h
        exact ⟨_, rfl, ⟨a11, H1041, (by show _ = _; rcases hfa11 with ha11e | ⟨_, _, ha11e⟩ <;> subst ha11e <;> kernel_rfl), (HP.pick hH [0] rfl)⟩⟩
      dsimp only at h hq
      obtain ⟨rfl, hq⟩ := hq
      refine br (tr ?_)
      refine br (tr ?_)
      obtain rfl := some_inj h
      exact ⟨_, rfl, rfl, hq⟩
    refine kq (xq ?_)
    refine tx ?_
    obtain rfl := some_inj h
    exact ⟨_, rfl, rfl, ⟨a11, H12, (by show _ = _; rcases hfa11 with ha11e | ⟨_, _, ha11e⟩ <;> subst ha11e <;> kernel_rfl), (HP.pick hH [0] rfl)⟩⟩
  rintro e s hq
  rcases o1043 with p1044 | p1567
  · dsimp only at h hq
    obtain ⟨rfl, hR⟩ := hq
    obtain ⟨a515, H516, rfl, hH⟩ := hR
    replace hH : HP H516 [.arr a515 1 false (List.map eI64 p1044)] := hH
    have hfa515 := own_form (HP.get hH 0 rfl)
    refine bx (tq ?_)
    refine sq ?_
    obtain ⟨r1045, hr1045, h⟩ := bs h
    refine rgS ⟨[(1, .loc 1 0), (3, a515), (7, s_eB false r1045)], [(1, (c_api_Topo a0_))], H516⟩ (APath.v 1 (st_call (by kernel_rfl) (ref16_Reach_ok N a0_ 0 ([]) r1045 hr1045)) APath.f) (by rcases hfa515 with ha515e | ⟨_, _, ha515e⟩ <;> subst ha515e <;> kernel_rfl) ?_
    refine tq (sq ?_)
    refine sq (rgS ⟨[(1, .loc 1 0), (3, a515), (7, s_eB false r1045), (8, iv 0)], [(1, (c_api_Topo a0_))], H516⟩ APath.f (by rcases hfa515 with ha515e | ⟨_, _, ha515e⟩ <;> subst ha515e <;> kernel_rfl) ?_)
    refine tq (bk ?_)
    obtain ⟨o1564, ho1564, h⟩ := bs h
    refine vc_loop ((loop_sim (fun (x : Int) s => s = ⟨[(1, .loc 1 0), (3, a515), (7, s_eB false r1045), (8, iv x)], [(1, (c_api_Topo a0_))], H516⟩) (fun x : Int => ref16_Right_L3 N a0_ p1044 r1045 x) (fun (p : (Unit) ⊕ (Bool)) e s => match p with | (.inl p) => e = .exit 4 ∧ (s = ⟨[], [], H516⟩) | (.inr p) => e = .ret ∧ ∃ xs, resL s i29.res = some xs ∧ tupOf xs = bv p) ?_ N _ o1564 _ ho1564 (by show _ = _; rcases hfa515 with ha515e | ⟨_, _, ha515e⟩ <;> subst ha515e <;> kernel_rfl)).mono ?_)
    · clear h ho1564
      rintro i1046 o s h hR
      obtain rfl := hR
      replace h : ref16_Right_L3 N a0_ p1044 r1045 i1046 = some o := h
      unfold ref16_Right_L3 at h
      refine sq (sq ?_)
      refine rgS ⟨[(1, .loc 1 0), (3, a515), (7, s_eB false r1045), (8, iv i1046), (90, bv (decide (i1046 < a0_.Nodes)))], [(1, (c_api_Topo a0_))], H516⟩ APath.f (by rcases hfa515 with ha515e | ⟨_, _, ha515e⟩ <;> subst ha515e <;> kernel_rfl) ?_
      refine tq (it h (fun hc1547 h => ?_) (fun hc1547 h => ?_))
      · refine sk (tq ?_)
        refine kq (sq ?_)
        refine bk (sq ?_)
        obtain ⟨j1562, hj, h⟩ := bs h
        refine rgR (fun s => s = ⟨[(1, .loc 1 0), (3, a515), (7, s_eB false r1045), (8, iv i1046), (118, bv j1562)], [(1, (c_api_Topo a0_))], H516⟩) ?_ ?_
        · clear h
          obtain ⟨e1548, he1548, hj⟩ := bs hj
          refine (EP.u 2 (st_val (ys := [s_eB false r1045, iv i1046]) (by kernel_rfl) (vexec_iaddrS eB he1548)) (EP.u 0 (st_loadP (sz := 1) (off := 0) (cs := [.bool e1548]) (r := bv e1548) eB he1548 (by kernel_rfl) (by kernel_rfl) (by kernel_rfl)) ?_))
          rcases ite_some hj with ⟨hc1549, hj⟩ | ⟨hc1550, hj⟩
          · obtain rfl := some_inj hj
            exact (EP.u 0 (st_bool (c := (!e1548)) (by kernel_rfl) hc1549) (EP.f (by show _ = _; rcases hfa515 with ha515e | ⟨_, _, ha515e⟩ <;> subst ha515e <;> kernel_rfl)))
          refine (EP.u 0 (st_bool (c := (!e1548)) (by kernel_rfl) hc1550) ?_)
          obtain ⟨e1551, he1551, hj⟩ := bs hj
          refine (EP.u 4 (st_val (ys := [s_eB false a0_.Station, iv i1046]) (by kernel_rfl) (vexec_iaddrS eB he1551)) ?_)
          rcases ite_some hj with ⟨hc1552, hj⟩ | ⟨hc1561, hj⟩
          · refine (EP.u 0 (AStep.bool (st_loadP (sz := 1) (off := 0) (cs := [.bool e1551]) (r := bv e1551) eB he1551 (by kernel_rfl) (by kernel_rfl) (by kernel_rfl)) hc1552) ?_)
            obtain ⟨e1553, he1553, hj⟩ := bs hj
            obtain ⟨id1554, ver1555, _, hid1554f, hid1554, hid1554a, hid1554v⟩ := HP.elem (k := 0) (a := a515) (sz := 1) (frz := false) eI64 hH rfl he1553
            refine (EP.u 3 (st_val (ys := [a515, iv i1046]) (by rcases hfa515 with ha515e | ⟨_, _, ha515e⟩ <;> subst ha515e <;> kernel_rfl) (hid1554v .i64)) (EP.u 0 (st_loadO (H := H516) (off := 0) (cs := [.int .i64 e1553]) (r := iv e1553) eI64 he1553 hid1554 (by kernel_rfl) (by kernel_rfl) (by kernel_rfl) (by kernel_rfl)) ?_))
            rcases ite_some hj with ⟨hc1556, hj⟩ | ⟨hc1557, hj⟩
            · obtain rfl := some_inj hj
              exact (EP.u 0 (st_bool (c := (decide (e1553 < 1))) (by kernel_rfl) hc1556) (EP.f (by show _ = _; rcases hfa515 with ha515e | ⟨_, _, ha515e⟩ <;> subst ha515e <;> kernel_rfl)))
            refine (EP.u 0 (st_bool (c := (decide (e1553 < 1))) (by kernel_rfl) hc1557) ?_)
            obtain ⟨e1558, he1558, hj⟩ := bs hj
            obtain ⟨id1559, ver1560, _, hid1559f, hid1559, hid1559a, hid1559v⟩ := HP.elem (k := 0) (a := a515) (sz := 1) (frz := false) eI64 hH rfl he1558
            obtain rfl := some_inj hj
            exact (EP.u 3 (st_val (ys := [a515, iv i1046]) (by rcases hfa515 with ha515e | ⟨_, _, ha515e⟩ <;> subst ha515e <;> kernel_rfl) (hid1559v .i64)) (EP.u 0 (st_loadO (H := H516) (off := 0) (cs := [.int .i64 e1558]) (r := iv e1558) eI64 he1558 hid1559 (by kernel_rfl) (by kernel_rfl) (by kernel_rfl) (by kernel_rfl)) (EP.f (by show _ = _; rcases hfa515 with ha515e | ⟨_, _, ha515e⟩ <;> subst ha515e <;> kernel_rfl))))
          obtain rfl := some_inj hj
          exact (EP.u 0 (AStep.bool (st_loadP (sz := 1) (off := 0) (cs := [.bool e1551]) (r := bv e1551) eB he1551 (by kernel_rfl) (by kernel_rfl) (by kernel_rfl)) hc1561) (EP.f (by show _ = _; rcases hfa515 with ha515e | ⟨_, _, ha515e⟩ <;> subst ha515e <;> kernel_rfl)))
        clear hj
        rintro s hR
        obtain rfl := hR
        refine tq (it h (fun hc1563 h => ?_) (fun hc1563 h => ?_))
        · refine sq (rgS ⟨[(2, bv false)], [], H516⟩ APath.f (by kernel_rfl) ?_)
          replace hH : HP H516 [] := HP.pick hH [] rfl
          refine tq (rt ?_)
          refine br (tr ?_)
          obtain rfl := some_inj h
          exact ⟨_, rfl, rfl, ret_of (by kernel_rfl)⟩
        refine sk (bn ?_)
        refine tq (kq ?_)
        refine rgS ⟨[(1, .loc 1 0), (3, a515), (7, s_eB false r1045), (8, iv (w64 (i1046 + 1)))], [(1, (c_api_Topo a0_))], H516⟩ APath.f (by rcases hfa515 with ha515e | ⟨_, _, ha515e⟩ <;> subst ha515e <;> kernel_rfl) ?_
        obtain rfl := some_inj h
        exact ⟨_, rfl, (by show _ = _; rcases hfa515 with ha515e | ⟨_, _, ha515e⟩ <;> subst ha515e <;> kernel_rfl)⟩
      refine kq ?_
      replace hH : HP H516 [] := HP.pick hH [] rfl
      refine xq (tx ?_)
      obtain rfl := some_inj h
      exact ⟨_, rfl, rfl, (by show _ = _; kernel_rfl)⟩
    rintro e s hq
    rcases o1564 with p1565 | p1566
    · dsimp only at h hq
      obtain ⟨rfl, hR⟩ := hq
      obtain rfl := hR
      refine bx (tq ?_)
      refine sq (rg APath.f ?_)
      refine tq (rt ?_)
      obtain rfl := some_inj h
      exact ret_of (by kernel_rfl)
    dsimp only at h hq
    obtain ⟨rfl, hq⟩ := hq
    refine br (tr ?_)
    obtain rfl := some_inj h
    exact hq
  dsimp only at h hq
  obtain ⟨rfl, hq⟩ := hq
  refine br (tr ?_)
  obtain rfl := some_inj h
  exact hq
theorem topo_sound_ok (N : Nat) (a0_ : api_Topo) (r : Bool) (h : topo_sound N a0_ = some r) : PCall Try.prog 53 [.agg (c_api_Topo a0_)] (bv r) := by
  unfold topo_sound at h
  have hH : HP ([] : List HO) [] := trivial
  refine pcall_of chk53 rfl rfl (vc_sound _ _ _ ?_) rfl
  refine sq ?_
  obtain ⟨id1, H2, hid1, hH2, hH⟩ := HP.newCell hH (c_api_Topo a0_)
  replace hH : HP H2 [.cel id1 (c_api_Topo a0_)] := hH
  refine rg (APath.h 0 (st_boxH (H := []) (v := .agg (c_api_Topo a0_)) (by kernel_rfl) (by kernel_rfl) (by kernel_rfl) hid1 hH2) APath.f) (tq ?_)
  refine sq (rg APath.f ?_)
  refine tq (sq ?_)
  refine sq ?_
  have hlc3 := HP.get hH 0 rfl
  refine rg (APath.u 1 (st_loadC (H := H2) (id := id1) (off := 2) (cs := (c_api_Topo a0_)) (c := [s_e_api_Link false a0_.Links]) (r := s_e_api_Link false a0_.Links) (by kernel_rfl) (by kernel_rfl) hlc3 (by kernel_rfl) (by kernel_rfl) (by kernel_rfl)) (APath.u 0 (st_val (ys := [s_e_api_Link false a0_.Links]) (by kernel_rfl) (vexec_len e_api_Link)) APath.f)) (tq ?_)
  refine bk ?_
  obtain ⟨o514, ho514, h⟩ := bs h
  refine vc_loop ((loop_sim (fun (x : Int) s => s = ⟨[(3, .loc 3 0), (14, iv ((List.length a0_.Links : Nat) : Int)), (15, iv x)], [(3, [.fn 76 [] [.ptr id1 0], .fn 78 [] [.ptr id1 0], .fn 79 [] [.ptr id1 0], .fn 80 [] [.ptr id1 0]])], H2⟩) (fun x : Int => topo_sound_L1 N a0_ x) (fun (p : (Unit) ⊕ (Bool)) e s => match p with | (.inl p) => e = .exit 0 ∧ (s = ⟨[], [], H2⟩) | (.inr p) => e = .ret ∧ ∃ xs, resL s i53.res = some xs ∧ tupOf xs = bv p) ?_ N _ o514 _ ho514 (by show _ = _; kernel_rfl)).mono ?_)
  · clear h ho514
    rintro i4 o s h hR
    obtain rfl := hR
    replace h : topo_sound_L1 N a0_ i4 = some o := h
    unfold topo_sound_L1 at h
    refine sq (rg APath.f ?_)
    refine tq (sq ?_)
    refine it h (fun hc505 h => ?_) (fun hc505 h => ?_)
    · refine sk (tq ?_)
      refine kq (sq ?_)
      refine bk (sq ?_)
      refine rg APath.f (tq ?_)
      refine sq (rg APath.f ?_)
      refine tq (bk ?_)
      refine vc_unroll 18 ?_
      refine unr_step ?_
      refine sq (rg APath.f ?_)
      refine tq (sq ?_)
      refine vc_true (by kernel_rfl) ?_
      refine sk (tq ?_)
      refine kq (sq ?_)
      refine bk (sq ?_)
      refine rg APath.f (tq ?_)
      refine sq ?_
      obtain ⟨r506, hr506, h⟩ := bs h
      have hvr506 := (topo_sound_1_ok N i4 a0_ id1 H2 (HP.now (HP.pick hH [0] rfl)) r506 hr506)
      refine rg (APath.v 2 (st_callV (H := H2) (fv := .fn 76 [] [.ptr id1 0]) (ys := [iv i4]) (by kernel_rfl) (by kernel_rfl) (by kernel_rfl) (VCall.of (by kernel_rfl) hvr506)) APath.f) (tq ?_)
      refine it h (fun hc507 h => ?_) (fun hc507 h => ?_)
      · refine sq (rg APath.f ?_)
        replace hH : HP H2 [] := HP.pick hH [] rfl
        refine tq (rt ?_)
        refine br (tr ?_)
        refine tr (br ?_)
        refine br (tr ?_)
        obtain rfl := some_inj h
        exact ⟨_, rfl, rfl, ret_of (by kernel_rfl)⟩
      refine sk (bn ?_)
      refine tq (kq ?_)
      refine rg APath.f (tq ?_)
      refine unr_step ?_
      refine sq (rg APath.f ?_)
      refine tq (sq ?_)
      refine vc_true (by kernel_rfl) ?_
      refine sk (tq ?_)
      refine kq (sq ?_)
      refine bk (sq ?_)
      refine rg APath.f (tq ?_)
      refine sq ?_
      obtain ⟨r508, hr508, h⟩ := bs h
      have hvr508 := (topo_sound_2_ok N i4 a0_ id1 H2 (HP.now (HP.pick hH [0] rfl)) r508 hr508)
      refine rg (APath.v 2 (st_callV (H := H2) (fv := .fn 78 [] [.ptr id1 0]) (ys := [iv i4]) (by kernel_rfl) (by kernel_rfl) (by kernel_rfl) (VCall.of (by kernel_rfl) hvr508)) APath.f) (tq ?_)
      refine it h (fun hc509 h => ?_) (fun hc509 h => ?_)
      · refine sq (rg APath.f ?_)
        replace hH : HP H2 [] := HP.pick hH [] rfl
        refine tq (rt ?_)
        refine br (tr ?_)
        refine tr (br ?_)
        refine br (tr ?_)
        obtain rfl := some_inj h
        exact ⟨_, rfl, rfl, ret_of (by kernel_rfl)⟩
      refine sk (bn ?_)
      refine tq (kq ?_)
      refine rg APath.f (tq ?_)
      refine unr_step ?_
      refine sq (rg APath.f ?_)
      refine tq (sq ?_)
      refine vc_true (by kernel_rfl) ?_
      refine sk (tq ?_)
      refine kq (sq ?_)
      refine bk (sq ?_)
      refine rg APath.f (tq ?_)
      refine sq ?_
      obtain ⟨r510, hr510, h⟩ := bs h
      have hvr510 := (topo_sound_3_ok N i4 a0_ id1 H2 (HP.now (HP.pick hH [0] rfl)) r510 hr510)
      refine rg (APath.v 2 (st_callV (H := H2) (fv := .fn 79 [] [.ptr id1 0]) (ys := [iv i4]) (by kernel_rfl) (by kernel_rfl) (by kernel_rfl) (VCall.of (by kernel_rfl) hvr510)) APath.f) (tq ?_)
      refine it h (fun hc511 h => ?_) (fun hc511 h => ?_)
      · refine sq (rg APath.f ?_)
        replace hH : HP H2 [] := HP.pick hH [] rfl
        refine tq (rt ?_)
        refine br (tr ?_)
        refine tr (br ?_)
        refine br (tr ?_)
        obtain rfl := some_inj h
        exact ⟨_, rfl, rfl, ret_of (by kernel_rfl)⟩
      refine sk (bn ?_)
      refine tq (kq ?_)
      refine rg APath.f (tq ?_)
      refine unr_step ?_
      refine sq (rg APath.f ?_)
      refine tq (sq ?_)
      refine vc_true (by kernel_rfl) ?_
      refine sk (tq ?_)
      refine kq (sq ?_)
      refine bk (sq ?_)
      refine rg APath.f (tq ?_)
      refine sq ?_
      obtain ⟨r512, hr512, h⟩ := bs h
      have hvr512 := (topo_sound_4_ok N i4 a0_ id1 H2 (HP.now (HP.pick hH [0] rfl)) r512 hr512)
      refine rg (APath.v 2 (st_callV (H := H2) (fv := .fn 80 [] [.ptr id1 0]) (ys := [iv i4]) (by kernel_rfl) (by kernel_rfl) (by kernel_rfl) (VCall.of (by kernel_rfl) hvr512)) APath.f) (tq ?_)
      refine it h (fun hc513 h => ?_) (fun hc513 h => ?_)
      · refine sq (rg APath.f ?_)
        replace hH : HP H2 [] := HP.pick hH [] rfl
        refine tq (rt ?_)
        refine br (tr ?_)
        refine tr (br ?_)
        refine br (tr ?_)
        obtain rfl := some_inj h
        exact ⟨_, rfl, rfl, ret_of (by kernel_rfl)⟩
      refine sk (bn ?_)
      refine tq (kq ?_)
      refine rg APath.f (tq ?_)
      refine unr_step ?_
      refine sq (rg APath.f ?_)
      refine tq (sq ?_)
      refine vc_false (by kernel_rfl) ?_
      refine kq (xq ?_)
      refine tx (tx ?_)
      refine bx (bn ?_)
      refine tq (rg APath.f ?_)
      obtain rfl := some_inj h
      exact ⟨_, rfl, (by show _ = _; kernel_rfl)⟩
    refine kq ?_
    replace hH : HP H2 [] := HP.pick hH [] rfl
    refine xq (tx ?_)
    obtain rfl := some_inj h
    exact ⟨_, rfl, rfl, (by show _ = _; kernel_rfl)⟩
  rintro e s hq
  rcases o514 with p515 | p516
  · dsimp only at h hq
    obtain ⟨rfl, hR⟩ := hq
    obtain rfl := hR
    refine bx (tq ?_)
    refine sq (rg APath.f ?_)
    refine tq (rt ?_)
    obtain rfl := some_inj h
    exact ret_of (by kernel_rfl)
  dsimp only at h hq
  obtain ⟨rfl, hq⟩ := hq
  refine br (tr ?_)
  obtain rfl := some_inj h
  exact hq
theorem stream_valid_5_ok (N : Nat) (c0_ : api_Stream) (k0_ : Nat) (H : List HO) (hH : HP H [.cel k0_ (c_api_Stream c0_)]) (r : Bool) (h : stream_valid_5 N c0_ = some r) : ACall Try.prog 61 [.ptr k0_ 0] H (bv r) H := by
  unfold stream_valid_5 at h
  refine acall_ofW chk61 rfl rfl rfl (vc_sound _ _ _ ?_)
  refine sq (rg APath.f ?_)
  refine tq (sq ?_)
  refine sq ?_
  have hlc1 := HP.get hH 0 rfl
  refine rg (APath.u 1 (st_loadC (H := H) (id := k0_) (off := 3) (cs := (c_api_Stream c0_)) (c := [iv c0_.Class]) (r := iv c0_.Class) (by kernel_rfl) (by kernel_rfl) hlc1 (by kernel_rfl) (by kernel_rfl) (by kernel_rfl)) APath.f) (tq ?_)
  refine bk (sq ?_)
  refine rg APath.f (tq ?_)
  refine it h (fun hc2 h => ?_) (fun hc2 h => ?_)
  · refine sq ?_
    obtain ⟨j8, hj, h⟩ := bs h
    refine rgR (fun s => s = ⟨[(1, bv j8)], [], H⟩) ?_ ?_
    · clear h
      have hlc3 := HP.get hH 0 rfl
      refine (EP.u 1 (st_loadC (H := H) (id := k0_) (off := 5) (cs := (c_api_Stream c0_)) (c := [iv c0_.Period]) (r := iv c0_.Period) (by kernel_rfl) (by kernel_rfl) hlc3 (by kernel_rfl) (by kernel_rfl) (by kernel_rfl)) ?_)
      obtain ⟨r4, hr4, hj⟩ := bs hj
      rcases ite_some hj with ⟨hc5, hj⟩ | ⟨hc7, hj⟩
      · refine (EP.h 0 (st_callB (by kernel_rfl) (stream_between_ok N c0_.Period 1 240 r4 hr4) hc5) ?_)
        have hlc6 := HP.get hH 0 rfl
        obtain rfl := some_inj hj
        exact (EP.u 2 (st_loadC (H := H) (id := k0_) (off := 6) (cs := (c_api_Stream c0_)) (c := (c_api_Bucket c0_.Bucket)) (r := .agg (c_api_Bucket c0_.Bucket)) (by kernel_rfl) (by kernel_rfl) hlc6 (by kernel_rfl) (by kernel_rfl) (by kernel_rfl)) (EP.f (by show _ = _; kernel_rfl)))
      obtain rfl := some_inj hj
      exact (EP.h 0 (st_callB (by kernel_rfl) (stream_between_ok N c0_.Period 1 240 r4 hr4) hc7) (EP.f (by show _ = _; kernel_rfl)))
    clear hj
    rintro s hR
    obtain rfl := hR
    refine tq (rt ?_)
    refine br (tr ?_)
    obtain rfl := some_inj h
    exact ret_ofAW (by kernel_rfl) (by kernel_rfl)
  refine sq (rg APath.f ?_)
  refine tq (it h (fun hc9 h => ?_) (fun hc9 h => ?_))
  · refine sq ?_
    obtain ⟨j19, hj, h⟩ := bs h
    refine rgR (fun s => s = ⟨[(1, bv j19)], [], H⟩) ?_ ?_
    · clear h
      have hlc10 := HP.get hH 0 rfl
      refine (EP.u 1 (st_loadC (H := H) (id := k0_) (off := 5) (cs := (c_api_Stream c0_)) (c := [iv c0_.Period]) (r := iv c0_.Period) (by kernel_rfl) (by kernel_rfl) hlc10 (by kernel_rfl) (by kernel_rfl) (by kernel_rfl)) ?_)
      rcases ite_some hj with ⟨hc11, hj⟩ | ⟨hc18, hj⟩
      · refine (EP.u 0 (st_bool (c := (c0_.Period == 0)) (by kernel_rfl) hc11) ?_)
        have hlc12 := HP.get hH 0 rfl
        refine (EP.u 2 (st_loadC (H := H) (id := k0_) (off := 6) (cs := (c_api_Stream c0_)) (c := (c_api_Bucket c0_.Bucket)) (r := .agg (c_api_Bucket c0_.Bucket)) (by kernel_rfl) (by kernel_rfl) hlc12 (by kernel_rfl) (by kernel_rfl) (by kernel_rfl)) ?_)
        obtain ⟨r13, hr13, hj⟩ := bs hj
        refine (EP.v 0 (st_call (by kernel_rfl) (bucket_Check_ok N c0_.Bucket r13 hr13)) ?_)
        rcases ite_some hj with ⟨hc14, hj⟩ | ⟨hc17, hj⟩
        · refine (EP.u 0 (st_bool (c := (r13 == 0)) (by kernel_rfl) hc14) ?_)
          have hlc15 := HP.get hH 0 rfl
          refine (EP.u 4 (st_loadC (H := H) (id := k0_) (off := 6) (cs := (c_api_Stream c0_)) (c := [iv c0_.Bucket.Burst]) (r := iv c0_.Bucket.Burst) (by kernel_rfl) (by kernel_rfl) hlc15 (by kernel_rfl) (by kernel_rfl) (by kernel_rfl)) ?_)
          have hlc16 := HP.get hH 0 rfl
          obtain rfl := some_inj hj
          exact (EP.u 1 (st_loadC (H := H) (id := k0_) (off := 4) (cs := (c_api_Stream c0_)) (c := [iv c0_.Size]) (r := iv c0_.Size) (by kernel_rfl) (by kernel_rfl) hlc16 (by kernel_rfl) (by kernel_rfl) (by kernel_rfl)) (EP.f (by show _ = _; kernel_rfl)))
        obtain rfl := some_inj hj
        exact (EP.u 0 (st_bool (c := (r13 == 0)) (by kernel_rfl) hc17) (EP.f (by show _ = _; kernel_rfl)))
      obtain rfl := some_inj hj
      exact (EP.u 0 (st_bool (c := (c0_.Period == 0)) (by kernel_rfl) hc18) (EP.f (by show _ = _; kernel_rfl)))
    clear hj
    rintro s hR
    obtain rfl := hR
    refine tq (rt ?_)
    refine br (tr ?_)
    obtain rfl := some_inj h
    exact ret_ofAW (by kernel_rfl) (by kernel_rfl)
  refine sk (bn ?_)
  refine tq (kq ?_)
  replace hH : HP H [] := HP.pick hH [] rfl
  refine sq (rg APath.f ?_)
  refine tq (rt ?_)
  obtain rfl := some_inj h
  exact ret_ofAW (by kernel_rfl) (by kernel_rfl)
theorem route_walk_meets_ok (N : Nat) (a0_ : route_walk) (a1_ : (List Int)) (a2_ : (List Int)) (r : Bool) (h : route_walk_meets N a0_ a1_ a2_ = some r) : PCall Try.prog 88 [.agg (c_api_Topo a0_.Topo), s_eI64 false a1_, s_eI64 false a2_] (bv r) := by
  unfold route_walk_meets at h
  have hH : HP ([] : List HO) [] := trivial
  refine pcall_of chk88 rfl rfl (vc_sound _ _ _ ?_) rfl
  refine sq (rg APath.f ?_)
  refine tq (sq ?_)
  obtain ⟨r1, hr1, h⟩ := bs h
  refine rg (APath.v 2 (st_call (by kernel_rfl) (route_walk_nodes_ok N a0_ a1_ r1 hr1)) APath.f) (tq ?_)
  refine sq (rg (APath.u 1 (st_val (ys := [s_eI64 false r1]) (by kernel_rfl) (vexec_len eI64)) APath.f) ?_)
  refine tq (sq ?_)
  obtain ⟨r2, hr2, h⟩ := bs h
  refine rg (APath.v 2 (st_call (by kernel_rfl) (route_walk_nodes_ok N a0_ a2_ r2 hr2)) APath.f) (tq ?_)
  refine sq (sq ?_)
  obtain ⟨l3, hl3, h⟩ := bs h
  refine rg (APath.u 3 (st_val (ys := [s_eI64 false r1, iv 1, iv (w64 (((List.length r1 : Nat) : Int) - 1)), iv (w64 (((List.length r1 : Nat) : Int) - 1))]) (by kernel_rfl) (vexec_slice3 eI64 hl3)) (APath.u 0 (st_val (ys := [s_eI64 true l3]) (by kernel_rfl) (vexec_len eI64)) APath.f)) (tq ?_)
  refine bk ?_
  obtain ⟨o509, ho509, h⟩ := bs h
  refine vc_loop ((loop_sim (fun (x : Int) s => s = ⟨[(9, s_eI64 false r2), (24, s_eI64 true l3), (25, iv ((List.length l3 : Nat) : Int)), (26, iv x)], [], []⟩) (fun x : Int => route_walk_meets_L1 N r2 l3 x) (fun (p : (Unit) ⊕ (Bool)) e s => match p with | (.inl p) => e = .exit 0 ∧ (s = ⟨[], [], []⟩) | (.inr p) => e = .ret ∧ ∃ xs, resL s i88.res = some xs ∧ tupOf xs = bv p) ?_ N _ o509 _ ho509 (by show _ = _; kernel_rfl)).mono ?_)
  · clear h ho509
    rintro i4 o s h hR
    obtain rfl := hR
    replace h : route_walk_meets_L1 N r2 l3 i4 = some o := h
    unfold route_walk_meets_L1 at h
    refine sq (rg APath.f ?_)
    refine tq (sq ?_)
    refine it h (fun hc505 h => ?_) (fun hc505 h => ?_)
    · refine sk (tq ?_)
      refine kq (sq ?_)
      refine bk (sq ?_)
      obtain ⟨e506, he506, h⟩ := bs h
      refine rg (APath.u 0 (st_val (ys := [s_eI64 true l3, iv i4]) (by kernel_rfl) (vexec_iaddrS eI64 he506)) (APath.u 0 (st_loadP (sz := 1) (off := 0) (cs := [.int .i64 e506]) (r := iv e506) eI64 he506 (by kernel_rfl) (by kernel_rfl) (by kernel_rfl)) APath.f)) (tq ?_)
      refine sq ?_
      obtain ⟨r507, hr507, h⟩ := bs h
      refine rg (APath.v 2 (st_call (by kernel_rfl) (slices_Contains__int_int_ok N r2 e506 r507 hr507)) APath.f) (tq ?_)
      refine it h (fun hc508 h => ?_) (fun hc508 h => ?_)
      · refine sq (rg APath.f ?_)
        refine tq (rt ?_)
        refine br (tr ?_)
        obtain rfl := some_inj h
        exact ⟨_, rfl, rfl, ret_of (by kernel_rfl)⟩
      refine sk (bn ?_)
      refine tq (kq ?_)
      refine rg APath.f ?_
      obtain rfl := some_inj h
      exact ⟨_, rfl, (by show _ = _; kernel_rfl)⟩
    refine kq (xq ?_)
    refine tx ?_
    obtain rfl := some_inj h
    exact ⟨_, rfl, rfl, (by show _ = _; kernel_rfl)⟩
  rintro e s hq
  rcases o509 with p510 | p511
  · dsimp only at h hq
    obtain ⟨rfl, hR⟩ := hq
    obtain rfl := hR
    refine bx (tq ?_)
    refine sq (rg APath.f ?_)
    refine tq (rt ?_)
    obtain rfl := some_inj h
    exact ret_of (by kernel_rfl)
  dsimp only at h hq
  obtain ⟨rfl, hq⟩ := hq
  refine br (tr ?_)
  obtain rfl := some_inj h
  exact hq
theorem topo_Check_ok (N : Nat) (a0_ : api_Topo) (r : Int) (h : topo_Check N a0_ = some r) : PCall Try.prog 38 [.agg (c_api_Topo a0_)] (iv r) := by
  unfold topo_Check at h
  have hH : HP ([] : List HO) [] := trivial
  refine pcall_of chk38 rfl rfl (vc_sound _ _ _ ?_) rfl
  refine sq (rg APath.f ?_)
  refine tq (sq ?_)
  refine sq (rgX ⟨[(1, .loc 1 0), (23, bv ((decide (a0_.Nodes < 2)) || ((decide (a0_.Nodes > 12)) || (((List.length a0_.Station : Nat) : Int) != a0_.Nodes))))], [(1, (c_api_Topo a0_))], []⟩ ?_ ?_)
  · rcases Bool.eq_false_or_eq_true (decide (a0_.Nodes < 2)) with hc1 | hc2
    · exact (EP.u 2 (st_bool (c := (decide (a0_.Nodes < 2))) (by kernel_rfl) hc1) (EP.f (by simp only [hc1]; kernel_rfl)))
    refine (EP.u 2 (st_bool (c := (decide (a0_.Nodes < 2))) (by kernel_rfl) hc2) ?_)
    rcases Bool.eq_false_or_eq_true (decide (a0_.Nodes > 12)) with hc3 | hc4
    · exact (EP.u 3 (st_bool (c := (decide (a0_.Nodes > 12))) (by kernel_rfl) hc3) (EP.f (by simp only [hc2, hc3]; kernel_rfl)))
    exact (EP.u 3 (st_bool (c := (decide (a0_.Nodes > 12))) (by kernel_rfl) hc4) (EP.u 4 (st_val (ys := [s_eB false a0_.Station]) (by kernel_rfl) (vexec_len eB)) (EP.f (by simp only [hc2, hc4]; kernel_rfl))))
  refine tq (it h (fun hc5 h => ?_) (fun hc5 h => ?_))
  · refine sq (rg APath.f ?_)
    refine tq (rt ?_)
    refine tr ?_
    obtain rfl := some_inj h
    exact ret_of (by kernel_rfl)
  refine sk (tq ?_)
  refine kq (sq ?_)
  refine sq ?_
  obtain ⟨j9, hj, h⟩ := bs h
  refine rgR (fun s => s = ⟨[(1, .loc 1 0), (32, bv j9)], [(1, (c_api_Topo a0_))], []⟩) ?_ ?_
  · clear h
    refine (EP.u 2 (st_val (ys := [s_e_api_Link false a0_.Links]) (by kernel_rfl) (vexec_len e_api_Link)) ?_)
    rcases ite_some hj with ⟨hc6, hj⟩ | ⟨hc7, hj⟩
    · obtain rfl := some_inj hj
      exact (EP.u 0 (st_bool (c := (decide (((List.length a0_.Links : Nat) : Int) > 24))) (by kernel_rfl) hc6) (EP.f (by show _ = _; kernel_rfl)))
    refine (EP.u 0 (st_bool (c := (decide (((List.length a0_.Links : Nat) : Int) > 24))) (by kernel_rfl) hc7) ?_)
    obtain ⟨r8, hr8, hj⟩ := bs hj
    obtain rfl := some_inj hj
    exact (EP.v 2 (st_call (by kernel_rfl) (topo_sound_ok N a0_ r8 hr8)) (EP.f (by show _ = _; kernel_rfl)))
  clear hj
  rintro s hR
  obtain rfl := hR
  refine tq (it h (fun hc10 h => ?_) (fun hc10 h => ?_))
  · refine sq (rg APath.f ?_)
    refine tq (rt ?_)
    refine tr ?_
    obtain rfl := some_inj h
    exact ret_of (by kernel_rfl)
  refine sk (tq ?_)
  refine kq (sq ?_)
  obtain ⟨l13, hl13, h⟩ := bs h
  obtain ⟨a11, H12, ha11, hH12, ha11b, hH⟩ := HP.make eI64 hH hl13
  replace hH : HP H12 [.arr a11 1 false (List.map eI64 l13)] := hH
  have hfa11 := own_form (HP.get hH 0 rfl)
  refine rgS ⟨[(1, .loc 1 0), (3, a11)], [(1, (c_api_Topo a0_))], H12⟩ (APath.h 2 (st_make (H := []) (zero := [.int .i64 0]) (bytes := 8) (by kernel_rfl) (by kernel_rfl) (by kernel_rfl) ha11 hH12 ha11b) APath.f) (by rcases hfa11 with ha11e | ⟨_, _, ha11e⟩ <;> subst ha11e <;> kernel_rfl) ?_
  refine tq (sq ?_)
  refine sq (rgS ⟨[(1, .loc 1 0), (3, a11), (37, s_e_api_Link false a0_.Links), (38, iv ((List.length a0_.Links : Nat) : Int)), (39, iv 0)], [(1, (c_api_Topo a0_))], H12⟩ (APath.u 2 (st_val (ys := [s_e_api_Link false a0_.Links]) (by kernel_rfl) (vexec_len e_api_Link)) APath.f) (by rcases hfa11 with ha11e | ⟨_, _, ha11e⟩ <;> subst ha11e <;> kernel_rfl) ?_)
  refine tq (bk ?_)
  obtain ⟨o536, ho536, h⟩ := bs h
  refine vc_loop ((loop_sim (fun (x : Int × (List Int)) s => ∃ (a14 : AV) (H15 : List HO), s = ⟨[(1, .loc 1 0), (3, a14), (37, s_e_api_Link false a0_.Links), (38, iv ((List.length a0_.Links : Nat) : Int)), (39, iv x.1)], [(1, (c_api_Topo a0_))], H15⟩ ∧ HP H15 [.arr a14 1 false (List.map eI64 x.2)]) (fun x : Int × (List Int) => topo_Check_L1 N a0_ x.1 x.2) (fun (p : (List Int)) e s => e = .exit 0 ∧ (∃ (a518 : AV) (H519 : List HO), s = ⟨[(1, .loc 1 0), (3, a518)], [(1, (c_api_Topo a0_))], H519⟩ ∧ HP H519 [.arr a518 1 false (List.map eI64 p)])) ?_ N _ o536 _ ho536 ⟨a11, H12, (by show _ = _; rcases hfa11 with ha11e | ⟨_, _, ha11e⟩ <;> subst ha11e <;> kernel_rfl), (HP.pick hH [0] rfl)⟩).mono ?_)
  · clear h ho536
    rintro ⟨i16, l17⟩ o s h hR
    obtain ⟨a14, H15, rfl, hH⟩ := hR
    replace hH : HP H15 [.arr a14 1 false (List.map eI64 l17)] := hH
    have hfa14 := own_form (HP.get hH 0 rfl)
    replace h : topo_Check_L1 N a0_ i16 l17 = some o := h
    unfold topo_Check_L1 at h
    refine sq (rgS ⟨[(1, .loc 1 0), (3, a14), (37, s_e_api_Link false a0_.Links), (38, iv ((List.length a0_.Links : Nat) : Int)), (39, iv i16), (40, bv (decide (i16 < ((List.length a0_.Links : Nat) : Int))))], [(1, (c_api_Topo a0_))], H15⟩ APath.f (by rcases hfa14 with ha14e | ⟨_, _, ha14e⟩ <;> subst ha14e <;> kernel_rfl) ?_)
    refine tq (sq ?_)
    refine it h (fun hc520 h => ?_) (fun hc520 h => ?_)
    · refine sk (tq ?_)
      refine kq (sq ?_)
      refine bk (sq ?_)
      obtain ⟨e521, he521, h⟩ := bs h
      refine rgS ⟨[(1, .loc 1 0), (3, a14), (5, .loc 5 0), (37, s_e_api_Link false a0_.Links), (38, iv ((List.length a0_.Links : Nat) : Int)), (39, iv i16)], [(1, (c_api_Topo a0_)), (5, (c_api_Link e521))], H15⟩ (APath.u 0 (st_val (ys := [s_e_api_Link false a0_.Links, iv i16]) (by kernel_rfl) (vexec_iaddrS e_api_Link he521)) (APath.u 0 (st_loadP (sz := 4) (off := 0) (cs := [.int .i64 e521.A, .int .i64 e521.B, .int .i64 e521.Per, .int .i64 e521.Delay]) (r := .agg (c_api_Link e521)) e_api_Link he521 (by kernel_rfl) (by kernel_rfl) (by kernel_rfl)) (APath.f (h := (by rcases hfa14 with ha14e | ⟨_, _, ha14e⟩ <;> subst ha14e <;> kernel_rfl))))) (by rcases hfa14 with ha14e | ⟨_, _, ha14e⟩ <;> subst ha14e <;> kernel_rfl) ?_
      refine tq (sq ?_)
      obtain ⟨e522, he522, h⟩ := bs h
      obtain ⟨id523, ver524, _, hid523f, hid523, hid523a, hid523v⟩ := HP.elem (k := 0) (a := a14) (sz := 1) (frz := false) eI64 hH rfl he522
      obtain ⟨e525, he525, h⟩ := bs h
      obtain ⟨id526, ver527, _, hid526f, hid526, hid526a, hid526v⟩ := HP.elem (k := 0) (a := a14) (sz := 1) (frz := false) eI64 hH rfl he525
      obtain ⟨H528, hH528, hH⟩ := HP.setRow (k := 0) (off := 0) (cs := [iv (w64 (e522 + 1))]) (ps := [.int .i64 (w64 (e522 + 1))]) (e' := (w64 (e522 + 1))) eI64 hH rfl hid526a hid526 (hid526f rfl) he525 (by kernel_rfl) (by kernel_rfl)
      replace hH : HP H528 [.arr a14 1 false (List.map eI64 (List.set l17 (Int.toNat e521.A) (w64 (e522 + 1))))] := hH
      refine rgS ⟨[(1, .loc 1 0), (3, a14), (5, .loc 5 0), (37, s_e_api_Link false a0_.Links), (38, iv ((List.length a0_.Links : Nat) : Int)), (39, iv i16)], [(1, (c_api_Topo a0_)), (5, (c_api_Link e521))], H528⟩ (APath.u 3 (st_val (ys := [a14, iv e521.A]) (by rcases hfa14 with ha14e | ⟨_, _, ha14e⟩ <;> subst ha14e <;> kernel_rfl) (hid523v .i64)) (APath.u 0 (st_loadO (H := H15) (off := 0) (cs := [.int .i64 e522]) (r := iv e522) eI64 he522 hid523 (by kernel_rfl) (by kernel_rfl) (by kernel_rfl) (by kernel_rfl)) (APath.u 1 (st_val (ys := [a14, iv e521.A]) (by rcases hfa14 with ha14e | ⟨_, _, ha14e⟩ <;> subst ha14e <;> kernel_rfl) (hid526v .i64)) (APath.o 0 (st_storeH (H := H15) (v := iv (w64 (e522 + 1))) (by kernel_rfl) (by kernel_rfl) (by kernel_rfl) (by kernel_rfl) hH528) APath.f)))) (by rcases hfa14 with ha14e | ⟨_, _, ha14e⟩ <;> subst ha14e <;> kernel_rfl) ?_
      refine tq ?_
      obtain ⟨e529, he529, h⟩ := bs h
      obtain ⟨id530, ver531, _, hid530f, hid530, hid530a, hid530v⟩ := HP.elem (k := 0) (a := a14) (sz := 1) (frz := false) eI64 hH rfl he529
      obtain ⟨e532, he532, h⟩ := bs h
      obtain ⟨id533, ver534, _, hid533f, hid533, hid533a, hid533v⟩ := HP.elem (k := 0) (a := a14) (sz := 1) (frz := false) eI64 hH rfl he532
      obtain ⟨H535, hH535, hH⟩ := HP.setRow (k := 0) (off := 0) (cs := [iv (w64 (e529 + 1))]) (ps := [.int .i64 (w64 (e529 + 1))]) (e' := (w64 (e529 + 1))) eI64 hH rfl hid533a hid533 (hid533f rfl) he532 (by kernel_rfl) (by kernel_rfl)
      replace hH : HP H535 [.arr a14 1 false (List.map eI64 (List.set (List.set l17 (Int.toNat e521.A) (w64 (e522 + 1))) (Int.toNat e521.B) (w64 (e529 + 1))))] := hH
      refine rgS ⟨[(1, .loc 1 0), (3, a14), (37, s_e_api_Link false a0_.Links), (38, iv ((List.length a0_.Links : Nat) : Int)), (39, iv i16)], [(1, (c_api_Topo a0_))], H535⟩ (APath.u 3 (st_val (ys := [a14, iv e521.B]) (by rcases hfa14 with ha14e | ⟨_, _, ha14e⟩ <;> subst ha14e <;> kernel_rfl) (hid530v .i64)) (APath.u 0 (st_loadO (H := H528) (off := 0) (cs := [.int .i64 e529]) (r := iv e529) eI64 he529 hid530 (by kernel_rfl) (by kernel_rfl) (by kernel_rfl) (by kernel_rfl)) (APath.u 1 (st_val (ys := [a14, iv e521.B]) (by rcases hfa14 with ha14e | ⟨_, _, ha14e⟩ <;> subst ha14e <;> kernel_rfl) (hid533v .i64)) (APath.o 0 (st_storeH (H := H528) (v := iv (w64 (e529 + 1))) (by kernel_rfl) (by kernel_rfl) (by kernel_rfl) (by kernel_rfl) hH535) APath.f)))) (by rcases hfa14 with ha14e | ⟨_, _, ha14e⟩ <;> subst ha14e <;> kernel_rfl) ?_
      refine bn (tq ?_)
      refine rgS ⟨[(1, .loc 1 0), (3, a14), (37, s_e_api_Link false a0_.Links), (38, iv ((List.length a0_.Links : Nat) : Int)), (39, iv (w64 (i16 + 1)))], [(1, (c_api_Topo a0_))], H535⟩ APath.f (by rcases hfa14 with ha14e | ⟨_, _, ha14e⟩ <;> subst ha14e <;> kernel_rfl) ?_
      obtain rfl := some_inj h
      exact ⟨_, rfl, ⟨a14, H535, (by show _ = _; rcases hfa14 with ha14e | ⟨_, _, ha14e⟩ <;> subst ha14e <;> kernel_rfl), (HP.pick hH [0] rfl)⟩⟩
    refine kq (xq ?_)
    refine tx ?_
    obtain rfl := some_inj h
    exact ⟨_, rfl, rfl, ⟨a14, H15, (by show _ = _; rcases hfa14 with ha14e | ⟨_, _, ha14e⟩ <;> subst ha14e <;> kernel_rfl), (HP.pick hH [0] rfl)⟩⟩
  rintro e s hq
  obtain ⟨rfl, hR⟩ := hq
  obtain ⟨a518, H519, rfl, hH⟩ := hR
  replace hH : HP H519 [.arr a518 1 false (List.map eI64 o536)] := hH
  have hfa518 := own_form (HP.get hH 0 rfl)
  refine bx (tq ?_)
  refine sq (sq ?_)
  refine rgS ⟨[(1, .loc 1 0), (3, a518), (59, s_eB false a0_.Station), (60, iv ((List.length a0_.Station : Nat) : Int)), (61, iv 0)], [(1, (c_api_Topo a0_))], H519⟩ (APath.u 2 (st_val (ys := [s_eB false a0_.Station]) (by kernel_rfl) (vexec_len eB)) APath.f) (by rcases hfa518 with ha518e | ⟨_, _, ha518e⟩ <;> subst ha518e <;> kernel_rfl) ?_
  refine tq (bk ?_)
  obtain ⟨o1052, ho1052, h⟩ := bs h
  refine vc_loop ((loop_sim (fun (x : Int) s => s = ⟨[(1, .loc 1 0), (3, a518), (59, s_eB false a0_.Station), (60, iv ((List.length a0_.Station : Nat) : Int)), (61, iv x)], [(1, (c_api_Topo a0_))], H519⟩) (fun x : Int => topo_Check_L2 N a0_ o536 x) (fun (p : (Unit) ⊕ (Int)) e s => match p with | (.inl p) => e = .exit 2 ∧ (s = ⟨[(1, .loc 1 0)], [(1, (c_api_Topo a0_))], H519⟩) | (.inr p) => e = .ret ∧ ∃ xs, resL s i38.res = some xs ∧ tupOf xs = iv p) ?_ N _ o1052 _ ho1052 (by show _ = _; rcases hfa518 with ha518e | ⟨_, _, ha518e⟩ <;> subst ha518e <;> kernel_rfl)).mono ?_)
  · clear h ho1052
    rintro i537 o s h hR
    obtain rfl := hR
    replace h : topo_Check_L2 N a0_ o536 i537 = some o := h
    unfold topo_Check_L2 at h
    refine sq (rgS ⟨[(1, .loc 1 0), (3, a518), (59, s_eB false a0_.Station), (60, iv ((List.length a0_.Station : Nat) : Int)), (61, iv i537), (62, bv (decide (i537 < ((List.length a0_.Station : Nat) : Int))))], [(1, (c_api_Topo a0_))], H519⟩ APath.f (by rcases hfa518 with ha518e | ⟨_, _, ha518e⟩ <;> subst ha518e <;> kernel_rfl) ?_)
    refine tq (sq ?_)
    refine it h (fun hc1038 h => ?_) (fun hc1038 h => ?_)
    · refine sk (tq ?_)
      refine kq (sq ?_)
      refine bk (sq ?_)
      obtain ⟨e1039, he1039, h⟩ := bs h
      refine rgS ⟨[(1, .loc 1 0), (3, a518), (6, iv i537), (7, bv e1039), (59, s_eB false a0_.Station), (60, iv ((List.length a0_.Station : Nat) : Int)), (61, iv i537)], [(1, (c_api_Topo a0_))], H519⟩ (APath.u 1 (st_val (ys := [s_eB false a0_.Station, iv i537]) (by kernel_rfl) (vexec_iaddrS eB he1039)) (APath.u 0 (st_loadP (sz := 1) (off := 0) (cs := [.bool e1039]) (r := bv e1039) eB he1039 (by kernel_rfl) (by kernel_rfl) (by kernel_rfl)) APath.f)) (by rcases hfa518 with ha518e | ⟨_, _, ha518e⟩ <;> subst ha518e <;> kernel_rfl) ?_
      refine tq (sq ?_)
      obtain ⟨j1050, hj, h⟩ := bs h
      refine rgR (fun s => s = ⟨[(1, .loc 1 0), (3, a518), (59, s_eB false a0_.Station), (60, iv ((List.length a0_.Station : Nat) : Int)), (61, iv i537), (80, bv j1050)], [(1, (c_api_Topo a0_))], H519⟩) ?_ ?_
      · clear h
        rcases ite_some hj with ⟨hc1040, hj⟩ | ⟨hc1049, hj⟩
        · refine (EP.u 0 (st_bool (c := e1039) (by kernel_rfl) hc1040) ?_)
          obtain ⟨e1041, he1041, hj⟩ := bs hj
          obtain ⟨id1042, ver1043, _, hid1042f, hid1042, hid1042a, hid1042v⟩ := HP.elem (k := 0) (a := a518) (sz := 1) (frz := false) eI64 hH rfl he1041
          refine (EP.u 3 (st_val (ys := [a518, iv i537]) (by rcases hfa518 with ha518e | ⟨_, _, ha518e⟩ <;> subst ha518e <;> kernel_rfl) (hid1042v .i64)) (EP.u 0 (st_loadO (H := H519) (off := 0) (cs := [.int .i64 e1041]) (r := iv e1041) eI64 he1041 hid1042 (by kernel_rfl) (by kernel_rfl) (by kernel_rfl) (by kernel_rfl)) ?_))
          rcases ite_some hj with ⟨hc1044, hj⟩ | ⟨hc1045, hj⟩
          · obtain rfl := some_inj hj
            exact (EP.u 0 (st_bool (c := (decide (e1041 < 1))) (by kernel_rfl) hc1044) (EP.f (by show _ = _; rcases hfa518 with ha518e | ⟨_, _, ha518e⟩ <;> subst ha518e <;> kernel_rfl)))
          refine (EP.u 0 (st_bool (c := (decide (e1041 < 1))) (by kernel_rfl) hc1045) ?_)
          obtain ⟨e1046, he1046, hj⟩ := bs hj
          obtain ⟨id1047, ver1048, _, hid1047f, hid1047, hid1047a, hid1047v⟩ := HP.elem (k := 0) (a := a518) (sz := 1) (frz := false) eI64 hH rfl he1046
          obtain rfl := some_inj hj
          exact (EP.u 3 (st_val (ys := [a518, iv i537]) (by rcases hfa518 with ha518e | ⟨_, _, ha518e⟩ <;> subst ha518e <;> kernel_rfl) (hid1047v .i64)) (EP.u 0 (st_loadO (H := H519) (off := 0) (cs := [.int .i64 e1046]) (r := iv e1046) eI64 he1046 hid1047 (by kernel_rfl) (by kernel_rfl) (by kernel_rfl) (by kernel_rfl)) (EP.f (by show _ = _; rcases hfa518 with ha518e | ⟨_, _, ha518e⟩ <;> subst ha518e <;> kernel_rfl))))
        obtain rfl := some_inj hj
        exact (EP.u 0 (st_bool (c := e1039) (by kernel_rfl) hc1049) (EP.f (by show _ = _; rcases hfa518 with ha518e | ⟨_, _, ha518e⟩ <;> subst ha518e <;> kernel_rfl)))
      clear hj
      rintro s hR
      obtain rfl := hR
      refine tq (it h (fun hc1051 h => ?_) (fun hc1051 h => ?_))
      · refine sq (rgS ⟨[(2, iv 260)], [], H519⟩ APath.f (by kernel_rfl) ?_)
        replace hH : HP H519 [] := HP.pick hH [] rfl
        refine tq (rt ?_)
        refine br (tr ?_)
        obtain rfl := some_inj h
        exact ⟨_, rfl, rfl, ret_of (by kernel_rfl)⟩
      refine sk (bn ?_)
      refine tq (kq ?_)
      refine rgS ⟨[(1, .loc 1 0), (3, a518), (59, s_eB false a0_.Station), (60, iv ((List.length a0_.Station : Nat) : Int)), (61, iv (w64 (i537 + 1)))], [(1, (c_api_Topo a0_))], H519⟩ APath.f (by rcases hfa518 with ha518e | ⟨_, _, ha518e⟩ <;> subst ha518e <;> kernel_rfl) ?_
      obtain rfl := some_inj h
      exact ⟨_, rfl, (by show _ = _; rcases hfa518 with ha518e | ⟨_, _, ha518e⟩ <;> subst ha518e <;> kernel_rfl)⟩
    refine kq ?_
    replace hH : HP H519 [] := HP.pick hH [] rfl
    refine xq (tx ?_)
    obtain rfl := some_inj h
    exact ⟨_, rfl, rfl, (by show _ = _; kernel_rfl)⟩
  rintro e s hq
  rcases o1052 with p1053 | p1057
  · dsimp only at h hq
    obtain ⟨rfl, hR⟩ := hq
    obtain rfl := hR
    refine bx (tq ?_)
    refine sq (sq ?_)
    obtain ⟨r1054, hr1054, h⟩ := bs h
    obtain ⟨r1055, hr1055, h⟩ := bs h
    refine rg (APath.v 2 (st_call (by kernel_rfl) (topo_reach_ok N a0_ 0 (Arr24_Bool.mk false false false false false false false false false false false false false false false false false false false false false false false false) r1054 hr1054)) (APath.v 0 (st_call (by kernel_rfl) (slices_Contains__bool_bool_ok N r1054 false r1055 hr1055)) APath.f)) (tq ?_)
    refine it h (fun hc1056 h => ?_) (fun hc1056 h => ?_)
    · refine sq (rg APath.f ?_)
      refine tq (rt ?_)
      refine tr ?_
      obtain rfl := some_inj h
      exact ret_of (by kernel_rfl)
    refine sk (tq ?_)
    refine kq (sq ?_)
    refine rg APath.f (tq ?_)
    refine rt ?_
    obtain rfl := some_inj h
    exact ret_of (by kernel_rfl)
  dsimp only at h hq
  obtain ⟨rfl, hq⟩ := hq
  refine br (tr ?_)
  obtain rfl := some_inj h
  exact hq
theorem route_Apart_1_ok (N : Nat) (a0_ : route_walk) (c0_ : (List Int)) (c1_ : (List Int)) (k0_ : Nat) (k1_ : Nat) (H : List HO) (hH : HP H [.cel k0_ [s_eI64 false c0_], .cel k1_ [s_eI64 false c1_]]) (r : Bool × Int) (h : route_Apart_1 N a0_ c0_ c1_ = some r) : ACall Try.prog 85 [.agg (c_api_Topo a0_.Topo), .ptr k0_ 0, .ptr k1_ 0] H (.tup [bv r.1, iv r.2]) H := by
  unfold route_Apart_1 at h
  refine acall_ofW chk85 rfl rfl rfl (vc_sound _ _ _ ?_)
  refine sq (rg APath.f ?_)
  refine tq (sq ?_)
  refine sq ?_
  have hlc1 := HP.get hH 0 rfl
  obtain ⟨r2, hr2, h⟩ := bs h
  refine rg (APath.u 1 (st_loadC (H := H) (id := k0_) (off := 0) (cs := [s_eI64 false c0_]) (c := [s_eI64 false c0_]) (r := s_eI64 false c0_) (by kernel_rfl) (by kernel_rfl) hlc1 (by kernel_rfl) (by kernel_rfl) (by kernel_rfl)) (APath.v 0 (st_call (by kernel_rfl) (route_walk_valid_ok N a0_ c0_ r2 hr2)) APath.f)) (tq ?_)
  refine it h (fun hc3 h => ?_) (fun hc3 h => ?_)
  · refine sq (rg APath.f ?_)
    replace hH : HP H [] := HP.pick hH [] rfl
    refine tq (rt ?_)
    refine tr ?_
    obtain rfl := some_inj h
    exact ret_ofAW (by kernel_rfl) (by kernel_rfl)
  refine sk (tq ?_)
  refine kq (sq ?_)
  obtain ⟨j17, hj, h⟩ := bs h
  refine rgR (fun s => s = ⟨[(4, bv j17), (5, iv 0)], [], H⟩) ?_ ?_
  · clear h
    have hlc4 := HP.get hH 1 rfl
    refine (EP.u 0 (st_loadC (H := H) (id := k1_) (off := 0) (cs := [s_eI64 false c1_]) (c := [s_eI64 false c1_]) (r := s_eI64 false c1_) (by kernel_rfl) (by kernel_rfl) hlc4 (by kernel_rfl) (by kernel_rfl) (by kernel_rfl)) ?_)
    have hlc5 := HP.get hH 0 rfl
    refine (EP.u 0 (st_loadC (H := H) (id := k0_) (off := 0) (cs := [s_eI64 false c0_]) (c := [s_eI64 false c0_]) (r := s_eI64 false c0_) (by kernel_rfl) (by kernel_rfl) hlc5 (by kernel_rfl) (by kernel_rfl) (by kernel_rfl)) ?_)
    obtain ⟨r6, hr6, hj⟩ := bs hj
    refine (EP.v 0 (st_call (by kernel_rfl) (route_shares_ok N c1_ c0_ r6 hr6)) ?_)
    rcases ite_some hj with ⟨hc7, hj⟩ | ⟨hc16, hj⟩
    · refine (EP.u 0 (st_bool (c := (!r6)) (by kernel_rfl) hc7) ?_)
      have hlc8 := HP.get hH 1 rfl
      refine (EP.u 2 (st_loadC (H := H) (id := k1_) (off := 0) (cs := [s_eI64 false c1_]) (c := [s_eI64 false c1_]) (r := s_eI64 false c1_) (by kernel_rfl) (by kernel_rfl) hlc8 (by kernel_rfl) (by kernel_rfl) (by kernel_rfl)) ?_)
      have hlc9 := HP.get hH 0 rfl
      refine (EP.u 0 (st_loadC (H := H) (id := k0_) (off := 0) (cs := [s_eI64 false c0_]) (c := [s_eI64 false c0_]) (r := s_eI64 false c0_) (by kernel_rfl) (by kernel_rfl) hlc9 (by kernel_rfl) (by kernel_rfl) (by kernel_rfl)) ?_)
      obtain ⟨r10, hr10, hj⟩ := bs hj
      refine (EP.v 0 (st_call (by kernel_rfl) (route_walk_meets_ok N a0_ c1_ c0_ r10 hr10)) ?_)
      rcases ite_some hj with ⟨hc11, hj⟩ | ⟨hc15, hj⟩
      · refine (EP.u 0 (st_bool (c := (!r10)) (by kernel_rfl) hc11) ?_)
        have hlc12 := HP.get hH 0 rfl
        refine (EP.u 3 (st_loadC (H := H) (id := k0_) (off := 0) (cs := [s_eI64 false c0_]) (c := [s_eI64 false c0_]) (r := s_eI64 false c0_) (by kernel_rfl) (by kernel_rfl) hlc12 (by kernel_rfl) (by kernel_rfl) (by kernel_rfl)) ?_)
        have hlc13 := HP.get hH 1 rfl
        refine (EP.u 0 (st_loadC (H := H) (id := k1_) (off := 0) (cs := [s_eI64 false c1_]) (c := [s_eI64 false c1_]) (r := s_eI64 false c1_) (by kernel_rfl) (by kernel_rfl) hlc13 (by kernel_rfl) (by kernel_rfl) (by kernel_rfl)) ?_)
        obtain ⟨r14, hr14, hj⟩ := bs hj
        obtain rfl := some_inj hj
        exact (EP.v 0 (st_call (by kernel_rfl) (route_walk_meets_ok N a0_ c0_ c1_ r14 hr14)) (EP.f (by show _ = _; kernel_rfl)))
      obtain rfl := some_inj hj
      exact (EP.u 0 (st_bool (c := (!r10)) (by kernel_rfl) hc15) (EP.f (by show _ = _; kernel_rfl)))
    obtain rfl := some_inj hj
    exact (EP.u 0 (st_bool (c := (!r6)) (by kernel_rfl) hc16) (EP.f (by show _ = _; kernel_rfl)))
  clear hj
  rintro s hR
  obtain rfl := hR
  refine tq (rt ?_)
  obtain rfl := some_inj h
  exact ret_ofAW (by kernel_rfl) (by kernel_rfl)
theorem route_Check_ok (N : Nat) (a0_ : api_Topo) (a1_ : (List Int)) (r : Int) (h : route_Check N a0_ a1_ = some r) : PCall Try.prog 92 [.agg (c_api_Topo a0_), s_eI64 false a1_] (iv r) := by
  unfold route_Check at h
  have hH : HP ([] : List HO) [] := trivial
  refine pcall_of chk92 rfl rfl (vc_sound _ _ _ ?_) rfl
  refine sq (rg APath.f ?_)
  refine tq (sq ?_)
  refine sq ?_
  obtain ⟨r1, hr1, h⟩ := bs h
  refine rg (APath.v 1 (st_call (by kernel_rfl) (topo_Check_ok N a0_ r1 hr1)) APath.f) (tq ?_)
  refine sq (rg APath.f ?_)
  refine tq (it h (fun hc2 h => ?_) (fun hc2 h => ?_))
  · refine sq (rg APath.f ?_)
    refine tq (rt ?_)
    refine tr ?_
    obtain rfl := some_inj h
    exact ret_of (by kernel_rfl)
  refine sk (tq ?_)
  refine kq (sq ?_)
  refine sq ?_
  obtain ⟨r3, hr3, h⟩ := bs h
  refine rg (APath.v 3 (st_call (by kernel_rfl) (route_walk_valid_ok N (route_walk.mk a0_) a1_ r3 hr3)) APath.f) (tq ?_)
  refine it h (fun hc4 h => ?_) (fun hc4 h => ?_)
  · refine sq (rg APath.f ?_)
    refine tq (rt ?_)
    refine tr ?_
    obtain rfl := some_inj h
    exact ret_of (by kernel_rfl)
  refine sk (tq ?_)
  refine kq (sq ?_)
  refine rg APath.f (tq ?_)
  refine rt ?_
  obtain rfl := some_inj h
  exact ret_of (by kernel_rfl)
theorem route_ask__int_ok (N : Nat) (a0_ : api_Topo) (a1_ : (List Int)) (a2_ : route_walk → Option ((List Int) × Int)) (a2_f : Nat) (a2_p a2_c : List AV) (ha2_n : (noLocL a2_p && noLocL a2_c) = true) (its : List Thing) (ha2_ : ∀ (H : List HO) (x0 : route_walk) (r : (List Int) × Int), HP H its → a2_ x0 = some r → VCall Try.prog (.fn a2_f a2_p a2_c) [.agg [iv x0.Topo.Nodes, s_eB false x0.Topo.Station, s_e_api_Link false x0.Topo.Links]] H (.tup [s_eI64 false r.1, iv r.2]) H) (H : List HO) (hH : HP H (its)) (r : (List Int) × Int) (h : route_ask__int N a0_ a1_ a2_ = some r) : ACall Try.prog 96 [.agg (c_api_Topo a0_), s_eI64 false a1_, .fn a2_f a2_p a2_c] H (.tup [s_eI64 false r.1, iv r.2]) H := by
  unfold route_ask__int at h
  refine acall_ofW chk96 rfl (by simpa [noLocL, noLoc.noLocL, noLoc] using ha2_n) rfl (vc_sound _ _ _ ?_)
  refine sq (rg APath.f ?_)
  refine tq (sq ?_)
  refine rg APath.f (tq ?_)
  refine sq (sq ?_)
  obtain ⟨r1, hr1, h⟩ := bs h
  refine rg (APath.v 2 (st_call (by kernel_rfl) (route_Check_ok N a0_ a1_ r1 hr1)) APath.f) (tq ?_)
  refine sq (rg APath.f ?_)
  refine tq (it h (fun hc2 h => ?_) (fun hc2 h => ?_))
  · refine sq (rg APath.f ?_)
    refine tq (rt ?_)
    refine tr ?_
    obtain rfl := some_inj h
    exact ret_ofAW (by kernel_rfl) (by kernel_rfl)
  refine sk (tq ?_)
  refine kq (sq ?_)
  obtain ⟨r3, hr3, h⟩ := bs h
  have hvr3 := ha2_ _ (route_walk.mk a0_) _ hH hr3
  refine rg (APath.v 3 (st_callV (H := H) (ys := [.agg (c_api_Topo a0_)]) (by kernel_rfl) (by kernel_rfl) (by kernel_rfl) hvr3) APath.f) (tq ?_)
  refine rt ?_
  obtain rfl := some_inj h
  exact ret_ofAW (by kernel_rfl) (by kernel_rfl)
theorem route_ask_bool_ok (N : Nat) (a0_ : api_Topo) (a1_ : (List Int)) (a2_ : route_walk → Option (Bool × Int)) (a2_f : Nat) (a2_p a2_c : List AV) (ha2_n : (noLocL a2_p && noLocL a2_c) = true) (its : List Thing) (ha2_ : ∀ (H : List HO) (x0 : route_walk) (r : Bool × Int), HP H its → a2_ x0 = some r → VCall Try.prog (.fn a2_f a2_p a2_c) [.agg [iv x0.Topo.Nodes, s_eB false x0.Topo.Station, s_e_api_Link false x0.Topo.Links]] H (.tup [bv r.1, iv r.2]) H) (H : List HO) (hH : HP H (its)) (r : Bool × Int) (h : route_ask_bool N a0_ a1_ a2_ = some r) : ACall Try.prog 84 [.agg (c_api_Topo a0_), s_eI64 false a1_, .fn a2_f a2_p a2_c] H (.tup [bv r.1, iv r.2]) H := by
  unfold route_ask_bool at h
  refine acall_ofW chk84 rfl (by simpa [noLocL, noLoc.noLocL, noLoc] using ha2_n) rfl (vc_sound _ _ _ ?_)
  refine sq (rg APath.f ?_)
  refine tq (sq ?_)
  refine rg APath.f (tq ?_)
  refine sq (sq ?_)
  obtain ⟨r1, hr1, h⟩ := bs h
  refine rg (APath.v 2 (st_call (by kernel_rfl) (route_Check_ok N a0_ a1_ r1 hr1)) APath.f) (tq ?_)
  refine sq (rg APath.f ?_)
  refine tq (it h (fun hc2 h => ?_) (fun hc2 h => ?_))
  · refine sq (rg APath.f ?_)
    refine tq (rt ?_)
    refine tr ?_
    obtain rfl := some_inj h
    exact ret_ofAW (by kernel_rfl) (by kernel_rfl)
  refine sk (tq ?_)
  refine kq (sq ?_)
  obtain ⟨r3, hr3, h⟩ := bs h
  have hvr3 := ha2_ _ (route_walk.mk a0_) _ hH hr3
  refine rg (APath.v 3 (st_callV (H := H) (ys := [.agg (c_api_Topo a0_)]) (by kernel_rfl) (by kernel_rfl) (by kernel_rfl) hvr3) APath.f) (tq ?_)
  refine rt ?_
  obtain rfl := some_inj h
  exact ret_ofAW (by kernel_rfl) (by kernel_rfl)
theorem route_Nodes_ok (N : Nat) (a0_ : api_Topo) (a1_ : (List Int)) (r : (List Int) × Int) (h : route_Nodes N a0_ a1_ = some r) : PCall Try.prog 91 [.agg (c_api_Topo a0_), s_eI64 false a1_] (.tup [s_eI64 false r.1, iv r.2]) := by
  unfold route_Nodes at h
  have hH : HP ([] : List HO) [] := trivial
  refine pcall_of chk91 rfl rfl (vc_sound _ _ _ ?_) rfl
  refine sq ?_
  obtain ⟨id1, H2, hid1, hH2, hH⟩ := HP.newCell hH [s_eI64 false a1_]
  replace hH : HP H2 [.cel id1 [s_eI64 false a1_]] := hH
  refine rg (APath.h 1 (st_boxH (H := []) (v := s_eI64 false a1_) (by kernel_rfl) (by kernel_rfl) (by kernel_rfl) hid1 hH2) APath.f) (tq ?_)
  refine sq ?_
  have hlc3 := HP.get hH 0 rfl
  obtain ⟨r4, hr4, h⟩ := bs h
  have hvr4 := (route_ask__int_ok N a0_ a1_ (fun x0 => route_Nodes_1 N x0 a1_)   97 [] [.ptr id1 0] (by kernel_rfl) [.cel id1 [s_eI64 false a1_]] (fun H x0 r hH h => VCall.of (by kernel_rfl) (route_Nodes_1_ok N  x0 a1_ id1 H hH r h)) H2 (HP.now (HP.pick hH [0] rfl)) r4 hr4)
  refine rg (APath.u 1 (st_loadC (H := H2) (id := id1) (off := 0) (cs := [s_eI64 false a1_]) (c := [s_eI64 false a1_]) (r := s_eI64 false a1_) (by kernel_rfl) (by kernel_rfl) hlc3 (by kernel_rfl) (by kernel_rfl) (by kernel_rfl)) (APath.v 1 (st_callH (H := H2) (ys := [.agg (c_api_Topo a0_), s_eI64 false a1_, .fn 97 [] [.ptr id1 0]]) (by kernel_rfl) (by kernel_rfl) (by kernel_rfl) hvr4) APath.f)) ?_
  replace hH : HP H2 [] := HP.pick hH [] rfl
  refine tq (rt ?_)
  obtain rfl := some_inj h
  exact ret_of (by kernel_rfl)
theorem route_Apart_ok (N : Nat) (a0_ : api_Topo) (a1_ : (List Int)) (a2_ : (List Int)) (r : Bool × Int) (h : route_Apart N a0_ a1_ a2_ = some r) : PCall Try.prog 67 [.agg (c_api_Topo a0_), s_eI64 false a1_, s_eI64 false a2_] (.tup [bv r.1, iv r.2]) := by
  unfold route_Apart at h
  have hH : HP ([] : List HO) [] := trivial
  refine pcall_of chk67 rfl rfl (vc_sound _ _ _ ?_) rfl
  refine sq ?_
  obtain ⟨id1, H2, hid1, hH2, hH⟩ := HP.newCell hH [s_eI64 false a1_]
  replace hH : HP H2 [.cel id1 [s_eI64 false a1_]] := hH
  obtain ⟨id3, H4, hid3, hH4, hH⟩ := HP.newCell hH [s_eI64 false a2_]
  replace hH : HP H4 [.cel id3 [s_eI64 false a2_], .cel id1 [s_eI64 false a1_]] := hH
  refine rg (APath.h 1 (st_boxH (H := []) (v := s_eI64 false a1_) (by kernel_rfl) (by kernel_rfl) (by kernel_rfl) hid1 hH2) (APath.h 0 (st_boxH (H := H2) (v := s_eI64 false a2_) (by kernel_rfl) (by kernel_rfl) (by kernel_rfl) hid3 hH4) APath.f)) (tq ?_)
  refine sq ?_
  have hlc5 := HP.get hH 1 rfl
  obtain ⟨r6, hr6, h⟩ := bs h
  have hvr6 := (route_ask_bool_ok N a0_ a1_ (fun x0 => route_Apart_1 N x0 a2_ a1_)   85 [] [.ptr id3 0, .ptr id1 0] (by kernel_rfl) [.cel id3 [s_eI64 false a2_], .cel id1 [s_eI64 false a1_]] (fun H x0 r hH h => VCall.of (by kernel_rfl) (route_Apart_1_ok N  x0 a2_ a1_ id3 id1 H hH r h)) H4 (HP.now (HP.pick hH [0, 1] rfl)) r6 hr6)
  refine rg (APath.u 1 (st_loadC (H := H4) (id := id1) (off := 0) (cs := [s_eI64 false a1_]) (c := [s_eI64 false a1_]) (r := s_eI64 false a1_) (by kernel_rfl) (by kernel_rfl) hlc5 (by kernel_rfl) (by kernel_rfl) (by kernel_rfl)) (APath.v 1 (st_callH (H := H4) (ys := [.agg (c_api_Topo a0_), s_eI64 false a1_, .fn 85 [] [.ptr id3 0, .ptr id1 0]]) (by kernel_rfl) (by kernel_rfl) (by kernel_rfl) hvr6) APath.f)) ?_
  replace hH : HP H4 [] := HP.pick hH [] rfl
  refine tq (rt ?_)
  obtain rfl := some_inj h
  exact ret_of (by kernel_rfl)
theorem route_Ends_ok (N : Nat) (a0_ : api_Topo) (a1_ : (List Int)) (r : Int × Int × Int) (h : route_Ends N a0_ a1_ = some r) : PCall Try.prog 83 [.agg (c_api_Topo a0_), s_eI64 false a1_] (.tup [iv r.1, iv r.2.1, iv r.2.2]) := by
  unfold route_Ends at h
  have hH : HP ([] : List HO) [] := trivial
  refine pcall_of chk83 rfl rfl (vc_sound _ _ _ ?_) rfl
  refine sq (rg APath.f ?_)
  refine tq (sq ?_)
  obtain ⟨r1, hr1, h⟩ := bs h
  refine rg (APath.v 2 (st_call (by kernel_rfl) (route_Nodes_ok N a0_ a1_ r1 hr1)) APath.f) (tq ?_)
  refine sq (sq ?_)
  refine rg APath.f (tq ?_)
  refine it h (fun hc2 h => ?_) (fun hc2 h => ?_)
  · refine sq (rg APath.f ?_)
    refine tq (rt ?_)
    refine tr ?_
    obtain rfl := some_inj h
    exact ret_of (by kernel_rfl)
  refine sk (tq ?_)
  refine kq (sq ?_)
  obtain ⟨e3, he3, h⟩ := bs h
  obtain ⟨e4, he4, h⟩ := bs h
  refine rq (APath.u 1 (st_val (ys := [s_eI64 false r1.1, iv 0]) (by kernel_rfl) (vexec_iaddrS eI64 he3)) (APath.u 0 (st_toLH (st_loadP (sz := 1) (off := 0) (cs := [.int .i64 e3]) (r := iv e3) eI64 he3 (by kernel_rfl) (by kernel_rfl) (by kernel_rfl)) (by kernel_rfl)) (APath.u 2 (st_val (ys := [s_eI64 false r1.1]) (by kernel_rfl) (vexec_len eI64)) (APath.u 1 (st_val (ys := [s_eI64 false r1.1, iv (w64 (((List.length r1.1 : Nat) : Int) - 1))]) (by kernel_rfl) (vexec_iaddrS eI64 he4)) (APath.u 0 (st_toLH (st_loadP (sz := 1) (off := 0) (cs := [.int .i64 e4]) (r := iv e4) eI64 he4 (by kernel_rfl) (by kernel_rfl) (by kernel_rfl)) (by kernel_rfl)) APath.f))))) (tq ?_)
  refine rt ?_
  obtain rfl := some_inj h
  exact ret_of (by kernel_rfl)
theorem stream_joins_ok (N : Nat) (a0_ : api_Topo) (a1_ : (List Int)) (a2_ : Int) (a3_ : Int) (r : Bool) (h : stream_joins N a0_ a1_ a2_ a3_ = some r) : PCall Try.prog 65 [.agg (c_api_Topo a0_), s_eI64 false a1_, iv a2_, iv a3_] (bv r) := by
  unfold stream_joins at h
  have hH : HP ([] : List HO) [] := trivial
  refine pcall_of chk65 rfl rfl (vc_sound _ _ _ ?_) rfl
  refine sq (rg APath.f ?_)
  refine tq (sq ?_)
  obtain ⟨r1, hr1, h⟩ := bs h
  refine rg (APath.v 2 (st_call (by kernel_rfl) (route_Ends_ok N a0_ a1_ r1 hr1)) APath.f) (tq ?_)
  refine sq (rgX ⟨[(8, bv ((r1.2.2 == 0) && ((r1.1 == a2_) && (r1.2.1 == a3_))))], [], []⟩ ?_ ?_)
  · rcases Bool.eq_false_or_eq_true (r1.2.2 == 0) with hc2 | hc5
    · refine (EP.u 1 (st_bool (c := (r1.2.2 == 0)) (by kernel_rfl) hc2) ?_)
      rcases Bool.eq_false_or_eq_true (r1.1 == a2_) with hc3 | hc4
      · exact (EP.u 3 (st_bool (c := (r1.1 == a2_)) (by kernel_rfl) hc3) (EP.f (by simp only [hc2, hc3]; kernel_rfl)))
      exact (EP.u 3 (st_bool (c := (r1.1 == a2_)) (by kernel_rfl) hc4) (EP.f (by simp only [hc2, hc4]; kernel_rfl)))
    exact (EP.u 1 (st_bool (c := (r1.2.2 == 0)) (by kernel_rfl) hc5) (EP.f (by simp only [hc5]; kernel_rfl)))
  refine tq (rt ?_)
  obtain rfl := some_inj h
  exact ret_of (by kernel_rfl)
theorem stream_valid_8_ok (N : Nat) (c0_ : api_Stream) (c1_ : api_Topo) (k0_ : Nat) (k1_ : Nat) (H : List HO) (hH : HP H [.cel k0_ (c_api_Stream c0_), .cel k1_ (c_api_Topo c1_)]) (r : Bool) (h : stream_valid_8 N c0_ c1_ = some r) : ACall Try.prog 66 [.ptr k0_ 0, .ptr k1_ 0] H (bv r) H := by
  unfold stream_valid_8 at h
  refine acall_ofW chk66 rfl rfl rfl (vc_sound _ _ _ ?_)
  refine sq (rg APath.f ?_)
  refine tq (sq ?_)
  refine sq ?_
  have hlc1 := HP.get hH 0 rfl
  refine rg (APath.u 1 (st_loadC (H := H) (id := k0_) (off := 9) (cs := (c_api_Stream c0_)) (c := [s_eSl_1_eI64 false c0_.Routes]) (r := s_eSl_1_eI64 false c0_.Routes) (by kernel_rfl) (by kernel_rfl) hlc1 (by kernel_rfl) (by kernel_rfl) (by kernel_rfl)) (APath.u 0 (st_val (ys := [s_eSl_1_eI64 false c0_.Routes]) (by kernel_rfl) (vexec_len (eSl 1 eI64))) APath.f)) (tq ?_)
  refine it h (fun hc2 h => ?_) (fun hc2 h => ?_)
  · refine sq (rg APath.f ?_)
    replace hH : HP H [] := HP.pick hH [] rfl
    refine tq (rt ?_)
    refine tr ?_
    obtain rfl := some_inj h
    exact ret_ofAW (by kernel_rfl) (by kernel_rfl)
  refine sk (tq ?_)
  refine kq (sq ?_)
  have hlc3 := HP.get hH 1 rfl
  have hlc4 := HP.get hH 0 rfl
  obtain ⟨e5, he5, h⟩ := bs h
  have hlc6 := HP.get hH 0 rfl
  obtain ⟨e7, he7, h⟩ := bs h
  obtain ⟨r8, hr8, h⟩ := bs h
  refine rq (APath.u 0 (st_toLH (st_loadC (H := H) (id := k1_) (off := 0) (cs := (c_api_Topo c1_)) (c := (c_api_Topo c1_)) (r := .agg (c_api_Topo c1_)) (by kernel_rfl) (by kernel_rfl) hlc3 (by kernel_rfl) (by kernel_rfl) (by kernel_rfl)) (by kernel_rfl)) (APath.u 1 (st_toLH (st_loadC (H := H) (id := k0_) (off := 9) (cs := (c_api_Stream c0_)) (c := [s_eSl_1_eI64 false c0_.Routes]) (r := s_eSl_1_eI64 false c0_.Routes) (by kernel_rfl) (by kernel_rfl) hlc4 (by kernel_rfl) (by kernel_rfl) (by kernel_rfl)) (by kernel_rfl)) (APath.u 0 (st_val (ys := [s_eSl_1_eI64 false c0_.Routes, iv 0]) (by kernel_rfl) (vexec_iaddrS (eSl 1 eI64) he5)) (APath.u 0 (st_toLH (st_loadP (sz := 1) (off := 0) (cs := [.sl 1 false (List.map eI64 e5)]) (r := s_eI64 false e5) (eSl 1 eI64) he5 (by kernel_rfl) (by kernel_rfl) (by kernel_rfl)) (by kernel_rfl)) (APath.u 1 (st_toLH (st_loadC (H := H) (id := k0_) (off := 9) (cs := (c_api_Stream c0_)) (c := [s_eSl_1_eI64 false c0_.Routes]) (r := s_eSl_1_eI64 false c0_.Routes) (by kernel_rfl) (by kernel_rfl) hlc6 (by kernel_rfl) (by kernel_rfl) (by kernel_rfl)) (by kernel_rfl)) (APath.u 0 (st_val (ys := [s_eSl_1_eI64 false c0_.Routes, iv 1]) (by kernel_rfl) (vexec_iaddrS (eSl 1 eI64) he7)) (APath.u 0 (st_toLH (st_loadP (sz := 1) (off := 0) (cs := [.sl 1 false (List.map eI64 e7)]) (r := s_eI64 false e7) (eSl 1 eI64) he7 (by kernel_rfl) (by kernel_rfl) (by kernel_rfl)) (by kernel_rfl)) (APath.v 0 (st_call (by kernel_rfl) (route_Apart_ok N c1_ e5 e7 r8 hr8)) APath.f)))))))) ?_
  replace hH : HP H [] := HP.pick hH [] rfl
  refine tq (sq ?_)
  refine rgX ⟨[(2, bv ((r8.2 == 0) && r8.1))], [], H⟩ ?_ ?_
  · rcases Bool.eq_false_or_eq_true (r8.2 == 0) with hc9 | hc10
    · exact (EP.u 1 (st_bool (c := (r8.2 == 0)) (by kernel_rfl) hc9) (EP.f (by simp only [hc9]; kernel_rfl)))
    exact (EP.u 1 (st_bool (c := (r8.2 == 0)) (by kernel_rfl) hc10) (EP.f (by simp only [hc10]; kernel_rfl)))
  refine tq (rt ?_)
  obtain rfl := some_inj h
  exact ret_ofAW (by kernel_rfl) (by kernel_rfl)
theorem stream_valid_7_ok (N : Nat) (c0_ : api_Stream) (c1_ : api_Topo) (k0_ : Nat) (k1_ : Nat) (H : List HO) (hH : HP H [.cel k0_ (c_api_Stream c0_), .cel k1_ (c_api_Topo c1_)]) (r : Bool) (h : stream_valid_7 N c0_ c1_ = some r) : ACall Try.prog 64 [.ptr k0_ 0, .ptr k1_ 0] H (bv r) H := by
  unfold stream_valid_7 at h
  refine acall_ofW chk64 rfl rfl rfl (vc_sound _ _ _ ?_)
  refine sq (rg APath.f ?_)
  refine tq (sq ?_)
  refine sq ?_
  have hlc1 := HP.get hH 0 rfl
  refine rg (APath.u 1 (st_loadC (H := H) (id := k0_) (off := 9) (cs := (c_api_Stream c0_)) (c := [s_eSl_1_eI64 false c0_.Routes]) (r := s_eSl_1_eI64 false c0_.Routes) (by kernel_rfl) (by kernel_rfl) hlc1 (by kernel_rfl) (by kernel_rfl) (by kernel_rfl)) (APath.u 0 (st_val (ys := [s_eSl_1_eI64 false c0_.Routes]) (by kernel_rfl) (vexec_len (eSl 1 eI64))) APath.f)) (tq ?_)
  refine bk ?_
  obtain ⟨o510, ho510, h⟩ := bs h
  refine vc_loop ((loop_sim (fun (x : Int) s => s = ⟨[(0, .ptr k0_ 0), (1, .ptr k1_ 0), (6, s_eSl_1_eI64 false c0_.Routes), (7, iv ((List.length c0_.Routes : Nat) : Int)), (8, iv x)], [], H⟩) (fun x : Int => stream_valid_7_L1 N c0_ c1_ x) (fun (p : (Unit) ⊕ (Bool)) e s => match p with | (.inl p) => e = .exit 0 ∧ (s = ⟨[], [], H⟩) | (.inr p) => e = .ret ∧ ∃ xs, rawL s i64.res = some xs ∧ tupOf (weakVs xs) = bv p ∧ s.H = H) ?_ N _ o510 _ ho510 (by show _ = _; kernel_rfl)).mono ?_)
  · clear h ho510
    rintro i2 o s h hR
    obtain rfl := hR
    replace h : stream_valid_7_L1 N c0_ c1_ i2 = some o := h
    unfold stream_valid_7_L1 at h
    refine sq (rg APath.f ?_)
    refine tq (sq ?_)
    refine it h (fun hc503 h => ?_) (fun hc503 h => ?_)
    · refine sk (tq ?_)
      refine kq (sq ?_)
      refine bk (sq ?_)
      obtain ⟨e504, he504, h⟩ := bs h
      refine rg (APath.u 0 (st_val (ys := [s_eSl_1_eI64 false c0_.Routes, iv i2]) (by kernel_rfl) (vexec_iaddrS (eSl 1 eI64) he504)) (APath.u 0 (st_loadP (sz := 1) (off := 0) (cs := [.sl 1 false (List.map eI64 e504)]) (r := s_eI64 false e504) (eSl 1 eI64) he504 (by kernel_rfl) (by kernel_rfl) (by kernel_rfl)) APath.f)) (tq ?_)
      refine sq ?_
      have hlc505 := HP.get hH 1 rfl
      have hlc506 := HP.get hH 0 rfl
      have hlc507 := HP.get hH 0 rfl
      obtain ⟨r508, hr508, h⟩ := bs h
      refine rg (APath.u 0 (st_loadC (H := H) (id := k1_) (off := 0) (cs := (c_api_Topo c1_)) (c := (c_api_Topo c1_)) (r := .agg (c_api_Topo c1_)) (by kernel_rfl) (by kernel_rfl) hlc505 (by kernel_rfl) (by kernel_rfl) (by kernel_rfl)) (APath.u 2 (st_loadC (H := H) (id := k0_) (off := 1) (cs := (c_api_Stream c0_)) (c := [iv c0_.Talker]) (r := iv c0_.Talker) (by kernel_rfl) (by kernel_rfl) hlc506 (by kernel_rfl) (by kernel_rfl) (by kernel_rfl)) (APath.u 1 (st_loadC (H := H) (id := k0_) (off := 2) (cs := (c_api_Stream c0_)) (c := [iv c0_.Listener]) (r := iv c0_.Listener) (by kernel_rfl) (by kernel_rfl) hlc507 (by kernel_rfl) (by kernel_rfl) (by kernel_rfl)) (APath.v 0 (st_call (by kernel_rfl) (stream_joins_ok N c1_ e504 c0_.Talker c0_.Listener r508 hr508)) APath.f)))) (tq ?_)
      refine it h (fun hc509 h => ?_) (fun hc509 h => ?_)
      · refine sq (rg APath.f ?_)
        replace hH : HP H [] := HP.pick hH [] rfl
        refine tq (rt ?_)
        refine br (tr ?_)
        obtain rfl := some_inj h
        exact ⟨_, rfl, rfl, ret_ofAW (by kernel_rfl) (by kernel_rfl)⟩
      refine sk (bn ?_)
      refine tq (kq ?_)
      refine rg APath.f ?_
      obtain rfl := some_inj h
      exact ⟨_, rfl, (by show _ = _; kernel_rfl)⟩
    refine kq ?_
    replace hH : HP H [] := HP.pick hH [] rfl
    refine xq (tx ?_)
    obtain rfl := some_inj h
    exact ⟨_, rfl, rfl, (by show _ = _; kernel_rfl)⟩
  rintro e s hq
  rcases o510 with p511 | p512
  · dsimp only at h hq
    obtain ⟨rfl, hR⟩ := hq
    obtain rfl := hR
    refine bx (tq ?_)
    refine sq (rg APath.f ?_)
    refine tq (rt ?_)
    obtain rfl := some_inj h
    exact ret_ofAW (by kernel_rfl) (by kernel_rfl)
  dsimp only at h hq
  obtain ⟨rfl, hq⟩ := hq
  refine br (tr ?_)
  obtain rfl := some_inj h
  exact hq
theorem stream_valid_ok (N : Nat) (a0_ : api_Topo) (a1_ : api_Stream) (r : Bool) (h : stream_valid N a0_ a1_ = some r) : PCall Try.prog 39 [.agg (c_api_Topo a0_), .agg (c_api_Stream a1_)] (bv r) := by
  unfold stream_valid at h
  have hH : HP ([] : List HO) [] := trivial
  refine pcall_of chk39 rfl rfl (vc_sound _ _ _ ?_) rfl
  refine sq ?_
  obtain ⟨id1, H2, hid1, hH2, hH⟩ := HP.newCell hH (c_api_Topo a0_)
  replace hH : HP H2 [.cel id1 (c_api_Topo a0_)] := hH
  obtain ⟨id3, H4, hid3, hH4, hH⟩ := HP.newCell hH (c_api_Stream a1_)
  replace hH : HP H4 [.cel id3 (c_api_Stream a1_), .cel id1 (c_api_Topo a0_)] := hH
  refine rg (APath.h 0 (st_boxH (H := []) (v := .agg (c_api_Topo a0_)) (by kernel_rfl) (by kernel_rfl) (by kernel_rfl) hid1 hH2) (APath.h 0 (st_boxH (H := H2) (v := .agg (c_api_Stream a1_)) (by kernel_rfl) (by kernel_rfl) (by kernel_rfl) hid3 hH4) APath.f)) (tq ?_)
  refine sq ?_
  obtain ⟨id5, H6, hid5, hH6, hH⟩ := HP.newCell hH [.fn 56 [] [.ptr id3 0], .fn 57 [] [.ptr id1 0, .ptr id3 0], .fn 59 [] [.ptr id3 0], .fn 60 [] [.ptr id3 0], .fn 61 [] [.ptr id3 0], .fn 63 [] [.ptr id3 0], .fn 64 [] [.ptr id3 0, .ptr id1 0], .fn 66 [] [.ptr id3 0, .ptr id1 0]]
  replace hH : HP H6 [.cel id5 [.fn 56 [] [.ptr id3 0], .fn 57 [] [.ptr id1 0, .ptr id3 0], .fn 59 [] [.ptr id3 0], .fn 60 [] [.ptr id3 0], .fn 61 [] [.ptr id3 0], .fn 63 [] [.ptr id3 0], .fn 64 [] [.ptr id3 0, .ptr id1 0], .fn 66 [] [.ptr id3 0, .ptr id1 0]], .cel id3 (c_api_Stream a1_), .cel id1 (c_api_Topo a0_)] := hH
  refine rg (APath.h 8 (st_litC (H := H4) (ys := [.fn 56 [] [.ptr id3 0], .fn 57 [] [.ptr id1 0, .ptr id3 0], .fn 59 [] [.ptr id3 0], .fn 60 [] [.ptr id3 0], .fn 61 [] [.ptr id3 0], .fn 63 [] [.ptr id3 0], .fn 64 [] [.ptr id3 0, .ptr id1 0], .fn 66 [] [.ptr id3 0, .ptr id1 0]]) (by kernel_rfl) (by kernel_rfl) (by kernel_rfl) hid5 hH6) APath.f) (tq ?_)
  refine sq (sq ?_)
  refine rg APath.f (tq ?_)
  refine bk (vc_unroll 18 ?_)
  refine unr_step ?_
  refine sq (rg APath.f ?_)
  refine tq (sq ?_)
  refine vc_true (by kernel_rfl) ?_
  refine sk (tq ?_)
  refine kq (sq ?_)
  refine bk (sq ?_)
  have hlc7 := HP.get hH 0 rfl
  refine rg (APath.u 1 (st_loadC (H := H6) (id := id5) (off := 0) (cs := [.fn 56 [] [.ptr id3 0], .fn 57 [] [.ptr id1 0, .ptr id3 0], .fn 59 [] [.ptr id3 0], .fn 60 [] [.ptr id3 0], .fn 61 [] [.ptr id3 0], .fn 63 [] [.ptr id3 0], .fn 64 [] [.ptr id3 0, .ptr id1 0], .fn 66 [] [.ptr id3 0, .ptr id1 0]]) (c := [.fn 56 [] [.ptr id3 0]]) (r := .fn 56 [] [.ptr id3 0]) (by kernel_rfl) (by kernel_rfl) hlc7 (by kernel_rfl) (by kernel_rfl) (by kernel_rfl)) APath.f) (tq ?_)
  refine sq ?_
  obtain ⟨r8, hr8, h⟩ := bs h
  have hvr8 := (stream_valid_1_ok N  a1_ id3 H6 (HP.now (HP.pick hH [1] rfl)) r8 hr8)
  refine rg (APath.v 1 (st_callV (H := H6) (fv := .fn 56 [] [.ptr id3 0]) (ys := []) (by kernel_rfl) (by kernel_rfl) (by kernel_rfl) (VCall.of (by kernel_rfl) hvr8)) APath.f) (tq ?_)
  refine it h (fun hc9 h => ?_) (fun hc9 h => ?_)
  · refine sq (rg APath.f ?_)
    replace hH : HP H6 [] := HP.pick hH [] rfl
    refine tq (rt ?_)
    refine br (tr ?_)
    refine tr (br ?_)
    refine tr ?_
    obtain rfl := some_inj h
    exact ret_of (by kernel_rfl)
  refine sk (bn ?_)
  refine tq (kq ?_)
  refine rg APath.f (tq ?_)
  refine unr_step ?_
  refine sq (rg APath.f ?_)
  refine tq (sq ?_)
  refine vc_true (by kernel_rfl) ?_
  refine sk (tq ?_)
  refine kq (sq ?_)
  refine bk (sq ?_)
  have hlc10 := HP.get hH 0 rfl
  refine rg (APath.u 1 (st_loadC (H := H6) (id := id5) (off := 1) (cs := [.fn 56 [] [.ptr id3 0], .fn 57 [] [.ptr id1 0, .ptr id3 0], .fn 59 [] [.ptr id3 0], .fn 60 [] [.ptr id3 0], .fn 61 [] [.ptr id3 0], .fn 63 [] [.ptr id3 0], .fn 64 [] [.ptr id3 0, .ptr id1 0], .fn 66 [] [.ptr id3 0, .ptr id1 0]]) (c := [.fn 57 [] [.ptr id1 0, .ptr id3 0]]) (r := .fn 57 [] [.ptr id1 0, .ptr id3 0]) (by kernel_rfl) (by kernel_rfl) hlc10 (by kernel_rfl) (by kernel_rfl) (by kernel_rfl)) APath.f) (tq ?_)
  refine sq ?_
  obtain ⟨r11, hr11, h⟩ := bs h
  have hvr11 := (stream_valid_2_ok N  a0_ a1_ id1 id3 H6 (HP.now (HP.pick hH [2, 1] rfl)) r11 hr11)
  refine rg (APath.v 1 (st_callV (H := H6) (fv := .fn 57 [] [.ptr id1 0, .ptr id3 0]) (ys := []) (by kernel_rfl) (by kernel_rfl) (by kernel_rfl) (VCall.of (by kernel_rfl) hvr11)) APath.f) (tq ?_)
  refine it h (fun hc12 h => ?_) (fun hc12 h => ?_)
  · refine sq (rg APath.f ?_)
    replace hH : HP H6 [] := HP.pick hH [] rfl
    refine tq (rt ?_)
    refine br (tr ?_)
    refine tr (br ?_)
    refine tr ?_
    obtain rfl := some_inj h
    exact ret_of (by kernel_rfl)
  refine sk (bn ?_)
  refine tq (kq ?_)
  refine rg APath.f (tq ?_)
  refine unr_step ?_
  refine sq (rg APath.f ?_)
  refine tq (sq ?_)
  refine vc_true (by kernel_rfl) ?_
  refine sk (tq ?_)
  refine kq (sq ?_)
  refine bk (sq ?_)
  have hlc13 := HP.get hH 0 rfl
  refine rg (APath.u 1 (st_loadC (H := H6) (id := id5) (off := 2) (cs := [.fn 56 [] [.ptr id3 0], .fn 57 [] [.ptr id1 0, .ptr id3 0], .fn 59 [] [.ptr id3 0], .fn 60 [] [.ptr id3 0], .fn 61 [] [.ptr id3 0], .fn 63 [] [.ptr id3 0], .fn 64 [] [.ptr id3 0, .ptr id1 0], .fn 66 [] [.ptr id3 0, .ptr id1 0]]) (c := [.fn 59 [] [.ptr id3 0]]) (r := .fn 59 [] [.ptr id3 0]) (by kernel_rfl) (by kernel_rfl) hlc13 (by kernel_rfl) (by kernel_rfl) (by kernel_rfl)) APath.f) (tq ?_)
  refine sq ?_
  obtain ⟨r14, hr14, h⟩ := bs h
  have hvr14 := (stream_valid_3_ok N  a1_ id3 H6 (HP.now (HP.pick hH [1] rfl)) r14 hr14)
  refine rg (APath.v 1 (st_callV (H := H6) (fv := .fn 59 [] [.ptr id3 0]) (ys := []) (by kernel_rfl) (by kernel_rfl) (by kernel_rfl) (VCall.of (by kernel_rfl) hvr14)) APath.f) (tq ?_)
  refine it h (fun hc15 h => ?_) (fun hc15 h => ?_)
  · refine sq (rg APath.f ?_)
    replace hH : HP H6 [] := HP.pick hH [] rfl
    refine tq (rt ?_)
    refine br (tr ?_)
    refine tr (br ?_)
    refine tr ?_
    obtain rfl := some_inj h
    exact ret_of (by kernel_rfl)
  refine sk (bn ?_)
  refine tq (kq ?_)
  refine rg APath.f (tq ?_)
  refine unr_step ?_
  refine sq (rg APath.f ?_)
  refine tq (sq ?_)
  refine vc_true (by kernel_rfl) ?_
  refine sk (tq ?_)
  refine kq (sq ?_)
  refine bk (sq ?_)
  have hlc16 := HP.get hH 0 rfl
  refine rg (APath.u 1 (st_loadC (H := H6) (id := id5) (off := 3) (cs := [.fn 56 [] [.ptr id3 0], .fn 57 [] [.ptr id1 0, .ptr id3 0], .fn 59 [] [.ptr id3 0], .fn 60 [] [.ptr id3 0], .fn 61 [] [.ptr id3 0], .fn 63 [] [.ptr id3 0], .fn 64 [] [.ptr id3 0, .ptr id1 0], .fn 66 [] [.ptr id3 0, .ptr id1 0]]) (c := [.fn 60 [] [.ptr id3 0]]) (r := .fn 60 [] [.ptr id3 0]) (by kernel_rfl) (by kernel_rfl) hlc16 (by kernel_rfl) (by kernel_rfl) (by kernel_rfl)) APath.f) (tq ?_)
  refine sq ?_
  obtain ⟨r17, hr17, h⟩ := bs h
  have hvr17 := (stream_valid_4_ok N  a1_ id3 H6 (HP.now (HP.pick hH [1] rfl)) r17 hr17)
  refine rg (APath.v 1 (st_callV (H := H6) (fv := .fn 60 [] [.ptr id3 0]) (ys := []) (by kernel_rfl) (by kernel_rfl) (by kernel_rfl) (VCall.of (by kernel_rfl) hvr17)) APath.f) (tq ?_)
  refine it h (fun hc18 h => ?_) (fun hc18 h => ?_)
  · refine sq (rg APath.f ?_)
    replace hH : HP H6 [] := HP.pick hH [] rfl
    refine tq (rt ?_)
    refine br (tr ?_)
    refine tr (br ?_)
    refine tr ?_
    obtain rfl := some_inj h
    exact ret_of (by kernel_rfl)
  refine sk (bn ?_)
  refine tq (kq ?_)
  refine rg APath.f (tq ?_)
  refine unr_step ?_
  refine sq (rg APath.f ?_)
  refine tq (sq ?_)
  refine vc_true (by kernel_rfl) ?_
  refine sk (tq ?_)
  refine kq (sq ?_)
  refine bk (sq ?_)
  have hlc19 := HP.get hH 0 rfl
  refine rg (APath.u 1 (st_loadC (H := H6) (id := id5) (off := 4) (cs := [.fn 56 [] [.ptr id3 0], .fn 57 [] [.ptr id1 0, .ptr id3 0], .fn 59 [] [.ptr id3 0], .fn 60 [] [.ptr id3 0], .fn 61 [] [.ptr id3 0], .fn 63 [] [.ptr id3 0], .fn 64 [] [.ptr id3 0, .ptr id1 0], .fn 66 [] [.ptr id3 0, .ptr id1 0]]) (c := [.fn 61 [] [.ptr id3 0]]) (r := .fn 61 [] [.ptr id3 0]) (by kernel_rfl) (by kernel_rfl) hlc19 (by kernel_rfl) (by kernel_rfl) (by kernel_rfl)) APath.f) (tq ?_)
  refine sq ?_
  obtain ⟨r20, hr20, h⟩ := bs h
  have hvr20 := (stream_valid_5_ok N  a1_ id3 H6 (HP.now (HP.pick hH [1] rfl)) r20 hr20)
  refine rg (APath.v 1 (st_callV (H := H6) (fv := .fn 61 [] [.ptr id3 0]) (ys := []) (by kernel_rfl) (by kernel_rfl) (by kernel_rfl) (VCall.of (by kernel_rfl) hvr20)) APath.f) (tq ?_)
  refine it h (fun hc21 h => ?_) (fun hc21 h => ?_)
  · refine sq (rg APath.f ?_)
    replace hH : HP H6 [] := HP.pick hH [] rfl
    refine tq (rt ?_)
    refine br (tr ?_)
    refine tr (br ?_)
    refine tr ?_
    obtain rfl := some_inj h
    exact ret_of (by kernel_rfl)
  refine sk (bn ?_)
  refine tq (kq ?_)
  refine rg APath.f (tq ?_)
  refine unr_step ?_
  refine sq (rg APath.f ?_)
  refine tq (sq ?_)
  refine vc_true (by kernel_rfl) ?_
  refine sk (tq ?_)
  refine kq (sq ?_)
  refine bk (sq ?_)
  have hlc22 := HP.get hH 0 rfl
  refine rg (APath.u 1 (st_loadC (H := H6) (id := id5) (off := 5) (cs := [.fn 56 [] [.ptr id3 0], .fn 57 [] [.ptr id1 0, .ptr id3 0], .fn 59 [] [.ptr id3 0], .fn 60 [] [.ptr id3 0], .fn 61 [] [.ptr id3 0], .fn 63 [] [.ptr id3 0], .fn 64 [] [.ptr id3 0, .ptr id1 0], .fn 66 [] [.ptr id3 0, .ptr id1 0]]) (c := [.fn 63 [] [.ptr id3 0]]) (r := .fn 63 [] [.ptr id3 0]) (by kernel_rfl) (by kernel_rfl) hlc22 (by kernel_rfl) (by kernel_rfl) (by kernel_rfl)) APath.f) (tq ?_)
  refine sq ?_
  obtain ⟨r23, hr23, h⟩ := bs h
  have hvr23 := (stream_valid_6_ok N  a1_ id3 H6 (HP.now (HP.pick hH [1] rfl)) r23 hr23)
  refine rg (APath.v 1 (st_callV (H := H6) (fv := .fn 63 [] [.ptr id3 0]) (ys := []) (by kernel_rfl) (by kernel_rfl) (by kernel_rfl) (VCall.of (by kernel_rfl) hvr23)) APath.f) (tq ?_)
  refine it h (fun hc24 h => ?_) (fun hc24 h => ?_)
  · refine sq (rg APath.f ?_)
    replace hH : HP H6 [] := HP.pick hH [] rfl
    refine tq (rt ?_)
    refine br (tr ?_)
    refine tr (br ?_)
    refine tr ?_
    obtain rfl := some_inj h
    exact ret_of (by kernel_rfl)
  refine sk (bn ?_)
  refine tq (kq ?_)
  refine rg APath.f (tq ?_)
  refine unr_step ?_
  refine sq (rg APath.f ?_)
  refine tq (sq ?_)
  refine vc_true (by kernel_rfl) ?_
  refine sk (tq ?_)
  refine kq (sq ?_)
  refine bk (sq ?_)
  have hlc25 := HP.get hH 0 rfl
  refine rg (APath.u 1 (st_loadC (H := H6) (id := id5) (off := 6) (cs := [.fn 56 [] [.ptr id3 0], .fn 57 [] [.ptr id1 0, .ptr id3 0], .fn 59 [] [.ptr id3 0], .fn 60 [] [.ptr id3 0], .fn 61 [] [.ptr id3 0], .fn 63 [] [.ptr id3 0], .fn 64 [] [.ptr id3 0, .ptr id1 0], .fn 66 [] [.ptr id3 0, .ptr id1 0]]) (c := [.fn 64 [] [.ptr id3 0, .ptr id1 0]]) (r := .fn 64 [] [.ptr id3 0, .ptr id1 0]) (by kernel_rfl) (by kernel_rfl) hlc25 (by kernel_rfl) (by kernel_rfl) (by kernel_rfl)) APath.f) (tq ?_)
  refine sq ?_
  obtain ⟨r26, hr26, h⟩ := bs h
  have hvr26 := (stream_valid_7_ok N  a1_ a0_ id3 id1 H6 (HP.now (HP.pick hH [1, 2] rfl)) r26 hr26)
  refine rg (APath.v 1 (st_callV (H := H6) (fv := .fn 64 [] [.ptr id3 0, .ptr id1 0]) (ys := []) (by kernel_rfl) (by kernel_rfl) (by kernel_rfl) (VCall.of (by kernel_rfl) hvr26)) APath.f) (tq ?_)
  refine it h (fun hc27 h => ?_) (fun hc27 h => ?_)
  · refine sq (rg APath.f ?_)
    replace hH : HP H6 [] := HP.pick hH [] rfl
    refine tq (rt ?_)
    refine br (tr ?_)
    refine tr (br ?_)
    refine tr ?_
    obtain rfl := some_inj h
    exact ret_of (by kernel_rfl)
  refine sk (bn ?_)
  refine tq (kq ?_)
  refine rg APath.f (tq ?_)
  refine unr_step ?_
  refine sq (rg APath.f ?_)
  refine tq (sq ?_)
  refine vc_true (by kernel_rfl) ?_
  refine sk (tq ?_)
  refine kq (sq ?_)
  refine bk (sq ?_)
  have hlc28 := HP.get hH 0 rfl
  refine rg (APath.u 1 (st_loadC (H := H6) (id := id5) (off := 7) (cs := [.fn 56 [] [.ptr id3 0], .fn 57 [] [.ptr id1 0, .ptr id3 0], .fn 59 [] [.ptr id3 0], .fn 60 [] [.ptr id3 0], .fn 61 [] [.ptr id3 0], .fn 63 [] [.ptr id3 0], .fn 64 [] [.ptr id3 0, .ptr id1 0], .fn 66 [] [.ptr id3 0, .ptr id1 0]]) (c := [.fn 66 [] [.ptr id3 0, .ptr id1 0]]) (r := .fn 66 [] [.ptr id3 0, .ptr id1 0]) (by kernel_rfl) (by kernel_rfl) hlc28 (by kernel_rfl) (by kernel_rfl) (by kernel_rfl)) APath.f) (tq ?_)
  refine sq ?_
  obtain ⟨r29, hr29, h⟩ := bs h
  have hvr29 := (stream_valid_8_ok N  a1_ a0_ id3 id1 H6 (HP.now (HP.pick hH [1, 2] rfl)) r29 hr29)
  refine rg (APath.v 1 (st_callV (H := H6) (fv := .fn 66 [] [.ptr id3 0, .ptr id1 0]) (ys := []) (by kernel_rfl) (by kernel_rfl) (by kernel_rfl) (VCall.of (by kernel_rfl) hvr29)) APath.f) (tq ?_)
  refine it h (fun hc30 h => ?_) (fun hc30 h => ?_)
  · refine sq (rg APath.f ?_)
    replace hH : HP H6 [] := HP.pick hH [] rfl
    refine tq (rt ?_)
    refine br (tr ?_)
    refine tr (br ?_)
    refine tr ?_
    obtain rfl := some_inj h
    exact ret_of (by kernel_rfl)
  refine sk (bn ?_)
  refine tq (kq ?_)
  refine rg APath.f (tq ?_)
  refine unr_step ?_
  refine sq (rg APath.f ?_)
  refine tq (sq ?_)
  refine vc_false (by kernel_rfl) ?_
  refine kq ?_
  replace hH : HP H6 [] := HP.pick hH [] rfl
  refine xq (tx ?_)
  refine tx (bx ?_)
  refine tq (sq ?_)
  refine rg APath.f (tq ?_)
  refine rt ?_
  obtain rfl := some_inj h
  exact ret_of (by kernel_rfl)
theorem stream_Check_ok (N : Nat) (a0_ : api_Topo) (a1_ : api_Stream) (r : Int) (h : stream_Check N a0_ a1_ = some r) : PCall Try.prog 18 [.agg (c_api_Topo a0_), .agg (c_api_Stream a1_)] (iv r) := by
  unfold stream_Check at h
  have hH : HP ([] : List HO) [] := trivial
  refine pcall_of chk18 rfl rfl (vc_sound _ _ _ ?_) rfl
  refine sq (rg APath.f ?_)
  refine tq (sq ?_)
  refine sq ?_
  obtain ⟨r1, hr1, h⟩ := bs h
  refine rg (APath.v 1 (st_call (by kernel_rfl) (topo_Check_ok N a0_ r1 hr1)) APath.f) (tq ?_)
  refine sq (rg APath.f ?_)
  refine tq (it h (fun hc2 h => ?_) (fun hc2 h => ?_))
  · refine sq (rg APath.f ?_)
    refine tq (rt ?_)
    refine tr ?_
    obtain rfl := some_inj h
    exact ret_of (by kernel_rfl)
  refine sk (tq ?_)
  refine kq (sq ?_)
  refine sq ?_
  obtain ⟨r3, hr3, h⟩ := bs h
  refine rg (APath.v 2 (st_call (by kernel_rfl) (stream_valid_ok N a0_ a1_ r3 hr3)) APath.f) (tq ?_)
  refine it h (fun hc4 h => ?_) (fun hc4 h => ?_)
  · refine sq (rg APath.f ?_)
    refine tq (rt ?_)
    refine tr ?_
    obtain rfl := some_inj h
    exact ret_of (by kernel_rfl)
  refine sk (tq ?_)
  refine kq (sq ?_)
  refine rg APath.f (tq ?_)
  refine rt ?_
  obtain rfl := some_inj h
  exact ret_of (by kernel_rfl)
end Go.Sh

