/- Part of the proof; written by a program out of the texts in wip/. -/
import Derived.Test.YtoboapnbbcedbaaRouteEitherSh
import Derived.Test.YtoboapnbbcedbaaRouteEitherChk
namespace Go.Sh
open Go Go.Eng Go.Proofs
set_option linter.unusedVariables false
set_option linter.unusedSimpArgs false
set_option maxRecDepth 100000
theorem slices_Equal__int_int_ok (N : Nat) (a0_ : (List Int)) (a1_ : (List Int)) (r : Bool) (h : slices_Equal__int_int N a0_ a1_ = some r) : PCall Try.prog 21 [s_eI64 false a0_, s_eI64 false a1_] (bv r) := by
  unfold slices_Equal__int_int at h
  have hH : HP ([] : List HO) [] := trivial
  refine pcall_of chk21 rfl rfl (vc_sound _ _ _ ?_) rfl
  refine vc_seq ?_
  refine vc_reg (S := ⟨[(0, s_eI64 false a0_), (1, s_eI64 false a1_)], [], []⟩) (APath.fin (by kernel_rfl)) (by kernel_rfl) ?_
  refine vc_seq ?_
  refine vc_seq ?_
  refine vc_reg (S := ⟨[(0, s_eI64 false a0_), (1, s_eI64 false a1_), (10, bv (((List.length a0_ : Nat) : Int) != ((List.length a1_ : Nat) : Int)))], [], []⟩) (APath.chunk 1 (by kernel_rfl) (APath.one (.val 7 .len [.t 6]) (by kernel_rfl) (st_val (ys := [s_eI64 false a0_]) (by kernel_rfl) (vexec_len eI64)) (APath.chunk 1 (by kernel_rfl) (APath.one (.val 9 .len [.t 8]) (by kernel_rfl) (st_val (ys := [s_eI64 false a1_]) (by kernel_rfl) (vexec_len eI64)) (APath.fin (by kernel_rfl)))))) (by kernel_rfl) ?_
  refine vc_ite (by kernel_rfl) h (fun hc1 h => ?_) (fun hc1 h => ?_)
  · refine vc_seq ?_
    refine vc_reg (S := ⟨[(4, bv false)], [], []⟩) (APath.fin (by kernel_rfl)) (by kernel_rfl) ?_
    refine vc_ret ?_
    obtain rfl := some_inj h
    exact ret_of (by kernel_rfl)
  · refine vc_skip ?_
    refine vc_kp ?_
    refine vc_seq ?_
    refine vc_seq ?_
    refine vc_reg (S := ⟨[(0, s_eI64 false a0_), (1, s_eI64 false a1_), (12, iv ((List.length a0_ : Nat) : Int)), (13, iv 0)], [], []⟩) (APath.chunk 1 (by kernel_rfl) (APath.one (.val 12 .len [.t 11]) (by kernel_rfl) (st_val (ys := [s_eI64 false a0_]) (by kernel_rfl) (vexec_len eI64)) (APath.fin (by kernel_rfl)))) (by kernel_rfl) ?_
    refine vc_block ?_
    obtain ⟨o507, ho507, h⟩ := bind_some h
    refine vc_loop ((loop_sim (fun (x : Int) s => s = ⟨[(0, s_eI64 false a0_), (1, s_eI64 false a1_), (12, iv ((List.length a0_ : Nat) : Int)), (13, iv x)], [], []⟩) (fun x : Int => slices_Equal__int_int_L1 N a0_ a1_ x) (fun (p : (Unit) ⊕ (Bool)) e s => match p with | (.inl p) => e = .exit 0 ∧ (s = ⟨[], [], []⟩) | (.inr p) => e = .ret ∧ ∃ xs, resL s i21.res = some xs ∧ tupOf xs = bv p) ?_ N _ o507 _ ho507 (by show _ = _; kernel_rfl)).mono ?_)
    · clear h ho507
      rintro i2 o s h hR
      obtain rfl := hR
      replace h : slices_Equal__int_int_L1 N a0_ a1_ i2 = some o := h
      unfold slices_Equal__int_int_L1 at h
      refine vc_seq ?_
      refine vc_reg (S := ⟨[(0, s_eI64 false a0_), (1, s_eI64 false a1_), (12, iv ((List.length a0_ : Nat) : Int)), (13, iv i2), (14, bv (decide (i2 < ((List.length a0_ : Nat) : Int))))], [], []⟩) (APath.fin (by kernel_rfl)) (by kernel_rfl) ?_
      refine vc_seq ?_
      refine vc_ite (by kernel_rfl) h (fun hc503 h => ?_) (fun hc503 h => ?_)
      · refine vc_skip ?_
        refine vc_kp ?_
        refine vc_seq ?_
        refine vc_block ?_
        refine vc_seq ?_
        refine vc_reg (S := ⟨[(0, s_eI64 false a0_), (1, s_eI64 false a1_), (5, iv i2), (12, iv ((List.length a0_ : Nat) : Int)), (13, iv i2)], [], []⟩) (APath.fin (by kernel_rfl)) (by kernel_rfl) ?_
        refine vc_seq ?_
        obtain ⟨e504, he504, h⟩ := bind_some h
        obtain ⟨e505, he505, h⟩ := bind_some h
        refine vc_regD (S := ⟨[(0, s_eI64 false a0_), (1, s_eI64 false a1_), (12, iv ((List.length a0_ : Nat) : Int)), (13, iv i2), (24, bv (e504 != e505))], [], []⟩) (by kernel_rfl) (APath.chunk 2 (by kernel_rfl) (APath.one (.val 18 (.iaddrS 1) [.t 16, .t 17]) (by kernel_rfl) (st_val (ys := [s_eI64 false a0_, iv i2]) (by kernel_rfl) (vexec_iaddrS eI64 he504)) (APath.one (.load 19 (.t 18) 1 false) (by kernel_rfl) (st_loadP (sz := 1) (off := 0) (cs := [.int .i64 e504]) (r := iv e504) eI64 he504 (by kernel_rfl) (by kernel_rfl) (by kernel_rfl)) (APath.chunk 2 (by kernel_rfl) (APath.one (.val 22 (.iaddrS 1) [.t 20, .t 21]) (by kernel_rfl) (st_val (ys := [s_eI64 false a1_, iv i2]) (by kernel_rfl) (vexec_iaddrS eI64 he505)) (APath.one (.load 23 (.t 22) 1 false) (by kernel_rfl) (st_loadP (sz := 1) (off := 0) (cs := [.int .i64 e505]) (r := iv e505) eI64 he505 (by kernel_rfl) (by kernel_rfl) (by kernel_rfl)) (APath.fin (by kernel_rfl)))))))) (by kernel_rfl) ?_
        refine vc_ite (by kernel_rfl) h (fun hc506 h => ?_) (fun hc506 h => ?_)
        · refine vc_seq ?_
          refine vc_reg (S := ⟨[(4, bv false)], [], []⟩) (APath.fin (by kernel_rfl)) (by kernel_rfl) ?_
          refine vc_ret ?_
          obtain rfl := some_inj h
          exact ⟨_, rfl, rfl, ret_of (by kernel_rfl)⟩
        · refine vc_skip ?_
          refine vc_kp ?_
          refine vc_reg (S := ⟨[(0, s_eI64 false a0_), (1, s_eI64 false a1_), (12, iv ((List.length a0_ : Nat) : Int)), (13, iv (w64 (i2 + 1)))], [], []⟩) (APath.fin (by kernel_rfl)) (by kernel_rfl) ?_
          obtain rfl := some_inj h
          exact ⟨_, rfl, (by show _ = _; kernel_rfl)⟩
      · refine vc_kp ?_
        try show vc _ _ _ _ _
        refine vc_exit ?_
        try show vc _ _ _ _ _
        obtain rfl := some_inj h
        exact ⟨_, rfl, rfl, (by show _ = _; kernel_rfl)⟩
    · rintro e s hq
      rcases o507 with p508 | p509
      · dsimp only at h hq
        obtain ⟨rfl, hR⟩ := hq
        obtain rfl := hR
        try show vc _ _ _ _ _
        refine vc_seq ?_
        refine vc_reg (S := ⟨[(4, bv true)], [], []⟩) (APath.fin (by kernel_rfl)) (by kernel_rfl) ?_
        refine vc_ret ?_
        obtain rfl := some_inj h
        exact ret_of (by kernel_rfl)
      · dsimp only at h hq
        obtain ⟨rfl, hq⟩ := hq
        obtain rfl := some_inj h
        exact hq
theorem slices_Equal_api_Route_int_ok (N : Nat) (a0_ : (List Int)) (a1_ : (List Int)) (r : Bool) (h : slices_Equal_api_Route_int N a0_ a1_ = some r) : PCall Try.prog 23 [s_eI64 false a0_, s_eI64 false a1_] (bv r) := by
  unfold slices_Equal_api_Route_int at h
  have hH : HP ([] : List HO) [] := trivial
  refine pcall_of chk23 rfl rfl (vc_sound _ _ _ ?_) rfl
  refine vc_seq ?_
  refine vc_reg (S := ⟨[(0, s_eI64 false a0_), (1, s_eI64 false a1_)], [], []⟩) (APath.fin (by kernel_rfl)) (by kernel_rfl) ?_
  refine vc_seq ?_
  refine vc_seq ?_
  refine vc_reg (S := ⟨[(0, s_eI64 false a0_), (1, s_eI64 false a1_), (10, bv (((List.length a0_ : Nat) : Int) != ((List.length a1_ : Nat) : Int)))], [], []⟩) (APath.chunk 1 (by kernel_rfl) (APath.one (.val 7 .len [.t 6]) (by kernel_rfl) (st_val (ys := [s_eI64 false a0_]) (by kernel_rfl) (vexec_len eI64)) (APath.chunk 1 (by kernel_rfl) (APath.one (.val 9 .len [.t 8]) (by kernel_rfl) (st_val (ys := [s_eI64 false a1_]) (by kernel_rfl) (vexec_len eI64)) (APath.fin (by kernel_rfl)))))) (by kernel_rfl) ?_
  refine vc_ite (by kernel_rfl) h (fun hc1 h => ?_) (fun hc1 h => ?_)
  · refine vc_seq ?_
    refine vc_reg (S := ⟨[(4, bv false)], [], []⟩) (APath.fin (by kernel_rfl)) (by kernel_rfl) ?_
    refine vc_ret ?_
    obtain rfl := some_inj h
    exact ret_of (by kernel_rfl)
  · refine vc_skip ?_
    refine vc_kp ?_
    refine vc_seq ?_
    refine vc_seq ?_
    refine vc_reg (S := ⟨[(0, s_eI64 false a0_), (1, s_eI64 false a1_), (12, iv ((List.length a0_ : Nat) : Int)), (13, iv 0)], [], []⟩) (APath.chunk 1 (by kernel_rfl) (APath.one (.val 12 .len [.t 11]) (by kernel_rfl) (st_val (ys := [s_eI64 false a0_]) (by kernel_rfl) (vexec_len eI64)) (APath.fin (by kernel_rfl)))) (by kernel_rfl) ?_
    refine vc_block ?_
    obtain ⟨o507, ho507, h⟩ := bind_some h
    refine vc_loop ((loop_sim (fun (x : Int) s => s = ⟨[(0, s_eI64 false a0_), (1, s_eI64 false a1_), (12, iv ((List.length a0_ : Nat) : Int)), (13, iv x)], [], []⟩) (fun x : Int => slices_Equal_api_Route_int_L1 N a0_ a1_ x) (fun (p : (Unit) ⊕ (Bool)) e s => match p with | (.inl p) => e = .exit 0 ∧ (s = ⟨[], [], []⟩) | (.inr p) => e = .ret ∧ ∃ xs, resL s i23.res = some xs ∧ tupOf xs = bv p) ?_ N _ o507 _ ho507 (by show _ = _; kernel_rfl)).mono ?_)
    · clear h ho507
      rintro i2 o s h hR
      obtain rfl := hR
      replace h : slices_Equal_api_Route_int_L1 N a0_ a1_ i2 = some o := h
      unfold slices_Equal_api_Route_int_L1 at h
      refine vc_seq ?_
      refine vc_reg (S := ⟨[(0, s_eI64 false a0_), (1, s_eI64 false a1_), (12, iv ((List.length a0_ : Nat) : Int)), (13, iv i2), (14, bv (decide (i2 < ((List.length a0_ : Nat) : Int))))], [], []⟩) (APath.fin (by kernel_rfl)) (by kernel_rfl) ?_
      refine vc_seq ?_
      refine vc_ite (by kernel_rfl) h (fun hc503 h => ?_) (fun hc503 h => ?_)
      · refine vc_skip ?_
        refine vc_kp ?_
        refine vc_seq ?_
        refine vc_block ?_
        refine vc_seq ?_
        refine vc_reg (S := ⟨[(0, s_eI64 false a0_), (1, s_eI64 false a1_), (5, iv i2), (12, iv ((List.length a0_ : Nat) : Int)), (13, iv i2)], [], []⟩) (APath.fin (by kernel_rfl)) (by kernel_rfl) ?_
        refine vc_seq ?_
        obtain ⟨e504, he504, h⟩ := bind_some h
        obtain ⟨e505, he505, h⟩ := bind_some h
        refine vc_regD (S := ⟨[(0, s_eI64 false a0_), (1, s_eI64 false a1_), (12, iv ((List.length a0_ : Nat) : Int)), (13, iv i2), (24, bv (e504 != e505))], [], []⟩) (by kernel_rfl) (APath.chunk 2 (by kernel_rfl) (APath.one (.val 18 (.iaddrS 1) [.t 16, .t 17]) (by kernel_rfl) (st_val (ys := [s_eI64 false a0_, iv i2]) (by kernel_rfl) (vexec_iaddrS eI64 he504)) (APath.one (.load 19 (.t 18) 1 false) (by kernel_rfl) (st_loadP (sz := 1) (off := 0) (cs := [.int .i64 e504]) (r := iv e504) eI64 he504 (by kernel_rfl) (by kernel_rfl) (by kernel_rfl)) (APath.chunk 2 (by kernel_rfl) (APath.one (.val 22 (.iaddrS 1) [.t 20, .t 21]) (by kernel_rfl) (st_val (ys := [s_eI64 false a1_, iv i2]) (by kernel_rfl) (vexec_iaddrS eI64 he505)) (APath.one (.load 23 (.t 22) 1 false) (by kernel_rfl) (st_loadP (sz := 1) (off := 0) (cs := [.int .i64 e505]) (r := iv e505) eI64 he505 (by kernel_rfl) (by kernel_rfl) (by kernel_rfl)) (APath.fin (by kernel_rfl)))))))) (by kernel_rfl) ?_
        refine vc_ite (by kernel_rfl) h (fun hc506 h => ?_) (fun hc506 h => ?_)
        · refine vc_seq ?_
          refine vc_reg (S := ⟨[(4, bv false)], [], []⟩) (APath.fin (by kernel_rfl)) (by kernel_rfl) ?_
          refine vc_ret ?_
          obtain rfl := some_inj h
          exact ⟨_, rfl, rfl, ret_of (by kernel_rfl)⟩
        · refine vc_skip ?_
          refine vc_kp ?_
          refine vc_reg (S := ⟨[(0, s_eI64 false a0_), (1, s_eI64 false a1_), (12, iv ((List.length a0_ : Nat) : Int)), (13, iv (w64 (i2 + 1)))], [], []⟩) (APath.fin (by kernel_rfl)) (by kernel_rfl) ?_
          obtain rfl := some_inj h
          exact ⟨_, rfl, (by show _ = _; kernel_rfl)⟩
      · refine vc_kp ?_
        try show vc _ _ _ _ _
        refine vc_exit ?_
        try show vc _ _ _ _ _
        obtain rfl := some_inj h
        exact ⟨_, rfl, rfl, (by show _ = _; kernel_rfl)⟩
    · rintro e s hq
      rcases o507 with p508 | p509
      · dsimp only at h hq
        obtain ⟨rfl, hR⟩ := hq
        obtain rfl := hR
        try show vc _ _ _ _ _
        refine vc_seq ?_
        refine vc_reg (S := ⟨[(4, bv true)], [], []⟩) (APath.fin (by kernel_rfl)) (by kernel_rfl) ?_
        refine vc_ret ?_
        obtain rfl := some_inj h
        exact ret_of (by kernel_rfl)
      · dsimp only at h hq
        obtain ⟨rfl, hq⟩ := hq
        obtain rfl := some_inj h
        exact hq
theorem law21_line_ok (N : Nat) (r : api_Topo) (h : law21_line N = some r) : PCall Try.prog 33 [] (.agg [iv r.Nodes, s_eB false r.Station, s_e_api_Link false r.Links]) := by
  unfold law21_line at h
  have hH : HP ([] : List HO) [] := trivial
  refine pcall_of chk33 rfl rfl (vc_sound _ _ _ ?_) rfl
  refine vc_seq ?_
  refine vc_reg (S := ⟨[(0, .loc 0 0)], [(0, [iv 0, s_eB true [], s_e_api_Link true []])], []⟩) (APath.fin (by kernel_rfl)) (by kernel_rfl) ?_
  refine vc_seq ?_
  refine vc_reg (S := ⟨[(0, .loc 0 0)], [(0, [iv 4, s_eB true [true, false, false, true], s_e_api_Link true [(api_Link.mk 0 1 8 50), (api_Link.mk 1 2 8 0), (api_Link.mk 2 3 80 7)]])], []⟩) (APath.fin (by kernel_rfl)) (by kernel_rfl) ?_
  refine vc_ret ?_
  obtain rfl := some_inj h
  exact ret_of (by kernel_rfl)
theorem route_total_ok (N : Nat) (a0_ : (List Int)) (a1_ : Int → Option (Int)) (a1_f : Nat) (a1_p a1_c : List AV) (ha1_n : (noLocL a1_p && noLocL a1_c) = true) (its : List Thing) (ha1_ : ∀ (H : List HO) (x0 : Int) (r : Int), HP H its → a1_ x0 = some r → VCall Try.prog (.fn a1_f a1_p a1_c) [iv x0] H (iv r) H) (H : List HO) (hH : HP H (its)) (r : Int) (h : route_total N a0_ a1_ = some r) : ACall Try.prog 40 [s_eI64 false a0_, .fn a1_f a1_p a1_c] H (iv r) H := by
  unfold route_total at h
  refine acall_ofW chk40 rfl (by simpa [noLocL, noLoc.noLocL, noLoc] using ha1_n) rfl (vc_sound _ _ _ ?_)
  refine vc_seq ?_
  refine vc_reg (S := ⟨[(0, s_eI64 false a0_), (1, .fn a1_f a1_p a1_c)], [], H⟩) (APath.fin (by kernel_rfl)) (by kernel_rfl) ?_
  refine vc_seq ?_
  refine vc_reg (S := ⟨[(0, s_eI64 false a0_), (1, .fn a1_f a1_p a1_c), (5, iv 0)], [], H⟩) (APath.fin (by kernel_rfl)) (by kernel_rfl) ?_
  refine vc_seq ?_
  refine vc_seq ?_
  refine vc_reg (S := ⟨[(1, .fn a1_f a1_p a1_c), (5, iv 0), (8, s_eI64 false a0_), (9, iv ((List.length a0_ : Nat) : Int)), (10, iv 0)], [], H⟩) (APath.chunk 1 (by kernel_rfl) (APath.one (.val 9 .len [.t 8]) (by kernel_rfl) (st_val (ys := [s_eI64 false a0_]) (by kernel_rfl) (vexec_len eI64)) (APath.fin (by kernel_rfl)))) (by kernel_rfl) ?_
  refine vc_block ?_
  obtain ⟨o506, ho506, h⟩ := bind_some h
  refine vc_loop ((loop_sim (fun (x : Int × Int) s => s = ⟨[(1, .fn a1_f a1_p a1_c), (5, iv x.1), (8, s_eI64 false a0_), (9, iv ((List.length a0_ : Nat) : Int)), (10, iv x.2)], [], H⟩) (fun x : Int × Int => route_total_L1 N a0_ a1_ x.1 x.2) (fun (p : Int) e s => e = .exit 0 ∧ (s = ⟨[(5, iv p)], [], H⟩)) ?_ N _ o506 _ ho506 (by show _ = _; kernel_rfl)).mono ?_)
  · clear h ho506
    rintro ⟨i1, i2⟩ o s h hR
    obtain rfl := hR
    replace h : route_total_L1 N a0_ a1_ i1 i2 = some o := h
    unfold route_total_L1 at h
    refine vc_seq ?_
    refine vc_reg (S := ⟨[(1, .fn a1_f a1_p a1_c), (5, iv i1), (8, s_eI64 false a0_), (9, iv ((List.length a0_ : Nat) : Int)), (10, iv i2), (11, bv (decide (i2 < ((List.length a0_ : Nat) : Int))))], [], H⟩) (APath.fin (by kernel_rfl)) (by kernel_rfl) ?_
    refine vc_seq ?_
    refine vc_ite (by kernel_rfl) h (fun hc503 h => ?_) (fun hc503 h => ?_)
    · refine vc_skip ?_
      refine vc_kp ?_
      refine vc_seq ?_
      refine vc_block ?_
      refine vc_seq ?_
      obtain ⟨e504, he504, h⟩ := bind_some h
      refine vc_reg (S := ⟨[(1, .fn a1_f a1_p a1_c), (5, iv i1), (7, iv e504), (8, s_eI64 false a0_), (9, iv ((List.length a0_ : Nat) : Int)), (10, iv i2)], [], H⟩) (APath.one (.val 12 (.iaddrS 1) [.t 8, .t 10]) (by kernel_rfl) (st_val (ys := [s_eI64 false a0_, iv i2]) (by kernel_rfl) (vexec_iaddrS eI64 he504)) (APath.one (.load 13 (.t 12) 1 false) (by kernel_rfl) (st_loadP (sz := 1) (off := 0) (cs := [.int .i64 e504]) (r := iv e504) eI64 he504 (by kernel_rfl) (by kernel_rfl) (by kernel_rfl)) (APath.fin (by kernel_rfl)))) (by kernel_rfl) ?_
      obtain ⟨r505, hr505, h⟩ := bind_some h
      have hvr505 := ha1_ _ e504 _ hH hr505
      refine vc_reg (S := ⟨[(1, .fn a1_f a1_p a1_c), (5, iv (w64 (i1 + r505))), (8, s_eI64 false a0_), (9, iv ((List.length a0_ : Nat) : Int)), (10, iv i2)], [], H⟩) (APath.chunk 3 (by kernel_rfl) (APath.one (.callV (some 17) (.t 15) [.t 16]) (by kernel_rfl) (st_callV (H := H) (ys := [iv e504]) (by kernel_rfl) (by kernel_rfl) (by kernel_rfl) hvr505) (APath.fin (by kernel_rfl)))) (by kernel_rfl) ?_
      refine vc_reg (S := ⟨[(1, .fn a1_f a1_p a1_c), (5, iv (w64 (i1 + r505))), (8, s_eI64 false a0_), (9, iv ((List.length a0_ : Nat) : Int)), (10, iv (w64 (i2 + 1)))], [], H⟩) (APath.fin (by kernel_rfl)) (by kernel_rfl) ?_
      obtain rfl := some_inj h
      exact ⟨_, rfl, (by show _ = _; kernel_rfl)⟩
    · refine vc_kp ?_
      try show vc _ _ _ _ _
      refine vc_exit ?_
      try show vc _ _ _ _ _
      obtain rfl := some_inj h
      exact ⟨_, rfl, rfl, (by show _ = _; kernel_rfl)⟩
  · rintro e s hq
    obtain ⟨rfl, hR⟩ := hq
    obtain rfl := hR
    try show vc _ _ _ _ _
    refine vc_seq ?_
    refine vc_reg (S := ⟨[(4, iv o506)], [], H⟩) (APath.fin (by kernel_rfl)) (by kernel_rfl) ?_
    refine vc_ret ?_
    obtain rfl := some_inj h
    exact ret_ofAW (by kernel_rfl) (by kernel_rfl)
theorem route_walk_delay_ok (N : Nat) (a0_ : route_walk) (a1_ : Int) (r : Int) (h : route_walk_delay N a0_ a1_ = some r) : PCall Try.prog 41 [.agg (c_api_Topo a0_.Topo), iv a1_] (iv r) := by
  unfold route_walk_delay at h
  have hH : HP ([] : List HO) [] := trivial
  refine pcall_of chk41 rfl rfl (vc_sound _ _ _ ?_) rfl
  refine vc_seq ?_
  refine vc_reg (S := ⟨[(1, iv a1_), (2, .loc 2 0)], [(2, (c_api_Topo a0_.Topo))], []⟩) (APath.fin (by kernel_rfl)) (by kernel_rfl) ?_
  refine vc_seq ?_
  obtain ⟨e1, he1, h⟩ := bind_some h
  refine vc_reg (S := ⟨[(4, iv e1.Delay)], [], []⟩) (APath.chunk 5 (by kernel_rfl) (APath.one (.val 10 (.iaddrS 4) [.t 7, .t 9]) (by kernel_rfl) (st_val (ys := [s_e_api_Link false a0_.Topo.Links, iv (w64 (Int.tdiv a1_ 2))]) (by kernel_rfl) (vexec_iaddrS e_api_Link he1)) (APath.chunk 1 (by kernel_rfl) (APath.one (.load 12 (.t 11) 1 false) (by kernel_rfl) (st_loadP (sz := 4) (off := 3) (cs := [.int .i64 e1.Delay]) (r := iv e1.Delay) e_api_Link he1 (by kernel_rfl) (by kernel_rfl) (by kernel_rfl)) (APath.fin (by kernel_rfl)))))) (by kernel_rfl) ?_
  refine vc_ret ?_
  obtain rfl := some_inj h
  exact ret_of (by kernel_rfl)
theorem route_Time_1_1_ok (N : Nat) (a0_ : Int) (c0_ : Int) (c1_ : route_walk) (k0_ : Nat) (k1_ : Nat) (H : List HO) (hH : HP H [.cel k0_ [iv c0_], .cel k1_ (c_api_Topo c1_.Topo)]) (r : Int) (h : route_Time_1_1 N a0_ c0_ c1_ = some r) : ACall Try.prog 43 [iv a0_, .ptr k0_ 0, .ptr k1_ 0] H (iv r) H := by
  unfold route_Time_1_1 at h
  refine acall_ofW chk43 rfl rfl rfl (vc_sound _ _ _ ?_)
  refine vc_seq ?_
  refine vc_reg (S := ⟨[(0, iv a0_), (1, .ptr k0_ 0), (2, .ptr k1_ 0)], [], H⟩) (APath.fin (by kernel_rfl)) (by kernel_rfl) ?_
  refine vc_seq ?_
  have hlc1 := HP.get hH 0 rfl
  have hlc2 := HP.get hH 1 rfl
  obtain ⟨e3, he3, h⟩ := bind_some h
  have hlc4 := HP.get hH 1 rfl
  obtain ⟨r5, hr5, h⟩ := bind_some h
  refine vc_regD (S := ⟨[(4, iv (w64 ((w64 (c0_ * e3.Per)) + r5)))], [], H⟩) (by kernel_rfl) (APath.one (.load 5 (.t 1) 1 false) (by kernel_rfl) (st_loadC (H := H) (id := k0_) (off := 0) (cs := [iv c0_]) (c := [iv c0_]) (r := iv c0_) (by kernel_rfl) (by kernel_rfl) hlc1 (by kernel_rfl) (by kernel_rfl) (by kernel_rfl)) (APath.chunk 2 (by kernel_rfl) (APath.one (.load 8 (.t 7) 1 false) (by kernel_rfl) (st_loadC (H := H) (id := k1_) (off := 2) (cs := (c_api_Topo c1_.Topo)) (c := [s_e_api_Link false c1_.Topo.Links]) (r := s_e_api_Link false c1_.Topo.Links) (by kernel_rfl) (by kernel_rfl) hlc2 (by kernel_rfl) (by kernel_rfl) (by kernel_rfl)) (APath.chunk 2 (by kernel_rfl) (APath.one (.val 11 (.iaddrS 4) [.t 8, .t 10]) (by kernel_rfl) (st_val (ys := [s_e_api_Link false c1_.Topo.Links, iv (w64 (Int.tdiv a0_ 2))]) (by kernel_rfl) (vexec_iaddrS e_api_Link he3)) (APath.chunk 1 (by kernel_rfl) (APath.one (.load 13 (.t 12) 1 false) (by kernel_rfl) (st_loadP (sz := 4) (off := 2) (cs := [.int .i64 e3.Per]) (r := iv e3.Per) e_api_Link he3 (by kernel_rfl) (by kernel_rfl) (by kernel_rfl)) (APath.chunk 1 (by kernel_rfl) (APath.one (.load 15 (.t 2) 3 true) (by kernel_rfl) (st_loadC (H := H) (id := k1_) (off := 0) (cs := (c_api_Topo c1_.Topo)) (c := (c_api_Topo c1_.Topo)) (r := .agg (c_api_Topo c1_.Topo)) (by kernel_rfl) (by kernel_rfl) hlc4 (by kernel_rfl) (by kernel_rfl) (by kernel_rfl)) (APath.chunk 1 (by kernel_rfl) (APath.one (.callP 17 41 [.t 15, .t 16]) (by kernel_rfl) (st_callP (by kernel_rfl) (route_walk_delay_ok N c1_ a0_ r5 hr5)) (APath.fin (by kernel_rfl))))))))))))) (by kernel_rfl) ?_
  replace hH : HP H [] := HP.pick hH [] rfl
  refine vc_ret ?_
  obtain rfl := some_inj h
  exact ret_ofAW (by kernel_rfl) (by kernel_rfl)
theorem slices_Backward_api_Route_int_ok (N : Nat) (a0_ : (List Int)) (H : List HO) (r : (List Int)) (h : slices_Backward_api_Route_int N a0_ = some r) : ∃ (id0_ : Nat) (H' : List HO), ACall Try.prog 46 [s_eI64 false a0_] H (.fn 68 [] [.ptr id0_ 0]) H' ∧ Fp H H' [] [.cel id0_ [s_eI64 false r]] := by
  suffices hs : ∃ r' H', ACall Try.prog 46 [s_eI64 false a0_] H r' H' ∧ ∃ (id0_ : Nat), r' = .fn 68 [] [.ptr id0_ 0] ∧ Fp H H' [] [.cel id0_ [s_eI64 false r]] by
    obtain ⟨_, H', h1, id0_, rfl, h2⟩ := hs
    exact ⟨id0_, H', h1, h2⟩
  unfold slices_Backward_api_Route_int at h
  have hH : Fp H H [] [] := Fp.refl trivial
  refine acall_detR chk46 (fun r' H' => ∃ (id0_ : Nat), r' = .fn 68 [] [.ptr id0_ 0] ∧ Fp H H' [] [.cel id0_ [s_eI64 false r]]) (fun r' H' ⟨_, e, _⟩ => by rw [e]; rfl) rfl rfl ?_
  refine vc_seq ?_
  obtain ⟨id1, H2, hid1, hH2, hH⟩ := Fp.newCell hH [s_eI64 false a0_]
  replace hH : Fp H H2 [] [.cel id1 [s_eI64 false a0_]] := hH
  refine vc_reg (S := ⟨[(1, .ptr id1 0)], [], H2⟩) (APath.one (.boxH 1 (.t 0)) (by kernel_rfl) (st_boxH (H := H) (v := s_eI64 false a0_) (by kernel_rfl) (by kernel_rfl) (by kernel_rfl) hid1 hH2) (APath.fin (by kernel_rfl))) (by kernel_rfl) ?_
  refine vc_seq ?_
  refine vc_reg (S := ⟨[(2, .fn 68 [] [.ptr id1 0])], [], H2⟩) (APath.fin (by kernel_rfl)) (by kernel_rfl) ?_
  refine vc_ret ?_
  obtain rfl := some_inj h
  exact ⟨[.fn 68 [] [.ptr id1 0]], (by kernel_rfl), id1, rfl, Fp.pick hH [0] rfl⟩
theorem ref16_From_ok (N : Nat) (a0_ : api_Topo) (a1_ : Int) (r : Int) (h : ref16_From N a0_ a1_ = some r) : PCall Try.prog 52 [.agg (c_api_Topo a0_), iv a1_] (iv r) := by
  unfold ref16_From at h
  have hH : HP ([] : List HO) [] := trivial
  refine pcall_of chk52 rfl rfl (vc_sound _ _ _ ?_) rfl
  refine vc_seq ?_
  refine vc_reg (S := ⟨[(1, iv a1_), (2, .loc 2 0)], [(2, (c_api_Topo a0_))], []⟩) (APath.fin (by kernel_rfl)) (by kernel_rfl) ?_
  refine vc_seq ?_
  obtain ⟨e1, he1, h⟩ := bind_some h
  refine vc_reg (S := ⟨[(1, iv a1_), (5, .loc 5 0)], [(5, (c_api_Link e1))], []⟩) (APath.chunk 4 (by kernel_rfl) (APath.one (.val 10 (.iaddrS 4) [.t 7, .t 9]) (by kernel_rfl) (st_val (ys := [s_e_api_Link false a0_.Links, iv (w64 (Int.tdiv a1_ 2))]) (by kernel_rfl) (vexec_iaddrS e_api_Link he1)) (APath.one (.load 11 (.t 10) 4 true) (by kernel_rfl) (st_loadP (sz := 4) (off := 0) (cs := [.int .i64 e1.A, .int .i64 e1.B, .int .i64 e1.Per, .int .i64 e1.Delay]) (r := .agg (c_api_Link e1)) e_api_Link he1 (by kernel_rfl) (by kernel_rfl) (by kernel_rfl)) (APath.fin (by kernel_rfl))))) (by kernel_rfl) ?_
  refine vc_seq ?_
  refine vc_seq ?_
  refine vc_reg (S := ⟨[(5, .loc 5 0), (14, bv ((Int.tmod a1_ 2) == 1))], [(5, (c_api_Link e1))], []⟩) (APath.fin (by kernel_rfl)) (by kernel_rfl) ?_
  refine vc_ite (by kernel_rfl) h (fun hc2 h => ?_) (fun hc2 h => ?_)
  · refine vc_seq ?_
    refine vc_reg (S := ⟨[(4, iv e1.B)], [], []⟩) (APath.fin (by kernel_rfl)) (by kernel_rfl) ?_
    refine vc_ret ?_
    obtain rfl := some_inj h
    exact ret_of (by kernel_rfl)
  · refine vc_skip ?_
    refine vc_kp ?_
    refine vc_seq ?_
    refine vc_reg (S := ⟨[(4, iv e1.A)], [], []⟩) (APath.fin (by kernel_rfl)) (by kernel_rfl) ?_
    refine vc_ret ?_
    obtain rfl := some_inj h
    exact ret_of (by kernel_rfl)
theorem ref16_To_ok (N : Nat) (a0_ : api_Topo) (a1_ : Int) (r : Int) (h : ref16_To N a0_ a1_ = some r) : PCall Try.prog 53 [.agg (c_api_Topo a0_), iv a1_] (iv r) := by
  unfold ref16_To at h
  have hH : HP ([] : List HO) [] := trivial
  refine pcall_of chk53 rfl rfl (vc_sound _ _ _ ?_) rfl
  refine vc_seq ?_
  refine vc_reg (S := ⟨[(1, iv a1_), (2, .loc 2 0)], [(2, (c_api_Topo a0_))], []⟩) (APath.fin (by kernel_rfl)) (by kernel_rfl) ?_
  refine vc_seq ?_
  obtain ⟨e1, he1, h⟩ := bind_some h
  refine vc_reg (S := ⟨[(1, iv a1_), (5, .loc 5 0)], [(5, (c_api_Link e1))], []⟩) (APath.chunk 4 (by kernel_rfl) (APath.one (.val 10 (.iaddrS 4) [.t 7, .t 9]) (by kernel_rfl) (st_val (ys := [s_e_api_Link false a0_.Links, iv (w64 (Int.tdiv a1_ 2))]) (by kernel_rfl) (vexec_iaddrS e_api_Link he1)) (APath.one (.load 11 (.t 10) 4 true) (by kernel_rfl) (st_loadP (sz := 4) (off := 0) (cs := [.int .i64 e1.A, .int .i64 e1.B, .int .i64 e1.Per, .int .i64 e1.Delay]) (r := .agg (c_api_Link e1)) e_api_Link he1 (by kernel_rfl) (by kernel_rfl) (by kernel_rfl)) (APath.fin (by kernel_rfl))))) (by kernel_rfl) ?_
  refine vc_seq ?_
  refine vc_seq ?_
  refine vc_reg (S := ⟨[(5, .loc 5 0), (14, bv ((Int.tmod a1_ 2) == 1))], [(5, (c_api_Link e1))], []⟩) (APath.fin (by kernel_rfl)) (by kernel_rfl) ?_
  refine vc_ite (by kernel_rfl) h (fun hc2 h => ?_) (fun hc2 h => ?_)
  · refine vc_seq ?_
    refine vc_reg (S := ⟨[(4, iv e1.A)], [], []⟩) (APath.fin (by kernel_rfl)) (by kernel_rfl) ?_
    refine vc_ret ?_
    obtain rfl := some_inj h
    exact ret_of (by kernel_rfl)
  · refine vc_skip ?_
    refine vc_kp ?_
    refine vc_seq ?_
    refine vc_reg (S := ⟨[(4, iv e1.B)], [], []⟩) (APath.fin (by kernel_rfl)) (by kernel_rfl) ?_
    refine vc_ret ?_
    obtain rfl := some_inj h
    exact ret_of (by kernel_rfl)
theorem route_shares_ok (N : Nat) (a0_ : (List Int)) (a1_ : (List Int)) (r : Bool) (h : route_shares N a0_ a1_ = some r) : PCall Try.prog 59 [s_eI64 false a0_, s_eI64 false a1_] (bv r) := by
  unfold route_shares at h
  have hH : HP ([] : List HO) [] := trivial
  refine pcall_of chk59 rfl rfl (vc_sound _ _ _ ?_) rfl
  refine vc_seq ?_
  refine vc_reg (S := ⟨[(0, s_eI64 false a0_), (1, s_eI64 false a1_)], [], []⟩) (APath.fin (by kernel_rfl)) (by kernel_rfl) ?_
  refine vc_seq ?_
  refine vc_seq ?_
  refine vc_reg (S := ⟨[(1, s_eI64 false a1_), (9, s_eI64 false a0_), (10, iv ((List.length a0_ : Nat) : Int)), (11, iv 0)], [], []⟩) (APath.chunk 1 (by kernel_rfl) (APath.one (.val 10 .len [.t 9]) (by kernel_rfl) (st_val (ys := [s_eI64 false a0_]) (by kernel_rfl) (vexec_len eI64)) (APath.fin (by kernel_rfl)))) (by kernel_rfl) ?_
  refine vc_block ?_
  obtain ⟨o1011, ho1011, h⟩ := bind_some h
  refine vc_loop ((loop_sim (fun (x : Int) s => s = ⟨[(1, s_eI64 false a1_), (9, s_eI64 false a0_), (10, iv ((List.length a0_ : Nat) : Int)), (11, iv x)], [], []⟩) (fun x : Int => route_shares_L1 N a0_ a1_ x) (fun (p : (Unit) ⊕ (Bool)) e s => match p with | (.inl p) => e = .exit 0 ∧ (s = ⟨[], [], []⟩) | (.inr p) => e = .ret ∧ ∃ xs, resL s i59.res = some xs ∧ tupOf xs = bv p) ?_ N _ o1011 _ ho1011 (by show _ = _; kernel_rfl)).mono ?_)
  · clear h ho1011
    rintro i1 o s h hR
    obtain rfl := hR
    replace h : route_shares_L1 N a0_ a1_ i1 = some o := h
    unfold route_shares_L1 at h
    refine vc_seq ?_
    refine vc_reg (S := ⟨[(1, s_eI64 false a1_), (9, s_eI64 false a0_), (10, iv ((List.length a0_ : Nat) : Int)), (11, iv i1), (12, bv (decide (i1 < ((List.length a0_ : Nat) : Int))))], [], []⟩) (APath.fin (by kernel_rfl)) (by kernel_rfl) ?_
    refine vc_seq ?_
    refine vc_ite (by kernel_rfl) h (fun hc502 h => ?_) (fun hc502 h => ?_)
    · refine vc_skip ?_
      refine vc_kp ?_
      refine vc_seq ?_
      refine vc_block ?_
      refine vc_seq ?_
      obtain ⟨e503, he503, h⟩ := bind_some h
      refine vc_reg (S := ⟨[(1, s_eI64 false a1_), (6, iv e503), (9, s_eI64 false a0_), (10, iv ((List.length a0_ : Nat) : Int)), (11, iv i1)], [], []⟩) (APath.one (.val 13 (.iaddrS 1) [.t 9, .t 11]) (by kernel_rfl) (st_val (ys := [s_eI64 false a0_, iv i1]) (by kernel_rfl) (vexec_iaddrS eI64 he503)) (APath.one (.load 14 (.t 13) 1 false) (by kernel_rfl) (st_loadP (sz := 1) (off := 0) (cs := [.int .i64 e503]) (r := iv e503) eI64 he503 (by kernel_rfl) (by kernel_rfl) (by kernel_rfl)) (APath.fin (by kernel_rfl)))) (by kernel_rfl) ?_
      refine vc_seq ?_
      refine vc_reg (S := ⟨[(1, s_eI64 false a1_), (6, iv e503), (9, s_eI64 false a0_), (10, iv ((List.length a0_ : Nat) : Int)), (11, iv i1), (15, s_eI64 false a1_), (16, iv ((List.length a1_ : Nat) : Int)), (17, iv 0)], [], []⟩) (APath.chunk 1 (by kernel_rfl) (APath.one (.val 16 .len [.t 15]) (by kernel_rfl) (st_val (ys := [s_eI64 false a1_]) (by kernel_rfl) (vexec_len eI64)) (APath.fin (by kernel_rfl)))) (by kernel_rfl) ?_
      refine vc_block ?_
      obtain ⟨o1008, ho1008, h⟩ := bind_some h
      refine vc_loop ((loop_sim (fun (x : Int) s => s = ⟨[(1, s_eI64 false a1_), (6, iv e503), (9, s_eI64 false a0_), (10, iv ((List.length a0_ : Nat) : Int)), (11, iv i1), (15, s_eI64 false a1_), (16, iv ((List.length a1_ : Nat) : Int)), (17, iv x)], [], []⟩) (fun x : Int => route_shares_L2 N a1_ e503 x) (fun (p : (Unit) ⊕ (Bool)) e s => match p with | (.inl p) => e = .exit 2 ∧ (s = ⟨[(1, s_eI64 false a1_), (9, s_eI64 false a0_), (10, iv ((List.length a0_ : Nat) : Int)), (11, iv i1)], [], []⟩) | (.inr p) => e = .ret ∧ ∃ xs, resL s i59.res = some xs ∧ tupOf xs = bv p) ?_ N _ o1008 _ ho1008 (by show _ = _; kernel_rfl)).mono ?_)
      · clear h ho1008
        rintro i504 o s h hR
        obtain rfl := hR
        replace h : route_shares_L2 N a1_ e503 i504 = some o := h
        unfold route_shares_L2 at h
        refine vc_seq ?_
        refine vc_reg (S := ⟨[(1, s_eI64 false a1_), (6, iv e503), (9, s_eI64 false a0_), (10, iv ((List.length a0_ : Nat) : Int)), (11, iv i1), (15, s_eI64 false a1_), (16, iv ((List.length a1_ : Nat) : Int)), (17, iv i504), (18, bv (decide (i504 < ((List.length a1_ : Nat) : Int))))], [], []⟩) (APath.fin (by kernel_rfl)) (by kernel_rfl) ?_
        refine vc_seq ?_
        refine vc_ite (by kernel_rfl) h (fun hc1005 h => ?_) (fun hc1005 h => ?_)
        · refine vc_skip ?_
          refine vc_kp ?_
          refine vc_seq ?_
          refine vc_block ?_
          refine vc_seq ?_
          obtain ⟨e1006, he1006, h⟩ := bind_some h
          refine vc_reg (S := ⟨[(1, s_eI64 false a1_), (6, iv e503), (8, iv e1006), (9, s_eI64 false a0_), (10, iv ((List.length a0_ : Nat) : Int)), (11, iv i1), (15, s_eI64 false a1_), (16, iv ((List.length a1_ : Nat) : Int)), (17, iv i504)], [], []⟩) (APath.one (.val 19 (.iaddrS 1) [.t 15, .t 17]) (by kernel_rfl) (st_val (ys := [s_eI64 false a1_, iv i504]) (by kernel_rfl) (vexec_iaddrS eI64 he1006)) (APath.one (.load 20 (.t 19) 1 false) (by kernel_rfl) (st_loadP (sz := 1) (off := 0) (cs := [.int .i64 e1006]) (r := iv e1006) eI64 he1006 (by kernel_rfl) (by kernel_rfl) (by kernel_rfl)) (APath.fin (by kernel_rfl)))) (by kernel_rfl) ?_
          refine vc_seq ?_
          refine vc_reg (S := ⟨[(1, s_eI64 false a1_), (6, iv e503), (9, s_eI64 false a0_), (10, iv ((List.length a0_ : Nat) : Int)), (11, iv i1), (15, s_eI64 false a1_), (16, iv ((List.length a1_ : Nat) : Int)), (17, iv i504), (25, bv ((w64 (Int.tdiv e503 2)) == (w64 (Int.tdiv e1006 2))))], [], []⟩) (APath.fin (by kernel_rfl)) (by kernel_rfl) ?_
          refine vc_ite (by kernel_rfl) h (fun hc1007 h => ?_) (fun hc1007 h => ?_)
          · refine vc_seq ?_
            refine vc_reg (S := ⟨[(4, bv true)], [], []⟩) (APath.fin (by kernel_rfl)) (by kernel_rfl) ?_
            refine vc_ret ?_
            obtain rfl := some_inj h
            exact ⟨_, rfl, rfl, ret_of (by kernel_rfl)⟩
          · refine vc_skip ?_
            refine vc_kp ?_
            refine vc_reg (S := ⟨[(1, s_eI64 false a1_), (6, iv e503), (9, s_eI64 false a0_), (10, iv ((List.length a0_ : Nat) : Int)), (11, iv i1), (15, s_eI64 false a1_), (16, iv ((List.length a1_ : Nat) : Int)), (17, iv (w64 (i504 + 1)))], [], []⟩) (APath.fin (by kernel_rfl)) (by kernel_rfl) ?_
            obtain rfl := some_inj h
            exact ⟨_, rfl, (by show _ = _; kernel_rfl)⟩
        · refine vc_kp ?_
          try show vc _ _ _ _ _
          refine vc_exit ?_
          try show vc _ _ _ _ _
          obtain rfl := some_inj h
          exact ⟨_, rfl, rfl, (by show _ = _; kernel_rfl)⟩
      · rintro e s hq
        rcases o1008 with p1009 | p1010
        · dsimp only at h hq
          obtain ⟨rfl, hR⟩ := hq
          obtain rfl := hR
          try show vc _ _ _ _ _
          refine vc_reg (S := ⟨[(1, s_eI64 false a1_), (9, s_eI64 false a0_), (10, iv ((List.length a0_ : Nat) : Int)), (11, iv (w64 (i1 + 1)))], [], []⟩) (APath.fin (by kernel_rfl)) (by kernel_rfl) ?_
          obtain rfl := some_inj h
          exact ⟨_, rfl, (by show _ = _; kernel_rfl)⟩
        · dsimp only at h hq
          obtain ⟨rfl, hq⟩ := hq
          obtain rfl := some_inj h
          exact ⟨_, rfl, rfl, hq⟩
    · refine vc_kp ?_
      try show vc _ _ _ _ _
      refine vc_exit ?_
      try show vc _ _ _ _ _
      obtain rfl := some_inj h
      exact ⟨_, rfl, rfl, (by show _ = _; kernel_rfl)⟩
  · rintro e s hq
    rcases o1011 with p1012 | p1013
    · dsimp only at h hq
      obtain ⟨rfl, hR⟩ := hq
      obtain rfl := hR
      try show vc _ _ _ _ _
      refine vc_seq ?_
      refine vc_reg (S := ⟨[(4, bv false)], [], []⟩) (APath.fin (by kernel_rfl)) (by kernel_rfl) ?_
      refine vc_ret ?_
      obtain rfl := some_inj h
      exact ret_of (by kernel_rfl)
    · dsimp only at h hq
      obtain ⟨rfl, hq⟩ := hq
      obtain rfl := some_inj h
      exact hq
theorem route_walk_hops_ok (N : Nat) (a0_ : route_walk) (a1_ : (List Int)) (H : List HO) (r : (List Int) × route_walk) (h : route_walk_hops N a0_ a1_ = some r) : ∃ (id0_ id1_ : Nat) (H' : List HO), ACall Try.prog 62 [.agg (c_api_Topo a0_.Topo), s_eI64 false a1_] H (.fn 78 [] [.ptr id0_ 0, .ptr id1_ 0]) H' ∧ Fp H H' [] [.cel id0_ [s_eI64 false r.1], .cel id1_ [iv r.2.Topo.Nodes, s_eB false r.2.Topo.Station, s_e_api_Link false r.2.Topo.Links]] := by
  suffices hs : ∃ r' H', ACall Try.prog 62 [.agg (c_api_Topo a0_.Topo), s_eI64 false a1_] H r' H' ∧ ∃ (id0_ id1_ : Nat), r' = .fn 78 [] [.ptr id0_ 0, .ptr id1_ 0] ∧ Fp H H' [] [.cel id0_ [s_eI64 false r.1], .cel id1_ [iv r.2.Topo.Nodes, s_eB false r.2.Topo.Station, s_e_api_Link false r.2.Topo.Links]] by
    obtain ⟨_, H', h1, id0_, id1_, rfl, h2⟩ := hs
    exact ⟨id0_, id1_, H', h1, h2⟩
  unfold route_walk_hops at h
  have hH : Fp H H [] [] := Fp.refl trivial
  refine acall_detR chk62 (fun r' H' => ∃ (id0_ id1_ : Nat), r' = .fn 78 [] [.ptr id0_ 0, .ptr id1_ 0] ∧ Fp H H' [] [.cel id0_ [s_eI64 false r.1], .cel id1_ [iv r.2.Topo.Nodes, s_eB false r.2.Topo.Station, s_e_api_Link false r.2.Topo.Links]]) (fun r' H' ⟨_, _, e, _⟩ => by rw [e]; rfl) rfl rfl ?_
  refine vc_seq ?_
  obtain ⟨id1, H2, hid1, hH2, hH⟩ := Fp.newCell hH (c_api_Topo a0_.Topo)
  replace hH : Fp H H2 [] [.cel id1 (c_api_Topo a0_.Topo)] := hH
  obtain ⟨id3, H4, hid3, hH4, hH⟩ := Fp.newCell hH [s_eI64 false a1_]
  replace hH : Fp H H4 [] [.cel id3 [s_eI64 false a1_], .cel id1 (c_api_Topo a0_.Topo)] := hH
  refine vc_reg (S := ⟨[(2, .ptr id1 0), (3, .ptr id3 0)], [], H4⟩) (APath.one (.boxH 2 (.t 0)) (by kernel_rfl) (st_boxH (H := H) (v := .agg (c_api_Topo a0_.Topo)) (by kernel_rfl) (by kernel_rfl) (by kernel_rfl) hid1 hH2) (APath.one (.boxH 3 (.t 1)) (by kernel_rfl) (st_boxH (H := H2) (v := s_eI64 false a1_) (by kernel_rfl) (by kernel_rfl) (by kernel_rfl) hid3 hH4) (APath.fin (by kernel_rfl)))) (by kernel_rfl) ?_
  refine vc_seq ?_
  refine vc_reg (S := ⟨[(4, .fn 78 [] [.ptr id3 0, .ptr id1 0])], [], H4⟩) (APath.fin (by kernel_rfl)) (by kernel_rfl) ?_
  refine vc_ret ?_
  obtain rfl := some_inj h
  exact ⟨[.fn 78 [] [.ptr id3 0, .ptr id1 0]], (by kernel_rfl), id3, id1, rfl, Fp.pick hH [0, 1] rfl⟩
theorem ref16_pick_ok (N : Nat) (a0_ : (List Int)) (a1_ : Int) (r : Int) (h : ref16_pick N a0_ a1_ = some r) : PCall Try.prog 65 [s_eI_u8 false a0_, iv a1_] (iv r) := by
  unfold ref16_pick at h
  have hH : HP ([] : List HO) [] := trivial
  refine pcall_of chk65 rfl rfl (vc_sound _ _ _ ?_) rfl
  refine vc_seq ?_
  refine vc_reg (S := ⟨[(0, s_eI_u8 false a0_), (1, iv a1_)], [], []⟩) (APath.fin (by kernel_rfl)) (by kernel_rfl) ?_
  refine vc_seq ?_
  refine vc_seq ?_
  refine vc_reg (S := ⟨[(0, s_eI_u8 false a0_), (1, iv a1_), (8, bv (decide (a1_ < ((List.length a0_ : Nat) : Int))))], [], []⟩) (APath.chunk 2 (by kernel_rfl) (APath.one (.val 7 .len [.t 6]) (by kernel_rfl) (st_val (ys := [s_eI_u8 false a0_]) (by kernel_rfl) (vexec_len (eI .u8))) (APath.fin (by kernel_rfl)))) (by kernel_rfl) ?_
  refine vc_ite (by kernel_rfl) h (fun hc1 h => ?_) (fun hc1 h => ?_)
  · refine vc_seq ?_
    obtain ⟨e2, he2, h⟩ := bind_some h
    refine vc_reg (S := ⟨[(4, iv (w64 (e2)))], [], []⟩) (APath.chunk 2 (by kernel_rfl) (APath.one (.val 11 (.iaddrS 1) [.t 9, .t 10]) (by kernel_rfl) (st_val (ys := [s_eI_u8 false a0_, iv a1_]) (by kernel_rfl) (vexec_iaddrS (eI .u8) he2)) (APath.one (.load 12 (.t 11) 1 false) (by kernel_rfl) (st_loadP (sz := 1) (off := 0) (cs := [.int .u8 e2]) (r := .p (.int .u8 e2)) (eI .u8) he2 (by kernel_rfl) (by kernel_rfl) (by kernel_rfl)) (APath.fin (by kernel_rfl))))) (by kernel_rfl) ?_
    refine vc_ret ?_
    obtain rfl := some_inj h
    exact ret_of (by kernel_rfl)
  · refine vc_skip ?_
    refine vc_kp ?_
    refine vc_seq ?_
    refine vc_reg (S := ⟨[(4, iv 0)], [], []⟩) (APath.fin (by kernel_rfl)) (by kernel_rfl) ?_
    refine vc_ret ?_
    obtain rfl := some_inj h
    exact ret_of (by kernel_rfl)
theorem ref16_Ports_ok (N : Nat) (a0_ : api_Topo) (a1_ : Int) (r : (List Int)) (h : ref16_Ports N a0_ a1_ = some r) : PCall Try.prog 66 [.agg (c_api_Topo a0_), iv a1_] (s_eI64 false r) := by
  unfold ref16_Ports at h
  have hH : HP ([] : List HO) [] := trivial
  refine pcall_of chk66 rfl rfl (vc_sound _ _ _ ?_) rfl
  refine vc_seq ?_
  refine vc_reg (S := ⟨[(1, iv a1_), (2, .loc 2 0)], [(2, (c_api_Topo a0_))], []⟩) (APath.fin (by kernel_rfl)) (by kernel_rfl) ?_
  refine vc_seq ?_
  refine vc_reg (S := ⟨[(1, iv a1_), (2, .loc 2 0), (5, s_eI64 true [])], [(2, (c_api_Topo a0_))], []⟩) (APath.fin (by kernel_rfl)) (by kernel_rfl) ?_
  refine vc_seq ?_
  refine vc_seq ?_
  refine vc_reg (S := ⟨[(1, iv a1_), (2, .loc 2 0), (5, s_eI64 true []), (6, iv 0)], [(2, (c_api_Topo a0_))], []⟩) (APath.fin (by kernel_rfl)) (by kernel_rfl) ?_
  refine vc_block ?_
  obtain ⟨o1016, ho1016, h⟩ := bind_some h
  refine vc_loop ((loop_sim (fun (x : Int × (List Int)) s => ∃ (a1 : AV) (H2 : List HO), s = ⟨[(1, iv a1_), (2, .loc 2 0), (5, a1), (6, iv x.1)], [(2, (c_api_Topo a0_))], H2⟩ ∧ HP H2 [.arr a1 1 false (List.map eI64 x.2)]) (fun x : Int × (List Int) => ref16_Ports_L1 N a0_ a1_ x.1 x.2) (fun (p : (List Int)) e s => e = .exit 0 ∧ (∃ (a505 : AV) (H506 : List HO), s = ⟨[(5, a505)], [], H506⟩ ∧ HP H506 [.arr a505 1 false (List.map eI64 p)])) ?_ N _ o1016 _ ho1016 ⟨(.p (.sl 1 true [])), [], (by show _ = _; kernel_rfl), (HP.pick (HP.nilArr hH 1 false) [0] rfl)⟩).mono ?_)
  · clear h ho1016
    rintro ⟨i3, l4⟩ o s h hR
    obtain ⟨a1, H2, rfl, hH⟩ := hR
    replace hH : HP H2 [.arr a1 1 false (List.map eI64 l4)] := hH
    have hfa1 := own_form (HP.get hH 0 rfl)
    replace h : ref16_Ports_L1 N a0_ a1_ i3 l4 = some o := h
    unfold ref16_Ports_L1 at h
    refine vc_seq ?_
    refine vc_seq ?_
    refine vc_reg (S := ⟨[(1, iv a1_), (2, .loc 2 0), (5, a1), (6, iv i3), (12, bv (decide (i3 < (w64 (2 * ((List.length a0_.Links : Nat) : Int))))))], [(2, (c_api_Topo a0_))], H2⟩) (APath.chunk 3 (by rcases hfa1 with ha1e | ⟨_, _, ha1e⟩ <;> subst ha1e <;> kernel_rfl) (APath.one (.val 10 .len [.t 9]) (by kernel_rfl) (st_val (ys := [s_e_api_Link false a0_.Links]) (by rcases hfa1 with ha1e | ⟨_, _, ha1e⟩ <;> subst ha1e <;> kernel_rfl) (vexec_len e_api_Link)) (APath.fin (by rcases hfa1 with ha1e | ⟨_, _, ha1e⟩ <;> subst ha1e <;> kernel_rfl)))) (by rcases hfa1 with ha1e | ⟨_, _, ha1e⟩ <;> subst ha1e <;> kernel_rfl) ?_
    refine vc_ite (by kernel_rfl) h (fun hc507 h => ?_) (fun hc507 h => ?_)
    · refine vc_skip ?_
      refine vc_kp ?_
      obtain ⟨j1010, hj1010, h⟩ := bind_some h
      refine vc_joinK [1, 2, 5, 6] (fun s => ∃ (a1008 : AV) (H1009 : List HO), s = ⟨[(1, iv a1_), (2, .loc 2 0), (5, a1008), (6, iv i3)], [(2, (c_api_Topo a0_))], H1009⟩ ∧ HP H1009 [.arr a1008 1 false (List.map eI64 j1010)]) ?_ ?_
      · clear h
        have h := hj1010
        refine vc_block ?_
        refine vc_seq ?_
        obtain ⟨r1011, hr1011, h⟩ := bind_some h
        refine vc_reg (S := ⟨[(1, iv a1_), (2, .loc 2 0), (5, a1), (6, iv i3), (19, bv (r1011 == a1_))], [(2, (c_api_Topo a0_))], H2⟩) (APath.chunk 2 (by rcases hfa1 with ha1e | ⟨_, _, ha1e⟩ <;> subst ha1e <;> kernel_rfl) (APath.one (.call (some 17) 52 [.t 15, .t 16]) (by kernel_rfl) (st_call (by rcases hfa1 with ha1e | ⟨_, _, ha1e⟩ <;> subst ha1e <;> kernel_rfl) (ref16_From_ok N a0_ i3 r1011 hr1011)) (APath.fin (by rcases hfa1 with ha1e | ⟨_, _, ha1e⟩ <;> subst ha1e <;> kernel_rfl)))) (by rcases hfa1 with ha1e | ⟨_, _, ha1e⟩ <;> subst ha1e <;> kernel_rfl) ?_
        refine vc_ite (by kernel_rfl) h (fun hc1012 h => ?_) (fun hc1012 h => ?_)
        · obtain ⟨l1015, hl1015, h⟩ := bind_some h
          obtain ⟨a1013, H1014, ha1013, hH⟩ := HP.app (k := 0) (a := a1) (sz := 1) (frz := false) eI64 hH rfl hl1015
          replace hH : HP H1014 [.arr a1013 1 false (List.map eI64 l1015)] := hH
          have hfa1013 := own_form (HP.get hH 0 rfl)
          refine vc_reg (S := ⟨[(1, iv a1_), (2, .loc 2 0), (5, a1013), (6, iv i3)], [(2, (c_api_Topo a0_))], H1014⟩) (APath.chunk 3 (by rcases hfa1 with ha1e | ⟨_, _, ha1e⟩ <;> rcases hfa1013 with ha1013e | ⟨_, _, ha1013e⟩ <;> subst ha1e ha1013e <;> kernel_rfl) (APath.one (.app 23 (.t 20) (.t 22) 1 8) (by kernel_rfl) (st_app (H := H2) (a := a1) (b := s_eI64 true [i3]) (by rcases hfa1 with ha1e | ⟨_, _, ha1e⟩ <;> rcases hfa1013 with ha1013e | ⟨_, _, ha1013e⟩ <;> subst ha1e ha1013e <;> kernel_rfl) (by rcases hfa1 with ha1e | ⟨_, _, ha1e⟩ <;> rcases hfa1013 with ha1013e | ⟨_, _, ha1013e⟩ <;> subst ha1e ha1013e <;> kernel_rfl) (by rcases hfa1 with ha1e | ⟨_, _, ha1e⟩ <;> rcases hfa1013 with ha1013e | ⟨_, _, ha1013e⟩ <;> subst ha1e ha1013e <;> kernel_rfl) (by rcases hfa1 with ha1e | ⟨_, _, ha1e⟩ <;> rcases hfa1013 with ha1013e | ⟨_, _, ha1013e⟩ <;> subst ha1e ha1013e <;> kernel_rfl) ha1013) (APath.fin (by rcases hfa1 with ha1e | ⟨_, _, ha1e⟩ <;> rcases hfa1013 with ha1013e | ⟨_, _, ha1013e⟩ <;> subst ha1e ha1013e <;> kernel_rfl)))) (by rcases hfa1 with ha1e | ⟨_, _, ha1e⟩ <;> rcases hfa1013 with ha1013e | ⟨_, _, ha1013e⟩ <;> subst ha1e ha1013e <;> kernel_rfl) ?_
          obtain rfl := some_inj h
          exact ⟨rfl, ⟨a1013, H1014, (by show _ = _; rcases hfa1013 with ha1013e | ⟨_, _, ha1013e⟩ <;> subst ha1013e <;> kernel_rfl), (HP.pick hH [0] rfl)⟩⟩
        · refine vc_skip ?_
          obtain rfl := some_inj h
          exact ⟨rfl, ⟨a1, H2, (by show _ = _; rcases hfa1 with ha1e | ⟨_, _, ha1e⟩ <;> subst ha1e <;> kernel_rfl), (HP.pick hH [0] rfl)⟩⟩
      · clear hj1010
        rintro s hR
        obtain ⟨a1008, H1009, rfl, hH⟩ := hR
        replace hH : HP H1009 [.arr a1008 1 false (List.map eI64 j1010)] := hH
        have hfa1008 := own_form (HP.get hH 0 rfl)
        refine vc_reg (S := ⟨[(1, iv a1_), (2, .loc 2 0), (5, a1008), (6, iv (w64 (i3 + 1)))], [(2, (c_api_Topo a0_))], H1009⟩) (APath.fin (by rcases hfa1008 with ha1008e | ⟨_, _, ha1008e⟩ <;> subst ha1008e <;> kernel_rfl)) (by rcases hfa1008 with ha1008e | ⟨_, _, ha1008e⟩ <;> subst ha1008e <;> kernel_rfl) ?_
        obtain rfl := some_inj h
        exact ⟨_, rfl, ⟨a1008, H1009, (by show _ = _; rcases hfa1008 with ha1008e | ⟨_, _, ha1008e⟩ <;> subst ha1008e <;> kernel_rfl), (HP.pick hH [0] rfl)⟩⟩
    · refine vc_kp ?_
      try show vc _ _ _ _ _
      refine vc_exit ?_
      try show vc _ _ _ _ _
      obtain rfl := some_inj h
      exact ⟨_, rfl, rfl, ⟨a1, H2, (by show _ = _; rcases hfa1 with ha1e | ⟨_, _, ha1e⟩ <;> subst ha1e <;> kernel_rfl), (HP.pick hH [0] rfl)⟩⟩
  · rintro e s hq
    obtain ⟨rfl, hR⟩ := hq
    obtain ⟨a505, H506, rfl, hH⟩ := hR
    replace hH : HP H506 [.arr a505 1 false (List.map eI64 o1016)] := hH
    have hfa505 := own_form (HP.get hH 0 rfl)
    try show vc _ _ _ _ _
    refine vc_seq ?_
    refine vc_reg (S := ⟨[(4, a505)], [], H506⟩) (APath.fin (by rcases hfa505 with ha505e | ⟨_, _, ha505e⟩ <;> subst ha505e <;> kernel_rfl)) (by rcases hfa505 with ha505e | ⟨_, _, ha505e⟩ <;> subst ha505e <;> kernel_rfl) ?_
    refine vc_ret ?_
    obtain rfl := some_inj h
    exact ret_own (H := H506) (ys := [a505]) (xs := [.p (.sl 1 false (List.map eI64 o1016))]) (by rcases hfa505 with ha505e | ⟨_, _, ha505e⟩ <;> subst ha505e <;> kernel_rfl) (by rcases hfa505 with ha505e | ⟨_, _, ha505e⟩ <;> subst ha505e <;> kernel_rfl) (pureVL_cons (HP.pure (k := 0) (frz := false) eI64 hH rfl).2 pureVL_nil) (by kernel_rfl)
theorem ref16_In_ok (N : Nat) (a0_ : (List Int)) (a1_ : Int) (r : Bool) (h : ref16_In N a0_ a1_ = some r) : PCall Try.prog 67 [s_eI64 false a0_, iv a1_] (bv r) := by
  unfold ref16_In at h
  have hH : HP ([] : List HO) [] := trivial
  refine pcall_of chk67 rfl rfl (vc_sound _ _ _ ?_) rfl
  refine vc_seq ?_
  refine vc_reg (S := ⟨[(0, s_eI64 false a0_), (1, iv a1_)], [], []⟩) (APath.fin (by kernel_rfl)) (by kernel_rfl) ?_
  refine vc_seq ?_
  refine vc_seq ?_
  refine vc_reg (S := ⟨[(0, s_eI64 false a0_), (1, iv a1_), (5, iv 0)], [], []⟩) (APath.fin (by kernel_rfl)) (by kernel_rfl) ?_
  refine vc_block ?_
  obtain ⟨o505, ho505, h⟩ := bind_some h
  refine vc_loop ((loop_sim (fun (x : Int) s => s = ⟨[(0, s_eI64 false a0_), (1, iv a1_), (5, iv x)], [], []⟩) (fun x : Int => ref16_In_L1 N a0_ a1_ x) (fun (p : (Unit) ⊕ (Bool)) e s => match p with | (.inl p) => e = .exit 0 ∧ (s = ⟨[], [], []⟩) | (.inr p) => e = .ret ∧ ∃ xs, resL s i67.res = some xs ∧ tupOf xs = bv p) ?_ N _ o505 _ ho505 (by show _ = _; kernel_rfl)).mono ?_)
  · clear h ho505
    rintro i1 o s h hR
    obtain rfl := hR
    replace h : ref16_In_L1 N a0_ a1_ i1 = some o := h
    unfold ref16_In_L1 at h
    refine vc_seq ?_
    refine vc_seq ?_
    refine vc_reg (S := ⟨[(0, s_eI64 false a0_), (1, iv a1_), (5, iv i1), (9, bv (decide (i1 < ((List.length a0_ : Nat) : Int))))], [], []⟩) (APath.chunk 2 (by kernel_rfl) (APath.one (.val 8 .len [.t 7]) (by kernel_rfl) (st_val (ys := [s_eI64 false a0_]) (by kernel_rfl) (vexec_len eI64)) (APath.fin (by kernel_rfl)))) (by kernel_rfl) ?_
    refine vc_ite (by kernel_rfl) h (fun hc502 h => ?_) (fun hc502 h => ?_)
    · refine vc_skip ?_
      refine vc_kp ?_
      refine vc_seq ?_
      refine vc_block ?_
      refine vc_seq ?_
      obtain ⟨e503, he503, h⟩ := bind_some h
      refine vc_reg (S := ⟨[(0, s_eI64 false a0_), (1, iv a1_), (5, iv i1), (17, bv (e503 == a1_))], [], []⟩) (APath.chunk 2 (by kernel_rfl) (APath.one (.val 14 (.iaddrS 1) [.t 12, .t 13]) (by kernel_rfl) (st_val (ys := [s_eI64 false a0_, iv i1]) (by kernel_rfl) (vexec_iaddrS eI64 he503)) (APath.one (.load 15 (.t 14) 1 false) (by kernel_rfl) (st_loadP (sz := 1) (off := 0) (cs := [.int .i64 e503]) (r := iv e503) eI64 he503 (by kernel_rfl) (by kernel_rfl) (by kernel_rfl)) (APath.fin (by kernel_rfl))))) (by kernel_rfl) ?_
      refine vc_ite (by kernel_rfl) h (fun hc504 h => ?_) (fun hc504 h => ?_)
      · refine vc_seq ?_
        refine vc_reg (S := ⟨[(4, bv true)], [], []⟩) (APath.fin (by kernel_rfl)) (by kernel_rfl) ?_
        refine vc_ret ?_
        obtain rfl := some_inj h
        exact ⟨_, rfl, rfl, ret_of (by kernel_rfl)⟩
      · refine vc_skip ?_
        refine vc_kp ?_
        refine vc_reg (S := ⟨[(0, s_eI64 false a0_), (1, iv a1_), (5, iv (w64 (i1 + 1)))], [], []⟩) (APath.fin (by kernel_rfl)) (by kernel_rfl) ?_
        obtain rfl := some_inj h
        exact ⟨_, rfl, (by show _ = _; kernel_rfl)⟩
    · refine vc_kp ?_
      try show vc _ _ _ _ _
      refine vc_exit ?_
      try show vc _ _ _ _ _
      obtain rfl := some_inj h
      exact ⟨_, rfl, rfl, (by show _ = _; kernel_rfl)⟩
  · rintro e s hq
    rcases o505 with p506 | p507
    · dsimp only at h hq
      obtain ⟨rfl, hR⟩ := hq
      obtain rfl := hR
      try show vc _ _ _ _ _
      refine vc_seq ?_
      refine vc_reg (S := ⟨[(4, bv false)], [], []⟩) (APath.fin (by kernel_rfl)) (by kernel_rfl) ?_
      refine vc_ret ?_
      obtain rfl := some_inj h
      exact ret_of (by kernel_rfl)
    · dsimp only at h hq
      obtain ⟨rfl, hq⟩ := hq
      obtain rfl := some_inj h
      exact hq
theorem slices_Backward_api_Route_int_1_ok {σ : Type} (N : Nat) (y_ : σ → Int → Int → Option (σ × Bool)) (c0_ : (List Int)) (s_ : σ) (k0_ : Nat) (yid_ : Nat) (T_ : σ → List Thing → Prop) (hy_ : ∀ (x0 : Int) (x1 : Int) (s : σ) (r : σ × Bool) (H : List HO) (its : List Thing), T_ s its → HP H its → y_ s x0 x1 = some r → ∃ H' its', YCall Try.prog yid_ [iv x0, iv x1] H r.2 H' ∧ T_ r.1 its' ∧ Fp H H' its its') (H : List HO) (its : List Thing) (hT : T_ s_ its) (hH : HP H (.cel k0_ [s_eI64 false c0_] :: its)) (r : σ) (h : slices_Backward_api_Route_int_1 N y_ c0_ s_ = some r) : ∃ H' its', ACall Try.prog 68 [.yl yid_, .ptr k0_ 0] H (.tup []) H' ∧ T_ r its' ∧ Fp H H' (.cel k0_ [s_eI64 false c0_] :: its) (.cel k0_ [s_eI64 false c0_] :: its') := by
  suffices hs : ∃ H', ACall Try.prog 68 [.yl yid_, .ptr k0_ 0] H (.tup []) H' ∧ ∃ its', T_ r its' ∧ Fp H H' (.cel k0_ [s_eI64 false c0_] :: its) (.cel k0_ [s_eI64 false c0_] :: its') by
    obtain ⟨H', h1, its', h2, h3⟩ := hs
    exact ⟨H', its', h1, h2, h3⟩
  unfold slices_Backward_api_Route_int_1 at h
  replace hH : Fp H H (.cel k0_ [s_eI64 false c0_] :: its) (.cel k0_ [s_eI64 false c0_] :: its) := Fp.refl hH
  refine acall_det chk68 (fun H' => ∃ its', T_ r its' ∧ Fp H H' (.cel k0_ [s_eI64 false c0_] :: its) (.cel k0_ [s_eI64 false c0_] :: its')) rfl rfl rfl ?_
  refine vc_seq ?_
  have hlc1 := Fp.get hH 0 rfl
  refine vc_reg (S := ⟨[(0, .yl yid_), (1, .ptr k0_ 0), (3, iv (w64 (((List.length c0_ : Nat) : Int) - 1)))], [], H⟩) (APath.one (.load 4 (.t 1) 1 false) (by kernel_rfl) (st_loadC (H := H) (id := k0_) (off := 0) (cs := [s_eI64 false c0_]) (c := [s_eI64 false c0_]) (r := s_eI64 false c0_) (by kernel_rfl) (by kernel_rfl) hlc1 (by kernel_rfl) (by kernel_rfl) (by kernel_rfl)) (APath.one (.val 5 .len [.t 4]) (by kernel_rfl) (st_val (ys := [s_eI64 false c0_]) (by kernel_rfl) (vexec_len eI64)) (APath.fin (by kernel_rfl)))) (by kernel_rfl) ?_
  refine vc_block ?_
  obtain ⟨o515, ho515, h⟩ := bind_some h
  refine vc_loop ((loop_sim (fun (x : Int × σ) s => ∃ (its2 : List Thing) (H3 : List HO), s = ⟨[(0, .yl yid_), (1, .ptr k0_ 0), (3, iv x.1)], [], H3⟩ ∧ T_ x.2 its2 ∧ Fp H H3 (.cel k0_ [s_eI64 false c0_] :: its) (.cel k0_ [s_eI64 false c0_] :: its2)) (fun x : Int × σ => slices_Backward_api_Route_int_1_L1 N y_ c0_ x.1 x.2) (fun (p : (σ) ⊕ (σ)) e s => match p with | (.inl p) => e = .exit 0 ∧ (∃ (its506 : List Thing) (H507 : List HO), s = ⟨[], [], H507⟩ ∧ T_ p its506 ∧ Fp H H507 (.cel k0_ [s_eI64 false c0_] :: its) (.cel k0_ [s_eI64 false c0_] :: its506)) | (.inr p) => e = .ret ∧ ∃ xs, rawL s i68.res = some xs ∧ tupOf xs = .tup [] ∧ ∃ its', T_ p its' ∧ Fp H s.H (.cel k0_ [s_eI64 false c0_] :: its) (.cel k0_ [s_eI64 false c0_] :: its')) ?_ N _ o515 _ ho515 ⟨its, H, (by show _ = _; kernel_rfl), hT, hH⟩).mono ?_)
  · clear h ho515
    rintro ⟨i4, g5⟩ o s h hR
    obtain ⟨its2, H3, rfl, hT, hH⟩ := hR
    replace hH : Fp H H3 (.cel k0_ [s_eI64 false c0_] :: its) (.cel k0_ [s_eI64 false c0_] :: its2) := hH
    replace h : slices_Backward_api_Route_int_1_L1 N y_ c0_ i4 g5 = some o := h
    unfold slices_Backward_api_Route_int_1_L1 at h
    refine vc_seq ?_
    refine vc_seq ?_
    refine vc_reg (S := ⟨[(0, .yl yid_), (1, .ptr k0_ 0), (3, iv i4), (8, bv (decide (i4 ≥ 0)))], [], H3⟩) (APath.fin (by kernel_rfl)) (by kernel_rfl) ?_
    refine vc_ite (by kernel_rfl) h (fun hc508 h => ?_) (fun hc508 h => ?_)
    · refine vc_skip ?_
      refine vc_kp ?_
      refine vc_seq ?_
      refine vc_block ?_
      refine vc_seq ?_
      have hlc509 := Fp.get hH 0 rfl
      obtain ⟨e510, he510, h⟩ := bind_some h
      obtain ⟨r511, hr511, h⟩ := bind_some h
      obtain ⟨H512, its513, hvr511, hT, hFr511⟩ := hy_ i4 e510 g5 r511 H3 its2 hT (Fp.tail (own := [.cel k0_ [s_eI64 false c0_]]) (its := its2) hH) hr511
      replace hH : Fp H H512 (.cel k0_ [s_eI64 false c0_] :: its) (.cel k0_ [s_eI64 false c0_] :: its513) := Fp.callT (own := [.cel k0_ [s_eI64 false c0_]]) (its := its2) hH hFr511
      refine vc_reg (S := ⟨[(0, .yl yid_), (1, .ptr k0_ 0), (3, iv i4), (18, bv (!r511.2))], [], H512⟩) (APath.chunk 2 (by kernel_rfl) (APath.one (.load 13 (.t 1) 1 false) (by kernel_rfl) (st_loadC (H := H3) (id := k0_) (off := 0) (cs := [s_eI64 false c0_]) (c := [s_eI64 false c0_]) (r := s_eI64 false c0_) (by kernel_rfl) (by kernel_rfl) hlc509 (by kernel_rfl) (by kernel_rfl) (by kernel_rfl)) (APath.chunk 1 (by kernel_rfl) (APath.one (.val 15 (.iaddrS 1) [.t 13, .t 14]) (by kernel_rfl) (st_val (ys := [s_eI64 false c0_, iv i4]) (by kernel_rfl) (vexec_iaddrS eI64 he510)) (APath.one (.load 16 (.t 15) 1 false) (by kernel_rfl) (st_loadP (sz := 1) (off := 0) (cs := [.int .i64 e510]) (r := iv e510) eI64 he510 (by kernel_rfl) (by kernel_rfl) (by kernel_rfl)) (APath.one (.callY (some 17) (.t 11) [.t 12, .t 16]) (by kernel_rfl) (st_callY (H := H3) (id := yid_) (ys := [iv i4, iv e510]) (by kernel_rfl) (by kernel_rfl) (by kernel_rfl) (by kernel_rfl) hvr511) (APath.fin (by kernel_rfl)))))))) (by kernel_rfl) ?_
      refine vc_ite (by kernel_rfl) h (fun hc514 h => ?_) (fun hc514 h => ?_)
      · refine vc_ret ?_
        obtain rfl := some_inj h
        exact ⟨_, rfl, rfl, ⟨[], (by kernel_rfl), (by kernel_rfl), its513, hT, hH⟩⟩
      · refine vc_skip ?_
        refine vc_kp ?_
        refine vc_reg (S := ⟨[(0, .yl yid_), (1, .ptr k0_ 0), (3, iv (w64 (i4 - 1)))], [], H512⟩) (APath.fin (by kernel_rfl)) (by kernel_rfl) ?_
        obtain rfl := some_inj h
        exact ⟨_, rfl, ⟨its513, H512, (by show _ = _; kernel_rfl), hT, hH⟩⟩
    · refine vc_kp ?_
      try show vc _ _ _ _ _
      refine vc_exit ?_
      try show vc _ _ _ _ _
      obtain rfl := some_inj h
      exact ⟨_, rfl, rfl, ⟨its2, H3, (by show _ = _; kernel_rfl), hT, hH⟩⟩
  · rintro e s hq
    rcases o515 with p516 | p517
    · dsimp only at h hq
      obtain ⟨rfl, hR⟩ := hq
      obtain ⟨its506, H507, rfl, hT, hH⟩ := hR
      replace hH : Fp H H507 (.cel k0_ [s_eI64 false c0_] :: its) (.cel k0_ [s_eI64 false c0_] :: its506) := hH
      try show vc _ _ _ _ _
      obtain rfl := some_inj h
      exact ⟨[], (by kernel_rfl), (by kernel_rfl), its506, hT, hH⟩
    · dsimp only at h hq
      obtain ⟨rfl, hq⟩ := hq
      obtain rfl := some_inj h
      exact hq
theorem ref16_Joins_ok (N : Nat) (a0_ : api_Link) (a1_ : Int) (a2_ : Int) (r : Bool) (h : ref16_Joins N a0_ a1_ a2_ = some r) : PCall Try.prog 71 [.agg (c_api_Link a0_), iv a1_, iv a2_] (bv r) := by
  unfold ref16_Joins at h
  have hH : HP ([] : List HO) [] := trivial
  refine pcall_of chk71 rfl rfl (vc_sound _ _ _ ?_) rfl
  refine vc_seq ?_
  refine vc_reg (S := ⟨[(1, iv a1_), (2, iv a2_), (3, .loc 3 0)], [(3, (c_api_Link a0_))], []⟩) (APath.fin (by kernel_rfl)) (by kernel_rfl) ?_
  refine vc_seq ?_
  refine vc_regX ⟨[(6, bv (if (a0_.A == a1_) then ((a0_.B == a2_) || ((a0_.A == a2_) && (a0_.B == a1_))) else ((a0_.A == a2_) && (a0_.B == a1_))))], [], []⟩ ?_ ?_
  · rcases Bool.eq_false_or_eq_true (a0_.A == a1_) with hc1 | hc6
    · rcases Bool.eq_false_or_eq_true (a0_.B == a2_) with hc2 | hc3
      · exact ⟨_, (APath.chunk 3 (by kernel_rfl) (APath.one (.val 10 (.bin .eql) [.t 8, .t 9]) (by kernel_rfl) (st_bool (c := (a0_.A == a1_)) (by kernel_rfl) hc1) (APath.chunk 4 (by kernel_rfl) (APath.oneG (.val 15 (.bin .eql) [.t 13, .t 14]) 11 true (by kernel_rfl) (by kernel_rfl) (st_bool (c := (a0_.B == a2_)) (by kernel_rfl) hc2) (APath.fin (by kernel_rfl)))))), by simp only [hc1, hc2]; kernel_rfl⟩
      · rcases Bool.eq_false_or_eq_true (a0_.A == a2_) with hc4 | hc5
        · exact ⟨_, (APath.chunk 3 (by kernel_rfl) (APath.one (.val 10 (.bin .eql) [.t 8, .t 9]) (by kernel_rfl) (st_bool (c := (a0_.A == a1_)) (by kernel_rfl) hc1) (APath.chunk 4 (by kernel_rfl) (APath.oneG (.val 15 (.bin .eql) [.t 13, .t 14]) 11 true (by kernel_rfl) (by kernel_rfl) (st_bool (c := (a0_.B == a2_)) (by kernel_rfl) hc3) (APath.chunk 5 (by kernel_rfl) (APath.oneG (.val 21 (.bin .eql) [.t 19, .t 20]) 17 false (by kernel_rfl) (by kernel_rfl) (st_bool (c := (a0_.A == a2_)) (by kernel_rfl) hc4) (APath.fin (by kernel_rfl)))))))), by simp only [hc1, hc3, hc4]; kernel_rfl⟩
        · exact ⟨_, (APath.chunk 3 (by kernel_rfl) (APath.one (.val 10 (.bin .eql) [.t 8, .t 9]) (by kernel_rfl) (st_bool (c := (a0_.A == a1_)) (by kernel_rfl) hc1) (APath.chunk 4 (by kernel_rfl) (APath.oneG (.val 15 (.bin .eql) [.t 13, .t 14]) 11 true (by kernel_rfl) (by kernel_rfl) (st_bool (c := (a0_.B == a2_)) (by kernel_rfl) hc3) (APath.chunk 5 (by kernel_rfl) (APath.oneG (.val 21 (.bin .eql) [.t 19, .t 20]) 17 false (by kernel_rfl) (by kernel_rfl) (st_bool (c := (a0_.A == a2_)) (by kernel_rfl) hc5) (APath.fin (by kernel_rfl)))))))), by simp only [hc1, hc3, hc5]; kernel_rfl⟩
    · rcases Bool.eq_false_or_eq_true (a0_.A == a2_) with hc7 | hc8
      · exact ⟨_, (APath.chunk 3 (by kernel_rfl) (APath.one (.val 10 (.bin .eql) [.t 8, .t 9]) (by kernel_rfl) (st_bool (c := (a0_.A == a1_)) (by kernel_rfl) hc6) (APath.chunk 10 (by kernel_rfl) (APath.oneG (.val 21 (.bin .eql) [.t 19, .t 20]) 17 false (by kernel_rfl) (by kernel_rfl) (st_bool (c := (a0_.A == a2_)) (by kernel_rfl) hc7) (APath.fin (by kernel_rfl)))))), by simp only [hc6, hc7]; kernel_rfl⟩
      · exact ⟨_, (APath.chunk 3 (by kernel_rfl) (APath.one (.val 10 (.bin .eql) [.t 8, .t 9]) (by kernel_rfl) (st_bool (c := (a0_.A == a1_)) (by kernel_rfl) hc6) (APath.chunk 10 (by kernel_rfl) (APath.oneG (.val 21 (.bin .eql) [.t 19, .t 20]) 17 false (by kernel_rfl) (by kernel_rfl) (st_bool (c := (a0_.A == a2_)) (by kernel_rfl) hc8) (APath.fin (by kernel_rfl)))))), by simp only [hc6, hc8]; kernel_rfl⟩
  · refine vc_ret ?_
    obtain rfl := some_inj h
    exact ret_of (by kernel_rfl)
theorem topo_reach_ok (N : Nat) (a0_ : api_Topo) (a1_ : Int) (a2_ : Arr24_Bool) (r : (List Bool)) (h : topo_reach N a0_ a1_ a2_ = some r) : PCall Try.prog 76 [.agg (c_api_Topo a0_), iv a1_, .agg (c_Arr24_Bool a2_)] (s_eB false r) := by
  unfold topo_reach at h
  have hH : HP ([] : List HO) [] := trivial
  refine pcall_of chk76 rfl rfl (vc_sound _ _ _ ?_) rfl
  refine vc_seq ?_
  refine vc_reg (S := ⟨[(1, iv a1_), (3, .loc 3 0), (5, .loc 5 0)], [(3, (c_api_Topo a0_)), (5, (c_Arr24_Bool a2_))], []⟩) (APath.fin (by kernel_rfl)) (by kernel_rfl) ?_
  refine vc_seq ?_
  obtain ⟨l3, hl3, h⟩ := bind_some h
  obtain ⟨a1, H2, ha1, hH2, ha1b, hH⟩ := HP.make eB hH hl3
  replace hH : HP H2 [.arr a1 1 false (List.map eB l3)] := hH
  have hfa1 := own_form (HP.get hH 0 rfl)
  refine vc_reg (S := ⟨[(1, iv a1_), (3, .loc 3 0), (5, .loc 5 0), (7, a1)], [(3, (c_api_Topo a0_)), (5, (c_Arr24_Bool a2_))], H2⟩) (APath.chunk 2 (by rcases hfa1 with ha1e | ⟨_, _, ha1e⟩ <;> subst ha1e <;> kernel_rfl) (APath.one (.mkSl 12 (.t 11) (.t 11) [.bool false] 1) (by kernel_rfl) (st_make (H := []) (zero := [.bool false]) (bytes := 1) (by rcases hfa1 with ha1e | ⟨_, _, ha1e⟩ <;> subst ha1e <;> kernel_rfl) (by rcases hfa1 with ha1e | ⟨_, _, ha1e⟩ <;> subst ha1e <;> kernel_rfl) (by rcases hfa1 with ha1e | ⟨_, _, ha1e⟩ <;> subst ha1e <;> kernel_rfl) ha1 hH2 ha1b) (APath.fin (by rcases hfa1 with ha1e | ⟨_, _, ha1e⟩ <;> subst ha1e <;> kernel_rfl)))) (by rcases hfa1 with ha1e | ⟨_, _, ha1e⟩ <;> subst ha1e <;> kernel_rfl) ?_
  refine vc_seq ?_
  obtain ⟨e4, he4, h⟩ := bind_some h
  obtain ⟨id5, ver6, _, hid5f, hid5, hid5a, hid5v⟩ := HP.elem (k := 0) (a := a1) (sz := 1) (frz := false) eB hH rfl he4
  obtain ⟨H7, hH7, hH⟩ := HP.setRow (k := 0) (off := 0) (cs := [bv true]) (ps := [.bool true]) (e' := true) eB hH rfl hid5a hid5 (hid5f rfl) he4 (by kernel_rfl) (by kernel_rfl)
  replace hH : HP H7 [.arr a1 1 false (List.map eB (List.set l3 (Int.toNat a1_) true))] := hH
  refine vc_reg (S := ⟨[(3, .loc 3 0), (5, .loc 5 0), (7, a1)], [(3, (c_api_Topo a0_)), (5, (c_Arr24_Bool a2_))], H7⟩) (APath.chunk 2 (by rcases hfa1 with ha1e | ⟨_, _, ha1e⟩ <;> subst ha1e <;> kernel_rfl) (APath.one (.val 15 (.iaddrS 1) [.t 13, .t 14]) (by kernel_rfl) (st_val (ys := [a1, iv a1_]) (by rcases hfa1 with ha1e | ⟨_, _, ha1e⟩ <;> subst ha1e <;> kernel_rfl) (hid5v .i64)) (APath.one (.store (.t 15) (.k (.p (.bool true))) 1) (by kernel_rfl) (st_storeH (H := H2) (v := bv true) (by rcases hfa1 with ha1e | ⟨_, _, ha1e⟩ <;> subst ha1e <;> kernel_rfl) (by rcases hfa1 with ha1e | ⟨_, _, ha1e⟩ <;> subst ha1e <;> kernel_rfl) (by rcases hfa1 with ha1e | ⟨_, _, ha1e⟩ <;> subst ha1e <;> kernel_rfl) (by rcases hfa1 with ha1e | ⟨_, _, ha1e⟩ <;> subst ha1e <;> kernel_rfl) hH7) APath.done))) (by rcases hfa1 with ha1e | ⟨_, _, ha1e⟩ <;> subst ha1e <;> kernel_rfl) ?_
  refine vc_seq ?_
  refine vc_seq ?_
  refine vc_reg (S := ⟨[(3, .loc 3 0), (5, .loc 5 0), (7, a1), (17, iv a0_.Nodes), (18, iv 0)], [(3, (c_api_Topo a0_)), (5, (c_Arr24_Bool a2_))], H7⟩) (APath.fin (by rcases hfa1 with ha1e | ⟨_, _, ha1e⟩ <;> subst ha1e <;> kernel_rfl)) (by rcases hfa1 with ha1e | ⟨_, _, ha1e⟩ <;> subst ha1e <;> kernel_rfl) ?_
  refine vc_block ?_
  obtain ⟨o1546, ho1546, h⟩ := bind_some h
  refine vc_loop ((loop_sim (fun (x : Int × (List Bool)) s => ∃ (a8 : AV) (H9 : List HO), s = ⟨[(3, .loc 3 0), (5, .loc 5 0), (7, a8), (17, iv a0_.Nodes), (18, iv x.1)], [(3, (c_api_Topo a0_)), (5, (c_Arr24_Bool a2_))], H9⟩ ∧ HP H9 [.arr a8 1 false (List.map eB x.2)]) (fun x : Int × (List Bool) => topo_reach_L1 N a0_ a2_ x.1 x.2) (fun (p : (List Bool)) e s => e = .exit 0 ∧ (∃ (a512 : AV) (H513 : List HO), s = ⟨[(7, a512)], [], H513⟩ ∧ HP H513 [.arr a512 1 false (List.map eB p)])) ?_ N _ o1546 _ ho1546 ⟨a1, H7, (by show _ = _; rcases hfa1 with ha1e | ⟨_, _, ha1e⟩ <;> subst ha1e <;> kernel_rfl), (HP.pick hH [0] rfl)⟩).mono ?_)
  · clear h ho1546
    rintro ⟨i10, l11⟩ o s h hR
    obtain ⟨a8, H9, rfl, hH⟩ := hR
    replace hH : HP H9 [.arr a8 1 false (List.map eB l11)] := hH
    have hfa8 := own_form (HP.get hH 0 rfl)
    replace h : topo_reach_L1 N a0_ a2_ i10 l11 = some o := h
    unfold topo_reach_L1 at h
    refine vc_seq ?_
    refine vc_reg (S := ⟨[(3, .loc 3 0), (5, .loc 5 0), (7, a8), (17, iv a0_.Nodes), (18, iv i10), (19, bv (decide (i10 < a0_.Nodes)))], [(3, (c_api_Topo a0_)), (5, (c_Arr24_Bool a2_))], H9⟩) (APath.fin (by rcases hfa8 with ha8e | ⟨_, _, ha8e⟩ <;> subst ha8e <;> kernel_rfl)) (by rcases hfa8 with ha8e | ⟨_, _, ha8e⟩ <;> subst ha8e <;> kernel_rfl) ?_
    refine vc_seq ?_
    refine vc_ite (by kernel_rfl) h (fun hc514 h => ?_) (fun hc514 h => ?_)
    · refine vc_skip ?_
      refine vc_kp ?_
      refine vc_seq ?_
      refine vc_block ?_
      refine vc_seq ?_
      refine vc_reg (S := ⟨[(3, .loc 3 0), (5, .loc 5 0), (7, a8), (17, iv a0_.Nodes), (18, iv i10), (21, s_e_api_Link false a0_.Links), (22, iv ((List.length a0_.Links : Nat) : Int)), (23, iv 0)], [(3, (c_api_Topo a0_)), (5, (c_Arr24_Bool a2_))], H9⟩) (APath.chunk 2 (by rcases hfa8 with ha8e | ⟨_, _, ha8e⟩ <;> subst ha8e <;> kernel_rfl) (APath.one (.val 22 .len [.t 21]) (by kernel_rfl) (st_val (ys := [s_e_api_Link false a0_.Links]) (by rcases hfa8 with ha8e | ⟨_, _, ha8e⟩ <;> subst ha8e <;> kernel_rfl) (vexec_len e_api_Link)) (APath.fin (by rcases hfa8 with ha8e | ⟨_, _, ha8e⟩ <;> subst ha8e <;> kernel_rfl)))) (by rcases hfa8 with ha8e | ⟨_, _, ha8e⟩ <;> subst ha8e <;> kernel_rfl) ?_
      refine vc_block ?_
      obtain ⟨o1545, ho1545, h⟩ := bind_some h
      refine vc_loop ((loop_sim (fun (x : Int × (List Bool)) s => ∃ (a515 : AV) (H516 : List HO), s = ⟨[(3, .loc 3 0), (5, .loc 5 0), (7, a515), (17, iv a0_.Nodes), (18, iv i10), (21, s_e_api_Link false a0_.Links), (22, iv ((List.length a0_.Links : Nat) : Int)), (23, iv x.1)], [(3, (c_api_Topo a0_)), (5, (c_Arr24_Bool a2_))], H516⟩ ∧ HP H516 [.arr a515 1 false (List.map eB x.2)]) (fun x : Int × (List Bool) => topo_reach_L2 N a0_ a2_ x.1 x.2) (fun (p : (List Bool)) e s => e = .exit 2 ∧ (∃ (a1019 : AV) (H1020 : List HO), s = ⟨[(3, .loc 3 0), (5, .loc 5 0), (7, a1019), (17, iv a0_.Nodes), (18, iv i10)], [(3, (c_api_Topo a0_)), (5, (c_Arr24_Bool a2_))], H1020⟩ ∧ HP H1020 [.arr a1019 1 false (List.map eB p)])) ?_ N _ o1545 _ ho1545 ⟨a8, H9, (by show _ = _; rcases hfa8 with ha8e | ⟨_, _, ha8e⟩ <;> subst ha8e <;> kernel_rfl), (HP.pick hH [0] rfl)⟩).mono ?_)
      · clear h ho1545
        rintro ⟨i517, l518⟩ o s h hR
        obtain ⟨a515, H516, rfl, hH⟩ := hR
        replace hH : HP H516 [.arr a515 1 false (List.map eB l518)] := hH
        have hfa515 := own_form (HP.get hH 0 rfl)
        replace h : topo_reach_L2 N a0_ a2_ i517 l518 = some o := h
        unfold topo_reach_L2 at h
        refine vc_seq ?_
        refine vc_reg (S := ⟨[(3, .loc 3 0), (5, .loc 5 0), (7, a515), (17, iv a0_.Nodes), (18, iv i10), (21, s_e_api_Link false a0_.Links), (22, iv ((List.length a0_.Links : Nat) : Int)), (23, iv i517), (24, bv (decide (i517 < ((List.length a0_.Links : Nat) : Int))))], [(3, (c_api_Topo a0_)), (5, (c_Arr24_Bool a2_))], H516⟩) (APath.fin (by rcases hfa515 with ha515e | ⟨_, _, ha515e⟩ <;> subst ha515e <;> kernel_rfl)) (by rcases hfa515 with ha515e | ⟨_, _, ha515e⟩ <;> subst ha515e <;> kernel_rfl) ?_
        refine vc_seq ?_
        refine vc_ite (by kernel_rfl) h (fun hc1021 h => ?_) (fun hc1021 h => ?_)
        · refine vc_skip ?_
          refine vc_kp ?_
          obtain ⟨j1524, hj1524, h⟩ := bind_some h
          refine vc_joinK [3, 5, 7, 17, 18, 21, 22, 23] (fun s => ∃ (a1522 : AV) (H1523 : List HO), s = ⟨[(3, .loc 3 0), (5, .loc 5 0), (7, a1522), (17, iv a0_.Nodes), (18, iv i10), (21, s_e_api_Link false a0_.Links), (22, iv ((List.length a0_.Links : Nat) : Int)), (23, iv i517)], [(3, (c_api_Topo a0_)), (5, (c_Arr24_Bool a2_))], H1523⟩ ∧ HP H1523 [.arr a1522 1 false (List.map eB j1524)]) ?_ ?_
          · clear h
            have h := hj1524
            refine vc_block ?_
            refine vc_seq ?_
            obtain ⟨e1525, he1525, h⟩ := bind_some h
            refine vc_reg (S := ⟨[(3, .loc 3 0), (5, .loc 5 0), (7, a515), (8, iv i517), (9, .loc 9 0), (17, iv a0_.Nodes), (18, iv i10), (21, s_e_api_Link false a0_.Links), (22, iv ((List.length a0_.Links : Nat) : Int)), (23, iv i517)], [(3, (c_api_Topo a0_)), (5, (c_Arr24_Bool a2_)), (9, (c_api_Link e1525))], H516⟩) (APath.chunk 1 (by rcases hfa515 with ha515e | ⟨_, _, ha515e⟩ <;> subst ha515e <;> kernel_rfl) (APath.one (.val 26 (.iaddrS 4) [.t 21, .t 23]) (by kernel_rfl) (st_val (ys := [s_e_api_Link false a0_.Links, iv i517]) (by rcases hfa515 with ha515e | ⟨_, _, ha515e⟩ <;> subst ha515e <;> kernel_rfl) (vexec_iaddrS e_api_Link he1525)) (APath.one (.load 27 (.t 26) 4 true) (by kernel_rfl) (st_loadP (sz := 4) (off := 0) (cs := [.int .i64 e1525.A, .int .i64 e1525.B, .int .i64 e1525.Per, .int .i64 e1525.Delay]) (r := .agg (c_api_Link e1525)) e_api_Link he1525 (by rcases hfa515 with ha515e | ⟨_, _, ha515e⟩ <;> subst ha515e <;> kernel_rfl) (by rcases hfa515 with ha515e | ⟨_, _, ha515e⟩ <;> subst ha515e <;> kernel_rfl) (by rcases hfa515 with ha515e | ⟨_, _, ha515e⟩ <;> subst ha515e <;> kernel_rfl)) (APath.fin (by rcases hfa515 with ha515e | ⟨_, _, ha515e⟩ <;> subst ha515e <;> kernel_rfl))))) (by rcases hfa515 with ha515e | ⟨_, _, ha515e⟩ <;> subst ha515e <;> kernel_rfl) ?_
            refine vc_seq ?_
            obtain ⟨j1535, hj, h⟩ := bind_some h
            refine vc_regDXR (fun s => s = ⟨[(3, .loc 3 0), (5, .loc 5 0), (7, a515), (9, .loc 9 0), (17, iv a0_.Nodes), (18, iv i10), (21, s_e_api_Link false a0_.Links), (22, iv ((List.length a0_.Links : Nat) : Int)), (23, iv i517), (44, bv j1535)], [(3, (c_api_Topo a0_)), (5, (c_Arr24_Bool a2_)), (9, (c_api_Link e1525))], H516⟩) (by rcases hfa515 with ha515e | ⟨_, _, ha515e⟩ <;> subst ha515e <;> kernel_rfl) ?_ ?_
            · clear h
              obtain ⟨e1526, he1526, hj⟩ := bind_some hj
              rcases ite_some hj with ⟨hc1527, hj⟩ | ⟨hc1534, hj⟩
              · obtain ⟨e1528, he1528, hj⟩ := bind_some hj
                obtain ⟨id1529, ver1530, _, hid1529f, hid1529, hid1529a, hid1529v⟩ := HP.elem (k := 0) (a := a515) (sz := 1) (frz := false) eB hH rfl he1528
                obtain ⟨e1531, he1531, hj⟩ := bind_some hj
                obtain ⟨id1532, ver1533, _, hid1532f, hid1532, hid1532a, hid1532v⟩ := HP.elem (k := 0) (a := a515) (sz := 1) (frz := false) eB hH rfl he1531
                obtain rfl := some_inj hj
                exact ⟨_, (APath.chunk 1 (by rcases hfa515 with ha515e | ⟨_, _, ha515e⟩ <;> subst ha515e <;> kernel_rfl) (APath.one (.val 29 (.iaddr 24 1) [.t 5, .t 28]) (by kernel_rfl) (st_val (ys := [.loc 5 0, iv i517]) (by rcases hfa515 with ha515e | ⟨_, _, ha515e⟩ <;> subst ha515e <;> kernel_rfl) (vexec_iaddrL (l := a2_.l) he1526 rfl)) (APath.one (.loadL 30 (.t 29) 1 false) (by kernel_rfl) (st_loadALL (t := 5) (off := 0) (cs := (c_Arr24_Bool a2_)) (l := a2_.l) (fun x => bv x) [] [] he1526 (by rcases hfa515 with ha515e | ⟨_, _, ha515e⟩ <;> subst ha515e <;> kernel_rfl) (by rcases hfa515 with ha515e | ⟨_, _, ha515e⟩ <;> subst ha515e <;> kernel_rfl) rfl rfl) (APath.one (.val 31 .not [.t 30]) (by kernel_rfl) (st_bool (c := (!e1526)) (by rcases hfa515 with ha515e | ⟨_, _, ha515e⟩ <;> subst ha515e <;> kernel_rfl) hc1527) (APath.chunk 4 (by rcases hfa515 with ha515e | ⟨_, _, ha515e⟩ <;> subst ha515e <;> kernel_rfl) (APath.oneG (.val 36 (.iaddrS 1) [.t 33, .t 35]) 32 true (by kernel_rfl) (by rcases hfa515 with ha515e | ⟨_, _, ha515e⟩ <;> subst ha515e <;> kernel_rfl) (st_val (ys := [a515, iv e1525.A]) (by rcases hfa515 with ha515e | ⟨_, _, ha515e⟩ <;> subst ha515e <;> kernel_rfl) (hid1529v .i64)) (APath.oneG (.load 37 (.t 36) 1 false) 32 true (by kernel_rfl) (by rcases hfa515 with ha515e | ⟨_, _, ha515e⟩ <;> subst ha515e <;> kernel_rfl) (st_loadO (H := H516) (off := 0) (cs := [.bool e1528]) (r := bv e1528) eB he1528 hid1529 (by rcases hfa515 with ha515e | ⟨_, _, ha515e⟩ <;> subst ha515e <;> kernel_rfl) (by rcases hfa515 with ha515e | ⟨_, _, ha515e⟩ <;> subst ha515e <;> kernel_rfl) (by rcases hfa515 with ha515e | ⟨_, _, ha515e⟩ <;> subst ha515e <;> kernel_rfl) (by rcases hfa515 with ha515e | ⟨_, _, ha515e⟩ <;> subst ha515e <;> kernel_rfl)) (APath.chunk 3 (by rcases hfa515 with ha515e | ⟨_, _, ha515e⟩ <;> subst ha515e <;> kernel_rfl) (APath.oneG (.val 41 (.iaddrS 1) [.t 38, .t 40]) 32 true (by kernel_rfl) (by rcases hfa515 with ha515e | ⟨_, _, ha515e⟩ <;> subst ha515e <;> kernel_rfl) (st_val (ys := [a515, iv e1525.B]) (by rcases hfa515 with ha515e | ⟨_, _, ha515e⟩ <;> subst ha515e <;> kernel_rfl) (hid1532v .i64)) (APath.oneG (.load 42 (.t 41) 1 false) 32 true (by kernel_rfl) (by rcases hfa515 with ha515e | ⟨_, _, ha515e⟩ <;> subst ha515e <;> kernel_rfl) (st_loadO (H := H516) (off := 0) (cs := [.bool e1531]) (r := bv e1531) eB he1531 hid1532 (by rcases hfa515 with ha515e | ⟨_, _, ha515e⟩ <;> subst ha515e <;> kernel_rfl) (by rcases hfa515 with ha515e | ⟨_, _, ha515e⟩ <;> subst ha515e <;> kernel_rfl) (by rcases hfa515 with ha515e | ⟨_, _, ha515e⟩ <;> subst ha515e <;> kernel_rfl) (by rcases hfa515 with ha515e | ⟨_, _, ha515e⟩ <;> subst ha515e <;> kernel_rfl)) (APath.fin (by rcases hfa515 with ha515e | ⟨_, _, ha515e⟩ <;> subst ha515e <;> kernel_rfl)))))))))))), (by show _ = _; rcases hfa515 with ha515e | ⟨_, _, ha515e⟩ <;> subst ha515e <;> kernel_rfl)⟩
              · obtain rfl := some_inj hj
                exact ⟨_, (APath.chunk 1 (by rcases hfa515 with ha515e | ⟨_, _, ha515e⟩ <;> subst ha515e <;> kernel_rfl) (APath.one (.val 29 (.iaddr 24 1) [.t 5, .t 28]) (by kernel_rfl) (st_val (ys := [.loc 5 0, iv i517]) (by rcases hfa515 with ha515e | ⟨_, _, ha515e⟩ <;> subst ha515e <;> kernel_rfl) (vexec_iaddrL (l := a2_.l) he1526 rfl)) (APath.one (.loadL 30 (.t 29) 1 false) (by kernel_rfl) (st_loadALL (t := 5) (off := 0) (cs := (c_Arr24_Bool a2_)) (l := a2_.l) (fun x => bv x) [] [] he1526 (by rcases hfa515 with ha515e | ⟨_, _, ha515e⟩ <;> subst ha515e <;> kernel_rfl) (by rcases hfa515 with ha515e | ⟨_, _, ha515e⟩ <;> subst ha515e <;> kernel_rfl) rfl rfl) (APath.one (.val 31 .not [.t 30]) (by kernel_rfl) (st_bool (c := (!e1526)) (by rcases hfa515 with ha515e | ⟨_, _, ha515e⟩ <;> subst ha515e <;> kernel_rfl) hc1534) (APath.fin (by rcases hfa515 with ha515e | ⟨_, _, ha515e⟩ <;> subst ha515e <;> kernel_rfl)))))), (by show _ = _; rcases hfa515 with ha515e | ⟨_, _, ha515e⟩ <;> subst ha515e <;> kernel_rfl)⟩
            · clear hj
              rintro s hR
              obtain rfl := hR
              refine vc_ite (by kernel_rfl) h (fun hc1536 h => ?_) (fun hc1536 h => ?_)
              · obtain ⟨e1537, he1537, h⟩ := bind_some h
                obtain ⟨id1538, ver1539, _, hid1538f, hid1538, hid1538a, hid1538v⟩ := HP.elem (k := 0) (a := a515) (sz := 1) (frz := false) eB hH rfl he1537
                obtain ⟨H1540, hH1540, hH⟩ := HP.setRow (k := 0) (off := 0) (cs := [bv true]) (ps := [.bool true]) (e' := true) eB hH rfl hid1538a hid1538 (hid1538f rfl) he1537 (by kernel_rfl) (by kernel_rfl)
                replace hH : HP H1540 [.arr a515 1 false (List.map eB (List.set l518 (Int.toNat e1525.A) true))] := hH
                obtain ⟨e1541, he1541, h⟩ := bind_some h
                obtain ⟨id1542, ver1543, _, hid1542f, hid1542, hid1542a, hid1542v⟩ := HP.elem (k := 0) (a := a515) (sz := 1) (frz := false) eB hH rfl he1541
                obtain ⟨H1544, hH1544, hH⟩ := HP.setRow (k := 0) (off := 0) (cs := [bv true]) (ps := [.bool true]) (e' := true) eB hH rfl hid1542a hid1542 (hid1542f rfl) he1541 (by kernel_rfl) (by kernel_rfl)
                replace hH : HP H1544 [.arr a515 1 false (List.map eB (List.set (List.set l518 (Int.toNat e1525.A) true) (Int.toNat e1525.B) true))] := hH
                refine vc_regD (S := ⟨[(3, .loc 3 0), (5, .loc 5 0), (7, a515), (17, iv a0_.Nodes), (18, iv i10), (21, s_e_api_Link false a0_.Links), (22, iv ((List.length a0_.Links : Nat) : Int)), (23, iv i517)], [(3, (c_api_Topo a0_)), (5, (c_Arr24_Bool a2_))], H1544⟩) (by rcases hfa515 with ha515e | ⟨_, _, ha515e⟩ <;> subst ha515e <;> kernel_rfl) (APath.chunk 6 (by rcases hfa515 with ha515e | ⟨_, _, ha515e⟩ <;> subst ha515e <;> kernel_rfl) (APath.one (.val 51 (.iaddrS 1) [.t 45, .t 47]) (by kernel_rfl) (st_val (ys := [a515, iv e1525.A]) (by rcases hfa515 with ha515e | ⟨_, _, ha515e⟩ <;> subst ha515e <;> kernel_rfl) (hid1538v .i64)) (APath.one (.storeH (.t 51) (.k (.p (.bool true))) 1) (by kernel_rfl) (st_toH (st_storeH (H := H516) (v := bv true) (by rcases hfa515 with ha515e | ⟨_, _, ha515e⟩ <;> subst ha515e <;> kernel_rfl) (by rcases hfa515 with ha515e | ⟨_, _, ha515e⟩ <;> subst ha515e <;> kernel_rfl) (by rcases hfa515 with ha515e | ⟨_, _, ha515e⟩ <;> subst ha515e <;> kernel_rfl) (by rcases hfa515 with ha515e | ⟨_, _, ha515e⟩ <;> subst ha515e <;> kernel_rfl) hH1540) (by rcases hfa515 with ha515e | ⟨_, _, ha515e⟩ <;> subst ha515e <;> kernel_rfl)) (APath.one (.val 52 (.iaddrS 1) [.t 48, .t 50]) (by kernel_rfl) (st_val (ys := [a515, iv e1525.B]) (by rcases hfa515 with ha515e | ⟨_, _, ha515e⟩ <;> subst ha515e <;> kernel_rfl) (hid1542v .i64)) (APath.one (.storeH (.t 52) (.k (.p (.bool true))) 1) (by kernel_rfl) (st_toH (st_storeH (H := H1540) (v := bv true) (by rcases hfa515 with ha515e | ⟨_, _, ha515e⟩ <;> subst ha515e <;> kernel_rfl) (by rcases hfa515 with ha515e | ⟨_, _, ha515e⟩ <;> subst ha515e <;> kernel_rfl) (by rcases hfa515 with ha515e | ⟨_, _, ha515e⟩ <;> subst ha515e <;> kernel_rfl) (by rcases hfa515 with ha515e | ⟨_, _, ha515e⟩ <;> subst ha515e <;> kernel_rfl) hH1544) (by rcases hfa515 with ha515e | ⟨_, _, ha515e⟩ <;> subst ha515e <;> kernel_rfl)) APath.done))))) (by rcases hfa515 with ha515e | ⟨_, _, ha515e⟩ <;> subst ha515e <;> kernel_rfl) ?_
                obtain rfl := some_inj h
                exact ⟨rfl, ⟨a515, H1544, (by show _ = _; rcases hfa515 with ha515e | ⟨_, _, ha515e⟩ <;> subst ha515e <;> kernel_rfl), (HP.pick hH [0] rfl)⟩⟩
              · refine vc_skip ?_
                obtain rfl := some_inj h
                exact ⟨rfl, ⟨a515, H516, (by show _ = _; rcases hfa515 with ha515e | ⟨_, _, ha515e⟩ <;> subst ha515e <;> kernel_rfl), (HP.pick hH [0] rfl)⟩⟩
          · clear hj1524
            rintro s hR
            obtain ⟨a1522, H1523, rfl, hH⟩ := hR
            replace hH : HP H1523 [.arr a1522 1 false (List.map eB j1524)] := hH
            have hfa1522 := own_form (HP.get hH 0 rfl)
            refine vc_reg (S := ⟨[(3, .loc 3 0), (5, .loc 5 0), (7, a1522), (17, iv a0_.Nodes), (18, iv i10), (21, s_e_api_Link false a0_.Links), (22, iv ((List.length a0_.Links : Nat) : Int)), (23, iv (w64 (i517 + 1)))], [(3, (c_api_Topo a0_)), (5, (c_Arr24_Bool a2_))], H1523⟩) (APath.fin (by rcases hfa1522 with ha1522e | ⟨_, _, ha1522e⟩ <;> subst ha1522e <;> kernel_rfl)) (by rcases hfa1522 with ha1522e | ⟨_, _, ha1522e⟩ <;> subst ha1522e <;> kernel_rfl) ?_
            obtain rfl := some_inj h
            exact ⟨_, rfl, ⟨a1522, H1523, (by show _ = _; rcases hfa1522 with ha1522e | ⟨_, _, ha1522e⟩ <;> subst ha1522e <;> kernel_rfl), (HP.pick hH [0] rfl)⟩⟩
        · refine vc_kp ?_
          try show vc _ _ _ _ _
          refine vc_exit ?_
          try show vc _ _ _ _ _
          obtain rfl := some_inj h
          exact ⟨_, rfl, rfl, ⟨a515, H516, (by show _ = _; rcases hfa515 with ha515e | ⟨_, _, ha515e⟩ <;> subst ha515e <;> kernel_rfl), (HP.pick hH [0] rfl)⟩⟩
      · rintro e s hq
        obtain ⟨rfl, hR⟩ := hq
        obtain ⟨a1019, H1020, rfl, hH⟩ := hR
        replace hH : HP H1020 [.arr a1019 1 false (List.map eB o1545)] := hH
        have hfa1019 := own_form (HP.get hH 0 rfl)
        try show vc _ _ _ _ _
        refine vc_reg (S := ⟨[(3, .loc 3 0), (5, .loc 5 0), (7, a1019), (17, iv a0_.Nodes), (18, iv (w64 (i10 + 1)))], [(3, (c_api_Topo a0_)), (5, (c_Arr24_Bool a2_))], H1020⟩) (APath.fin (by rcases hfa1019 with ha1019e | ⟨_, _, ha1019e⟩ <;> subst ha1019e <;> kernel_rfl)) (by rcases hfa1019 with ha1019e | ⟨_, _, ha1019e⟩ <;> subst ha1019e <;> kernel_rfl) ?_
        obtain rfl := some_inj h
        exact ⟨_, rfl, ⟨a1019, H1020, (by show _ = _; rcases hfa1019 with ha1019e | ⟨_, _, ha1019e⟩ <;> subst ha1019e <;> kernel_rfl), (HP.pick hH [0] rfl)⟩⟩
    · refine vc_kp ?_
      try show vc _ _ _ _ _
      refine vc_exit ?_
      try show vc _ _ _ _ _
      obtain rfl := some_inj h
      exact ⟨_, rfl, rfl, ⟨a8, H9, (by show _ = _; rcases hfa8 with ha8e | ⟨_, _, ha8e⟩ <;> subst ha8e <;> kernel_rfl), (HP.pick hH [0] rfl)⟩⟩
  · rintro e s hq
    obtain ⟨rfl, hR⟩ := hq
    obtain ⟨a512, H513, rfl, hH⟩ := hR
    replace hH : HP H513 [.arr a512 1 false (List.map eB o1546)] := hH
    have hfa512 := own_form (HP.get hH 0 rfl)
    try show vc _ _ _ _ _
    refine vc_seq ?_
    refine vc_reg (S := ⟨[(6, a512)], [], H513⟩) (APath.fin (by rcases hfa512 with ha512e | ⟨_, _, ha512e⟩ <;> subst ha512e <;> kernel_rfl)) (by rcases hfa512 with ha512e | ⟨_, _, ha512e⟩ <;> subst ha512e <;> kernel_rfl) ?_
    refine vc_ret ?_
    obtain rfl := some_inj h
    exact ret_own (H := H513) (ys := [a512]) (xs := [.p (.sl 1 false (List.map eB o1546))]) (by rcases hfa512 with ha512e | ⟨_, _, ha512e⟩ <;> subst ha512e <;> kernel_rfl) (by rcases hfa512 with ha512e | ⟨_, _, ha512e⟩ <;> subst ha512e <;> kernel_rfl) (pureVL_cons (HP.pure (k := 0) (frz := false) eB hH rfl).2 pureVL_nil) (by kernel_rfl)
theorem route_walk_hops_1_ok {σ : Type} (N : Nat) (y_ : σ → Int → route_hop → Option (σ × Bool)) (c0_ : (List Int)) (c1_ : route_walk) (s_ : σ) (k0_ : Nat) (k1_ : Nat) (yid_ : Nat) (T_ : σ → List Thing → Prop) (hy_ : ∀ (x0 : Int) (x1 : route_hop) (s : σ) (r : σ × Bool) (H : List HO) (its : List Thing), T_ s its → HP H its → y_ s x0 x1 = some r → ∃ H' its', YCall Try.prog yid_ [iv x0, .agg [iv x1.port, iv x1.from_, iv x1.to_]] H r.2 H' ∧ T_ r.1 its' ∧ Fp H H' its its') (H : List HO) (its : List Thing) (hT : T_ s_ its) (hH : HP H (.cel k0_ [s_eI64 false c0_] :: .cel k1_ (c_api_Topo c1_.Topo) :: its)) (r : σ) (h : route_walk_hops_1 N y_ c0_ c1_ s_ = some r) : ∃ H' its', ACall Try.prog 78 [.yl yid_, .ptr k0_ 0, .ptr k1_ 0] H (.tup []) H' ∧ T_ r its' ∧ Fp H H' (.cel k0_ [s_eI64 false c0_] :: .cel k1_ (c_api_Topo c1_.Topo) :: its) (.cel k0_ [s_eI64 false c0_] :: .cel k1_ (c_api_Topo c1_.Topo) :: its') := by
  suffices hs : ∃ H', ACall Try.prog 78 [.yl yid_, .ptr k0_ 0, .ptr k1_ 0] H (.tup []) H' ∧ ∃ its', T_ r its' ∧ Fp H H' (.cel k0_ [s_eI64 false c0_] :: .cel k1_ (c_api_Topo c1_.Topo) :: its) (.cel k0_ [s_eI64 false c0_] :: .cel k1_ (c_api_Topo c1_.Topo) :: its') by
    obtain ⟨H', h1, its', h2, h3⟩ := hs
    exact ⟨H', its', h1, h2, h3⟩
  unfold route_walk_hops_1 at h
  replace hH : Fp H H (.cel k0_ [s_eI64 false c0_] :: .cel k1_ (c_api_Topo c1_.Topo) :: its) (.cel k0_ [s_eI64 false c0_] :: .cel k1_ (c_api_Topo c1_.Topo) :: its) := Fp.refl hH
  refine acall_det chk78 (fun H' => ∃ its', T_ r its' ∧ Fp H H' (.cel k0_ [s_eI64 false c0_] :: .cel k1_ (c_api_Topo c1_.Topo) :: its) (.cel k0_ [s_eI64 false c0_] :: .cel k1_ (c_api_Topo c1_.Topo) :: its')) rfl rfl rfl ?_
  refine vc_scope (EvI.scope ?_)
  refine vc_seq ?_
  refine vc_label ?_
  refine vc_seq ?_
  have hlc1 := Fp.get hH 0 rfl
  refine vc_reg (S := ⟨[(0, .yl yid_), (2, .ptr k1_ 0), (8, s_eI64 false c0_), (9, iv ((List.length c0_ : Nat) : Int)), (10, iv 0)], [], H⟩) (APath.one (.load 8 (.t 1) 1 false) (by kernel_rfl) (st_loadC (H := H) (id := k0_) (off := 0) (cs := [s_eI64 false c0_]) (c := [s_eI64 false c0_]) (r := s_eI64 false c0_) (by kernel_rfl) (by kernel_rfl) hlc1 (by kernel_rfl) (by kernel_rfl) (by kernel_rfl)) (APath.one (.val 9 .len [.t 8]) (by kernel_rfl) (st_val (ys := [s_eI64 false c0_]) (by kernel_rfl) (vexec_len eI64)) (APath.fin (by kernel_rfl)))) (by kernel_rfl) ?_
  refine vc_block ?_
  obtain ⟨o1023, ho1023, h⟩ := bind_some h
  refine vc_loop ((loop_sim (fun (x : Int × σ) s => ∃ (its2 : List Thing) (H3 : List HO), s = ⟨[(0, .yl yid_), (2, .ptr k1_ 0), (8, s_eI64 false c0_), (9, iv ((List.length c0_ : Nat) : Int)), (10, iv x.1)], [], H3⟩ ∧ T_ x.2 its2 ∧ Fp H H3 (.cel k0_ [s_eI64 false c0_] :: .cel k1_ (c_api_Topo c1_.Topo) :: its) (.cel k0_ [s_eI64 false c0_] :: .cel k1_ (c_api_Topo c1_.Topo) :: its2)) (fun x : Int × σ => route_walk_hops_1_L1 N y_ c0_ c1_ x.1 x.2) (fun (p : σ) e s => e = .exit 0 ∧ (∃ (its506 : List Thing) (H507 : List HO), s = ⟨[], [], H507⟩ ∧ T_ p its506 ∧ Fp H H507 (.cel k0_ [s_eI64 false c0_] :: .cel k1_ (c_api_Topo c1_.Topo) :: its) (.cel k0_ [s_eI64 false c0_] :: .cel k1_ (c_api_Topo c1_.Topo) :: its506))) ?_ N _ o1023 _ ho1023 ⟨its, H, (by show _ = _; kernel_rfl), hT, hH⟩).mono ?_)
  · clear h ho1023
    rintro ⟨i4, g5⟩ o s h hR
    obtain ⟨its2, H3, rfl, hT, hH⟩ := hR
    replace hH : Fp H H3 (.cel k0_ [s_eI64 false c0_] :: .cel k1_ (c_api_Topo c1_.Topo) :: its) (.cel k0_ [s_eI64 false c0_] :: .cel k1_ (c_api_Topo c1_.Topo) :: its2) := hH
    replace h : route_walk_hops_1_L1 N y_ c0_ c1_ i4 g5 = some o := h
    unfold route_walk_hops_1_L1 at h
    refine vc_seq ?_
    refine vc_reg (S := ⟨[(0, .yl yid_), (2, .ptr k1_ 0), (8, s_eI64 false c0_), (9, iv ((List.length c0_ : Nat) : Int)), (10, iv i4), (11, bv (decide (i4 < ((List.length c0_ : Nat) : Int))))], [], H3⟩) (APath.fin (by kernel_rfl)) (by kernel_rfl) ?_
    refine vc_seq ?_
    refine vc_ite (by kernel_rfl) h (fun hc508 h => ?_) (fun hc508 h => ?_)
    · refine vc_skip ?_
      refine vc_kp ?_
      refine vc_seq ?_
      refine vc_block ?_
      refine vc_seq ?_
      obtain ⟨e509, he509, h⟩ := bind_some h
      refine vc_reg (S := ⟨[(0, .yl yid_), (2, .ptr k1_ 0), (4, iv i4), (5, iv e509), (8, s_eI64 false c0_), (9, iv ((List.length c0_ : Nat) : Int)), (10, iv i4)], [], H3⟩) (APath.chunk 1 (by kernel_rfl) (APath.one (.val 13 (.iaddrS 1) [.t 8, .t 10]) (by kernel_rfl) (st_val (ys := [s_eI64 false c0_, iv i4]) (by kernel_rfl) (vexec_iaddrS eI64 he509)) (APath.one (.load 14 (.t 13) 1 false) (by kernel_rfl) (st_loadP (sz := 1) (off := 0) (cs := [.int .i64 e509]) (r := iv e509) eI64 he509 (by kernel_rfl) (by kernel_rfl) (by kernel_rfl)) (APath.fin (by kernel_rfl))))) (by kernel_rfl) ?_
      refine vc_seq ?_
      refine vc_seq ?_
      obtain ⟨j513, hj, h⟩ := bind_some h
      refine vc_regXR (fun s => s = ⟨[(0, .yl yid_), (2, .ptr k1_ 0), (4, iv i4), (5, iv e509), (8, s_eI64 false c0_), (9, iv ((List.length c0_ : Nat) : Int)), (10, iv i4), (25, bv j513)], [], H3⟩) ?_ ?_
      · clear h
        rcases ite_some hj with ⟨hc510, hj⟩ | ⟨hc511, hj⟩
        · obtain rfl := some_inj hj
          exact ⟨_, (APath.chunk 1 (by kernel_rfl) (APath.one (.val 16 (.bin .lss) [.t 15, .k (.p (.int .i64 0))]) (by kernel_rfl) (st_bool (c := (decide (e509 < 0))) (by kernel_rfl) hc510) (APath.fin (by kernel_rfl)))), (by show _ = _; kernel_rfl)⟩
        · have hlc512 := Fp.get hH 1 rfl
          obtain rfl := some_inj hj
          exact ⟨_, (APath.chunk 1 (by kernel_rfl) (APath.one (.val 16 (.bin .lss) [.t 15, .k (.p (.int .i64 0))]) (by kernel_rfl) (st_bool (c := (decide (e509 < 0))) (by kernel_rfl) hc511) (APath.chunk 4 (by kernel_rfl) (APath.oneG (.load 21 (.t 20) 1 false) 17 false (by kernel_rfl) (by kernel_rfl) (st_loadC (H := H3) (id := k1_) (off := 2) (cs := (c_api_Topo c1_.Topo)) (c := [s_e_api_Link false c1_.Topo.Links]) (r := s_e_api_Link false c1_.Topo.Links) (by kernel_rfl) (by kernel_rfl) hlc512 (by kernel_rfl) (by kernel_rfl) (by kernel_rfl)) (APath.oneG (.val 22 .len [.t 21]) 17 false (by kernel_rfl) (by kernel_rfl) (st_val (ys := [s_e_api_Link false c1_.Topo.Links]) (by kernel_rfl) (vexec_len e_api_Link)) (APath.fin (by kernel_rfl))))))), (by show _ = _; kernel_rfl)⟩
      · clear hj
        rintro s hR
        obtain rfl := hR
        refine vc_ite (by kernel_rfl) h (fun hc514 h => ?_) (fun hc514 h => ?_)
        · refine vc_kp ?_
          try show vc _ _ _ _ _
          refine vc_exit ?_
          try show vc _ _ _ _ _
          obtain rfl := some_inj h
          exact ⟨_, rfl, rfl, ⟨its2, H3, (by show _ = _; kernel_rfl), hT, hH⟩⟩
        · refine vc_skip ?_
          refine vc_kp ?_
          refine vc_seq ?_
          have hlc515 := Fp.get hH 1 rfl
          obtain ⟨e516, he516, h⟩ := bind_some h
          refine vc_reg (S := ⟨[(0, .yl yid_), (2, .ptr k1_ 0), (4, iv i4), (5, iv e509), (6, .loc 6 0), (8, s_eI64 false c0_), (9, iv ((List.length c0_ : Nat) : Int)), (10, iv i4)], [(6, (c_api_Link e516))], H3⟩) (APath.chunk 2 (by kernel_rfl) (APath.one (.load 28 (.t 27) 1 false) (by kernel_rfl) (st_loadC (H := H3) (id := k1_) (off := 2) (cs := (c_api_Topo c1_.Topo)) (c := [s_e_api_Link false c1_.Topo.Links]) (r := s_e_api_Link false c1_.Topo.Links) (by kernel_rfl) (by kernel_rfl) hlc515 (by kernel_rfl) (by kernel_rfl) (by kernel_rfl)) (APath.chunk 2 (by kernel_rfl) (APath.one (.val 31 (.iaddrS 4) [.t 28, .t 30]) (by kernel_rfl) (st_val (ys := [s_e_api_Link false c1_.Topo.Links, iv (w64 (Int.tdiv e509 2))]) (by kernel_rfl) (vexec_iaddrS e_api_Link he516)) (APath.one (.load 32 (.t 31) 4 true) (by kernel_rfl) (st_loadP (sz := 4) (off := 0) (cs := [.int .i64 e516.A, .int .i64 e516.B, .int .i64 e516.Per, .int .i64 e516.Delay]) (r := .agg (c_api_Link e516)) e_api_Link he516 (by kernel_rfl) (by kernel_rfl) (by kernel_rfl)) (APath.fin (by kernel_rfl))))))) (by kernel_rfl) ?_
          refine vc_seq ?_
          refine vc_reg (S := ⟨[(0, .yl yid_), (2, .ptr k1_ 0), (4, iv i4), (5, iv e509), (6, .loc 6 0), (7, .loc 7 0), (8, s_eI64 false c0_), (9, iv ((List.length c0_ : Nat) : Int)), (10, iv i4)], [(6, (c_api_Link e516)), (7, [iv e509, iv e516.A, iv e516.B])], H3⟩) (APath.fin (by kernel_rfl)) (by kernel_rfl) ?_
          obtain ⟨j1017, hj1017, h⟩ := bind_some h
          refine vc_joinK [0, 2, 4, 7, 8, 9, 10] (fun s => s = ⟨[(0, .yl yid_), (2, .ptr k1_ 0), (4, iv i4), (7, .loc 7 0), (8, s_eI64 false c0_), (9, iv ((List.length c0_ : Nat) : Int)), (10, iv i4)], [(7, [iv e509, iv j1017.1, iv j1017.2])], H3⟩) ?_ ?_
          · clear h
            have h := hj1017
            refine vc_seq ?_
            refine vc_reg (S := ⟨[(0, .yl yid_), (2, .ptr k1_ 0), (4, iv i4), (5, iv e509), (6, .loc 6 0), (7, .loc 7 0), (8, s_eI64 false c0_), (9, iv ((List.length c0_ : Nat) : Int)), (10, iv i4), (41, bv ((Int.tmod e509 2) == 1))], [(6, (c_api_Link e516)), (7, [iv e509, iv e516.A, iv e516.B])], H3⟩) (APath.fin (by kernel_rfl)) (by kernel_rfl) ?_
            refine vc_ite (by kernel_rfl) h (fun hc1018 h => ?_) (fun hc1018 h => ?_)
            · refine vc_reg (S := ⟨[(0, .yl yid_), (2, .ptr k1_ 0), (4, iv i4), (7, .loc 7 0), (8, s_eI64 false c0_), (9, iv ((List.length c0_ : Nat) : Int)), (10, iv i4)], [(7, [iv e509, iv e516.B, iv e516.A])], H3⟩) (APath.fin (by kernel_rfl)) (by kernel_rfl) ?_
              obtain rfl := some_inj h
              exact ⟨rfl, (by show _ = _; kernel_rfl)⟩
            · refine vc_skip ?_
              obtain rfl := some_inj h
              exact ⟨rfl, (by show _ = _; kernel_rfl)⟩
          · clear hj1017
            rintro s hR
            obtain rfl := hR
            refine vc_seq ?_
            obtain ⟨r1019, hr1019, h⟩ := bind_some h
            obtain ⟨H1020, its1021, hvr1019, hT, hFr1019⟩ := hy_ i4 (route_hop.mk e509 j1017.1 j1017.2) g5 r1019 H3 its2 hT (Fp.tail (own := [.cel k0_ [s_eI64 false c0_], .cel k1_ (c_api_Topo c1_.Topo)]) (its := its2) hH) hr1019
            replace hH : Fp H H1020 (.cel k0_ [s_eI64 false c0_] :: .cel k1_ (c_api_Topo c1_.Topo) :: its) (.cel k0_ [s_eI64 false c0_] :: .cel k1_ (c_api_Topo c1_.Topo) :: its1021) := Fp.callT (own := [.cel k0_ [s_eI64 false c0_], .cel k1_ (c_api_Topo c1_.Topo)]) (its := its2) hH hFr1019
            refine vc_reg (S := ⟨[(0, .yl yid_), (2, .ptr k1_ 0), (8, s_eI64 false c0_), (9, iv ((List.length c0_ : Nat) : Int)), (10, iv i4), (52, bv (!r1019.2))], [], H1020⟩) (APath.chunk 3 (by kernel_rfl) (APath.one (.callY (some 51) (.t 48) [.t 49, .t 50]) (by kernel_rfl) (st_callY (H := H3) (id := yid_) (ys := [iv i4, .agg [iv e509, iv j1017.1, iv j1017.2]]) (by kernel_rfl) (by kernel_rfl) (by kernel_rfl) (by kernel_rfl) hvr1019) (APath.fin (by kernel_rfl)))) (by kernel_rfl) ?_
            refine vc_ite (by kernel_rfl) h (fun hc1022 h => ?_) (fun hc1022 h => ?_)
            · refine vc_kp ?_
              try show vc _ _ _ _ _
              refine vc_exit ?_
              try show vc _ _ _ _ _
              obtain rfl := some_inj h
              exact ⟨_, rfl, rfl, ⟨its1021, H1020, (by show _ = _; kernel_rfl), hT, hH⟩⟩
            · refine vc_skip ?_
              refine vc_kp ?_
              refine vc_reg (S := ⟨[(0, .yl yid_), (2, .ptr k1_ 0), (8, s_eI64 false c0_), (9, iv ((List.length c0_ : Nat) : Int)), (10, iv (w64 (i4 + 1)))], [], H1020⟩) (APath.fin (by kernel_rfl)) (by kernel_rfl) ?_
              obtain rfl := some_inj h
              exact ⟨_, rfl, ⟨its1021, H1020, (by show _ = _; kernel_rfl), hT, hH⟩⟩
    · refine vc_kp ?_
      try show vc _ _ _ _ _
      refine vc_exit ?_
      try show vc _ _ _ _ _
      obtain rfl := some_inj h
      exact ⟨_, rfl, rfl, ⟨its2, H3, (by show _ = _; kernel_rfl), hT, hH⟩⟩
  · rintro e s hq
    obtain ⟨rfl, hR⟩ := hq
    obtain ⟨its506, H507, rfl, hT, hH⟩ := hR
    replace hH : Fp H H507 (.cel k0_ [s_eI64 false c0_] :: .cel k1_ (c_api_Topo c1_.Topo) :: its) (.cel k0_ [s_eI64 false c0_] :: .cel k1_ (c_api_Topo c1_.Topo) :: its506) := hH
    try show vc _ _ _ _ _
    obtain rfl := some_inj h
    exact ⟨[], (by kernel_rfl), (by kernel_rfl), its506, hT, hH⟩
theorem topo_end_back_ok (N : Nat) (a0_ : topo_end) (r : Int) (h : topo_end_back N a0_ = some r) : PCall Try.prog 80 [.agg (c_topo_end a0_)] (iv r) := by
  unfold topo_end_back at h
  have hH : HP ([] : List HO) [] := trivial
  refine pcall_of chk80 rfl rfl (vc_sound _ _ _ ?_) rfl
  refine vc_seq ?_
  refine vc_reg (S := ⟨[(1, .loc 1 0)], [(1, (c_topo_end a0_))], []⟩) (APath.fin (by kernel_rfl)) (by kernel_rfl) ?_
  refine vc_seq ?_
  refine vc_reg (S := ⟨[(2, iv (xorI .i64 a0_.port 1))], [], []⟩) (APath.fin (by kernel_rfl)) (by kernel_rfl) ?_
  refine vc_ret ?_
  obtain rfl := some_inj h
  exact ret_of (by kernel_rfl)
theorem ref16_node_ok (N : Nat) (a0_ : api_Topo) (a1_ : Int) (r : Bool) (h : ref16_node N a0_ a1_ = some r) : PCall Try.prog 81 [.agg (c_api_Topo a0_), iv a1_] (bv r) := by
  unfold ref16_node at h
  have hH : HP ([] : List HO) [] := trivial
  refine pcall_of chk81 rfl rfl (vc_sound _ _ _ ?_) rfl
  refine vc_seq ?_
  refine vc_reg (S := ⟨[(1, iv a1_), (2, .loc 2 0)], [(2, (c_api_Topo a0_))], []⟩) (APath.fin (by kernel_rfl)) (by kernel_rfl) ?_
  refine vc_seq ?_
  refine vc_regX ⟨[(4, bv ((decide (a1_ ≥ 0)) && (decide (a1_ < a0_.Nodes))))], [], []⟩ ?_ ?_
  · rcases Bool.eq_false_or_eq_true (decide (a1_ ≥ 0)) with hc1 | hc2
    · exact ⟨_, (APath.chunk 1 (by kernel_rfl) (APath.one (.val 6 (.bin .geq) [.t 5, .k (.p (.int .i64 0))]) (by kernel_rfl) (st_bool (c := (decide (a1_ ≥ 0))) (by kernel_rfl) hc1) (APath.fin (by kernel_rfl)))), by simp only [hc1]; kernel_rfl⟩
    · exact ⟨_, (APath.chunk 1 (by kernel_rfl) (APath.one (.val 6 (.bin .geq) [.t 5, .k (.p (.int .i64 0))]) (by kernel_rfl) (st_bool (c := (decide (a1_ ≥ 0))) (by kernel_rfl) hc2) (APath.fin (by kernel_rfl)))), by simp only [hc2]; kernel_rfl⟩
  · refine vc_ret ?_
    obtain rfl := some_inj h
    exact ret_of (by kernel_rfl)
theorem topo_node_ok (N : Nat) (a0_ : api_Topo) (a1_ : Int) (r : Bool) (h : topo_node N a0_ a1_ = some r) : PCall Try.prog 83 [.agg (c_api_Topo a0_), iv a1_] (bv r) := by
  unfold topo_node at h
  have hH : HP ([] : List HO) [] := trivial
  refine pcall_of chk83 rfl rfl (vc_sound _ _ _ ?_) rfl
  refine vc_seq ?_
  refine vc_reg (S := ⟨[(1, iv a1_), (2, .loc 2 0)], [(2, (c_api_Topo a0_))], []⟩) (APath.fin (by kernel_rfl)) (by kernel_rfl) ?_
  refine vc_seq ?_
  refine vc_regX ⟨[(4, bv ((decide (a1_ ≥ 0)) && (decide (a1_ < a0_.Nodes))))], [], []⟩ ?_ ?_
  · rcases Bool.eq_false_or_eq_true (decide (a1_ ≥ 0)) with hc1 | hc2
    · exact ⟨_, (APath.chunk 1 (by kernel_rfl) (APath.one (.val 6 (.bin .geq) [.t 5, .k (.p (.int .i64 0))]) (by kernel_rfl) (st_bool (c := (decide (a1_ ≥ 0))) (by kernel_rfl) hc1) (APath.fin (by kernel_rfl)))), by simp only [hc1]; kernel_rfl⟩
    · exact ⟨_, (APath.chunk 1 (by kernel_rfl) (APath.one (.val 6 (.bin .geq) [.t 5, .k (.p (.int .i64 0))]) (by kernel_rfl) (st_bool (c := (decide (a1_ ≥ 0))) (by kernel_rfl) hc2) (APath.fin (by kernel_rfl)))), by simp only [hc2]; kernel_rfl⟩
  · refine vc_ret ?_
    obtain rfl := some_inj h
    exact ret_of (by kernel_rfl)
theorem topo_sound_2_ok (N : Nat) (a0_ : Int) (c0_ : api_Topo) (k0_ : Nat) (H : List HO) (hH : HP H [.cel k0_ (c_api_Topo c0_)]) (r : Bool) (h : topo_sound_2 N a0_ c0_ = some r) : ACall Try.prog 84 [iv a0_, .ptr k0_ 0] H (bv r) H := by
  unfold topo_sound_2 at h
  refine acall_ofW chk84 rfl rfl rfl (vc_sound _ _ _ ?_)
  refine vc_seq ?_
  refine vc_reg (S := ⟨[(0, iv a0_), (1, .ptr k0_ 0)], [], H⟩) (APath.fin (by kernel_rfl)) (by kernel_rfl) ?_
  refine vc_seq ?_
  have hlc1 := HP.get hH 0 rfl
  obtain ⟨e2, he2, h⟩ := bind_some h
  refine vc_reg (S := ⟨[(1, .ptr k0_ 0), (4, .loc 4 0)], [(4, (c_api_Link e2))], H⟩) (APath.chunk 1 (by kernel_rfl) (APath.one (.load 6 (.t 5) 1 false) (by kernel_rfl) (st_loadC (H := H) (id := k0_) (off := 2) (cs := (c_api_Topo c0_)) (c := [s_e_api_Link false c0_.Links]) (r := s_e_api_Link false c0_.Links) (by kernel_rfl) (by kernel_rfl) hlc1 (by kernel_rfl) (by kernel_rfl) (by kernel_rfl)) (APath.chunk 1 (by kernel_rfl) (APath.one (.val 8 (.iaddrS 4) [.t 6, .t 7]) (by kernel_rfl) (st_val (ys := [s_e_api_Link false c0_.Links, iv a0_]) (by kernel_rfl) (vexec_iaddrS e_api_Link he2)) (APath.one (.load 9 (.t 8) 4 true) (by kernel_rfl) (st_loadP (sz := 4) (off := 0) (cs := [.int .i64 e2.A, .int .i64 e2.B, .int .i64 e2.Per, .int .i64 e2.Delay]) (r := .agg (c_api_Link e2)) e_api_Link he2 (by kernel_rfl) (by kernel_rfl) (by kernel_rfl)) (APath.fin (by kernel_rfl))))))) (by kernel_rfl) ?_
  refine vc_seq ?_
  obtain ⟨j9, hj, h⟩ := bind_some h
  refine vc_regXR (fun s => s = ⟨[(3, bv j9)], [], H⟩) ?_ ?_
  · clear h
    have hlc3 := HP.get hH 0 rfl
    obtain ⟨e4, he4, hj⟩ := bind_some hj
    rcases ite_some hj with ⟨hc5, hj⟩ | ⟨hc6, hj⟩
    · obtain rfl := some_inj hj
      exact ⟨_, (APath.chunk 1 (by kernel_rfl) (APath.one (.load 11 (.t 10) 1 false) (by kernel_rfl) (st_loadC (H := H) (id := k0_) (off := 1) (cs := (c_api_Topo c0_)) (c := [s_eB false c0_.Station]) (r := s_eB false c0_.Station) (by kernel_rfl) (by kernel_rfl) hlc3 (by kernel_rfl) (by kernel_rfl) (by kernel_rfl)) (APath.chunk 2 (by kernel_rfl) (APath.one (.val 14 (.iaddrS 1) [.t 11, .t 13]) (by kernel_rfl) (st_val (ys := [s_eB false c0_.Station, iv e2.A]) (by kernel_rfl) (vexec_iaddrS eB he4)) (APath.one (.load 15 (.t 14) 1 false) (by kernel_rfl) (st_loadP (sz := 1) (off := 0) (cs := [.bool e4]) (r := bv e4) eB he4 (by kernel_rfl) (by kernel_rfl) (by kernel_rfl)) (APath.one (.val 16 .not [.t 15]) (by kernel_rfl) (st_bool (c := (!e4)) (by kernel_rfl) hc5) (APath.fin (by kernel_rfl)))))))), (by show _ = _; kernel_rfl)⟩
    · have hlc7 := HP.get hH 0 rfl
      obtain ⟨e8, he8, hj⟩ := bind_some hj
      obtain rfl := some_inj hj
      exact ⟨_, (APath.chunk 1 (by kernel_rfl) (APath.one (.load 11 (.t 10) 1 false) (by kernel_rfl) (st_loadC (H := H) (id := k0_) (off := 1) (cs := (c_api_Topo c0_)) (c := [s_eB false c0_.Station]) (r := s_eB false c0_.Station) (by kernel_rfl) (by kernel_rfl) hlc3 (by kernel_rfl) (by kernel_rfl) (by kernel_rfl)) (APath.chunk 2 (by kernel_rfl) (APath.one (.val 14 (.iaddrS 1) [.t 11, .t 13]) (by kernel_rfl) (st_val (ys := [s_eB false c0_.Station, iv e2.A]) (by kernel_rfl) (vexec_iaddrS eB he4)) (APath.one (.load 15 (.t 14) 1 false) (by kernel_rfl) (st_loadP (sz := 1) (off := 0) (cs := [.bool e4]) (r := bv e4) eB he4 (by kernel_rfl) (by kernel_rfl) (by kernel_rfl)) (APath.one (.val 16 .not [.t 15]) (by kernel_rfl) (st_bool (c := (!e4)) (by kernel_rfl) hc6) (APath.chunk 2 (by kernel_rfl) (APath.oneG (.load 19 (.t 18) 1 false) 17 false (by kernel_rfl) (by kernel_rfl) (st_loadC (H := H) (id := k0_) (off := 1) (cs := (c_api_Topo c0_)) (c := [s_eB false c0_.Station]) (r := s_eB false c0_.Station) (by kernel_rfl) (by kernel_rfl) hlc7 (by kernel_rfl) (by kernel_rfl) (by kernel_rfl)) (APath.chunk 2 (by kernel_rfl) (APath.oneG (.val 22 (.iaddrS 1) [.t 19, .t 21]) 17 false (by kernel_rfl) (by kernel_rfl) (st_val (ys := [s_eB false c0_.Station, iv e2.B]) (by kernel_rfl) (vexec_iaddrS eB he8)) (APath.oneG (.load 23 (.t 22) 1 false) 17 false (by kernel_rfl) (by kernel_rfl) (st_loadP (sz := 1) (off := 0) (cs := [.bool e8]) (r := bv e8) eB he8 (by kernel_rfl) (by kernel_rfl) (by kernel_rfl)) (APath.fin (by kernel_rfl))))))))))))), (by show _ = _; kernel_rfl)⟩
  · clear hj
    rintro s hR
    obtain rfl := hR
    refine vc_ret ?_
    obtain rfl := some_inj h
    exact ret_ofAW (by kernel_rfl) (by kernel_rfl)
theorem topo_sound_3_ok (N : Nat) (a0_ : Int) (c0_ : api_Topo) (k0_ : Nat) (H : List HO) (hH : HP H [.cel k0_ (c_api_Topo c0_)]) (r : Bool) (h : topo_sound_3 N a0_ c0_ = some r) : ACall Try.prog 85 [iv a0_, .ptr k0_ 0] H (bv r) H := by
  unfold topo_sound_3 at h
  refine acall_ofW chk85 rfl rfl rfl (vc_sound _ _ _ ?_)
  refine vc_seq ?_
  refine vc_reg (S := ⟨[(0, iv a0_), (1, .ptr k0_ 0)], [], H⟩) (APath.fin (by kernel_rfl)) (by kernel_rfl) ?_
  refine vc_seq ?_
  have hlc1 := HP.get hH 0 rfl
  obtain ⟨e2, he2, h⟩ := bind_some h
  refine vc_reg (S := ⟨[(0, iv a0_), (1, .ptr k0_ 0), (4, .loc 4 0)], [(4, (c_api_Link e2))], H⟩) (APath.chunk 1 (by kernel_rfl) (APath.one (.load 8 (.t 7) 1 false) (by kernel_rfl) (st_loadC (H := H) (id := k0_) (off := 2) (cs := (c_api_Topo c0_)) (c := [s_e_api_Link false c0_.Links]) (r := s_e_api_Link false c0_.Links) (by kernel_rfl) (by kernel_rfl) hlc1 (by kernel_rfl) (by kernel_rfl) (by kernel_rfl)) (APath.chunk 1 (by kernel_rfl) (APath.one (.val 10 (.iaddrS 4) [.t 8, .t 9]) (by kernel_rfl) (st_val (ys := [s_e_api_Link false c0_.Links, iv a0_]) (by kernel_rfl) (vexec_iaddrS e_api_Link he2)) (APath.one (.load 11 (.t 10) 4 true) (by kernel_rfl) (st_loadP (sz := 4) (off := 0) (cs := [.int .i64 e2.A, .int .i64 e2.B, .int .i64 e2.Per, .int .i64 e2.Delay]) (r := .agg (c_api_Link e2)) e_api_Link he2 (by kernel_rfl) (by kernel_rfl) (by kernel_rfl)) (APath.fin (by kernel_rfl))))))) (by kernel_rfl) ?_
  refine vc_seq ?_
  refine vc_seq ?_
  have hlc3 := HP.get hH 0 rfl
  obtain ⟨l4, hl4, h⟩ := bind_some h
  refine vc_reg (S := ⟨[(4, .loc 4 0), (15, s_e_api_Link false l4), (16, iv ((List.length l4 : Nat) : Int)), (17, iv 0)], [(4, (c_api_Link e2))], H⟩) (APath.chunk 1 (by kernel_rfl) (APath.one (.load 13 (.t 12) 1 false) (by kernel_rfl) (st_loadC (H := H) (id := k0_) (off := 2) (cs := (c_api_Topo c0_)) (c := [s_e_api_Link false c0_.Links]) (r := s_e_api_Link false c0_.Links) (by kernel_rfl) (by kernel_rfl) hlc3 (by kernel_rfl) (by kernel_rfl) (by kernel_rfl)) (APath.chunk 1 (by kernel_rfl) (APath.one (.val 15 (.slice 4 false true false) [.t 13, .t 14]) (by kernel_rfl) (st_val (ys := [s_e_api_Link false c0_.Links, iv a0_]) (by kernel_rfl) (vexec_sliceHi e_api_Link hl4)) (APath.one (.val 16 .len [.t 15]) (by kernel_rfl) (st_val (ys := [s_e_api_Link false l4]) (by kernel_rfl) (vexec_len e_api_Link)) (APath.fin (by kernel_rfl))))))) (by kernel_rfl) ?_
  replace hH : HP H [] := HP.pick hH [] rfl
  refine vc_block ?_
  obtain ⟨o517, ho517, h⟩ := bind_some h
  refine vc_loop ((loop_sim (fun (x : Int) s => s = ⟨[(4, .loc 4 0), (15, s_e_api_Link false l4), (16, iv ((List.length l4 : Nat) : Int)), (17, iv x)], [(4, (c_api_Link e2))], H⟩) (fun x : Int => topo_sound_3_L1 N e2 l4 x) (fun (p : (Unit) ⊕ (Bool)) e s => match p with | (.inl p) => e = .exit 0 ∧ (s = ⟨[], [], H⟩) | (.inr p) => e = .ret ∧ ∃ xs, rawL s i85.res = some xs ∧ tupOf (weakVs xs) = bv p ∧ s.H = H) ?_ N _ o517 _ ho517 (by show _ = _; kernel_rfl)).mono ?_)
  · clear h ho517
    rintro i5 o s h hR
    obtain rfl := hR
    replace h : topo_sound_3_L1 N e2 l4 i5 = some o := h
    unfold topo_sound_3_L1 at h
    refine vc_seq ?_
    refine vc_reg (S := ⟨[(4, .loc 4 0), (15, s_e_api_Link false l4), (16, iv ((List.length l4 : Nat) : Int)), (17, iv i5), (18, bv (decide (i5 < ((List.length l4 : Nat) : Int))))], [(4, (c_api_Link e2))], H⟩) (APath.fin (by kernel_rfl)) (by kernel_rfl) ?_
    refine vc_seq ?_
    refine vc_ite (by kernel_rfl) h (fun hc506 h => ?_) (fun hc506 h => ?_)
    · refine vc_skip ?_
      refine vc_kp ?_
      refine vc_seq ?_
      refine vc_block ?_
      refine vc_seq ?_
      obtain ⟨e507, he507, h⟩ := bind_some h
      refine vc_reg (S := ⟨[(4, .loc 4 0), (6, .loc 6 0), (15, s_e_api_Link false l4), (16, iv ((List.length l4 : Nat) : Int)), (17, iv i5)], [(4, (c_api_Link e2)), (6, (c_api_Link e507))], H⟩) (APath.one (.val 19 (.iaddrS 4) [.t 15, .t 17]) (by kernel_rfl) (st_val (ys := [s_e_api_Link false l4, iv i5]) (by kernel_rfl) (vexec_iaddrS e_api_Link he507)) (APath.one (.load 20 (.t 19) 4 true) (by kernel_rfl) (st_loadP (sz := 4) (off := 0) (cs := [.int .i64 e507.A, .int .i64 e507.B, .int .i64 e507.Per, .int .i64 e507.Delay]) (r := .agg (c_api_Link e507)) e_api_Link he507 (by kernel_rfl) (by kernel_rfl) (by kernel_rfl)) (APath.fin (by kernel_rfl)))) (by kernel_rfl) ?_
      refine vc_seq ?_
      refine vc_regX ⟨[(4, .loc 4 0), (15, s_e_api_Link false l4), (16, iv ((List.length l4 : Nat) : Int)), (17, iv i5), (46, bv (if (e2.A == e507.A) then ((e2.B == e507.B) || ((e2.A == e507.B) && (e2.B == e507.A))) else ((e2.A == e507.B) && (e2.B == e507.A))))], [(4, (c_api_Link e2))], H⟩ ?_ ?_
      · rcases Bool.eq_false_or_eq_true (e2.A == e507.A) with hc508 | hc513
        · rcases Bool.eq_false_or_eq_true (e2.B == e507.B) with hc509 | hc510
          · exact ⟨_, (APath.chunk 4 (by kernel_rfl) (APath.one (.val 25 (.bin .eql) [.t 22, .t 24]) (by kernel_rfl) (st_bool (c := (e2.A == e507.A)) (by kernel_rfl) hc508) (APath.chunk 5 (by kernel_rfl) (APath.oneG (.val 31 (.bin .eql) [.t 28, .t 30]) 26 true (by kernel_rfl) (by kernel_rfl) (st_bool (c := (e2.B == e507.B)) (by kernel_rfl) hc509) (APath.fin (by kernel_rfl)))))), by simp only [hc508, hc509]; kernel_rfl⟩
          · rcases Bool.eq_false_or_eq_true (e2.A == e507.B) with hc511 | hc512
            · exact ⟨_, (APath.chunk 4 (by kernel_rfl) (APath.one (.val 25 (.bin .eql) [.t 22, .t 24]) (by kernel_rfl) (st_bool (c := (e2.A == e507.A)) (by kernel_rfl) hc508) (APath.chunk 5 (by kernel_rfl) (APath.oneG (.val 31 (.bin .eql) [.t 28, .t 30]) 26 true (by kernel_rfl) (by kernel_rfl) (st_bool (c := (e2.B == e507.B)) (by kernel_rfl) hc510) (APath.chunk 6 (by kernel_rfl) (APath.oneG (.val 38 (.bin .eql) [.t 35, .t 37]) 33 false (by kernel_rfl) (by kernel_rfl) (st_bool (c := (e2.A == e507.B)) (by kernel_rfl) hc511) (APath.fin (by kernel_rfl)))))))), by simp only [hc508, hc510, hc511]; kernel_rfl⟩
            · exact ⟨_, (APath.chunk 4 (by kernel_rfl) (APath.one (.val 25 (.bin .eql) [.t 22, .t 24]) (by kernel_rfl) (st_bool (c := (e2.A == e507.A)) (by kernel_rfl) hc508) (APath.chunk 5 (by kernel_rfl) (APath.oneG (.val 31 (.bin .eql) [.t 28, .t 30]) 26 true (by kernel_rfl) (by kernel_rfl) (st_bool (c := (e2.B == e507.B)) (by kernel_rfl) hc510) (APath.chunk 6 (by kernel_rfl) (APath.oneG (.val 38 (.bin .eql) [.t 35, .t 37]) 33 false (by kernel_rfl) (by kernel_rfl) (st_bool (c := (e2.A == e507.B)) (by kernel_rfl) hc512) (APath.fin (by kernel_rfl)))))))), by simp only [hc508, hc510, hc512]; kernel_rfl⟩
        · rcases Bool.eq_false_or_eq_true (e2.A == e507.B) with hc514 | hc515
          · exact ⟨_, (APath.chunk 4 (by kernel_rfl) (APath.one (.val 25 (.bin .eql) [.t 22, .t 24]) (by kernel_rfl) (st_bool (c := (e2.A == e507.A)) (by kernel_rfl) hc513) (APath.chunk 12 (by kernel_rfl) (APath.oneG (.val 38 (.bin .eql) [.t 35, .t 37]) 33 false (by kernel_rfl) (by kernel_rfl) (st_bool (c := (e2.A == e507.B)) (by kernel_rfl) hc514) (APath.fin (by kernel_rfl)))))), by simp only [hc513, hc514]; kernel_rfl⟩
          · exact ⟨_, (APath.chunk 4 (by kernel_rfl) (APath.one (.val 25 (.bin .eql) [.t 22, .t 24]) (by kernel_rfl) (st_bool (c := (e2.A == e507.A)) (by kernel_rfl) hc513) (APath.chunk 12 (by kernel_rfl) (APath.oneG (.val 38 (.bin .eql) [.t 35, .t 37]) 33 false (by kernel_rfl) (by kernel_rfl) (st_bool (c := (e2.A == e507.B)) (by kernel_rfl) hc515) (APath.fin (by kernel_rfl)))))), by simp only [hc513, hc515]; kernel_rfl⟩
      · refine vc_ite (by kernel_rfl) h (fun hc516 h => ?_) (fun hc516 h => ?_)
        · refine vc_seq ?_
          refine vc_reg (S := ⟨[(3, bv false)], [], H⟩) (APath.fin (by kernel_rfl)) (by kernel_rfl) ?_
          refine vc_ret ?_
          obtain rfl := some_inj h
          exact ⟨_, rfl, rfl, ret_ofAW (by kernel_rfl) (by kernel_rfl)⟩
        · refine vc_skip ?_
          refine vc_kp ?_
          refine vc_reg (S := ⟨[(4, .loc 4 0), (15, s_e_api_Link false l4), (16, iv ((List.length l4 : Nat) : Int)), (17, iv (w64 (i5 + 1)))], [(4, (c_api_Link e2))], H⟩) (APath.fin (by kernel_rfl)) (by kernel_rfl) ?_
          obtain rfl := some_inj h
          exact ⟨_, rfl, (by show _ = _; kernel_rfl)⟩
    · refine vc_kp ?_
      try show vc _ _ _ _ _
      refine vc_exit ?_
      try show vc _ _ _ _ _
      obtain rfl := some_inj h
      exact ⟨_, rfl, rfl, (by show _ = _; kernel_rfl)⟩
  · rintro e s hq
    rcases o517 with p518 | p519
    · dsimp only at h hq
      obtain ⟨rfl, hR⟩ := hq
      obtain rfl := hR
      try show vc _ _ _ _ _
      refine vc_seq ?_
      refine vc_reg (S := ⟨[(3, bv true)], [], H⟩) (APath.fin (by kernel_rfl)) (by kernel_rfl) ?_
      refine vc_ret ?_
      obtain rfl := some_inj h
      exact ret_ofAW (by kernel_rfl) (by kernel_rfl)
    · dsimp only at h hq
      obtain ⟨rfl, hq⟩ := hq
      obtain rfl := some_inj h
      exact hq
theorem topo_sound_4_ok (N : Nat) (a0_ : Int) (c0_ : api_Topo) (k0_ : Nat) (H : List HO) (hH : HP H [.cel k0_ (c_api_Topo c0_)]) (r : Bool) (h : topo_sound_4 N a0_ c0_ = some r) : ACall Try.prog 86 [iv a0_, .ptr k0_ 0] H (bv r) H := by
  unfold topo_sound_4 at h
  refine acall_ofW chk86 rfl rfl rfl (vc_sound _ _ _ ?_)
  refine vc_seq ?_
  refine vc_reg (S := ⟨[(0, iv a0_), (1, .ptr k0_ 0)], [], H⟩) (APath.fin (by kernel_rfl)) (by kernel_rfl) ?_
  refine vc_seq ?_
  have hlc1 := HP.get hH 0 rfl
  obtain ⟨e2, he2, h⟩ := bind_some h
  refine vc_reg (S := ⟨[(4, .loc 4 0)], [(4, (c_api_Link e2))], H⟩) (APath.chunk 1 (by kernel_rfl) (APath.one (.load 6 (.t 5) 1 false) (by kernel_rfl) (st_loadC (H := H) (id := k0_) (off := 2) (cs := (c_api_Topo c0_)) (c := [s_e_api_Link false c0_.Links]) (r := s_e_api_Link false c0_.Links) (by kernel_rfl) (by kernel_rfl) hlc1 (by kernel_rfl) (by kernel_rfl) (by kernel_rfl)) (APath.chunk 1 (by kernel_rfl) (APath.one (.val 8 (.iaddrS 4) [.t 6, .t 7]) (by kernel_rfl) (st_val (ys := [s_e_api_Link false c0_.Links, iv a0_]) (by kernel_rfl) (vexec_iaddrS e_api_Link he2)) (APath.one (.load 9 (.t 8) 4 true) (by kernel_rfl) (st_loadP (sz := 4) (off := 0) (cs := [.int .i64 e2.A, .int .i64 e2.B, .int .i64 e2.Per, .int .i64 e2.Delay]) (r := .agg (c_api_Link e2)) e_api_Link he2 (by kernel_rfl) (by kernel_rfl) (by kernel_rfl)) (APath.fin (by kernel_rfl))))))) (by kernel_rfl) ?_
  replace hH : HP H [] := HP.pick hH [] rfl
  refine vc_seq ?_
  refine vc_regX ⟨[(3, bv ((decide (e2.Per ≥ 1)) && ((decide (e2.Per ≤ 1000)) && ((decide (e2.Delay ≥ 0)) && (decide (e2.Delay ≤ 10000))))))], [], H⟩ ?_ ?_
  · rcases Bool.eq_false_or_eq_true (decide (e2.Per ≥ 1)) with hc3 | hc8
    · rcases Bool.eq_false_or_eq_true (decide (e2.Per ≤ 1000)) with hc4 | hc7
      · rcases Bool.eq_false_or_eq_true (decide (e2.Delay ≥ 0)) with hc5 | hc6
        · exact ⟨_, (APath.chunk 2 (by kernel_rfl) (APath.one (.val 12 (.bin .geq) [.t 11, .k (.p (.int .i64 1))]) (by kernel_rfl) (st_bool (c := (decide (e2.Per ≥ 1))) (by kernel_rfl) hc3) (APath.chunk 3 (by kernel_rfl) (APath.oneG (.val 16 (.bin .leq) [.t 15, .k (.p (.int .i64 1000))]) 13 true (by kernel_rfl) (by kernel_rfl) (st_bool (c := (decide (e2.Per ≤ 1000))) (by kernel_rfl) hc4) (APath.chunk 4 (by kernel_rfl) (APath.oneG (.val 21 (.bin .geq) [.t 20, .k (.p (.int .i64 0))]) 18 true (by kernel_rfl) (by kernel_rfl) (st_bool (c := (decide (e2.Delay ≥ 0))) (by kernel_rfl) hc5) (APath.fin (by kernel_rfl)))))))), by simp only [hc3, hc4, hc5]; kernel_rfl⟩
        · exact ⟨_, (APath.chunk 2 (by kernel_rfl) (APath.one (.val 12 (.bin .geq) [.t 11, .k (.p (.int .i64 1))]) (by kernel_rfl) (st_bool (c := (decide (e2.Per ≥ 1))) (by kernel_rfl) hc3) (APath.chunk 3 (by kernel_rfl) (APath.oneG (.val 16 (.bin .leq) [.t 15, .k (.p (.int .i64 1000))]) 13 true (by kernel_rfl) (by kernel_rfl) (st_bool (c := (decide (e2.Per ≤ 1000))) (by kernel_rfl) hc4) (APath.chunk 4 (by kernel_rfl) (APath.oneG (.val 21 (.bin .geq) [.t 20, .k (.p (.int .i64 0))]) 18 true (by kernel_rfl) (by kernel_rfl) (st_bool (c := (decide (e2.Delay ≥ 0))) (by kernel_rfl) hc6) (APath.fin (by kernel_rfl)))))))), by simp only [hc3, hc4, hc6]; kernel_rfl⟩
      · exact ⟨_, (APath.chunk 2 (by kernel_rfl) (APath.one (.val 12 (.bin .geq) [.t 11, .k (.p (.int .i64 1))]) (by kernel_rfl) (st_bool (c := (decide (e2.Per ≥ 1))) (by kernel_rfl) hc3) (APath.chunk 3 (by kernel_rfl) (APath.oneG (.val 16 (.bin .leq) [.t 15, .k (.p (.int .i64 1000))]) 13 true (by kernel_rfl) (by kernel_rfl) (st_bool (c := (decide (e2.Per ≤ 1000))) (by kernel_rfl) hc7) (APath.fin (by kernel_rfl)))))), by simp only [hc3, hc7]; kernel_rfl⟩
    · exact ⟨_, (APath.chunk 2 (by kernel_rfl) (APath.one (.val 12 (.bin .geq) [.t 11, .k (.p (.int .i64 1))]) (by kernel_rfl) (st_bool (c := (decide (e2.Per ≥ 1))) (by kernel_rfl) hc8) (APath.fin (by kernel_rfl)))), by simp only [hc8]; kernel_rfl⟩
  · refine vc_ret ?_
    obtain rfl := some_inj h
    exact ret_ofAW (by kernel_rfl) (by kernel_rfl)
theorem slices_Index__bool_bool_ok (N : Nat) (a0_ : (List Bool)) (a1_ : Bool) (r : Int) (h : slices_Index__bool_bool N a0_ a1_ = some r) : PCall Try.prog 87 [s_eB false a0_, bv a1_] (iv r) := by
  unfold slices_Index__bool_bool at h
  have hH : HP ([] : List HO) [] := trivial
  refine pcall_of chk87 rfl rfl (vc_sound _ _ _ ?_) rfl
  refine vc_seq ?_
  refine vc_reg (S := ⟨[(0, s_eB false a0_), (1, bv a1_)], [], []⟩) (APath.fin (by kernel_rfl)) (by kernel_rfl) ?_
  refine vc_seq ?_
  refine vc_seq ?_
  refine vc_reg (S := ⟨[(0, s_eB false a0_), (1, bv a1_), (7, iv ((List.length a0_ : Nat) : Int)), (8, iv 0)], [], []⟩) (APath.chunk 1 (by kernel_rfl) (APath.one (.val 7 .len [.t 6]) (by kernel_rfl) (st_val (ys := [s_eB false a0_]) (by kernel_rfl) (vexec_len eB)) (APath.fin (by kernel_rfl)))) (by kernel_rfl) ?_
  refine vc_block ?_
  obtain ⟨o505, ho505, h⟩ := bind_some h
  refine vc_loop ((loop_sim (fun (x : Int) s => s = ⟨[(0, s_eB false a0_), (1, bv a1_), (7, iv ((List.length a0_ : Nat) : Int)), (8, iv x)], [], []⟩) (fun x : Int => slices_Index__bool_bool_L1 N a0_ a1_ x) (fun (p : (Unit) ⊕ (Int)) e s => match p with | (.inl p) => e = .exit 0 ∧ (s = ⟨[], [], []⟩) | (.inr p) => e = .ret ∧ ∃ xs, resL s i87.res = some xs ∧ tupOf xs = iv p) ?_ N _ o505 _ ho505 (by show _ = _; kernel_rfl)).mono ?_)
  · clear h ho505
    rintro i1 o s h hR
    obtain rfl := hR
    replace h : slices_Index__bool_bool_L1 N a0_ a1_ i1 = some o := h
    unfold slices_Index__bool_bool_L1 at h
    refine vc_seq ?_
    refine vc_reg (S := ⟨[(0, s_eB false a0_), (1, bv a1_), (7, iv ((List.length a0_ : Nat) : Int)), (8, iv i1), (9, bv (decide (i1 < ((List.length a0_ : Nat) : Int))))], [], []⟩) (APath.fin (by kernel_rfl)) (by kernel_rfl) ?_
    refine vc_seq ?_
    refine vc_ite (by kernel_rfl) h (fun hc502 h => ?_) (fun hc502 h => ?_)
    · refine vc_skip ?_
      refine vc_kp ?_
      refine vc_seq ?_
      refine vc_block ?_
      refine vc_seq ?_
      refine vc_reg (S := ⟨[(0, s_eB false a0_), (1, bv a1_), (5, iv i1), (7, iv ((List.length a0_ : Nat) : Int)), (8, iv i1)], [], []⟩) (APath.fin (by kernel_rfl)) (by kernel_rfl) ?_
      refine vc_seq ?_
      obtain ⟨e503, he503, h⟩ := bind_some h
      refine vc_reg (S := ⟨[(0, s_eB false a0_), (1, bv a1_), (5, iv i1), (7, iv ((List.length a0_ : Nat) : Int)), (8, iv i1), (16, bv (a1_ == e503))], [], []⟩) (APath.chunk 3 (by kernel_rfl) (APath.one (.val 14 (.iaddrS 1) [.t 12, .t 13]) (by kernel_rfl) (st_val (ys := [s_eB false a0_, iv i1]) (by kernel_rfl) (vexec_iaddrS eB he503)) (APath.one (.load 15 (.t 14) 1 false) (by kernel_rfl) (st_loadP (sz := 1) (off := 0) (cs := [.bool e503]) (r := bv e503) eB he503 (by kernel_rfl) (by kernel_rfl) (by kernel_rfl)) (APath.fin (by kernel_rfl))))) (by kernel_rfl) ?_
      refine vc_ite (by kernel_rfl) h (fun hc504 h => ?_) (fun hc504 h => ?_)
      · refine vc_seq ?_
        refine vc_reg (S := ⟨[(4, iv i1)], [], []⟩) (APath.fin (by kernel_rfl)) (by kernel_rfl) ?_
        refine vc_ret ?_
        obtain rfl := some_inj h
        exact ⟨_, rfl, rfl, ret_of (by kernel_rfl)⟩
      · refine vc_skip ?_
        refine vc_kp ?_
        refine vc_reg (S := ⟨[(0, s_eB false a0_), (1, bv a1_), (7, iv ((List.length a0_ : Nat) : Int)), (8, iv (w64 (i1 + 1)))], [], []⟩) (APath.fin (by kernel_rfl)) (by kernel_rfl) ?_
        obtain rfl := some_inj h
        exact ⟨_, rfl, (by show _ = _; kernel_rfl)⟩
    · refine vc_kp ?_
      try show vc _ _ _ _ _
      refine vc_exit ?_
      try show vc _ _ _ _ _
      obtain rfl := some_inj h
      exact ⟨_, rfl, rfl, (by show _ = _; kernel_rfl)⟩
  · rintro e s hq
    rcases o505 with p506 | p507
    · dsimp only at h hq
      obtain ⟨rfl, hR⟩ := hq
      obtain rfl := hR
      try show vc _ _ _ _ _
      refine vc_seq ?_
      refine vc_reg (S := ⟨[(4, iv (-1))], [], []⟩) (APath.fin (by kernel_rfl)) (by kernel_rfl) ?_
      refine vc_ret ?_
      obtain rfl := some_inj h
      exact ret_of (by kernel_rfl)
    · dsimp only at h hq
      obtain ⟨rfl, hq⟩ := hq
      obtain rfl := some_inj h
      exact hq
theorem slices_Index__int_int_ok (N : Nat) (a0_ : (List Int)) (a1_ : Int) (r : Int) (h : slices_Index__int_int N a0_ a1_ = some r) : PCall Try.prog 88 [s_eI64 false a0_, iv a1_] (iv r) := by
  unfold slices_Index__int_int at h
  have hH : HP ([] : List HO) [] := trivial
  refine pcall_of chk88 rfl rfl (vc_sound _ _ _ ?_) rfl
  refine vc_seq ?_
  refine vc_reg (S := ⟨[(0, s_eI64 false a0_), (1, iv a1_)], [], []⟩) (APath.fin (by kernel_rfl)) (by kernel_rfl) ?_
  refine vc_seq ?_
  refine vc_seq ?_
  refine vc_reg (S := ⟨[(0, s_eI64 false a0_), (1, iv a1_), (7, iv ((List.length a0_ : Nat) : Int)), (8, iv 0)], [], []⟩) (APath.chunk 1 (by kernel_rfl) (APath.one (.val 7 .len [.t 6]) (by kernel_rfl) (st_val (ys := [s_eI64 false a0_]) (by kernel_rfl) (vexec_len eI64)) (APath.fin (by kernel_rfl)))) (by kernel_rfl) ?_
  refine vc_block ?_
  obtain ⟨o505, ho505, h⟩ := bind_some h
  refine vc_loop ((loop_sim (fun (x : Int) s => s = ⟨[(0, s_eI64 false a0_), (1, iv a1_), (7, iv ((List.length a0_ : Nat) : Int)), (8, iv x)], [], []⟩) (fun x : Int => slices_Index__int_int_L1 N a0_ a1_ x) (fun (p : (Unit) ⊕ (Int)) e s => match p with | (.inl p) => e = .exit 0 ∧ (s = ⟨[], [], []⟩) | (.inr p) => e = .ret ∧ ∃ xs, resL s i88.res = some xs ∧ tupOf xs = iv p) ?_ N _ o505 _ ho505 (by show _ = _; kernel_rfl)).mono ?_)
  · clear h ho505
    rintro i1 o s h hR
    obtain rfl := hR
    replace h : slices_Index__int_int_L1 N a0_ a1_ i1 = some o := h
    unfold slices_Index__int_int_L1 at h
    refine vc_seq ?_
    refine vc_reg (S := ⟨[(0, s_eI64 false a0_), (1, iv a1_), (7, iv ((List.length a0_ : Nat) : Int)), (8, iv i1), (9, bv (decide (i1 < ((List.length a0_ : Nat) : Int))))], [], []⟩) (APath.fin (by kernel_rfl)) (by kernel_rfl) ?_
    refine vc_seq ?_
    refine vc_ite (by kernel_rfl) h (fun hc502 h => ?_) (fun hc502 h => ?_)
    · refine vc_skip ?_
      refine vc_kp ?_
      refine vc_seq ?_
      refine vc_block ?_
      refine vc_seq ?_
      refine vc_reg (S := ⟨[(0, s_eI64 false a0_), (1, iv a1_), (5, iv i1), (7, iv ((List.length a0_ : Nat) : Int)), (8, iv i1)], [], []⟩) (APath.fin (by kernel_rfl)) (by kernel_rfl) ?_
      refine vc_seq ?_
      obtain ⟨e503, he503, h⟩ := bind_some h
      refine vc_reg (S := ⟨[(0, s_eI64 false a0_), (1, iv a1_), (5, iv i1), (7, iv ((List.length a0_ : Nat) : Int)), (8, iv i1), (16, bv (a1_ == e503))], [], []⟩) (APath.chunk 3 (by kernel_rfl) (APath.one (.val 14 (.iaddrS 1) [.t 12, .t 13]) (by kernel_rfl) (st_val (ys := [s_eI64 false a0_, iv i1]) (by kernel_rfl) (vexec_iaddrS eI64 he503)) (APath.one (.load 15 (.t 14) 1 false) (by kernel_rfl) (st_loadP (sz := 1) (off := 0) (cs := [.int .i64 e503]) (r := iv e503) eI64 he503 (by kernel_rfl) (by kernel_rfl) (by kernel_rfl)) (APath.fin (by kernel_rfl))))) (by kernel_rfl) ?_
      refine vc_ite (by kernel_rfl) h (fun hc504 h => ?_) (fun hc504 h => ?_)
      · refine vc_seq ?_
        refine vc_reg (S := ⟨[(4, iv i1)], [], []⟩) (APath.fin (by kernel_rfl)) (by kernel_rfl) ?_
        refine vc_ret ?_
        obtain rfl := some_inj h
        exact ⟨_, rfl, rfl, ret_of (by kernel_rfl)⟩
      · refine vc_skip ?_
        refine vc_kp ?_
        refine vc_reg (S := ⟨[(0, s_eI64 false a0_), (1, iv a1_), (7, iv ((List.length a0_ : Nat) : Int)), (8, iv (w64 (i1 + 1)))], [], []⟩) (APath.fin (by kernel_rfl)) (by kernel_rfl) ?_
        obtain rfl := some_inj h
        exact ⟨_, rfl, (by show _ = _; kernel_rfl)⟩
    · refine vc_kp ?_
      try show vc _ _ _ _ _
      refine vc_exit ?_
      try show vc _ _ _ _ _
      obtain rfl := some_inj h
      exact ⟨_, rfl, rfl, (by show _ = _; kernel_rfl)⟩
  · rintro e s hq
    rcases o505 with p506 | p507
    · dsimp only at h hq
      obtain ⟨rfl, hR⟩ := hq
      obtain rfl := hR
      try show vc _ _ _ _ _
      refine vc_seq ?_
      refine vc_reg (S := ⟨[(4, iv (-1))], [], []⟩) (APath.fin (by kernel_rfl)) (by kernel_rfl) ?_
      refine vc_ret ?_
      obtain rfl := some_inj h
      exact ret_of (by kernel_rfl)
    · dsimp only at h hq
      obtain ⟨rfl, hq⟩ := hq
      obtain rfl := some_inj h
      exact hq
theorem ref21_Some_ok (N : Nat) (a0_ : api_Topo) (a1_ : Int) (a2_ : Int) (r : (List Int)) (h : ref21_Some N a0_ a1_ a2_ = some r) : PCall Try.prog 32 [.agg (c_api_Topo a0_), .p (.int .u8 a1_), .p (.int .u8 a2_)] (s_eI64 false r) := by
  unfold ref21_Some at h
  have hH : HP ([] : List HO) [] := trivial
  refine pcall_of chk32 rfl rfl (vc_sound _ _ _ ?_) rfl
  refine vc_seq ?_
  refine vc_reg (S := ⟨[(1, .p (.int .u8 a1_)), (2, .p (.int .u8 a2_)), (3, .loc 3 0)], [(3, (c_api_Topo a0_))], []⟩) (APath.fin (by kernel_rfl)) (by kernel_rfl) ?_
  refine vc_seq ?_
  obtain ⟨m1, hm1, h⟩ := bind_some h
  refine vc_reg (S := ⟨[(2, .p (.int .u8 a2_)), (3, .loc 3 0), (7, iv m1)], [(3, (c_api_Topo a0_))], []⟩) (APath.chunk 4 (by kernel_rfl) (APath.one (.val 18 (.bin .rem) [.t 15, .t 17]) (by kernel_rfl) (st_val (ys := [iv (w64 (a1_)), iv a0_.Nodes]) (by kernel_rfl) (vexec_rem hm1)) (APath.fin (by kernel_rfl)))) (by kernel_rfl) ?_
  refine vc_seq ?_
  obtain ⟨a2, H3, ha2, hH3, hH⟩ := HP.lit 1 [m1] eI64 hH
  replace hH : HP H3 [.arr a2 1 false (List.map eI64 [m1])] := hH
  have hfa2 := own_form (HP.get hH 0 rfl)
  refine vc_reg (S := ⟨[(2, .p (.int .u8 a2_)), (3, .loc 3 0), (7, iv m1), (8, a2)], [(3, (c_api_Topo a0_))], H3⟩) (APath.chunk 1 (by rcases hfa2 with ha2e | ⟨_, _, ha2e⟩ <;> subst ha2e <;> kernel_rfl) (APath.one (.litSl 20 1 [.t 19]) (by kernel_rfl) (st_litSl (H := []) (ys := [iv m1]) (rows := (List.map eI64 [m1])) (by rcases hfa2 with ha2e | ⟨_, _, ha2e⟩ <;> subst ha2e <;> kernel_rfl) (by rcases hfa2 with ha2e | ⟨_, _, ha2e⟩ <;> subst ha2e <;> kernel_rfl) (by rcases hfa2 with ha2e | ⟨_, _, ha2e⟩ <;> subst ha2e <;> kernel_rfl) ha2 hH3) (APath.fin (by rcases hfa2 with ha2e | ⟨_, _, ha2e⟩ <;> subst ha2e <;> kernel_rfl)))) (by rcases hfa2 with ha2e | ⟨_, _, ha2e⟩ <;> subst ha2e <;> kernel_rfl) ?_
  refine vc_seq ?_
  refine vc_reg (S := ⟨[(2, .p (.int .u8 a2_)), (3, .loc 3 0), (7, iv m1), (8, a2), (9, s_eI64 true [])], [(3, (c_api_Topo a0_))], H3⟩) (APath.fin (by rcases hfa2 with ha2e | ⟨_, _, ha2e⟩ <;> subst ha2e <;> kernel_rfl)) (by rcases hfa2 with ha2e | ⟨_, _, ha2e⟩ <;> subst ha2e <;> kernel_rfl) ?_
  refine vc_seq ?_
  refine vc_block ?_
  obtain ⟨o1563, ho1563, h⟩ := bind_some h
  refine vc_loop ((loop_sim (fun (x : Int × (List Int) × (List Int)) s => ∃ (a4 : AV) (a5 : AV) (H6 : List HO), s = ⟨[(2, .p (.int .u8 a2_)), (3, .loc 3 0), (7, iv x.1), (8, a4), (9, a5)], [(3, (c_api_Topo a0_))], H6⟩ ∧ HP H6 [.arr a4 1 true (List.map eI64 x.2.1), .arr a5 1 false (List.map eI64 x.2.2)]) (fun x : Int × (List Int) × (List Int) => ref21_Some_L1 N a0_ a2_ x.1 x.2.1 x.2.2) (fun (p : ((List Int)) ⊕ ((List Int))) e s => match p with | (.inl p) => e = .exit 0 ∧ (∃ (a510 : AV) (H511 : List HO), s = ⟨[(9, a510)], [], H511⟩ ∧ HP H511 [.arr a510 1 false (List.map eI64 p)]) | (.inr p) => e = .ret ∧ ∃ xs, resL s i32.res = some xs ∧ tupOf xs = s_eI64 false p) ?_ N _ o1563 _ ho1563 ⟨a2, (.p (.sl 1 true [])), H3, (by show _ = _; rcases hfa2 with ha2e | ⟨_, _, ha2e⟩ <;> subst ha2e <;> kernel_rfl), (HP.frzUp (k := 0) (HP.pick (HP.nilArr hH 1 false) [1, 0] rfl) rfl)⟩).mono ?_)
  · clear h ho1563
    rintro ⟨i7, l8, l9⟩ o s h hR
    obtain ⟨a4, a5, H6, rfl, hH⟩ := hR
    replace hH : HP H6 [.arr a4 1 true (List.map eI64 l8), .arr a5 1 false (List.map eI64 l9)] := hH
    have hfa4 := own_form (HP.get hH 0 rfl)
    have hfa5 := own_form (HP.get hH 1 rfl)
    replace h : ref21_Some_L1 N a0_ a2_ i7 l8 l9 = some o := h
    unfold ref21_Some_L1 at h
    refine vc_seq ?_
    refine vc_seq ?_
    obtain ⟨j519, hj, h⟩ := bind_some h
    refine vc_regXR (fun s => s = ⟨[(2, .p (.int .u8 a2_)), (3, .loc 3 0), (7, iv i7), (8, a4), (9, a5), (36, bv j519)], [(3, (c_api_Topo a0_))], H6⟩) ?_ ?_
    · clear h
      have hln512 := HP.len (k := 1) (a := a5) (sz := 1) (frz := false) (l := l9) eI64 hH rfl
      rcases ite_some hj with ⟨hc513, hj⟩ | ⟨hc518, hj⟩
      · have hln514 := HP.len (k := 1) (a := a5) (sz := 1) (frz := false) (l := l9) eI64 hH rfl
        rcases ite_some hj with ⟨hc515, hj⟩ | ⟨hc516, hj⟩
        · obtain rfl := some_inj hj
          exact ⟨_, (APath.chunk 1 (by rcases hfa4 with ha4e | ⟨_, _, ha4e⟩ <;> rcases hfa5 with ha5e | ⟨_, _, ha5e⟩ <;> subst ha4e ha5e <;> kernel_rfl) (APath.one (.val 22 .len [.t 21]) (by kernel_rfl) (st_val (ys := [a5]) (by rcases hfa4 with ha4e | ⟨_, _, ha4e⟩ <;> rcases hfa5 with ha5e | ⟨_, _, ha5e⟩ <;> subst ha4e ha5e <;> kernel_rfl) hln512) (APath.one (.val 23 (.bin .lss) [.t 22, .k (.p (.int .i64 8))]) (by kernel_rfl) (st_bool (c := (decide (((List.length l9 : Nat) : Int) < 8))) (by rcases hfa4 with ha4e | ⟨_, _, ha4e⟩ <;> rcases hfa5 with ha5e | ⟨_, _, ha5e⟩ <;> subst ha4e ha5e <;> kernel_rfl) hc513) (APath.chunk 2 (by rcases hfa4 with ha4e | ⟨_, _, ha4e⟩ <;> rcases hfa5 with ha5e | ⟨_, _, ha5e⟩ <;> subst ha4e ha5e <;> kernel_rfl) (APath.oneG (.val 26 .len [.t 25]) 24 true (by kernel_rfl) (by rcases hfa4 with ha4e | ⟨_, _, ha4e⟩ <;> rcases hfa5 with ha5e | ⟨_, _, ha5e⟩ <;> subst ha4e ha5e <;> kernel_rfl) (st_val (ys := [a5]) (by rcases hfa4 with ha4e | ⟨_, _, ha4e⟩ <;> rcases hfa5 with ha5e | ⟨_, _, ha5e⟩ <;> subst ha4e ha5e <;> kernel_rfl) hln514) (APath.oneG (.val 27 (.bin .eql) [.t 26, .k (.p (.int .i64 0))]) 24 true (by kernel_rfl) (by rcases hfa4 with ha4e | ⟨_, _, ha4e⟩ <;> rcases hfa5 with ha5e | ⟨_, _, ha5e⟩ <;> subst ha4e ha5e <;> kernel_rfl) (st_bool (c := (((List.length l9 : Nat) : Int) == 0)) (by rcases hfa4 with ha4e | ⟨_, _, ha4e⟩ <;> rcases hfa5 with ha5e | ⟨_, _, ha5e⟩ <;> subst ha4e ha5e <;> kernel_rfl) hc515) (APath.fin (by rcases hfa4 with ha4e | ⟨_, _, ha4e⟩ <;> rcases hfa5 with ha5e | ⟨_, _, ha5e⟩ <;> subst ha4e ha5e <;> kernel_rfl)))))))), (by show _ = _; rcases hfa4 with ha4e | ⟨_, _, ha4e⟩ <;> rcases hfa5 with ha5e | ⟨_, _, ha5e⟩ <;> subst ha4e ha5e <;> kernel_rfl)⟩
        · obtain ⟨e517, he517, hj⟩ := bind_some hj
          obtain rfl := some_inj hj
          exact ⟨_, (APath.chunk 1 (by rcases hfa4 with ha4e | ⟨_, _, ha4e⟩ <;> rcases hfa5 with ha5e | ⟨_, _, ha5e⟩ <;> subst ha4e ha5e <;> kernel_rfl) (APath.one (.val 22 .len [.t 21]) (by kernel_rfl) (st_val (ys := [a5]) (by rcases hfa4 with ha4e | ⟨_, _, ha4e⟩ <;> rcases hfa5 with ha5e | ⟨_, _, ha5e⟩ <;> subst ha4e ha5e <;> kernel_rfl) hln512) (APath.one (.val 23 (.bin .lss) [.t 22, .k (.p (.int .i64 8))]) (by kernel_rfl) (st_bool (c := (decide (((List.length l9 : Nat) : Int) < 8))) (by rcases hfa4 with ha4e | ⟨_, _, ha4e⟩ <;> rcases hfa5 with ha5e | ⟨_, _, ha5e⟩ <;> subst ha4e ha5e <;> kernel_rfl) hc513) (APath.chunk 2 (by rcases hfa4 with ha4e | ⟨_, _, ha4e⟩ <;> rcases hfa5 with ha5e | ⟨_, _, ha5e⟩ <;> subst ha4e ha5e <;> kernel_rfl) (APath.oneG (.val 26 .len [.t 25]) 24 true (by kernel_rfl) (by rcases hfa4 with ha4e | ⟨_, _, ha4e⟩ <;> rcases hfa5 with ha5e | ⟨_, _, ha5e⟩ <;> subst ha4e ha5e <;> kernel_rfl) (st_val (ys := [a5]) (by rcases hfa4 with ha4e | ⟨_, _, ha4e⟩ <;> rcases hfa5 with ha5e | ⟨_, _, ha5e⟩ <;> subst ha4e ha5e <;> kernel_rfl) hln514) (APath.oneG (.val 27 (.bin .eql) [.t 26, .k (.p (.int .i64 0))]) 24 true (by kernel_rfl) (by rcases hfa4 with ha4e | ⟨_, _, ha4e⟩ <;> rcases hfa5 with ha5e | ⟨_, _, ha5e⟩ <;> subst ha4e ha5e <;> kernel_rfl) (st_bool (c := (((List.length l9 : Nat) : Int) == 0)) (by rcases hfa4 with ha4e | ⟨_, _, ha4e⟩ <;> rcases hfa5 with ha5e | ⟨_, _, ha5e⟩ <;> subst ha4e ha5e <;> kernel_rfl) hc516) (APath.chunk 4 (by rcases hfa4 with ha4e | ⟨_, _, ha4e⟩ <;> rcases hfa5 with ha5e | ⟨_, _, ha5e⟩ <;> subst ha4e ha5e <;> kernel_rfl) (APath.oneG (.val 32 (.iaddrS 1) [.t 30, .t 31]) 28 false (by kernel_rfl) (by rcases hfa4 with ha4e | ⟨_, _, ha4e⟩ <;> rcases hfa5 with ha5e | ⟨_, _, ha5e⟩ <;> subst ha4e ha5e <;> kernel_rfl) (st_val (ys := [s_eB false a0_.Station, iv i7]) (by rcases hfa4 with ha4e | ⟨_, _, ha4e⟩ <;> rcases hfa5 with ha5e | ⟨_, _, ha5e⟩ <;> subst ha4e ha5e <;> kernel_rfl) (vexec_iaddrS eB he517)) (APath.oneG (.load 33 (.t 32) 1 false) 28 false (by kernel_rfl) (by rcases hfa4 with ha4e | ⟨_, _, ha4e⟩ <;> rcases hfa5 with ha5e | ⟨_, _, ha5e⟩ <;> subst ha4e ha5e <;> kernel_rfl) (st_loadP (sz := 1) (off := 0) (cs := [.bool e517]) (r := bv e517) eB he517 (by rcases hfa4 with ha4e | ⟨_, _, ha4e⟩ <;> rcases hfa5 with ha5e | ⟨_, _, ha5e⟩ <;> subst ha4e ha5e <;> kernel_rfl) (by rcases hfa4 with ha4e | ⟨_, _, ha4e⟩ <;> rcases hfa5 with ha5e | ⟨_, _, ha5e⟩ <;> subst ha4e ha5e <;> kernel_rfl) (by rcases hfa4 with ha4e | ⟨_, _, ha4e⟩ <;> rcases hfa5 with ha5e | ⟨_, _, ha5e⟩ <;> subst ha4e ha5e <;> kernel_rfl)) (APath.fin (by rcases hfa4 with ha4e | ⟨_, _, ha4e⟩ <;> rcases hfa5 with ha5e | ⟨_, _, ha5e⟩ <;> subst ha4e ha5e <;> kernel_rfl))))))))))), (by show _ = _; rcases hfa4 with ha4e | ⟨_, _, ha4e⟩ <;> rcases hfa5 with ha5e | ⟨_, _, ha5e⟩ <;> subst ha4e ha5e <;> kernel_rfl)⟩
      · obtain rfl := some_inj hj
        exact ⟨_, (APath.chunk 1 (by rcases hfa4 with ha4e | ⟨_, _, ha4e⟩ <;> rcases hfa5 with ha5e | ⟨_, _, ha5e⟩ <;> subst ha4e ha5e <;> kernel_rfl) (APath.one (.val 22 .len [.t 21]) (by kernel_rfl) (st_val (ys := [a5]) (by rcases hfa4 with ha4e | ⟨_, _, ha4e⟩ <;> rcases hfa5 with ha5e | ⟨_, _, ha5e⟩ <;> subst ha4e ha5e <;> kernel_rfl) hln512) (APath.one (.val 23 (.bin .lss) [.t 22, .k (.p (.int .i64 8))]) (by kernel_rfl) (st_bool (c := (decide (((List.length l9 : Nat) : Int) < 8))) (by rcases hfa4 with ha4e | ⟨_, _, ha4e⟩ <;> rcases hfa5 with ha5e | ⟨_, _, ha5e⟩ <;> subst ha4e ha5e <;> kernel_rfl) hc518) (APath.fin (by rcases hfa4 with ha4e | ⟨_, _, ha4e⟩ <;> rcases hfa5 with ha5e | ⟨_, _, ha5e⟩ <;> subst ha4e ha5e <;> kernel_rfl))))), (by show _ = _; rcases hfa4 with ha4e | ⟨_, _, ha4e⟩ <;> rcases hfa5 with ha5e | ⟨_, _, ha5e⟩ <;> subst ha4e ha5e <;> kernel_rfl)⟩
    · clear hj
      rintro s hR
      obtain rfl := hR
      refine vc_ite (by kernel_rfl) h (fun hc520 h => ?_) (fun hc520 h => ?_)
      · refine vc_skip ?_
        refine vc_kp ?_
        refine vc_block ?_
        refine vc_seq ?_
        refine vc_reg (S := ⟨[(2, .p (.int .u8 a2_)), (3, .loc 3 0), (7, iv i7), (8, a4), (9, a5), (10, s_eI64 true [])], [(3, (c_api_Topo a0_))], H6⟩) (APath.fin (by rcases hfa4 with ha4e | ⟨_, _, ha4e⟩ <;> rcases hfa5 with ha5e | ⟨_, _, ha5e⟩ <;> subst ha4e ha5e <;> kernel_rfl)) (by rcases hfa4 with ha4e | ⟨_, _, ha4e⟩ <;> rcases hfa5 with ha5e | ⟨_, _, ha5e⟩ <;> subst ha4e ha5e <;> kernel_rfl) ?_
        refine vc_seq ?_
        obtain ⟨r521, hr521, h⟩ := bind_some h
        refine vc_reg (S := ⟨[(2, .p (.int .u8 a2_)), (3, .loc 3 0), (8, a4), (9, a5), (10, s_eI64 true []), (11, s_eI64 false r521)], [(3, (c_api_Topo a0_))], H6⟩) (APath.chunk 2 (by rcases hfa4 with ha4e | ⟨_, _, ha4e⟩ <;> rcases hfa5 with ha5e | ⟨_, _, ha5e⟩ <;> subst ha4e ha5e <;> kernel_rfl) (APath.one (.call (some 39) 66 [.t 37, .t 38]) (by kernel_rfl) (st_call (by rcases hfa4 with ha4e | ⟨_, _, ha4e⟩ <;> rcases hfa5 with ha5e | ⟨_, _, ha5e⟩ <;> subst ha4e ha5e <;> kernel_rfl) (ref16_Ports_ok N a0_ i7 r521 hr521)) (APath.fin (by rcases hfa4 with ha4e | ⟨_, _, ha4e⟩ <;> rcases hfa5 with ha5e | ⟨_, _, ha5e⟩ <;> subst ha4e ha5e <;> kernel_rfl)))) (by rcases hfa4 with ha4e | ⟨_, _, ha4e⟩ <;> rcases hfa5 with ha5e | ⟨_, _, ha5e⟩ <;> subst ha4e ha5e <;> kernel_rfl) ?_
        refine vc_seq ?_
        refine vc_seq ?_
        refine vc_reg (S := ⟨[(2, .p (.int .u8 a2_)), (3, .loc 3 0), (8, a4), (9, a5), (10, s_eI64 true []), (11, s_eI64 false r521), (12, iv 0)], [(3, (c_api_Topo a0_))], H6⟩) (APath.fin (by rcases hfa4 with ha4e | ⟨_, _, ha4e⟩ <;> rcases hfa5 with ha5e | ⟨_, _, ha5e⟩ <;> subst ha4e ha5e <;> kernel_rfl)) (by rcases hfa4 with ha4e | ⟨_, _, ha4e⟩ <;> rcases hfa5 with ha5e | ⟨_, _, ha5e⟩ <;> subst ha4e ha5e <;> kernel_rfl) ?_
        refine vc_block ?_
        obtain ⟨o1547, ho1547, h⟩ := bind_some h
        refine vc_loop ((loop_sim (fun (x : Int × (List Int)) s => ∃ (a522 : AV) (a523 : AV) (a524 : AV) (H525 : List HO), s = ⟨[(2, .p (.int .u8 a2_)), (3, .loc 3 0), (8, a522), (9, a523), (10, a524), (11, s_eI64 false r521), (12, iv x.1)], [(3, (c_api_Topo a0_))], H525⟩ ∧ HP H525 [.arr a522 1 true (List.map eI64 l8), .arr a523 1 false (List.map eI64 l9), .arr a524 1 false (List.map eI64 x.2)]) (fun x : Int × (List Int) => ref21_Some_L2 N a0_ l8 r521 x.1 x.2) (fun (p : (List Int)) e s => e = .exit 2 ∧ (∃ (a1028 : AV) (a1029 : AV) (a1030 : AV) (H1031 : List HO), s = ⟨[(2, .p (.int .u8 a2_)), (3, .loc 3 0), (8, a1028), (9, a1029), (10, a1030)], [(3, (c_api_Topo a0_))], H1031⟩ ∧ HP H1031 [.arr a1028 1 true (List.map eI64 l8), .arr a1029 1 false (List.map eI64 l9), .arr a1030 1 false (List.map eI64 p)])) ?_ N _ o1547 _ ho1547 ⟨a4, a5, (.p (.sl 1 true [])), H6, (by show _ = _; rcases hfa4 with ha4e | ⟨_, _, ha4e⟩ <;> rcases hfa5 with ha5e | ⟨_, _, ha5e⟩ <;> subst ha4e ha5e <;> kernel_rfl), (HP.pick (HP.nilArr hH 1 false) [1, 2, 0] rfl)⟩).mono ?_)
        · clear h ho1547
          rintro ⟨i526, l527⟩ o s h hR
          obtain ⟨a522, a523, a524, H525, rfl, hH⟩ := hR
          replace hH : HP H525 [.arr a522 1 true (List.map eI64 l8), .arr a523 1 false (List.map eI64 l9), .arr a524 1 false (List.map eI64 l527)] := hH
          have hfa522 := own_form (HP.get hH 0 rfl)
          have hfa523 := own_form (HP.get hH 1 rfl)
          have hfa524 := own_form (HP.get hH 2 rfl)
          replace h : ref21_Some_L2 N a0_ l8 r521 i526 l527 = some o := h
          unfold ref21_Some_L2 at h
          refine vc_seq ?_
          refine vc_seq ?_
          refine vc_reg (S := ⟨[(2, .p (.int .u8 a2_)), (3, .loc 3 0), (8, a522), (9, a523), (10, a524), (11, s_eI64 false r521), (12, iv i526), (43, bv (decide (i526 < ((List.length r521 : Nat) : Int))))], [(3, (c_api_Topo a0_))], H525⟩) (APath.chunk 2 (by rcases hfa522 with ha522e | ⟨_, _, ha522e⟩ <;> rcases hfa523 with ha523e | ⟨_, _, ha523e⟩ <;> rcases hfa524 with ha524e | ⟨_, _, ha524e⟩ <;> subst ha522e ha523e ha524e <;> kernel_rfl) (APath.one (.val 42 .len [.t 41]) (by kernel_rfl) (st_val (ys := [s_eI64 false r521]) (by rcases hfa522 with ha522e | ⟨_, _, ha522e⟩ <;> rcases hfa523 with ha523e | ⟨_, _, ha523e⟩ <;> rcases hfa524 with ha524e | ⟨_, _, ha524e⟩ <;> subst ha522e ha523e ha524e <;> kernel_rfl) (vexec_len eI64)) (APath.fin (by rcases hfa522 with ha522e | ⟨_, _, ha522e⟩ <;> rcases hfa523 with ha523e | ⟨_, _, ha523e⟩ <;> rcases hfa524 with ha524e | ⟨_, _, ha524e⟩ <;> subst ha522e ha523e ha524e <;> kernel_rfl)))) (by rcases hfa522 with ha522e | ⟨_, _, ha522e⟩ <;> rcases hfa523 with ha523e | ⟨_, _, ha523e⟩ <;> rcases hfa524 with ha524e | ⟨_, _, ha524e⟩ <;> subst ha522e ha523e ha524e <;> kernel_rfl) ?_
          refine vc_ite (by kernel_rfl) h (fun hc1032 h => ?_) (fun hc1032 h => ?_)
          · refine vc_skip ?_
            refine vc_kp ?_
            obtain ⟨j1537, hj1537, h⟩ := bind_some h
            refine vc_joinK [2, 3, 8, 9, 10, 11, 12] (fun s => ∃ (a1533 : AV) (a1534 : AV) (a1535 : AV) (H1536 : List HO), s = ⟨[(2, .p (.int .u8 a2_)), (3, .loc 3 0), (8, a1533), (9, a1534), (10, a1535), (11, s_eI64 false r521), (12, iv i526)], [(3, (c_api_Topo a0_))], H1536⟩ ∧ HP H1536 [.arr a1533 1 true (List.map eI64 l8), .arr a1534 1 false (List.map eI64 l9), .arr a1535 1 false (List.map eI64 j1537)]) ?_ ?_
            · clear h
              have h := hj1537
              refine vc_block ?_
              refine vc_seq ?_
              obtain ⟨e1538, he1538, h⟩ := bind_some h
              obtain ⟨r1539, hr1539, h⟩ := bind_some h
              obtain ⟨r1540, hr1540, h⟩ := bind_some h
              obtain ⟨H1541, hzH1541, hzH1541v, hH⟩ := HP.frz (k := 0) (a := a522) (sz := 1) (frz := true) eI64 hH rfl
              replace hH : HP H1541 [.arr a522 1 true (List.map eI64 l8), .arr a523 1 false (List.map eI64 l9), .arr a524 1 false (List.map eI64 l527)] := hH
              refine vc_regD (S := ⟨[(2, .p (.int .u8 a2_)), (3, .loc 3 0), (8, a522), (9, a523), (10, a524), (11, s_eI64 false r521), (12, iv i526), (54, bv (!r1540))], [(3, (c_api_Topo a0_))], H1541⟩) (by rcases hfa522 with ha522e | ⟨_, _, ha522e⟩ <;> rcases hfa523 with ha523e | ⟨_, _, ha523e⟩ <;> rcases hfa524 with ha524e | ⟨_, _, ha524e⟩ <;> subst ha522e ha523e ha524e <;> kernel_rfl) (APath.chunk 4 (by rcases hfa522 with ha522e | ⟨_, _, ha522e⟩ <;> rcases hfa523 with ha523e | ⟨_, _, ha523e⟩ <;> rcases hfa524 with ha524e | ⟨_, _, ha524e⟩ <;> subst ha522e ha523e ha524e <;> kernel_rfl) (APath.one (.val 50 (.iaddrS 1) [.t 48, .t 49]) (by kernel_rfl) (st_val (ys := [s_eI64 false r521, iv i526]) (by rcases hfa522 with ha522e | ⟨_, _, ha522e⟩ <;> rcases hfa523 with ha523e | ⟨_, _, ha523e⟩ <;> rcases hfa524 with ha524e | ⟨_, _, ha524e⟩ <;> subst ha522e ha523e ha524e <;> kernel_rfl) (vexec_iaddrS eI64 he1538)) (APath.one (.load 51 (.t 50) 1 false) (by kernel_rfl) (st_loadP (sz := 1) (off := 0) (cs := [.int .i64 e1538]) (r := iv e1538) eI64 he1538 (by rcases hfa522 with ha522e | ⟨_, _, ha522e⟩ <;> rcases hfa523 with ha523e | ⟨_, _, ha523e⟩ <;> rcases hfa524 with ha524e | ⟨_, _, ha524e⟩ <;> subst ha522e ha523e ha524e <;> kernel_rfl) (by rcases hfa522 with ha522e | ⟨_, _, ha522e⟩ <;> rcases hfa523 with ha523e | ⟨_, _, ha523e⟩ <;> rcases hfa524 with ha524e | ⟨_, _, ha524e⟩ <;> subst ha522e ha523e ha524e <;> kernel_rfl) (by rcases hfa522 with ha522e | ⟨_, _, ha522e⟩ <;> rcases hfa523 with ha523e | ⟨_, _, ha523e⟩ <;> rcases hfa524 with ha524e | ⟨_, _, ha524e⟩ <;> subst ha522e ha523e ha524e <;> kernel_rfl)) (APath.one (.callP 52 53 [.t 47, .t 51]) (by kernel_rfl) (st_callP (by rcases hfa522 with ha522e | ⟨_, _, ha522e⟩ <;> rcases hfa523 with ha523e | ⟨_, _, ha523e⟩ <;> rcases hfa524 with ha524e | ⟨_, _, ha524e⟩ <;> subst ha522e ha523e ha524e <;> kernel_rfl) (ref16_To_ok N a0_ e1538 r1539 hr1539)) (APath.one (.call (some 53) 67 [.t 46, .t 52]) (by kernel_rfl) (st_callF (H := H525) (ys := [a522, iv r1539]) (by rcases hfa522 with ha522e | ⟨_, _, ha522e⟩ <;> rcases hfa523 with ha523e | ⟨_, _, ha523e⟩ <;> rcases hfa524 with ha524e | ⟨_, _, ha524e⟩ <;> subst ha522e ha523e ha524e <;> kernel_rfl) (by rcases hfa522 with ha522e | ⟨_, _, ha522e⟩ <;> rcases hfa523 with ha523e | ⟨_, _, ha523e⟩ <;> rcases hfa524 with ha524e | ⟨_, _, ha524e⟩ <;> subst ha522e ha523e ha524e <;> kernel_rfl) (frzL_cons hzH1541v (frzL_cons rfl frzL_nil)) (ref16_In_ok N l8 r1539 r1540 hr1540)) (APath.fin (by rcases hfa522 with ha522e | ⟨_, _, ha522e⟩ <;> rcases hfa523 with ha523e | ⟨_, _, ha523e⟩ <;> rcases hfa524 with ha524e | ⟨_, _, ha524e⟩ <;> subst ha522e ha523e ha524e <;> kernel_rfl))))))) (by rcases hfa522 with ha522e | ⟨_, _, ha522e⟩ <;> rcases hfa523 with ha523e | ⟨_, _, ha523e⟩ <;> rcases hfa524 with ha524e | ⟨_, _, ha524e⟩ <;> subst ha522e ha523e ha524e <;> kernel_rfl) ?_
              refine vc_ite (by kernel_rfl) h (fun hc1542 h => ?_) (fun hc1542 h => ?_)
              · obtain ⟨e1543, he1543, h⟩ := bind_some h
                obtain ⟨l1546, hl1546, h⟩ := bind_some h
                obtain ⟨a1544, H1545, ha1544, hH⟩ := HP.app (k := 2) (a := a524) (sz := 1) (frz := false) eI64 hH rfl hl1546
                replace hH : HP H1545 [.arr a522 1 true (List.map eI64 l8), .arr a523 1 false (List.map eI64 l9), .arr a1544 1 false (List.map eI64 l1546)] := hH
                have hfa1544 := own_form (HP.get hH 2 rfl)
                refine vc_reg (S := ⟨[(2, .p (.int .u8 a2_)), (3, .loc 3 0), (8, a522), (9, a523), (10, a1544), (11, s_eI64 false r521), (12, iv i526)], [(3, (c_api_Topo a0_))], H1545⟩) (APath.chunk 3 (by rcases hfa1544 with ha1544e | ⟨_, _, ha1544e⟩ <;> rcases hfa522 with ha522e | ⟨_, _, ha522e⟩ <;> rcases hfa523 with ha523e | ⟨_, _, ha523e⟩ <;> rcases hfa524 with ha524e | ⟨_, _, ha524e⟩ <;> subst ha1544e ha522e ha523e ha524e <;> kernel_rfl) (APath.one (.val 58 (.iaddrS 1) [.t 56, .t 57]) (by kernel_rfl) (st_val (ys := [s_eI64 false r521, iv i526]) (by rcases hfa1544 with ha1544e | ⟨_, _, ha1544e⟩ <;> rcases hfa522 with ha522e | ⟨_, _, ha522e⟩ <;> rcases hfa523 with ha523e | ⟨_, _, ha523e⟩ <;> rcases hfa524 with ha524e | ⟨_, _, ha524e⟩ <;> subst ha1544e ha522e ha523e ha524e <;> kernel_rfl) (vexec_iaddrS eI64 he1543)) (APath.one (.load 59 (.t 58) 1 false) (by kernel_rfl) (st_loadP (sz := 1) (off := 0) (cs := [.int .i64 e1543]) (r := iv e1543) eI64 he1543 (by rcases hfa1544 with ha1544e | ⟨_, _, ha1544e⟩ <;> rcases hfa522 with ha522e | ⟨_, _, ha522e⟩ <;> rcases hfa523 with ha523e | ⟨_, _, ha523e⟩ <;> rcases hfa524 with ha524e | ⟨_, _, ha524e⟩ <;> subst ha1544e ha522e ha523e ha524e <;> kernel_rfl) (by rcases hfa1544 with ha1544e | ⟨_, _, ha1544e⟩ <;> rcases hfa522 with ha522e | ⟨_, _, ha522e⟩ <;> rcases hfa523 with ha523e | ⟨_, _, ha523e⟩ <;> rcases hfa524 with ha524e | ⟨_, _, ha524e⟩ <;> subst ha1544e ha522e ha523e ha524e <;> kernel_rfl) (by rcases hfa1544 with ha1544e | ⟨_, _, ha1544e⟩ <;> rcases hfa522 with ha522e | ⟨_, _, ha522e⟩ <;> rcases hfa523 with ha523e | ⟨_, _, ha523e⟩ <;> rcases hfa524 with ha524e | ⟨_, _, ha524e⟩ <;> subst ha1544e ha522e ha523e ha524e <;> kernel_rfl)) (APath.chunk 1 (by rcases hfa1544 with ha1544e | ⟨_, _, ha1544e⟩ <;> rcases hfa522 with ha522e | ⟨_, _, ha522e⟩ <;> rcases hfa523 with ha523e | ⟨_, _, ha523e⟩ <;> rcases hfa524 with ha524e | ⟨_, _, ha524e⟩ <;> subst ha1544e ha522e ha523e ha524e <;> kernel_rfl) (APath.one (.app 61 (.t 55) (.t 60) 1 8) (by kernel_rfl) (st_app (H := H1541) (a := a524) (b := s_eI64 true [e1543]) (by rcases hfa1544 with ha1544e | ⟨_, _, ha1544e⟩ <;> rcases hfa522 with ha522e | ⟨_, _, ha522e⟩ <;> rcases hfa523 with ha523e | ⟨_, _, ha523e⟩ <;> rcases hfa524 with ha524e | ⟨_, _, ha524e⟩ <;> subst ha1544e ha522e ha523e ha524e <;> kernel_rfl) (by rcases hfa1544 with ha1544e | ⟨_, _, ha1544e⟩ <;> rcases hfa522 with ha522e | ⟨_, _, ha522e⟩ <;> rcases hfa523 with ha523e | ⟨_, _, ha523e⟩ <;> rcases hfa524 with ha524e | ⟨_, _, ha524e⟩ <;> subst ha1544e ha522e ha523e ha524e <;> kernel_rfl) (by rcases hfa1544 with ha1544e | ⟨_, _, ha1544e⟩ <;> rcases hfa522 with ha522e | ⟨_, _, ha522e⟩ <;> rcases hfa523 with ha523e | ⟨_, _, ha523e⟩ <;> rcases hfa524 with ha524e | ⟨_, _, ha524e⟩ <;> subst ha1544e ha522e ha523e ha524e <;> kernel_rfl) (by rcases hfa1544 with ha1544e | ⟨_, _, ha1544e⟩ <;> rcases hfa522 with ha522e | ⟨_, _, ha522e⟩ <;> rcases hfa523 with ha523e | ⟨_, _, ha523e⟩ <;> rcases hfa524 with ha524e | ⟨_, _, ha524e⟩ <;> subst ha1544e ha522e ha523e ha524e <;> kernel_rfl) ha1544) (APath.fin (by rcases hfa1544 with ha1544e | ⟨_, _, ha1544e⟩ <;> rcases hfa522 with ha522e | ⟨_, _, ha522e⟩ <;> rcases hfa523 with ha523e | ⟨_, _, ha523e⟩ <;> rcases hfa524 with ha524e | ⟨_, _, ha524e⟩ <;> subst ha1544e ha522e ha523e ha524e <;> kernel_rfl))))))) (by rcases hfa1544 with ha1544e | ⟨_, _, ha1544e⟩ <;> rcases hfa522 with ha522e | ⟨_, _, ha522e⟩ <;> rcases hfa523 with ha523e | ⟨_, _, ha523e⟩ <;> rcases hfa524 with ha524e | ⟨_, _, ha524e⟩ <;> subst ha1544e ha522e ha523e ha524e <;> kernel_rfl) ?_
                obtain rfl := some_inj h
                exact ⟨rfl, ⟨a522, a523, a1544, H1545, (by show _ = _; rcases hfa1544 with ha1544e | ⟨_, _, ha1544e⟩ <;> rcases hfa522 with ha522e | ⟨_, _, ha522e⟩ <;> rcases hfa523 with ha523e | ⟨_, _, ha523e⟩ <;> subst ha1544e ha522e ha523e <;> kernel_rfl), (HP.pick hH [0, 1, 2] rfl)⟩⟩
              · refine vc_skip ?_
                obtain rfl := some_inj h
                exact ⟨rfl, ⟨a522, a523, a524, H1541, (by show _ = _; rcases hfa522 with ha522e | ⟨_, _, ha522e⟩ <;> rcases hfa523 with ha523e | ⟨_, _, ha523e⟩ <;> rcases hfa524 with ha524e | ⟨_, _, ha524e⟩ <;> subst ha522e ha523e ha524e <;> kernel_rfl), (HP.pick hH [0, 1, 2] rfl)⟩⟩
            · clear hj1537
              rintro s hR
              obtain ⟨a1533, a1534, a1535, H1536, rfl, hH⟩ := hR
              replace hH : HP H1536 [.arr a1533 1 true (List.map eI64 l8), .arr a1534 1 false (List.map eI64 l9), .arr a1535 1 false (List.map eI64 j1537)] := hH
              have hfa1533 := own_form (HP.get hH 0 rfl)
              have hfa1534 := own_form (HP.get hH 1 rfl)
              have hfa1535 := own_form (HP.get hH 2 rfl)
              refine vc_reg (S := ⟨[(2, .p (.int .u8 a2_)), (3, .loc 3 0), (8, a1533), (9, a1534), (10, a1535), (11, s_eI64 false r521), (12, iv (w64 (i526 + 1)))], [(3, (c_api_Topo a0_))], H1536⟩) (APath.fin (by rcases hfa1533 with ha1533e | ⟨_, _, ha1533e⟩ <;> rcases hfa1534 with ha1534e | ⟨_, _, ha1534e⟩ <;> rcases hfa1535 with ha1535e | ⟨_, _, ha1535e⟩ <;> subst ha1533e ha1534e ha1535e <;> kernel_rfl)) (by rcases hfa1533 with ha1533e | ⟨_, _, ha1533e⟩ <;> rcases hfa1534 with ha1534e | ⟨_, _, ha1534e⟩ <;> rcases hfa1535 with ha1535e | ⟨_, _, ha1535e⟩ <;> subst ha1533e ha1534e ha1535e <;> kernel_rfl) ?_
              obtain rfl := some_inj h
              exact ⟨_, rfl, ⟨a1533, a1534, a1535, H1536, (by show _ = _; rcases hfa1533 with ha1533e | ⟨_, _, ha1533e⟩ <;> rcases hfa1534 with ha1534e | ⟨_, _, ha1534e⟩ <;> rcases hfa1535 with ha1535e | ⟨_, _, ha1535e⟩ <;> subst ha1533e ha1534e ha1535e <;> kernel_rfl), (HP.pick hH [0, 1, 2] rfl)⟩⟩
          · refine vc_kp ?_
            try show vc _ _ _ _ _
            refine vc_exit ?_
            try show vc _ _ _ _ _
            obtain rfl := some_inj h
            exact ⟨_, rfl, rfl, ⟨a522, a523, a524, H525, (by show _ = _; rcases hfa522 with ha522e | ⟨_, _, ha522e⟩ <;> rcases hfa523 with ha523e | ⟨_, _, ha523e⟩ <;> rcases hfa524 with ha524e | ⟨_, _, ha524e⟩ <;> subst ha522e ha523e ha524e <;> kernel_rfl), (HP.pick hH [0, 1, 2] rfl)⟩⟩
        · rintro e s hq
          obtain ⟨rfl, hR⟩ := hq
          obtain ⟨a1028, a1029, a1030, H1031, rfl, hH⟩ := hR
          replace hH : HP H1031 [.arr a1028 1 true (List.map eI64 l8), .arr a1029 1 false (List.map eI64 l9), .arr a1030 1 false (List.map eI64 o1547)] := hH
          have hfa1028 := own_form (HP.get hH 0 rfl)
          have hfa1029 := own_form (HP.get hH 1 rfl)
          have hfa1030 := own_form (HP.get hH 2 rfl)
          try show vc _ _ _ _ _
          refine vc_seq ?_
          refine vc_seq ?_
          have hln1548 := HP.len (k := 2) (a := a1030) (sz := 1) (frz := false) (l := o1547) eI64 hH rfl
          refine vc_reg (S := ⟨[(2, .p (.int .u8 a2_)), (3, .loc 3 0), (8, a1028), (9, a1029), (10, a1030), (64, bv (((List.length o1547 : Nat) : Int) == 0))], [(3, (c_api_Topo a0_))], H1031⟩) (APath.chunk 1 (by rcases hfa1028 with ha1028e | ⟨_, _, ha1028e⟩ <;> rcases hfa1029 with ha1029e | ⟨_, _, ha1029e⟩ <;> rcases hfa1030 with ha1030e | ⟨_, _, ha1030e⟩ <;> subst ha1028e ha1029e ha1030e <;> kernel_rfl) (APath.one (.val 63 .len [.t 62]) (by kernel_rfl) (st_val (ys := [a1030]) (by rcases hfa1028 with ha1028e | ⟨_, _, ha1028e⟩ <;> rcases hfa1029 with ha1029e | ⟨_, _, ha1029e⟩ <;> rcases hfa1030 with ha1030e | ⟨_, _, ha1030e⟩ <;> subst ha1028e ha1029e ha1030e <;> kernel_rfl) hln1548) (APath.fin (by rcases hfa1028 with ha1028e | ⟨_, _, ha1028e⟩ <;> rcases hfa1029 with ha1029e | ⟨_, _, ha1029e⟩ <;> rcases hfa1030 with ha1030e | ⟨_, _, ha1030e⟩ <;> subst ha1028e ha1029e ha1030e <;> kernel_rfl)))) (by rcases hfa1028 with ha1028e | ⟨_, _, ha1028e⟩ <;> rcases hfa1029 with ha1029e | ⟨_, _, ha1029e⟩ <;> rcases hfa1030 with ha1030e | ⟨_, _, ha1030e⟩ <;> subst ha1028e ha1029e ha1030e <;> kernel_rfl) ?_
          refine vc_ite (by kernel_rfl) h (fun hc1549 h => ?_) (fun hc1549 h => ?_)
          · refine vc_seq ?_
            refine vc_reg (S := ⟨[(6, a1029)], [], H1031⟩) (APath.fin (by rcases hfa1028 with ha1028e | ⟨_, _, ha1028e⟩ <;> rcases hfa1029 with ha1029e | ⟨_, _, ha1029e⟩ <;> rcases hfa1030 with ha1030e | ⟨_, _, ha1030e⟩ <;> subst ha1028e ha1029e ha1030e <;> kernel_rfl)) (by rcases hfa1028 with ha1028e | ⟨_, _, ha1028e⟩ <;> rcases hfa1029 with ha1029e | ⟨_, _, ha1029e⟩ <;> rcases hfa1030 with ha1030e | ⟨_, _, ha1030e⟩ <;> subst ha1028e ha1029e ha1030e <;> kernel_rfl) ?_
            replace hH : HP H1031 [.arr a1029 1 false (List.map eI64 l9)] := HP.pick hH [1] rfl
            refine vc_ret ?_
            obtain rfl := some_inj h
            exact ⟨_, rfl, rfl, ret_own (H := H1031) (ys := [a1029]) (xs := [.p (.sl 1 false (List.map eI64 l9))]) (by rcases hfa1029 with ha1029e | ⟨_, _, ha1029e⟩ <;> subst ha1029e <;> kernel_rfl) (by rcases hfa1029 with ha1029e | ⟨_, _, ha1029e⟩ <;> subst ha1029e <;> kernel_rfl) (pureVL_cons (HP.pure (k := 0) (frz := false) eI64 hH rfl).2 pureVL_nil) (by kernel_rfl)⟩
          · refine vc_skip ?_
            refine vc_kp ?_
            refine vc_seq ?_
            have hln1550 := HP.len (k := 1) (a := a1029) (sz := 1) (frz := false) (l := l9) eI64 hH rfl
            have hln1551 := HP.len (k := 2) (a := a1030) (sz := 1) (frz := false) (l := o1547) eI64 hH rfl
            obtain ⟨m1552, hm1552, h⟩ := bind_some h
            obtain ⟨e1553, he1553, h⟩ := bind_some h
            obtain ⟨id1554, ver1555, _, hid1554f, hid1554, hid1554a, hid1554v⟩ := HP.elem (k := 2) (a := a1030) (sz := 1) (frz := false) eI64 hH rfl he1553
            refine vc_reg (S := ⟨[(2, .p (.int .u8 a2_)), (3, .loc 3 0), (8, a1028), (9, a1029), (13, iv e1553)], [(3, (c_api_Topo a0_))], H1031⟩) (APath.chunk 4 (by rcases hfa1028 with ha1028e | ⟨_, _, ha1028e⟩ <;> rcases hfa1029 with ha1029e | ⟨_, _, ha1029e⟩ <;> rcases hfa1030 with ha1030e | ⟨_, _, ha1030e⟩ <;> subst ha1028e ha1029e ha1030e <;> kernel_rfl) (APath.one (.val 70 .len [.t 69]) (by kernel_rfl) (st_val (ys := [a1029]) (by rcases hfa1028 with ha1028e | ⟨_, _, ha1028e⟩ <;> rcases hfa1029 with ha1029e | ⟨_, _, ha1029e⟩ <;> rcases hfa1030 with ha1030e | ⟨_, _, ha1030e⟩ <;> subst ha1028e ha1029e ha1030e <;> kernel_rfl) hln1550) (APath.chunk 3 (by rcases hfa1028 with ha1028e | ⟨_, _, ha1028e⟩ <;> rcases hfa1029 with ha1029e | ⟨_, _, ha1029e⟩ <;> rcases hfa1030 with ha1030e | ⟨_, _, ha1030e⟩ <;> subst ha1028e ha1029e ha1030e <;> kernel_rfl) (APath.one (.val 74 .len [.t 73]) (by kernel_rfl) (st_val (ys := [a1030]) (by rcases hfa1028 with ha1028e | ⟨_, _, ha1028e⟩ <;> rcases hfa1029 with ha1029e | ⟨_, _, ha1029e⟩ <;> rcases hfa1030 with ha1030e | ⟨_, _, ha1030e⟩ <;> subst ha1028e ha1029e ha1030e <;> kernel_rfl) hln1551) (APath.one (.val 75 (.bin .rem) [.t 72, .t 74]) (by kernel_rfl) (st_val (ys := [iv (w64 ((w64 (a2_)) + (w64 (3 * ((List.length l9 : Nat) : Int))))), iv ((List.length o1547 : Nat) : Int)]) (by rcases hfa1028 with ha1028e | ⟨_, _, ha1028e⟩ <;> rcases hfa1029 with ha1029e | ⟨_, _, ha1029e⟩ <;> rcases hfa1030 with ha1030e | ⟨_, _, ha1030e⟩ <;> subst ha1028e ha1029e ha1030e <;> kernel_rfl) (vexec_rem hm1552)) (APath.one (.val 76 (.iaddrS 1) [.t 66, .t 75]) (by kernel_rfl) (st_val (ys := [a1030, iv m1552]) (by rcases hfa1028 with ha1028e | ⟨_, _, ha1028e⟩ <;> rcases hfa1029 with ha1029e | ⟨_, _, ha1029e⟩ <;> rcases hfa1030 with ha1030e | ⟨_, _, ha1030e⟩ <;> subst ha1028e ha1029e ha1030e <;> kernel_rfl) (hid1554v .i64)) (APath.one (.load 77 (.t 76) 1 false) (by kernel_rfl) (st_loadO (H := H1031) (off := 0) (cs := [.int .i64 e1553]) (r := iv e1553) eI64 he1553 hid1554 (by rcases hfa1028 with ha1028e | ⟨_, _, ha1028e⟩ <;> rcases hfa1029 with ha1029e | ⟨_, _, ha1029e⟩ <;> rcases hfa1030 with ha1030e | ⟨_, _, ha1030e⟩ <;> subst ha1028e ha1029e ha1030e <;> kernel_rfl) (by rcases hfa1028 with ha1028e | ⟨_, _, ha1028e⟩ <;> rcases hfa1029 with ha1029e | ⟨_, _, ha1029e⟩ <;> rcases hfa1030 with ha1030e | ⟨_, _, ha1030e⟩ <;> subst ha1028e ha1029e ha1030e <;> kernel_rfl) (by rcases hfa1028 with ha1028e | ⟨_, _, ha1028e⟩ <;> rcases hfa1029 with ha1029e | ⟨_, _, ha1029e⟩ <;> rcases hfa1030 with ha1030e | ⟨_, _, ha1030e⟩ <;> subst ha1028e ha1029e ha1030e <;> kernel_rfl) (by rcases hfa1028 with ha1028e | ⟨_, _, ha1028e⟩ <;> rcases hfa1029 with ha1029e | ⟨_, _, ha1029e⟩ <;> rcases hfa1030 with ha1030e | ⟨_, _, ha1030e⟩ <;> subst ha1028e ha1029e ha1030e <;> kernel_rfl)) (APath.fin (by rcases hfa1028 with ha1028e | ⟨_, _, ha1028e⟩ <;> rcases hfa1029 with ha1029e | ⟨_, _, ha1029e⟩ <;> rcases hfa1030 with ha1030e | ⟨_, _, ha1030e⟩ <;> subst ha1028e ha1029e ha1030e <;> kernel_rfl))))))))) (by rcases hfa1028 with ha1028e | ⟨_, _, ha1028e⟩ <;> rcases hfa1029 with ha1029e | ⟨_, _, ha1029e⟩ <;> rcases hfa1030 with ha1030e | ⟨_, _, ha1030e⟩ <;> subst ha1028e ha1029e ha1030e <;> kernel_rfl) ?_
            replace hH : HP H1031 [.arr a1028 1 true (List.map eI64 l8), .arr a1029 1 false (List.map eI64 l9)] := HP.pick hH [0, 1] rfl
            refine vc_seq ?_
            obtain ⟨l1558, hl1558, h⟩ := bind_some h
            obtain ⟨a1556, H1557, ha1556, hH⟩ := HP.app (k := 1) (a := a1029) (sz := 1) (frz := false) eI64 hH rfl hl1558
            replace hH : HP H1557 [.arr a1028 1 true (List.map eI64 l8), .arr a1556 1 false (List.map eI64 l1558)] := hH
            have hfa1556 := own_form (HP.get hH 1 rfl)
            refine vc_reg (S := ⟨[(2, .p (.int .u8 a2_)), (3, .loc 3 0), (8, a1028), (9, a1556), (13, iv e1553)], [(3, (c_api_Topo a0_))], H1557⟩) (APath.chunk 3 (by rcases hfa1028 with ha1028e | ⟨_, _, ha1028e⟩ <;> rcases hfa1029 with ha1029e | ⟨_, _, ha1029e⟩ <;> rcases hfa1556 with ha1556e | ⟨_, _, ha1556e⟩ <;> subst ha1028e ha1029e ha1556e <;> kernel_rfl) (APath.one (.app 81 (.t 78) (.t 80) 1 8) (by kernel_rfl) (st_app (H := H1031) (a := a1029) (b := s_eI64 true [e1553]) (by rcases hfa1028 with ha1028e | ⟨_, _, ha1028e⟩ <;> rcases hfa1029 with ha1029e | ⟨_, _, ha1029e⟩ <;> rcases hfa1556 with ha1556e | ⟨_, _, ha1556e⟩ <;> subst ha1028e ha1029e ha1556e <;> kernel_rfl) (by rcases hfa1028 with ha1028e | ⟨_, _, ha1028e⟩ <;> rcases hfa1029 with ha1029e | ⟨_, _, ha1029e⟩ <;> rcases hfa1556 with ha1556e | ⟨_, _, ha1556e⟩ <;> subst ha1028e ha1029e ha1556e <;> kernel_rfl) (by rcases hfa1028 with ha1028e | ⟨_, _, ha1028e⟩ <;> rcases hfa1029 with ha1029e | ⟨_, _, ha1029e⟩ <;> rcases hfa1556 with ha1556e | ⟨_, _, ha1556e⟩ <;> subst ha1028e ha1029e ha1556e <;> kernel_rfl) (by rcases hfa1028 with ha1028e | ⟨_, _, ha1028e⟩ <;> rcases hfa1029 with ha1029e | ⟨_, _, ha1029e⟩ <;> rcases hfa1556 with ha1556e | ⟨_, _, ha1556e⟩ <;> subst ha1028e ha1029e ha1556e <;> kernel_rfl) ha1556) (APath.fin (by rcases hfa1028 with ha1028e | ⟨_, _, ha1028e⟩ <;> rcases hfa1029 with ha1029e | ⟨_, _, ha1029e⟩ <;> rcases hfa1556 with ha1556e | ⟨_, _, ha1556e⟩ <;> subst ha1028e ha1029e ha1556e <;> kernel_rfl)))) (by rcases hfa1028 with ha1028e | ⟨_, _, ha1028e⟩ <;> rcases hfa1029 with ha1029e | ⟨_, _, ha1029e⟩ <;> rcases hfa1556 with ha1556e | ⟨_, _, ha1556e⟩ <;> subst ha1028e ha1029e ha1556e <;> kernel_rfl) ?_
            refine vc_seq ?_
            obtain ⟨r1559, hr1559, h⟩ := bind_some h
            refine vc_reg (S := ⟨[(2, .p (.int .u8 a2_)), (3, .loc 3 0), (7, iv r1559), (8, a1028), (9, a1556)], [(3, (c_api_Topo a0_))], H1557⟩) (APath.chunk 2 (by rcases hfa1028 with ha1028e | ⟨_, _, ha1028e⟩ <;> rcases hfa1556 with ha1556e | ⟨_, _, ha1556e⟩ <;> subst ha1028e ha1556e <;> kernel_rfl) (APath.one (.call (some 84) 53 [.t 82, .t 83]) (by kernel_rfl) (st_call (by rcases hfa1028 with ha1028e | ⟨_, _, ha1028e⟩ <;> rcases hfa1556 with ha1556e | ⟨_, _, ha1556e⟩ <;> subst ha1028e ha1556e <;> kernel_rfl) (ref16_To_ok N a0_ e1553 r1559 hr1559)) (APath.fin (by rcases hfa1028 with ha1028e | ⟨_, _, ha1028e⟩ <;> rcases hfa1556 with ha1556e | ⟨_, _, ha1556e⟩ <;> subst ha1028e ha1556e <;> kernel_rfl)))) (by rcases hfa1028 with ha1028e | ⟨_, _, ha1028e⟩ <;> rcases hfa1556 with ha1556e | ⟨_, _, ha1556e⟩ <;> subst ha1028e ha1556e <;> kernel_rfl) ?_
            obtain ⟨l1562, hl1562, h⟩ := bind_some h
            obtain ⟨a1560, H1561, ha1560, hH⟩ := HP.app (k := 0) (a := a1028) (sz := 1) (frz := true) eI64 hH rfl hl1562
            replace hH : HP H1561 [.arr a1560 1 true (List.map eI64 l1562), .arr a1556 1 false (List.map eI64 l1558)] := hH
            have hfa1560 := own_form (HP.get hH 0 rfl)
            refine vc_reg (S := ⟨[(2, .p (.int .u8 a2_)), (3, .loc 3 0), (7, iv r1559), (8, a1560), (9, a1556)], [(3, (c_api_Topo a0_))], H1561⟩) (APath.chunk 3 (by rcases hfa1028 with ha1028e | ⟨_, _, ha1028e⟩ <;> rcases hfa1556 with ha1556e | ⟨_, _, ha1556e⟩ <;> rcases hfa1560 with ha1560e | ⟨_, _, ha1560e⟩ <;> subst ha1028e ha1556e ha1560e <;> kernel_rfl) (APath.one (.app 88 (.t 85) (.t 87) 1 8) (by kernel_rfl) (st_app (H := H1557) (a := a1028) (b := s_eI64 true [r1559]) (by rcases hfa1028 with ha1028e | ⟨_, _, ha1028e⟩ <;> rcases hfa1556 with ha1556e | ⟨_, _, ha1556e⟩ <;> rcases hfa1560 with ha1560e | ⟨_, _, ha1560e⟩ <;> subst ha1028e ha1556e ha1560e <;> kernel_rfl) (by rcases hfa1028 with ha1028e | ⟨_, _, ha1028e⟩ <;> rcases hfa1556 with ha1556e | ⟨_, _, ha1556e⟩ <;> rcases hfa1560 with ha1560e | ⟨_, _, ha1560e⟩ <;> subst ha1028e ha1556e ha1560e <;> kernel_rfl) (by rcases hfa1028 with ha1028e | ⟨_, _, ha1028e⟩ <;> rcases hfa1556 with ha1556e | ⟨_, _, ha1556e⟩ <;> rcases hfa1560 with ha1560e | ⟨_, _, ha1560e⟩ <;> subst ha1028e ha1556e ha1560e <;> kernel_rfl) (by rcases hfa1028 with ha1028e | ⟨_, _, ha1028e⟩ <;> rcases hfa1556 with ha1556e | ⟨_, _, ha1556e⟩ <;> rcases hfa1560 with ha1560e | ⟨_, _, ha1560e⟩ <;> subst ha1028e ha1556e ha1560e <;> kernel_rfl) ha1560) (APath.fin (by rcases hfa1028 with ha1028e | ⟨_, _, ha1028e⟩ <;> rcases hfa1556 with ha1556e | ⟨_, _, ha1556e⟩ <;> rcases hfa1560 with ha1560e | ⟨_, _, ha1560e⟩ <;> subst ha1028e ha1556e ha1560e <;> kernel_rfl)))) (by rcases hfa1028 with ha1028e | ⟨_, _, ha1028e⟩ <;> rcases hfa1556 with ha1556e | ⟨_, _, ha1556e⟩ <;> rcases hfa1560 with ha1560e | ⟨_, _, ha1560e⟩ <;> subst ha1028e ha1556e ha1560e <;> kernel_rfl) ?_
            obtain rfl := some_inj h
            exact ⟨_, rfl, ⟨a1560, a1556, H1561, (by show _ = _; rcases hfa1556 with ha1556e | ⟨_, _, ha1556e⟩ <;> rcases hfa1560 with ha1560e | ⟨_, _, ha1560e⟩ <;> subst ha1556e ha1560e <;> kernel_rfl), (HP.pick hH [0, 1] rfl)⟩⟩
      · refine vc_kp ?_
        try show vc _ _ _ _ _
        replace hH : HP H6 [.arr a5 1 false (List.map eI64 l9)] := HP.pick hH [1] rfl
        refine vc_exit ?_
        try show vc _ _ _ _ _
        obtain rfl := some_inj h
        exact ⟨_, rfl, rfl, ⟨a5, H6, (by show _ = _; rcases hfa5 with ha5e | ⟨_, _, ha5e⟩ <;> subst ha5e <;> kernel_rfl), (HP.pick hH [0] rfl)⟩⟩
  · rintro e s hq
    rcases o1563 with p1564 | p1565
    · dsimp only at h hq
      obtain ⟨rfl, hR⟩ := hq
      obtain ⟨a510, H511, rfl, hH⟩ := hR
      replace hH : HP H511 [.arr a510 1 false (List.map eI64 p1564)] := hH
      have hfa510 := own_form (HP.get hH 0 rfl)
      try show vc _ _ _ _ _
      refine vc_seq ?_
      refine vc_reg (S := ⟨[(6, a510)], [], H511⟩) (APath.fin (by rcases hfa510 with ha510e | ⟨_, _, ha510e⟩ <;> subst ha510e <;> kernel_rfl)) (by rcases hfa510 with ha510e | ⟨_, _, ha510e⟩ <;> subst ha510e <;> kernel_rfl) ?_
      refine vc_ret ?_
      obtain rfl := some_inj h
      exact ret_own (H := H511) (ys := [a510]) (xs := [.p (.sl 1 false (List.map eI64 p1564))]) (by rcases hfa510 with ha510e | ⟨_, _, ha510e⟩ <;> subst ha510e <;> kernel_rfl) (by rcases hfa510 with ha510e | ⟨_, _, ha510e⟩ <;> subst ha510e <;> kernel_rfl) (pureVL_cons (HP.pure (k := 0) (frz := false) eI64 hH rfl).2 pureVL_nil) (by kernel_rfl)
    · dsimp only at h hq
      obtain ⟨rfl, hq⟩ := hq
      obtain rfl := some_inj h
      exact hq
end Go.Sh

