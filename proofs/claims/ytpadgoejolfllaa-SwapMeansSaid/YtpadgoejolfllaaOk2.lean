/- The Go functions compute them; written by sym.py. -/
import Derived.Test.YtpadgoejolfllaaOk1
namespace Go.Sh
open Go Go.Eng Go.Proofs
set_option linter.unusedVariables false
set_option linter.unusedSimpArgs false
set_option maxRecDepth 100000
/- swap.Fits -/
theorem swap_Fits_ok (N : Nat) (a0_ : api_Change) (a1_ : Int) (a2_ : Int) (a3_ : Int) (r : Bool × Int) (h : swap_Fits N a0_ a1_ a2_ a3_ = some r) : PCall Try.prog 24 [.agg (c_api_Change a0_), iv a1_, iv a2_, iv a3_] (.tup [bv r.1, iv r.2]) := by
  unfold swap_Fits at h
  have hH : HP ([] : List HO) [] := trivial
  refine pcall_of chk24 rfl rfl (vc_sound _ _ _ ?_) rfl
  refine vc_seq ?_
  obtain ⟨id1, H2, hid1, hH2, hH⟩ := HP.newCell hH [iv a1_]
  replace hH : HP H2 [.cel id1 [iv a1_]] := hH
  obtain ⟨id3, H4, hid3, hH4, hH⟩ := HP.newCell hH [bv false]
  replace hH : HP H4 [.cel id3 [bv false], .cel id1 [iv a1_]] := hH
  obtain ⟨id5, H6, hid5, hH6, hH⟩ := HP.newCell hH [iv 0]
  replace hH : HP H6 [.cel id5 [iv 0], .cel id3 [bv false], .cel id1 [iv a1_]] := hH
  refine vc_reg (S := ⟨[(2, iv a2_), (3, iv a3_), (4, .loc 4 0), (5, .ptr id1 0), (8, .ptr id3 0), (9, .ptr id5 0)], [(4, (c_api_Change a0_))], H6⟩) (APath.chunk 1 (by kernel_rfl) (APath.one (.boxH 5 (.t 1)) (by kernel_rfl) (st_boxH (H := []) (v := iv a1_) (by kernel_rfl) (by kernel_rfl) (by kernel_rfl) hid1 hH2) (APath.one (.newH 8 [.p (.bool false)]) (by kernel_rfl) (st_newH (H := H2) (by kernel_rfl) hid3 hH4) (APath.one (.newH 9 [.p (.int .i64 0)]) (by kernel_rfl) (st_newH (H := H4) (by kernel_rfl) hid5 hH6) APath.done)))) (by kernel_rfl) ?_
  refine vc_seq ?_
  refine vc_seq ?_
  obtain ⟨r7, hr7, h⟩ := bind_some h
  refine vc_reg (S := ⟨[(2, iv a2_), (3, iv a3_), (4, .loc 4 0), (5, .ptr id1 0), (8, .ptr id3 0), (9, .ptr id5 0), (10, iv r7)], [(4, (c_api_Change a0_))], H6⟩) (APath.chunk 1 (by kernel_rfl) (APath.one (.call (some 15) 11 [.t 14]) (by kernel_rfl) (st_call (by kernel_rfl) (swap_Check_ok N a0_ r7 hr7)) (APath.fin (by kernel_rfl)))) (by kernel_rfl) ?_
  refine vc_seq ?_
  refine vc_reg (S := ⟨[(2, iv a2_), (3, iv a3_), (4, .loc 4 0), (5, .ptr id1 0), (8, .ptr id3 0), (9, .ptr id5 0), (10, iv r7), (17, bv (r7 != 0))], [(4, (c_api_Change a0_))], H6⟩) (APath.fin (by kernel_rfl)) (by kernel_rfl) ?_
  refine vc_ite (by kernel_rfl) h (fun hc8 h => ?_) (fun hc8 h => ?_)
  · refine vc_seq ?_
    obtain ⟨H9, hH9, hH⟩ := HP.setCell (k := 1) (off := 0) (cs := [bv false]) (vs := [bv false]) (cs' := [bv false]) hH rfl (by kernel_rfl)
    replace hH : HP H9 [.cel id5 [iv 0], .cel id3 [bv false], .cel id1 [iv a1_]] := hH
    obtain ⟨H10, hH10, hH⟩ := HP.setCell (k := 0) (off := 0) (cs := [iv 0]) (vs := [iv r7]) (cs' := [iv r7]) hH rfl (by kernel_rfl)
    replace hH : HP H10 [.cel id5 [iv r7], .cel id3 [bv false], .cel id1 [iv a1_]] := hH
    refine vc_reg (S := ⟨[(8, .ptr id3 0), (9, .ptr id5 0)], [], H10⟩) (APath.chunk 1 (by kernel_rfl) (APath.one (.store (.t 8) (.k (.p (.bool false))) 1) (by kernel_rfl) (st_storeH (H := H6) (v := bv false) (by kernel_rfl) (by kernel_rfl) (by kernel_rfl) (by kernel_rfl) hH9) (APath.one (.store (.t 9) (.t 18) 1) (by kernel_rfl) (st_storeH (H := H9) (v := iv r7) (by kernel_rfl) (by kernel_rfl) (by kernel_rfl) (by kernel_rfl) hH10) APath.done))) (by kernel_rfl) ?_
    replace hH : HP H10 [.cel id5 [iv r7], .cel id3 [bv false]] := HP.pick hH [0, 1] rfl
    refine vc_ret ?_
    obtain rfl := some_inj h
    exact ret_own (H := H10) (ys := [bv false, iv r7]) (xs := [bv false, iv r7]) (by kernel_rfl) (rawL_one (r := .cell 8 1 false) (v := bv false) (rawV_ptr (id := id3) (off := 0) (cs := [bv false]) (c := [bv false]) (by kernel_rfl) (HP.get hH 1 rfl) (by kernel_rfl) (by kernel_rfl)) (rawL_one (r := .cell 9 1 false) (v := iv r7) (rawV_ptr (id := id5) (off := 0) (cs := [iv r7]) (c := [iv r7]) (by kernel_rfl) (HP.get hH 0 rfl) (by kernel_rfl) (by kernel_rfl)) rawL_nil)) (pureVL_cons rfl (pureVL_cons rfl pureVL_nil)) (by kernel_rfl)
  · refine vc_skip ?_
    refine vc_kp ?_
    refine vc_seq ?_
    refine vc_seq ?_
    obtain ⟨j22, hj, h⟩ := bind_some h
    refine vc_regXR (fun s => s = ⟨[(2, iv a2_), (3, iv a3_), (4, .loc 4 0), (5, .ptr id1 0), (8, .ptr id3 0), (9, .ptr id5 0), (42, bv j22)], [(4, (c_api_Change a0_))], H6⟩) ?_ ?_
    · clear h
      have hlc11 := HP.get hH 2 rfl
      rcases ite_some hj with ⟨hc12, hj⟩ | ⟨hc13, hj⟩
      · obtain rfl := some_inj hj
        exact ⟨_, (APath.one (.load 19 (.t 5) 1 false) (by kernel_rfl) (st_loadC (H := H6) (id := id1) (off := 0) (cs := [iv a1_]) (c := [iv a1_]) (r := iv a1_) (by kernel_rfl) (by kernel_rfl) hlc11 (by kernel_rfl) (by kernel_rfl) (by kernel_rfl)) (APath.one (.val 20 (.bin .lss) [.t 19, .k (.p (.int .i64 0))]) (by kernel_rfl) (st_bool (c := (decide (a1_ < 0))) (by kernel_rfl) hc12) (APath.fin (by kernel_rfl)))), (by show _ = _; kernel_rfl)⟩
      · have hlc14 := HP.get hH 2 rfl
        rcases ite_some hj with ⟨hc15, hj⟩ | ⟨hc16, hj⟩
        · obtain rfl := some_inj hj
          exact ⟨_, (APath.one (.load 19 (.t 5) 1 false) (by kernel_rfl) (st_loadC (H := H6) (id := id1) (off := 0) (cs := [iv a1_]) (c := [iv a1_]) (r := iv a1_) (by kernel_rfl) (by kernel_rfl) hlc11 (by kernel_rfl) (by kernel_rfl) (by kernel_rfl)) (APath.one (.val 20 (.bin .lss) [.t 19, .k (.p (.int .i64 0))]) (by kernel_rfl) (st_bool (c := (decide (a1_ < 0))) (by kernel_rfl) hc13) (APath.chunk 1 (by kernel_rfl) (APath.oneG (.load 22 (.t 5) 1 false) 21 false (by kernel_rfl) (by kernel_rfl) (st_loadC (H := H6) (id := id1) (off := 0) (cs := [iv a1_]) (c := [iv a1_]) (r := iv a1_) (by kernel_rfl) (by kernel_rfl) hlc14 (by kernel_rfl) (by kernel_rfl) (by kernel_rfl)) (APath.oneG (.val 23 (.bin .geq) [.t 22, .k (.p (.int .i64 8))]) 21 false (by kernel_rfl) (by kernel_rfl) (st_bool (c := (decide (a1_ ≥ 8))) (by kernel_rfl) hc15) (APath.fin (by kernel_rfl))))))), (by show _ = _; kernel_rfl)⟩
        · obtain ⟨r17, hr17, hj⟩ := bind_some hj
          rcases ite_some hj with ⟨hc18, hj⟩ | ⟨hc19, hj⟩
          · obtain rfl := some_inj hj
            exact ⟨_, (APath.one (.load 19 (.t 5) 1 false) (by kernel_rfl) (st_loadC (H := H6) (id := id1) (off := 0) (cs := [iv a1_]) (c := [iv a1_]) (r := iv a1_) (by kernel_rfl) (by kernel_rfl) hlc11 (by kernel_rfl) (by kernel_rfl) (by kernel_rfl)) (APath.one (.val 20 (.bin .lss) [.t 19, .k (.p (.int .i64 0))]) (by kernel_rfl) (st_bool (c := (decide (a1_ < 0))) (by kernel_rfl) hc13) (APath.chunk 1 (by kernel_rfl) (APath.oneG (.load 22 (.t 5) 1 false) 21 false (by kernel_rfl) (by kernel_rfl) (st_loadC (H := H6) (id := id1) (off := 0) (cs := [iv a1_]) (c := [iv a1_]) (r := iv a1_) (by kernel_rfl) (by kernel_rfl) hlc14 (by kernel_rfl) (by kernel_rfl) (by kernel_rfl)) (APath.oneG (.val 23 (.bin .geq) [.t 22, .k (.p (.int .i64 8))]) 21 false (by kernel_rfl) (by kernel_rfl) (st_bool (c := (decide (a1_ ≥ 8))) (by kernel_rfl) hc16) (APath.chunk 4 (by kernel_rfl) (APath.oneG (.call (some 28) 30 [.t 27]) 25 false (by kernel_rfl) (by kernel_rfl) (st_call (by kernel_rfl) (swap_times_ok N ([a2_]) r17 hr17)) (APath.oneG (.val 29 .not [.t 28]) 25 false (by kernel_rfl) (by kernel_rfl) (st_bool (c := (!r17)) (by kernel_rfl) hc18) (APath.fin (by kernel_rfl)))))))))), (by show _ = _; kernel_rfl)⟩
          · rcases ite_some hj with ⟨hc20, hj⟩ | ⟨hc21, hj⟩
            · obtain rfl := some_inj hj
              exact ⟨_, (APath.one (.load 19 (.t 5) 1 false) (by kernel_rfl) (st_loadC (H := H6) (id := id1) (off := 0) (cs := [iv a1_]) (c := [iv a1_]) (r := iv a1_) (by kernel_rfl) (by kernel_rfl) hlc11 (by kernel_rfl) (by kernel_rfl) (by kernel_rfl)) (APath.one (.val 20 (.bin .lss) [.t 19, .k (.p (.int .i64 0))]) (by kernel_rfl) (st_bool (c := (decide (a1_ < 0))) (by kernel_rfl) hc13) (APath.chunk 1 (by kernel_rfl) (APath.oneG (.load 22 (.t 5) 1 false) 21 false (by kernel_rfl) (by kernel_rfl) (st_loadC (H := H6) (id := id1) (off := 0) (cs := [iv a1_]) (c := [iv a1_]) (r := iv a1_) (by kernel_rfl) (by kernel_rfl) hlc14 (by kernel_rfl) (by kernel_rfl) (by kernel_rfl)) (APath.oneG (.val 23 (.bin .geq) [.t 22, .k (.p (.int .i64 8))]) 21 false (by kernel_rfl) (by kernel_rfl) (st_bool (c := (decide (a1_ ≥ 8))) (by kernel_rfl) hc16) (APath.chunk 4 (by kernel_rfl) (APath.oneG (.call (some 28) 30 [.t 27]) 25 false (by kernel_rfl) (by kernel_rfl) (st_call (by kernel_rfl) (swap_times_ok N ([a2_]) r17 hr17)) (APath.oneG (.val 29 .not [.t 28]) 25 false (by kernel_rfl) (by kernel_rfl) (st_bool (c := (!r17)) (by kernel_rfl) hc19) (APath.chunk 3 (by kernel_rfl) (APath.oneG (.val 33 (.bin .lss) [.t 32, .k (.p (.int .i64 0))]) 31 false (by kernel_rfl) (by kernel_rfl) (st_bool (c := (decide (a3_ < 0))) (by kernel_rfl) hc20) (APath.fin (by kernel_rfl)))))))))))), (by show _ = _; kernel_rfl)⟩
            · obtain rfl := some_inj hj
              exact ⟨_, (APath.one (.load 19 (.t 5) 1 false) (by kernel_rfl) (st_loadC (H := H6) (id := id1) (off := 0) (cs := [iv a1_]) (c := [iv a1_]) (r := iv a1_) (by kernel_rfl) (by kernel_rfl) hlc11 (by kernel_rfl) (by kernel_rfl) (by kernel_rfl)) (APath.one (.val 20 (.bin .lss) [.t 19, .k (.p (.int .i64 0))]) (by kernel_rfl) (st_bool (c := (decide (a1_ < 0))) (by kernel_rfl) hc13) (APath.chunk 1 (by kernel_rfl) (APath.oneG (.load 22 (.t 5) 1 false) 21 false (by kernel_rfl) (by kernel_rfl) (st_loadC (H := H6) (id := id1) (off := 0) (cs := [iv a1_]) (c := [iv a1_]) (r := iv a1_) (by kernel_rfl) (by kernel_rfl) hlc14 (by kernel_rfl) (by kernel_rfl) (by kernel_rfl)) (APath.oneG (.val 23 (.bin .geq) [.t 22, .k (.p (.int .i64 8))]) 21 false (by kernel_rfl) (by kernel_rfl) (st_bool (c := (decide (a1_ ≥ 8))) (by kernel_rfl) hc16) (APath.chunk 4 (by kernel_rfl) (APath.oneG (.call (some 28) 30 [.t 27]) 25 false (by kernel_rfl) (by kernel_rfl) (st_call (by kernel_rfl) (swap_times_ok N ([a2_]) r17 hr17)) (APath.oneG (.val 29 .not [.t 28]) 25 false (by kernel_rfl) (by kernel_rfl) (st_bool (c := (!r17)) (by kernel_rfl) hc19) (APath.chunk 3 (by kernel_rfl) (APath.oneG (.val 33 (.bin .lss) [.t 32, .k (.p (.int .i64 0))]) 31 false (by kernel_rfl) (by kernel_rfl) (st_bool (c := (decide (a3_ < 0))) (by kernel_rfl) hc21) (APath.fin (by kernel_rfl)))))))))))), (by show _ = _; kernel_rfl)⟩
    · clear hj
      rintro s hR
      obtain rfl := hR
      refine vc_ite (by kernel_rfl) h (fun hc23 h => ?_) (fun hc23 h => ?_)
      · refine vc_seq ?_
        obtain ⟨H24, hH24, hH⟩ := HP.setCell (k := 1) (off := 0) (cs := [bv false]) (vs := [bv false]) (cs' := [bv false]) hH rfl (by kernel_rfl)
        replace hH : HP H24 [.cel id5 [iv 0], .cel id3 [bv false], .cel id1 [iv a1_]] := hH
        obtain ⟨H25, hH25, hH⟩ := HP.setCell (k := 0) (off := 0) (cs := [iv 0]) (vs := [iv 2]) (cs' := [iv 2]) hH rfl (by kernel_rfl)
        replace hH : HP H25 [.cel id5 [iv 2], .cel id3 [bv false], .cel id1 [iv a1_]] := hH
        refine vc_reg (S := ⟨[(8, .ptr id3 0), (9, .ptr id5 0)], [], H25⟩) (APath.one (.store (.t 8) (.k (.p (.bool false))) 1) (by kernel_rfl) (st_storeH (H := H6) (v := bv false) (by kernel_rfl) (by kernel_rfl) (by kernel_rfl) (by kernel_rfl) hH24) (APath.one (.store (.t 9) (.k (.p (.int .i64 2))) 1) (by kernel_rfl) (st_storeH (H := H24) (v := iv 2) (by kernel_rfl) (by kernel_rfl) (by kernel_rfl) (by kernel_rfl) hH25) APath.done)) (by kernel_rfl) ?_
        replace hH : HP H25 [.cel id5 [iv 2], .cel id3 [bv false]] := HP.pick hH [0, 1] rfl
        refine vc_ret ?_
        obtain rfl := some_inj h
        exact ret_own (H := H25) (ys := [bv false, iv 2]) (xs := [bv false, iv 2]) (by kernel_rfl) (rawL_one (r := .cell 8 1 false) (v := bv false) (rawV_ptr (id := id3) (off := 0) (cs := [bv false]) (c := [bv false]) (by kernel_rfl) (HP.get hH 1 rfl) (by kernel_rfl) (by kernel_rfl)) (rawL_one (r := .cell 9 1 false) (v := iv 2) (rawV_ptr (id := id5) (off := 0) (cs := [iv 2]) (c := [iv 2]) (by kernel_rfl) (HP.get hH 0 rfl) (by kernel_rfl) (by kernel_rfl)) rawL_nil)) (pureVL_cons rfl (pureVL_cons rfl pureVL_nil)) (by kernel_rfl)
      · refine vc_skip ?_
        refine vc_kp ?_
        refine vc_seq ?_
        refine vc_seq ?_
        obtain ⟨r26, hr26, h⟩ := bind_some h
        obtain ⟨id28, id29, id30, H27, hvr26, hpr26⟩ := swap_state_parts_ok N (swap_state.mk a0_) a2_ a3_ H6 r26 hr26
        replace hH : HP H27 [.cel id28 (c_api_Change r26.1.Change), .cel id29 [iv r26.2.1], .cel id30 [iv r26.2.2], .cel id5 [iv 0], .cel id3 [bv false], .cel id1 [iv a1_]] := HP.callee (fp := []) (rest := [.cel id5 [iv 0], .cel id3 [bv false], .cel id1 [iv a1_]]) hH hpr26
        refine vc_reg (S := ⟨[(5, .ptr id1 0), (8, .ptr id3 0), (9, .ptr id5 0), (47, .fn 45 [] [.ptr id28 0, .ptr id29 0, .ptr id30 0])], [], H27⟩) (APath.chunk 4 (by kernel_rfl) (APath.one (.call (some 47) 32 [.t 44, .t 45, .t 46]) (by kernel_rfl) (st_callH (H := H6) (ys := [.agg (c_api_Change a0_), iv a2_, iv a3_]) (by kernel_rfl) (by kernel_rfl) (by kernel_rfl) hvr26) APath.done)) (by kernel_rfl) ?_
        refine vc_block ?_
        obtain ⟨o541, ho541, h⟩ := bind_some h
        have hyo541 : ∀ (x32 : swap_part) (s : (Int) × Nat) (r : ((Int) × Nat) × Bool) (H : List HO) (its : List Thing), (fun (s : (Int) × Nat) (its : List Thing) => its = [.cel id5 [iv s.1], .cel id3 [bv false], .cel id1 [iv a1_]] ++ [.lp (List.length H27) (lcOf Try.prog i24.nt [48] ra24_1 rb24_1) [(5, .ptr id1 0), (8, .ptr id3 0), (9, .ptr id5 0)] (stAt [.ready, .done .ret] s.2)]) s its → HP H its → (fun (s : (Int) × Nat) (x32 : swap_part) => yieldF (fun v : Int => swap_Fits_R1 N a1_ v x32) s) s x32 = some r → ∃ H' its', YCall Try.prog (List.length H27) [.agg (c_swap_part x32)] H r.2 H' ∧ (fun (s : (Int) × Nat) (its : List Thing) => its = [.cel id5 [iv s.1], .cel id3 [bv false], .cel id1 [iv a1_]] ++ [.lp (List.length H27) (lcOf Try.prog i24.nt [48] ra24_1 rb24_1) [(5, .ptr id1 0), (8, .ptr id3 0), (9, .ptr id5 0)] (stAt [.ready, .done .ret] s.2)]) r.1 its' ∧ Fp H H' its its' := by
          clear h
          intro x32 s r H31 its hT hH h
          obtain ⟨h0, q, hb, rfl⟩ := yieldF_some h
          clear h
          obtain ⟨vs, e⟩ := s
          obtain rfl : e = 0 := h0
          obtain ⟨i33, rfl⟩ : ∃ v, v = vs := ⟨vs, rfl⟩
          obtain rfl := hT
          replace h : swap_Fits_R1 N a1_ i33 x32 = some q := hb
          clear hb
          unfold swap_Fits_R1 at h
          replace hH : Fp H31 H31 [.cel id5 [iv i33], .cel id3 [bv false], .cel id1 [iv a1_], .lp (List.length H27) (lcOf Try.prog i24.nt [48] ra24_1 rb24_1) [(5, .ptr id1 0), (8, .ptr id3 0), (9, .ptr id5 0)] .ready] [.cel id5 [iv i33], .cel id3 [bv false], .cel id1 [iv a1_], .lp (List.length H27) (lcOf Try.prog i24.nt [48] ra24_1 rb24_1) [(5, .ptr id1 0), (8, .ptr id3 0), (9, .ptr id5 0)] .ready] := Fp.refl hH
          suffices hs : ∃ H', YCall Try.prog (List.length H27) [.agg (c_swap_part x32)] H31 (q.2 == 0) H' ∧ ∃ its', (fun (s : (Int) × Nat) (its : List Thing) => its = [.cel id5 [iv s.1], .cel id3 [bv false], .cel id1 [iv a1_]] ++ [.lp (List.length H27) (lcOf Try.prog i24.nt [48] ra24_1 rb24_1) [(5, .ptr id1 0), (8, .ptr id3 0), (9, .ptr id5 0)] (stAt [.ready, .done .ret] s.2)]) q its' ∧ Fp H31 H' [.cel id5 [iv i33], .cel id3 [bv false], .cel id1 [iv a1_], .lp (List.length H27) (lcOf Try.prog i24.nt [48] ra24_1 rb24_1) [(5, .ptr id1 0), (8, .ptr id3 0), (9, .ptr id5 0)] .ready] its' by
            obtain ⟨H', h1, its', h2, h3⟩ := hs
            exact ⟨H', its', h1, h2, h3⟩
          refine ycall_det (id := (List.length H27)) (args := [.agg (c_swap_part x32)]) (H := H31) (n := i24.nt) (ps := [48]) (fr0 := [(5, .ptr id1 0), (8, .ptr id3 0), (9, .ptr id5 0)]) (ia := ra24_1) (ib := rb24_1) (q.2 == 0) (fun H' => ∃ its', (fun (s : (Int) × Nat) (its : List Thing) => its = [.cel id5 [iv s.1], .cel id3 [bv false], .cel id1 [iv a1_]] ++ [.lp (List.length H27) (lcOf Try.prog i24.nt [48] ra24_1 rb24_1) [(5, .ptr id1 0), (8, .ptr id3 0), (9, .ptr id5 0)] (stAt [.ready, .done .ret] s.2)]) q its' ∧ Fp H31 H' [.cel id5 [iv i33], .cel id3 [bv false], .cel id1 [iv a1_], .lp (List.length H27) (lcOf Try.prog i24.nt [48] ra24_1 rb24_1) [(5, .ptr id1 0), (8, .ptr id3 0), (9, .ptr id5 0)] .ready] its') (Fp.get hH 3 rfl) rfl (by decide +kernel) rfl ?_
          show vc _ _ _ _ ⟨[(5, .ptr id1 0), (8, .ptr id3 0), (9, .ptr id5 0), (48, .agg (c_swap_part x32))], [], H31⟩
          refine vc_reg (S := ⟨[(5, .ptr id1 0), (8, .ptr id3 0), (9, .ptr id5 0), (11, .loc 11 0)], [(11, (c_swap_part x32))], H31⟩) (APath.fin (by kernel_rfl)) (by kernel_rfl) ?_
          refine ia_done (k := 3) hH rfl ?_
          intro H533 hH
          replace hH : Fp H31 H533 [.cel id5 [iv i33], .cel id3 [bv false], .cel id1 [iv a1_], .lp (List.length H27) (lcOf Try.prog i24.nt [48] ra24_1 rb24_1) [(5, .ptr id1 0), (8, .ptr id3 0), (9, .ptr id5 0)] .ready] [.cel id5 [iv i33], .cel id3 [bv false], .cel id1 [iv a1_], .lp (List.length H27) (lcOf Try.prog i24.nt [48] ra24_1 rb24_1) [(5, .ptr id1 0), (8, .ptr id3 0), (9, .ptr id5 0)] .busy] := hH
          show vc _ _ _ _ ⟨[(5, .ptr id1 0), (8, .ptr id3 0), (9, .ptr id5 0), (11, .loc 11 0)], [(11, (c_swap_part x32))], H533⟩
          refine vc_block ?_
          refine vc_seq ?_
          have hlc534 := Fp.get hH 2 rfl
          obtain ⟨r535, hr535, h⟩ := bind_some h
          refine vc_reg (S := ⟨[(8, .ptr id3 0), (9, .ptr id5 0), (12, bv r535.1), (13, iv r535.2)], [], H533⟩) (APath.chunk 2 (by kernel_rfl) (APath.one (.load 52 (.t 5) 1 false) (by kernel_rfl) (st_loadC (H := H533) (id := id1) (off := 0) (cs := [iv a1_]) (c := [iv a1_]) (r := iv a1_) (by kernel_rfl) (by kernel_rfl) hlc534 (by kernel_rfl) (by kernel_rfl) (by kernel_rfl)) (APath.chunk 4 (by kernel_rfl) (APath.one (.call (some 57) 42 [.t 51, .t 52, .t 54, .t 56]) (by kernel_rfl) (st_call (by kernel_rfl) (gates_Fits_ok N x32.list a1_ x32.at_ x32.long r535 hr535)) (APath.fin (by kernel_rfl)))))) (by kernel_rfl) ?_
          refine vc_seq ?_
          refine vc_regX ⟨[(8, .ptr id3 0), (9, .ptr id5 0), (13, iv r535.2), (65, bv ((r535.2 != 0) || (!r535.1)))], [], H533⟩ ?_ ?_
          · rcases Bool.eq_false_or_eq_true (r535.2 != 0) with hc536 | hc537
            · exact ⟨_, (APath.chunk 1 (by kernel_rfl) (APath.one (.val 61 (.bin .neq) [.t 60, .k (.p (.int .i64 0))]) (by kernel_rfl) (st_bool (c := (r535.2 != 0)) (by kernel_rfl) hc536) (APath.fin (by kernel_rfl)))), by simp only [hc536]; kernel_rfl⟩
            · exact ⟨_, (APath.chunk 1 (by kernel_rfl) (APath.one (.val 61 (.bin .neq) [.t 60, .k (.p (.int .i64 0))]) (by kernel_rfl) (st_bool (c := (r535.2 != 0)) (by kernel_rfl) hc537) (APath.fin (by kernel_rfl)))), by simp only [hc537]; kernel_rfl⟩
          · refine vc_ite (by kernel_rfl) h (fun hc538 h => ?_) (fun hc538 h => ?_)
            · refine vc_seq ?_
              obtain ⟨H539, hH539, hH⟩ := Fp.setCell (k := 1) (off := 0) (cs := [bv false]) (vs := [bv false]) (cs' := [bv false]) hH rfl (by kernel_rfl)
              replace hH : Fp H31 H539 [.cel id5 [iv i33], .cel id3 [bv false], .cel id1 [iv a1_], .lp (List.length H27) (lcOf Try.prog i24.nt [48] ra24_1 rb24_1) [(5, .ptr id1 0), (8, .ptr id3 0), (9, .ptr id5 0)] .ready] [.cel id5 [iv i33], .cel id3 [bv false], .cel id1 [iv a1_], .lp (List.length H27) (lcOf Try.prog i24.nt [48] ra24_1 rb24_1) [(5, .ptr id1 0), (8, .ptr id3 0), (9, .ptr id5 0)] .busy] := hH
              obtain ⟨H540, hH540, hH⟩ := Fp.setCell (k := 0) (off := 0) (cs := [iv i33]) (vs := [iv r535.2]) (cs' := [iv r535.2]) hH rfl (by kernel_rfl)
              replace hH : Fp H31 H540 [.cel id5 [iv i33], .cel id3 [bv false], .cel id1 [iv a1_], .lp (List.length H27) (lcOf Try.prog i24.nt [48] ra24_1 rb24_1) [(5, .ptr id1 0), (8, .ptr id3 0), (9, .ptr id5 0)] .ready] [.cel id5 [iv r535.2], .cel id3 [bv false], .cel id1 [iv a1_], .lp (List.length H27) (lcOf Try.prog i24.nt [48] ra24_1 rb24_1) [(5, .ptr id1 0), (8, .ptr id3 0), (9, .ptr id5 0)] .busy] := hH
              refine vc_reg (S := ⟨[], [], H540⟩) (APath.chunk 1 (by kernel_rfl) (APath.one (.store (.t 8) (.k (.p (.bool false))) 1) (by kernel_rfl) (st_storeH (H := H533) (v := bv false) (by kernel_rfl) (by kernel_rfl) (by kernel_rfl) (by kernel_rfl) hH539) (APath.one (.store (.t 9) (.t 66) 1) (by kernel_rfl) (st_storeH (H := H539) (v := iv r535.2) (by kernel_rfl) (by kernel_rfl) (by kernel_rfl) (by kernel_rfl) hH540) APath.done))) (by kernel_rfl) ?_
              refine vc_ret ?_
              obtain rfl := some_inj h
              exact rb_done (k := 3) (.done .ret) hH rfl rfl (fun H6 hH => ⟨_, (Eq.refl _), (Fp.pick hH [0, 1, 2, 3] rfl)⟩)
            · refine vc_skip ?_
              obtain rfl := some_inj h
              exact rb_done (k := 3) (.ready) hH rfl rfl (fun H6 hH => ⟨_, (Eq.refl _), (Fp.pick hH [0, 1, 2, 3] rfl)⟩)
        refine vc_range (s := ⟨[(5, .ptr id1 0), (8, .ptr id3 0), (9, .ptr id5 0), (47, .fn 45 [] [.ptr id28 0, .ptr id29 0, .ptr id30 0])], [], H27⟩) [(5, .ptr id1 0), (8, .ptr id3 0), (9, .ptr id5 0)] (FrOK.cons (by kernel_rfl) (by kernel_rfl) (FrOK.cons (by kernel_rfl) (by kernel_rfl) (FrOK.cons (by kernel_rfl) (by kernel_rfl) FrOK.nil))) (by kernel_rfl) (fun H => rfl) (capT := [.cel id28 (c_api_Change r26.1.Change), .cel id29 [iv r26.2.1], .cel id30 [iv r26.2.2]]) (cells0 := [.cel id5 [iv 0], .cel id3 [bv false], .cel id1 [iv a1_]]) (rest := []) (HP.now (HP.pick hH [0, 1, 2, 3, 4, 5] rfl)) (fun (s : (Int) × Nat) (its : List Thing) => its = [.cel id5 [iv s.1], .cel id3 [bv false], .cel id1 [iv a1_]] ++ [.lp (List.length H27) (lcOf Try.prog i24.nt [48] ra24_1 rb24_1) [(5, .ptr id1 0), (8, .ptr id3 0), (9, .ptr id5 0)] (stAt [.ready, .done .ret] s.2)]) (0, 0) o541 (by exact (Eq.refl _)) (fun H its hT hH => swap_state_parts_1_ok N (fun (s : (Int) × Nat) (x32 : swap_part) => yieldF (fun v : Int => swap_Fits_R1 N a1_ v x32) s) r26.1 r26.2.1 r26.2.2 (0, 0) id28 id29 id30 (List.length H27) (fun (s : (Int) × Nat) (its : List Thing) => its = [.cel id5 [iv s.1], .cel id3 [bv false], .cel id1 [iv a1_]] ++ [.lp (List.length H27) (lcOf Try.prog i24.nt [48] ra24_1 rb24_1) [(5, .ptr id1 0), (8, .ptr id3 0), (9, .ptr id5 0)] (stAt [.ready, .done .ret] s.2)]) hyo541 H its hT hH o541 ho541) ?_
        rintro its hT
        obtain rfl := hT
        refine ⟨_, _, rfl, ?_⟩
        intro H542 hF
        replace hH : HP H542 [.cel id28 (c_api_Change r26.1.Change), .cel id29 [iv r26.2.1], .cel id30 [iv r26.2.2], .cel id5 [iv o541.1], .cel id3 [bv false], .cel id1 [iv a1_]] := HP.after (HP.pick hH [0, 1, 2, 3, 4, 5] rfl) hF
        rcases ite_some h with ⟨hc543, h⟩ | ⟨_, h⟩
        · refine outQ_at (S := ⟨[(5, .ptr id1 0), (8, .ptr id3 0), (9, .ptr id5 0), (47, .fn 45 [] [.ptr id28 0, .ptr id29 0, .ptr id30 0])], [], H542⟩) (e := .normal) hc543 rfl ?_
          try show vc _ _ _ _ _
          refine vc_seq ?_
          obtain ⟨H544, hH544, hH⟩ := HP.setCell (k := 4) (off := 0) (cs := [bv false]) (vs := [bv true]) (cs' := [bv true]) hH rfl (by kernel_rfl)
          replace hH : HP H544 [.cel id28 (c_api_Change r26.1.Change), .cel id29 [iv r26.2.1], .cel id30 [iv r26.2.2], .cel id5 [iv o541.1], .cel id3 [bv true], .cel id1 [iv a1_]] := hH
          obtain ⟨H545, hH545, hH⟩ := HP.setCell (k := 3) (off := 0) (cs := [iv o541.1]) (vs := [iv 0]) (cs' := [iv 0]) hH rfl (by kernel_rfl)
          replace hH : HP H545 [.cel id28 (c_api_Change r26.1.Change), .cel id29 [iv r26.2.1], .cel id30 [iv r26.2.2], .cel id5 [iv 0], .cel id3 [bv true], .cel id1 [iv a1_]] := hH
          refine vc_reg (S := ⟨[(8, .ptr id3 0), (9, .ptr id5 0)], [], H545⟩) (APath.one (.store (.t 8) (.k (.p (.bool true))) 1) (by kernel_rfl) (st_storeH (H := H542) (v := bv true) (by kernel_rfl) (by kernel_rfl) (by kernel_rfl) (by kernel_rfl) hH544) (APath.one (.store (.t 9) (.k (.p (.int .i64 0))) 1) (by kernel_rfl) (st_storeH (H := H544) (v := iv 0) (by kernel_rfl) (by kernel_rfl) (by kernel_rfl) (by kernel_rfl) hH545) APath.done)) (by kernel_rfl) ?_
          replace hH : HP H545 [.cel id5 [iv 0], .cel id3 [bv true]] := HP.pick hH [3, 4] rfl
          refine vc_ret ?_
          obtain rfl := some_inj h
          exact ret_own (H := H545) (ys := [bv true, iv 0]) (xs := [bv true, iv 0]) (by kernel_rfl) (rawL_one (r := .cell 8 1 false) (v := bv true) (rawV_ptr (id := id3) (off := 0) (cs := [bv true]) (c := [bv true]) (by kernel_rfl) (HP.get hH 1 rfl) (by kernel_rfl) (by kernel_rfl)) (rawL_one (r := .cell 9 1 false) (v := iv 0) (rawV_ptr (id := id5) (off := 0) (cs := [iv 0]) (c := [iv 0]) (by kernel_rfl) (HP.get hH 0 rfl) (by kernel_rfl) (by kernel_rfl)) rawL_nil)) (pureVL_cons rfl (pureVL_cons rfl pureVL_nil)) (by kernel_rfl)
        · rcases ite_some h with ⟨hc546, h⟩ | ⟨_, h⟩
          · refine outQ_at (S := ⟨[(5, .ptr id1 0), (8, .ptr id3 0), (9, .ptr id5 0), (47, .fn 45 [] [.ptr id28 0, .ptr id29 0, .ptr id30 0])], [], H542⟩) (e := .ret) hc546 rfl ?_
            try show vc _ _ _ _ _
            obtain rfl := some_inj h
            exact ret_own (H := H542) (ys := [bv false, iv o541.1]) (xs := [bv false, iv o541.1]) (by kernel_rfl) (rawL_one (r := .cell 8 1 false) (v := bv false) (rawV_ptr (id := id3) (off := 0) (cs := [bv false]) (c := [bv false]) (by kernel_rfl) (HP.get hH 4 rfl) (by kernel_rfl) (by kernel_rfl)) (rawL_one (r := .cell 9 1 false) (v := iv o541.1) (rawV_ptr (id := id5) (off := 0) (cs := [iv o541.1]) (c := [iv o541.1]) (by kernel_rfl) (HP.get hH 3 rfl) (by kernel_rfl) (by kernel_rfl)) rawL_nil)) (pureVL_cons rfl (pureVL_cons rfl pureVL_nil)) (by kernel_rfl)
          · cases h
/- isochronlaw29.fits -/
theorem law29_fits_ok (N : Nat) (a0_ : api_Change) (a1_ : Int) (a2_ : Int) (a3_ : Int) (r : Bool) (h : law29_fits N a0_ a1_ a2_ a3_ = some r) : PCall Try.prog 27 [.agg (c_api_Change a0_), iv a1_, iv a2_, iv a3_] (bv r) := by
  unfold law29_fits at h
  have hH : HP ([] : List HO) [] := trivial
  refine pcall_of chk27 rfl rfl (vc_sound _ _ _ ?_) rfl
  refine vc_seq ?_
  refine vc_reg (S := ⟨[(1, iv a1_), (2, iv a2_), (3, iv a3_), (4, .loc 4 0)], [(4, (c_api_Change a0_))], []⟩) (APath.fin (by kernel_rfl)) (by kernel_rfl) ?_
  refine vc_seq ?_
  obtain ⟨r1, hr1, h⟩ := bind_some h
  refine vc_reg (S := ⟨[(9, bv r1.1), (10, iv r1.2)], [], []⟩) (APath.chunk 4 (by kernel_rfl) (APath.one (.call (some 16) 24 [.t 12, .t 13, .t 14, .t 15]) (by kernel_rfl) (st_call (by kernel_rfl) (swap_Fits_ok N a0_ a1_ a2_ a3_ r1 hr1)) (APath.fin (by kernel_rfl)))) (by kernel_rfl) ?_
  refine vc_seq ?_
  refine vc_regX ⟨[(8, bv (r1.1 && (r1.2 == 0)))], [], []⟩ ?_ ?_
  · rcases Bool.eq_false_or_eq_true r1.1 with hc2 | hc3
    · exact ⟨_, (APath.one (.val 19 .mov [.t 9]) (by kernel_rfl) (st_bool (c := r1.1) (by kernel_rfl) hc2) (APath.fin (by kernel_rfl))), by simp only [hc2]; kernel_rfl⟩
    · exact ⟨_, (APath.one (.val 19 .mov [.t 9]) (by kernel_rfl) (st_bool (c := r1.1) (by kernel_rfl) hc3) (APath.fin (by kernel_rfl))), by simp only [hc3]; kernel_rfl⟩
  · refine vc_ret ?_
    obtain rfl := some_inj h
    exact ret_of (by kernel_rfl)
/- isochronlaw29.works -/
theorem law29_works_ok (N : Nat) (r : Bool) (h : law29_works N = some r) : PCall Try.prog 18 [] (bv r) := by
  unfold law29_works at h
  have hH : HP ([] : List HO) [] := trivial
  refine pcall_of chk18 rfl rfl (vc_sound _ _ _ ?_) rfl
  refine vc_seq ?_
  refine vc_reg (S := ⟨[], [], []⟩) (APath.fin (by kernel_rfl)) (by kernel_rfl) ?_
  refine vc_seq ?_
  obtain ⟨r1, hr1, h⟩ := bind_some h
  obtain ⟨r2, hr2, h⟩ := bind_some h
  refine vc_reg (S := ⟨[(1, .loc 1 0), (2, .loc 2 0)], [(1, (c_api_Gates r1)), (2, (c_api_Gates r2))], []⟩) (APath.chunk 1 (by kernel_rfl) (APath.one (.call (some 16) 28 [.t 15]) (by kernel_rfl) (st_call (by kernel_rfl) (law29_list_ok N ([128, 10, 127, 30]) r1 hr1)) (APath.chunk 1 (by kernel_rfl) (APath.one (.call (some 18) 28 [.t 17]) (by kernel_rfl) (st_call (by kernel_rfl) (law29_list_ok N ([255, 5, 127, 5]) r2 hr2)) (APath.fin (by kernel_rfl)))))) (by kernel_rfl) ?_
  refine vc_seq ?_
  obtain ⟨r3, hr3, h⟩ := bind_some h
  refine vc_reg (S := ⟨[(2, .loc 2 0), (3, .loc 3 0), (4, iv r3.2)], [(2, (c_api_Gates r2)), (3, (c_api_Change r3.1))], []⟩) (APath.chunk 1 (by kernel_rfl) (APath.one (.call (some 21) 15 [.t 20, .k (.p (.int .i64 100))]) (by kernel_rfl) (st_call (by kernel_rfl) (swap_New_ok N r1 100 r3 hr3)) (APath.fin (by kernel_rfl)))) (by kernel_rfl) ?_
  refine vc_seq ?_
  obtain ⟨r4, hr4, h⟩ := bind_some h
  refine vc_reg (S := ⟨[(2, .loc 2 0), (3, .loc 3 0), (4, iv r3.2), (5, .loc 5 0), (6, iv r4.2)], [(2, (c_api_Gates r2)), (3, (c_api_Change r3.1)), (5, (c_api_Change r4.1))], []⟩) (APath.chunk 2 (by kernel_rfl) (APath.one (.call (some 27) 22 [.t 25, .k (.p (.int .i64 150)), .t 26, .k (.p (.int .i64 0))]) (by kernel_rfl) (st_call (by kernel_rfl) (swap_Set_ok N r3.1 150 r2 0 r4 hr4)) (APath.fin (by kernel_rfl)))) (by kernel_rfl) ?_
  refine vc_seq ?_
  obtain ⟨r5, hr5, h⟩ := bind_some h
  refine vc_reg (S := ⟨[(3, .loc 3 0), (4, iv r3.2), (5, .loc 5 0), (6, iv r4.2), (7, .loc 7 0), (8, iv r5.2)], [(3, (c_api_Change r3.1)), (5, (c_api_Change r4.1)), (7, (c_api_Change r5.1))], []⟩) (APath.chunk 2 (by kernel_rfl) (APath.one (.call (some 33) 22 [.t 31, .k (.p (.int .i64 150)), .t 32, .k (.p (.int .i64 181))]) (by kernel_rfl) (st_call (by kernel_rfl) (swap_Set_ok N r3.1 150 r2 181 r5 hr5)) (APath.fin (by kernel_rfl)))) (by kernel_rfl) ?_
  refine vc_seq ?_
  obtain ⟨r6, hr6, h⟩ := bind_some h
  refine vc_reg (S := ⟨[(3, .loc 3 0), (4, iv r3.2), (5, .loc 5 0), (6, iv r4.2), (7, .loc 7 0), (8, iv r5.2), (9, .loc 9 0), (10, iv r6.2)], [(3, (c_api_Change r3.1)), (5, (c_api_Change r4.1)), (7, (c_api_Change r5.1)), (9, (c_api_Change r6.1))], []⟩) (APath.chunk 1 (by kernel_rfl) (APath.one (.call (some 38) 19 [.t 37, .k (.p (.int .i64 179))]) (by kernel_rfl) (st_call (by kernel_rfl) (swap_Advance_ok N r4.1 179 r6 hr6)) (APath.fin (by kernel_rfl)))) (by kernel_rfl) ?_
  refine vc_seq ?_
  obtain ⟨r7, hr7, h⟩ := bind_some h
  refine vc_reg (S := ⟨[(3, .loc 3 0), (4, iv r3.2), (5, .loc 5 0), (6, iv r4.2), (7, .loc 7 0), (8, iv r5.2), (9, .loc 9 0), (10, iv r6.2), (11, .loc 11 0), (12, iv r7.2)], [(3, (c_api_Change r3.1)), (5, (c_api_Change r4.1)), (7, (c_api_Change r5.1)), (9, (c_api_Change r6.1)), (11, (c_api_Change r7.1))], []⟩) (APath.chunk 1 (by kernel_rfl) (APath.one (.call (some 43) 19 [.t 42, .k (.p (.int .i64 180))]) (by kernel_rfl) (st_call (by kernel_rfl) (swap_Advance_ok N r4.1 180 r7 hr7)) (APath.fin (by kernel_rfl)))) (by kernel_rfl) ?_
  refine vc_seq ?_
  refine vc_seq ?_
  refine vc_regX ⟨[(3, .loc 3 0), (5, .loc 5 0), (7, .loc 7 0), (9, .loc 9 0), (11, .loc 11 0), (63, bv ((r3.2 != 0) || ((r4.2 != 0) || ((r5.2 != 0) || ((r6.2 != 0) || (r7.2 != 0))))))], [(3, (c_api_Change r3.1)), (5, (c_api_Change r4.1)), (7, (c_api_Change r5.1)), (9, (c_api_Change r6.1)), (11, (c_api_Change r7.1))], []⟩ ?_ ?_
  · rcases Bool.eq_false_or_eq_true (r3.2 != 0) with hc8 | hc9
    · exact ⟨_, (APath.chunk 1 (by kernel_rfl) (APath.one (.val 47 (.bin .neq) [.t 46, .k (.p (.int .i64 0))]) (by kernel_rfl) (st_bool (c := (r3.2 != 0)) (by kernel_rfl) hc8) (APath.fin (by kernel_rfl)))), by simp only [hc8]; kernel_rfl⟩
    · rcases Bool.eq_false_or_eq_true (r4.2 != 0) with hc10 | hc11
      · exact ⟨_, (APath.chunk 1 (by kernel_rfl) (APath.one (.val 47 (.bin .neq) [.t 46, .k (.p (.int .i64 0))]) (by kernel_rfl) (st_bool (c := (r3.2 != 0)) (by kernel_rfl) hc9) (APath.chunk 2 (by kernel_rfl) (APath.oneG (.val 50 (.bin .neq) [.t 49, .k (.p (.int .i64 0))]) 48 false (by kernel_rfl) (by kernel_rfl) (st_bool (c := (r4.2 != 0)) (by kernel_rfl) hc10) (APath.fin (by kernel_rfl)))))), by simp only [hc9, hc10]; kernel_rfl⟩
      · rcases Bool.eq_false_or_eq_true (r5.2 != 0) with hc12 | hc13
        · exact ⟨_, (APath.chunk 1 (by kernel_rfl) (APath.one (.val 47 (.bin .neq) [.t 46, .k (.p (.int .i64 0))]) (by kernel_rfl) (st_bool (c := (r3.2 != 0)) (by kernel_rfl) hc9) (APath.chunk 2 (by kernel_rfl) (APath.oneG (.val 50 (.bin .neq) [.t 49, .k (.p (.int .i64 0))]) 48 false (by kernel_rfl) (by kernel_rfl) (st_bool (c := (r4.2 != 0)) (by kernel_rfl) hc11) (APath.chunk 3 (by kernel_rfl) (APath.oneG (.val 54 (.bin .neq) [.t 53, .k (.p (.int .i64 0))]) 52 false (by kernel_rfl) (by kernel_rfl) (st_bool (c := (r5.2 != 0)) (by kernel_rfl) hc12) (APath.fin (by kernel_rfl)))))))), by simp only [hc9, hc11, hc12]; kernel_rfl⟩
        · rcases Bool.eq_false_or_eq_true (r6.2 != 0) with hc14 | hc15
          · exact ⟨_, (APath.chunk 1 (by kernel_rfl) (APath.one (.val 47 (.bin .neq) [.t 46, .k (.p (.int .i64 0))]) (by kernel_rfl) (st_bool (c := (r3.2 != 0)) (by kernel_rfl) hc9) (APath.chunk 2 (by kernel_rfl) (APath.oneG (.val 50 (.bin .neq) [.t 49, .k (.p (.int .i64 0))]) 48 false (by kernel_rfl) (by kernel_rfl) (st_bool (c := (r4.2 != 0)) (by kernel_rfl) hc11) (APath.chunk 3 (by kernel_rfl) (APath.oneG (.val 54 (.bin .neq) [.t 53, .k (.p (.int .i64 0))]) 52 false (by kernel_rfl) (by kernel_rfl) (st_bool (c := (r5.2 != 0)) (by kernel_rfl) hc13) (APath.chunk 3 (by kernel_rfl) (APath.oneG (.val 58 (.bin .neq) [.t 57, .k (.p (.int .i64 0))]) 56 false (by kernel_rfl) (by kernel_rfl) (st_bool (c := (r6.2 != 0)) (by kernel_rfl) hc14) (APath.fin (by kernel_rfl)))))))))), by simp only [hc9, hc11, hc13, hc14]; kernel_rfl⟩
          · exact ⟨_, (APath.chunk 1 (by kernel_rfl) (APath.one (.val 47 (.bin .neq) [.t 46, .k (.p (.int .i64 0))]) (by kernel_rfl) (st_bool (c := (r3.2 != 0)) (by kernel_rfl) hc9) (APath.chunk 2 (by kernel_rfl) (APath.oneG (.val 50 (.bin .neq) [.t 49, .k (.p (.int .i64 0))]) 48 false (by kernel_rfl) (by kernel_rfl) (st_bool (c := (r4.2 != 0)) (by kernel_rfl) hc11) (APath.chunk 3 (by kernel_rfl) (APath.oneG (.val 54 (.bin .neq) [.t 53, .k (.p (.int .i64 0))]) 52 false (by kernel_rfl) (by kernel_rfl) (st_bool (c := (r5.2 != 0)) (by kernel_rfl) hc13) (APath.chunk 3 (by kernel_rfl) (APath.oneG (.val 58 (.bin .neq) [.t 57, .k (.p (.int .i64 0))]) 56 false (by kernel_rfl) (by kernel_rfl) (st_bool (c := (r6.2 != 0)) (by kernel_rfl) hc15) (APath.fin (by kernel_rfl)))))))))), by simp only [hc9, hc11, hc13, hc15]; kernel_rfl⟩
  · refine vc_ite (by kernel_rfl) h (fun hc16 h => ?_) (fun hc16 h => ?_)
    · refine vc_seq ?_
      refine vc_reg (S := ⟨[(0, bv false)], [], []⟩) (APath.fin (by kernel_rfl)) (by kernel_rfl) ?_
      refine vc_ret ?_
      obtain rfl := some_inj h
      exact ret_of (by kernel_rfl)
    · refine vc_skip ?_
      refine vc_kp ?_
      refine vc_seq ?_
      obtain ⟨j28, hj, h⟩ := bind_some h
      refine vc_regXR (fun s => s = ⟨[(5, .loc 5 0), (9, .loc 9 0), (11, .loc 11 0), (13, bv j28)], [(5, (c_api_Change r4.1)), (9, (c_api_Change r6.1)), (11, (c_api_Change r7.1))], []⟩) ?_ ?_
      · clear h
        obtain ⟨r17, hr17, hj⟩ := bind_some hj
        rcases ite_some hj with ⟨hc18, hj⟩ | ⟨hc27, hj⟩
        · obtain ⟨r19, hr19, hj⟩ := bind_some hj
          rcases ite_some hj with ⟨hc20, hj⟩ | ⟨hc26, hj⟩
          · obtain ⟨r21, hr21, hj⟩ := bind_some hj
            rcases ite_some hj with ⟨hc22, hj⟩ | ⟨hc25, hj⟩
            · rcases ite_some hj with ⟨hc23, hj⟩ | ⟨hc24, hj⟩
              · obtain rfl := some_inj hj
                exact ⟨_, (APath.chunk 1 (by kernel_rfl) (APath.one (.call (some 65) 26 [.t 64, .k (.p (.int .i64 105))]) (by kernel_rfl) (st_call (by kernel_rfl) (law29_mask_ok N r3.1 105 r17 hr17)) (APath.one (.val 66 (.bin .eql) [.t 65, .k (.p (.int .i64 128))]) (by kernel_rfl) (st_bool (c := (r17 == 128)) (by kernel_rfl) hc18) (APath.chunk 2 (by kernel_rfl) (APath.oneG (.call (some 69) 26 [.t 68, .k (.p (.int .i64 99))]) 67 true (by kernel_rfl) (by kernel_rfl) (st_call (by kernel_rfl) (law29_mask_ok N r3.1 99 r19 hr19)) (APath.oneG (.val 70 (.bin .eql) [.t 69, .k (.p (.int .i64 127))]) 67 true (by kernel_rfl) (by kernel_rfl) (st_bool (c := (r19 == 127)) (by kernel_rfl) hc20) (APath.chunk 3 (by kernel_rfl) (APath.oneG (.call (some 74) 26 [.t 73, .k (.p (.int .i64 140))]) 72 true (by kernel_rfl) (by kernel_rfl) (st_call (by kernel_rfl) (law29_mask_ok N r3.1 140 r21 hr21)) (APath.oneG (.val 75 (.bin .eql) [.t 74, .k (.p (.int .i64 128))]) 72 true (by kernel_rfl) (by kernel_rfl) (st_bool (c := (r21 == 128)) (by kernel_rfl) hc22) (APath.chunk 4 (by kernel_rfl) (APath.oneG (.val 80 (.bin .eql) [.t 79, .k (.p (.int .i64 180))]) 77 true (by kernel_rfl) (by kernel_rfl) (st_bool (c := (r4.1.When == 180)) (by kernel_rfl) hc23) (APath.fin (by kernel_rfl))))))))))))), (by show _ = _; kernel_rfl)⟩
              · obtain rfl := some_inj hj
                exact ⟨_, (APath.chunk 1 (by kernel_rfl) (APath.one (.call (some 65) 26 [.t 64, .k (.p (.int .i64 105))]) (by kernel_rfl) (st_call (by kernel_rfl) (law29_mask_ok N r3.1 105 r17 hr17)) (APath.one (.val 66 (.bin .eql) [.t 65, .k (.p (.int .i64 128))]) (by kernel_rfl) (st_bool (c := (r17 == 128)) (by kernel_rfl) hc18) (APath.chunk 2 (by kernel_rfl) (APath.oneG (.call (some 69) 26 [.t 68, .k (.p (.int .i64 99))]) 67 true (by kernel_rfl) (by kernel_rfl) (st_call (by kernel_rfl) (law29_mask_ok N r3.1 99 r19 hr19)) (APath.oneG (.val 70 (.bin .eql) [.t 69, .k (.p (.int .i64 127))]) 67 true (by kernel_rfl) (by kernel_rfl) (st_bool (c := (r19 == 127)) (by kernel_rfl) hc20) (APath.chunk 3 (by kernel_rfl) (APath.oneG (.call (some 74) 26 [.t 73, .k (.p (.int .i64 140))]) 72 true (by kernel_rfl) (by kernel_rfl) (st_call (by kernel_rfl) (law29_mask_ok N r3.1 140 r21 hr21)) (APath.oneG (.val 75 (.bin .eql) [.t 74, .k (.p (.int .i64 128))]) 72 true (by kernel_rfl) (by kernel_rfl) (st_bool (c := (r21 == 128)) (by kernel_rfl) hc22) (APath.chunk 4 (by kernel_rfl) (APath.oneG (.val 80 (.bin .eql) [.t 79, .k (.p (.int .i64 180))]) 77 true (by kernel_rfl) (by kernel_rfl) (st_bool (c := (r4.1.When == 180)) (by kernel_rfl) hc24) (APath.fin (by kernel_rfl))))))))))))), (by show _ = _; kernel_rfl)⟩
            · obtain rfl := some_inj hj
              exact ⟨_, (APath.chunk 1 (by kernel_rfl) (APath.one (.call (some 65) 26 [.t 64, .k (.p (.int .i64 105))]) (by kernel_rfl) (st_call (by kernel_rfl) (law29_mask_ok N r3.1 105 r17 hr17)) (APath.one (.val 66 (.bin .eql) [.t 65, .k (.p (.int .i64 128))]) (by kernel_rfl) (st_bool (c := (r17 == 128)) (by kernel_rfl) hc18) (APath.chunk 2 (by kernel_rfl) (APath.oneG (.call (some 69) 26 [.t 68, .k (.p (.int .i64 99))]) 67 true (by kernel_rfl) (by kernel_rfl) (st_call (by kernel_rfl) (law29_mask_ok N r3.1 99 r19 hr19)) (APath.oneG (.val 70 (.bin .eql) [.t 69, .k (.p (.int .i64 127))]) 67 true (by kernel_rfl) (by kernel_rfl) (st_bool (c := (r19 == 127)) (by kernel_rfl) hc20) (APath.chunk 3 (by kernel_rfl) (APath.oneG (.call (some 74) 26 [.t 73, .k (.p (.int .i64 140))]) 72 true (by kernel_rfl) (by kernel_rfl) (st_call (by kernel_rfl) (law29_mask_ok N r3.1 140 r21 hr21)) (APath.oneG (.val 75 (.bin .eql) [.t 74, .k (.p (.int .i64 128))]) 72 true (by kernel_rfl) (by kernel_rfl) (st_bool (c := (r21 == 128)) (by kernel_rfl) hc25) (APath.fin (by kernel_rfl))))))))))), (by show _ = _; kernel_rfl)⟩
          · obtain rfl := some_inj hj
            exact ⟨_, (APath.chunk 1 (by kernel_rfl) (APath.one (.call (some 65) 26 [.t 64, .k (.p (.int .i64 105))]) (by kernel_rfl) (st_call (by kernel_rfl) (law29_mask_ok N r3.1 105 r17 hr17)) (APath.one (.val 66 (.bin .eql) [.t 65, .k (.p (.int .i64 128))]) (by kernel_rfl) (st_bool (c := (r17 == 128)) (by kernel_rfl) hc18) (APath.chunk 2 (by kernel_rfl) (APath.oneG (.call (some 69) 26 [.t 68, .k (.p (.int .i64 99))]) 67 true (by kernel_rfl) (by kernel_rfl) (st_call (by kernel_rfl) (law29_mask_ok N r3.1 99 r19 hr19)) (APath.oneG (.val 70 (.bin .eql) [.t 69, .k (.p (.int .i64 127))]) 67 true (by kernel_rfl) (by kernel_rfl) (st_bool (c := (r19 == 127)) (by kernel_rfl) hc26) (APath.fin (by kernel_rfl)))))))), (by show _ = _; kernel_rfl)⟩
        · obtain rfl := some_inj hj
          exact ⟨_, (APath.chunk 1 (by kernel_rfl) (APath.one (.call (some 65) 26 [.t 64, .k (.p (.int .i64 105))]) (by kernel_rfl) (st_call (by kernel_rfl) (law29_mask_ok N r3.1 105 r17 hr17)) (APath.one (.val 66 (.bin .eql) [.t 65, .k (.p (.int .i64 128))]) (by kernel_rfl) (st_bool (c := (r17 == 128)) (by kernel_rfl) hc27) (APath.fin (by kernel_rfl))))), (by show _ = _; kernel_rfl)⟩
      · clear hj
        rintro s hR
        obtain rfl := hR
        refine vc_seq ?_
        obtain ⟨j39, hj, h⟩ := bind_some h
        refine vc_regXR (fun s => s = ⟨[(5, .loc 5 0), (9, .loc 9 0), (11, .loc 11 0), (13, bv j28), (14, bv j39)], [(5, (c_api_Change r4.1)), (9, (c_api_Change r6.1)), (11, (c_api_Change r7.1))], []⟩) ?_ ?_
        · clear h
          obtain ⟨r29, hr29, hj⟩ := bind_some hj
          rcases ite_some hj with ⟨hc30, hj⟩ | ⟨hc38, hj⟩
          · obtain ⟨r31, hr31, hj⟩ := bind_some hj
            rcases ite_some hj with ⟨hc32, hj⟩ | ⟨hc37, hj⟩
            · obtain ⟨r33, hr33, hj⟩ := bind_some hj
              rcases ite_some hj with ⟨hc34, hj⟩ | ⟨hc36, hj⟩
              · obtain ⟨r35, hr35, hj⟩ := bind_some hj
                obtain rfl := some_inj hj
                exact ⟨_, (APath.chunk 1 (by kernel_rfl) (APath.one (.call (some 88) 26 [.t 87, .k (.p (.int .i64 179))]) (by kernel_rfl) (st_call (by kernel_rfl) (law29_mask_ok N r4.1 179 r29 hr29)) (APath.one (.val 89 (.bin .eql) [.t 88, .k (.p (.int .i64 127))]) (by kernel_rfl) (st_bool (c := (r29 == 127)) (by kernel_rfl) hc30) (APath.chunk 2 (by kernel_rfl) (APath.oneG (.call (some 92) 26 [.t 91, .k (.p (.int .i64 180))]) 90 true (by kernel_rfl) (by kernel_rfl) (st_call (by kernel_rfl) (law29_mask_ok N r4.1 180 r31 hr31)) (APath.oneG (.val 93 (.bin .eql) [.t 92, .k (.p (.int .i64 255))]) 90 true (by kernel_rfl) (by kernel_rfl) (st_bool (c := (r31 == 255)) (by kernel_rfl) hc32) (APath.chunk 3 (by kernel_rfl) (APath.oneG (.call (some 97) 26 [.t 96, .k (.p (.int .i64 185))]) 95 true (by kernel_rfl) (by kernel_rfl) (st_call (by kernel_rfl) (law29_mask_ok N r4.1 185 r33 hr33)) (APath.oneG (.val 98 (.bin .eql) [.t 97, .k (.p (.int .i64 127))]) 95 true (by kernel_rfl) (by kernel_rfl) (st_bool (c := (r33 == 127)) (by kernel_rfl) hc34) (APath.chunk 3 (by kernel_rfl) (APath.oneG (.call (some 102) 26 [.t 101, .k (.p (.int .i64 190))]) 100 true (by kernel_rfl) (by kernel_rfl) (st_call (by kernel_rfl) (law29_mask_ok N r4.1 190 r35 hr35)) (APath.fin (by kernel_rfl))))))))))))), (by show _ = _; kernel_rfl)⟩
              · obtain rfl := some_inj hj
                exact ⟨_, (APath.chunk 1 (by kernel_rfl) (APath.one (.call (some 88) 26 [.t 87, .k (.p (.int .i64 179))]) (by kernel_rfl) (st_call (by kernel_rfl) (law29_mask_ok N r4.1 179 r29 hr29)) (APath.one (.val 89 (.bin .eql) [.t 88, .k (.p (.int .i64 127))]) (by kernel_rfl) (st_bool (c := (r29 == 127)) (by kernel_rfl) hc30) (APath.chunk 2 (by kernel_rfl) (APath.oneG (.call (some 92) 26 [.t 91, .k (.p (.int .i64 180))]) 90 true (by kernel_rfl) (by kernel_rfl) (st_call (by kernel_rfl) (law29_mask_ok N r4.1 180 r31 hr31)) (APath.oneG (.val 93 (.bin .eql) [.t 92, .k (.p (.int .i64 255))]) 90 true (by kernel_rfl) (by kernel_rfl) (st_bool (c := (r31 == 255)) (by kernel_rfl) hc32) (APath.chunk 3 (by kernel_rfl) (APath.oneG (.call (some 97) 26 [.t 96, .k (.p (.int .i64 185))]) 95 true (by kernel_rfl) (by kernel_rfl) (st_call (by kernel_rfl) (law29_mask_ok N r4.1 185 r33 hr33)) (APath.oneG (.val 98 (.bin .eql) [.t 97, .k (.p (.int .i64 127))]) 95 true (by kernel_rfl) (by kernel_rfl) (st_bool (c := (r33 == 127)) (by kernel_rfl) hc36) (APath.fin (by kernel_rfl))))))))))), (by show _ = _; kernel_rfl)⟩
            · obtain rfl := some_inj hj
              exact ⟨_, (APath.chunk 1 (by kernel_rfl) (APath.one (.call (some 88) 26 [.t 87, .k (.p (.int .i64 179))]) (by kernel_rfl) (st_call (by kernel_rfl) (law29_mask_ok N r4.1 179 r29 hr29)) (APath.one (.val 89 (.bin .eql) [.t 88, .k (.p (.int .i64 127))]) (by kernel_rfl) (st_bool (c := (r29 == 127)) (by kernel_rfl) hc30) (APath.chunk 2 (by kernel_rfl) (APath.oneG (.call (some 92) 26 [.t 91, .k (.p (.int .i64 180))]) 90 true (by kernel_rfl) (by kernel_rfl) (st_call (by kernel_rfl) (law29_mask_ok N r4.1 180 r31 hr31)) (APath.oneG (.val 93 (.bin .eql) [.t 92, .k (.p (.int .i64 255))]) 90 true (by kernel_rfl) (by kernel_rfl) (st_bool (c := (r31 == 255)) (by kernel_rfl) hc37) (APath.fin (by kernel_rfl)))))))), (by show _ = _; kernel_rfl)⟩
          · obtain rfl := some_inj hj
            exact ⟨_, (APath.chunk 1 (by kernel_rfl) (APath.one (.call (some 88) 26 [.t 87, .k (.p (.int .i64 179))]) (by kernel_rfl) (st_call (by kernel_rfl) (law29_mask_ok N r4.1 179 r29 hr29)) (APath.one (.val 89 (.bin .eql) [.t 88, .k (.p (.int .i64 127))]) (by kernel_rfl) (st_bool (c := (r29 == 127)) (by kernel_rfl) hc38) (APath.fin (by kernel_rfl))))), (by show _ = _; kernel_rfl)⟩
        · clear hj
          rintro s hR
          obtain rfl := hR
          refine vc_seq ?_
          obtain ⟨j58, hj, h⟩ := bind_some h
          refine vc_regXR (fun s => s = ⟨[(0, bv j58)], [], []⟩) ?_ ?_
          · clear h
            rcases ite_some hj with ⟨hc40, hj⟩ | ⟨hc57, hj⟩
            · rcases ite_some hj with ⟨hc41, hj⟩ | ⟨hc56, hj⟩
              · obtain ⟨r42, hr42, hj⟩ := bind_some hj
                rcases ite_some hj with ⟨hc43, hj⟩ | ⟨hc55, hj⟩
                · obtain ⟨r44, hr44, hj⟩ := bind_some hj
                  rcases ite_some hj with ⟨hc45, hj⟩ | ⟨hc54, hj⟩
                  · obtain ⟨r46, hr46, hj⟩ := bind_some hj
                    rcases ite_some hj with ⟨hc47, hj⟩ | ⟨hc53, hj⟩
                    · obtain ⟨r48, hr48, hj⟩ := bind_some hj
                      rcases ite_some hj with ⟨hc49, hj⟩ | ⟨hc52, hj⟩
                      · rcases ite_some hj with ⟨hc50, hj⟩ | ⟨hc51, hj⟩
                        · obtain rfl := some_inj hj
                          exact ⟨_, (APath.one (.val 105 .mov [.t 13]) (by kernel_rfl) (st_bool (c := j28) (by kernel_rfl) hc40) (APath.chunk 1 (by kernel_rfl) (APath.oneG (.val 107 .mov [.t 14]) 106 true (by kernel_rfl) (by kernel_rfl) (st_bool (c := j39) (by kernel_rfl) hc41) (APath.chunk 3 (by kernel_rfl) (APath.oneG (.call (some 111) 27 [.t 110, .k (.p (.int .i64 0)), .k (.p (.int .i64 175)), .k (.p (.int .i64 20))]) 109 true (by kernel_rfl) (by kernel_rfl) (st_callB (by kernel_rfl) (law29_fits_ok N r4.1 0 175 20 r42 hr42) hc43) (APath.chunk 3 (by kernel_rfl) (APath.oneG (.call (some 115) 27 [.t 114, .k (.p (.int .i64 7)), .k (.p (.int .i64 175)), .k (.p (.int .i64 1))]) 113 true (by kernel_rfl) (by kernel_rfl) (st_call (by kernel_rfl) (law29_fits_ok N r4.1 7 175 1 r44 hr44)) (APath.oneG (.val 116 .not [.t 115]) 113 true (by kernel_rfl) (by kernel_rfl) (st_bool (c := (!r44)) (by kernel_rfl) hc45) (APath.chunk 3 (by kernel_rfl) (APath.oneG (.call (some 120) 27 [.t 119, .k (.p (.int .i64 7)), .k (.p (.int .i64 180)), .k (.p (.int .i64 6))]) 118 true (by kernel_rfl) (by kernel_rfl) (st_call (by kernel_rfl) (law29_fits_ok N r4.1 7 180 6 r46 hr46)) (APath.oneG (.val 121 .not [.t 120]) 118 true (by kernel_rfl) (by kernel_rfl) (st_bool (c := (!r46)) (by kernel_rfl) hc47) (APath.chunk 4 (by kernel_rfl) (APath.oneG (.call (some 126) 17 [.t 124, .t 125]) 123 true (by kernel_rfl) (by kernel_rfl) (st_callB (by kernel_rfl) (ref29_Same_ok N r6.1 r4.1 r48 hr48) hc49) (APath.chunk 4 (by kernel_rfl) (APath.oneG (.val 131 (.bin .eql) [.t 130, .k (.p (.int .i64 180))]) 128 true (by kernel_rfl) (by kernel_rfl) (st_bool (c := (r7.1.Base == 180)) (by kernel_rfl) hc50) (APath.fin (by kernel_rfl))))))))))))))))), (by show _ = _; kernel_rfl)⟩
                        · obtain rfl := some_inj hj
                          exact ⟨_, (APath.one (.val 105 .mov [.t 13]) (by kernel_rfl) (st_bool (c := j28) (by kernel_rfl) hc40) (APath.chunk 1 (by kernel_rfl) (APath.oneG (.val 107 .mov [.t 14]) 106 true (by kernel_rfl) (by kernel_rfl) (st_bool (c := j39) (by kernel_rfl) hc41) (APath.chunk 3 (by kernel_rfl) (APath.oneG (.call (some 111) 27 [.t 110, .k (.p (.int .i64 0)), .k (.p (.int .i64 175)), .k (.p (.int .i64 20))]) 109 true (by kernel_rfl) (by kernel_rfl) (st_callB (by kernel_rfl) (law29_fits_ok N r4.1 0 175 20 r42 hr42) hc43) (APath.chunk 3 (by kernel_rfl) (APath.oneG (.call (some 115) 27 [.t 114, .k (.p (.int .i64 7)), .k (.p (.int .i64 175)), .k (.p (.int .i64 1))]) 113 true (by kernel_rfl) (by kernel_rfl) (st_call (by kernel_rfl) (law29_fits_ok N r4.1 7 175 1 r44 hr44)) (APath.oneG (.val 116 .not [.t 115]) 113 true (by kernel_rfl) (by kernel_rfl) (st_bool (c := (!r44)) (by kernel_rfl) hc45) (APath.chunk 3 (by kernel_rfl) (APath.oneG (.call (some 120) 27 [.t 119, .k (.p (.int .i64 7)), .k (.p (.int .i64 180)), .k (.p (.int .i64 6))]) 118 true (by kernel_rfl) (by kernel_rfl) (st_call (by kernel_rfl) (law29_fits_ok N r4.1 7 180 6 r46 hr46)) (APath.oneG (.val 121 .not [.t 120]) 118 true (by kernel_rfl) (by kernel_rfl) (st_bool (c := (!r46)) (by kernel_rfl) hc47) (APath.chunk 4 (by kernel_rfl) (APath.oneG (.call (some 126) 17 [.t 124, .t 125]) 123 true (by kernel_rfl) (by kernel_rfl) (st_callB (by kernel_rfl) (ref29_Same_ok N r6.1 r4.1 r48 hr48) hc49) (APath.chunk 4 (by kernel_rfl) (APath.oneG (.val 131 (.bin .eql) [.t 130, .k (.p (.int .i64 180))]) 128 true (by kernel_rfl) (by kernel_rfl) (st_bool (c := (r7.1.Base == 180)) (by kernel_rfl) hc51) (APath.fin (by kernel_rfl))))))))))))))))), (by show _ = _; kernel_rfl)⟩
                      · obtain rfl := some_inj hj
                        exact ⟨_, (APath.one (.val 105 .mov [.t 13]) (by kernel_rfl) (st_bool (c := j28) (by kernel_rfl) hc40) (APath.chunk 1 (by kernel_rfl) (APath.oneG (.val 107 .mov [.t 14]) 106 true (by kernel_rfl) (by kernel_rfl) (st_bool (c := j39) (by kernel_rfl) hc41) (APath.chunk 3 (by kernel_rfl) (APath.oneG (.call (some 111) 27 [.t 110, .k (.p (.int .i64 0)), .k (.p (.int .i64 175)), .k (.p (.int .i64 20))]) 109 true (by kernel_rfl) (by kernel_rfl) (st_callB (by kernel_rfl) (law29_fits_ok N r4.1 0 175 20 r42 hr42) hc43) (APath.chunk 3 (by kernel_rfl) (APath.oneG (.call (some 115) 27 [.t 114, .k (.p (.int .i64 7)), .k (.p (.int .i64 175)), .k (.p (.int .i64 1))]) 113 true (by kernel_rfl) (by kernel_rfl) (st_call (by kernel_rfl) (law29_fits_ok N r4.1 7 175 1 r44 hr44)) (APath.oneG (.val 116 .not [.t 115]) 113 true (by kernel_rfl) (by kernel_rfl) (st_bool (c := (!r44)) (by kernel_rfl) hc45) (APath.chunk 3 (by kernel_rfl) (APath.oneG (.call (some 120) 27 [.t 119, .k (.p (.int .i64 7)), .k (.p (.int .i64 180)), .k (.p (.int .i64 6))]) 118 true (by kernel_rfl) (by kernel_rfl) (st_call (by kernel_rfl) (law29_fits_ok N r4.1 7 180 6 r46 hr46)) (APath.oneG (.val 121 .not [.t 120]) 118 true (by kernel_rfl) (by kernel_rfl) (st_bool (c := (!r46)) (by kernel_rfl) hc47) (APath.chunk 4 (by kernel_rfl) (APath.oneG (.call (some 126) 17 [.t 124, .t 125]) 123 true (by kernel_rfl) (by kernel_rfl) (st_callB (by kernel_rfl) (ref29_Same_ok N r6.1 r4.1 r48 hr48) hc52) (APath.fin (by kernel_rfl))))))))))))))), (by show _ = _; kernel_rfl)⟩
                    · obtain rfl := some_inj hj
                      exact ⟨_, (APath.one (.val 105 .mov [.t 13]) (by kernel_rfl) (st_bool (c := j28) (by kernel_rfl) hc40) (APath.chunk 1 (by kernel_rfl) (APath.oneG (.val 107 .mov [.t 14]) 106 true (by kernel_rfl) (by kernel_rfl) (st_bool (c := j39) (by kernel_rfl) hc41) (APath.chunk 3 (by kernel_rfl) (APath.oneG (.call (some 111) 27 [.t 110, .k (.p (.int .i64 0)), .k (.p (.int .i64 175)), .k (.p (.int .i64 20))]) 109 true (by kernel_rfl) (by kernel_rfl) (st_callB (by kernel_rfl) (law29_fits_ok N r4.1 0 175 20 r42 hr42) hc43) (APath.chunk 3 (by kernel_rfl) (APath.oneG (.call (some 115) 27 [.t 114, .k (.p (.int .i64 7)), .k (.p (.int .i64 175)), .k (.p (.int .i64 1))]) 113 true (by kernel_rfl) (by kernel_rfl) (st_call (by kernel_rfl) (law29_fits_ok N r4.1 7 175 1 r44 hr44)) (APath.oneG (.val 116 .not [.t 115]) 113 true (by kernel_rfl) (by kernel_rfl) (st_bool (c := (!r44)) (by kernel_rfl) hc45) (APath.chunk 3 (by kernel_rfl) (APath.oneG (.call (some 120) 27 [.t 119, .k (.p (.int .i64 7)), .k (.p (.int .i64 180)), .k (.p (.int .i64 6))]) 118 true (by kernel_rfl) (by kernel_rfl) (st_call (by kernel_rfl) (law29_fits_ok N r4.1 7 180 6 r46 hr46)) (APath.oneG (.val 121 .not [.t 120]) 118 true (by kernel_rfl) (by kernel_rfl) (st_bool (c := (!r46)) (by kernel_rfl) hc53) (APath.fin (by kernel_rfl))))))))))))), (by show _ = _; kernel_rfl)⟩
                  · obtain rfl := some_inj hj
                    exact ⟨_, (APath.one (.val 105 .mov [.t 13]) (by kernel_rfl) (st_bool (c := j28) (by kernel_rfl) hc40) (APath.chunk 1 (by kernel_rfl) (APath.oneG (.val 107 .mov [.t 14]) 106 true (by kernel_rfl) (by kernel_rfl) (st_bool (c := j39) (by kernel_rfl) hc41) (APath.chunk 3 (by kernel_rfl) (APath.oneG (.call (some 111) 27 [.t 110, .k (.p (.int .i64 0)), .k (.p (.int .i64 175)), .k (.p (.int .i64 20))]) 109 true (by kernel_rfl) (by kernel_rfl) (st_callB (by kernel_rfl) (law29_fits_ok N r4.1 0 175 20 r42 hr42) hc43) (APath.chunk 3 (by kernel_rfl) (APath.oneG (.call (some 115) 27 [.t 114, .k (.p (.int .i64 7)), .k (.p (.int .i64 175)), .k (.p (.int .i64 1))]) 113 true (by kernel_rfl) (by kernel_rfl) (st_call (by kernel_rfl) (law29_fits_ok N r4.1 7 175 1 r44 hr44)) (APath.oneG (.val 116 .not [.t 115]) 113 true (by kernel_rfl) (by kernel_rfl) (st_bool (c := (!r44)) (by kernel_rfl) hc54) (APath.fin (by kernel_rfl)))))))))), (by show _ = _; kernel_rfl)⟩
                · obtain rfl := some_inj hj
                  exact ⟨_, (APath.one (.val 105 .mov [.t 13]) (by kernel_rfl) (st_bool (c := j28) (by kernel_rfl) hc40) (APath.chunk 1 (by kernel_rfl) (APath.oneG (.val 107 .mov [.t 14]) 106 true (by kernel_rfl) (by kernel_rfl) (st_bool (c := j39) (by kernel_rfl) hc41) (APath.chunk 3 (by kernel_rfl) (APath.oneG (.call (some 111) 27 [.t 110, .k (.p (.int .i64 0)), .k (.p (.int .i64 175)), .k (.p (.int .i64 20))]) 109 true (by kernel_rfl) (by kernel_rfl) (st_callB (by kernel_rfl) (law29_fits_ok N r4.1 0 175 20 r42 hr42) hc55) (APath.fin (by kernel_rfl))))))), (by show _ = _; kernel_rfl)⟩
              · obtain rfl := some_inj hj
                exact ⟨_, (APath.one (.val 105 .mov [.t 13]) (by kernel_rfl) (st_bool (c := j28) (by kernel_rfl) hc40) (APath.chunk 1 (by kernel_rfl) (APath.oneG (.val 107 .mov [.t 14]) 106 true (by kernel_rfl) (by kernel_rfl) (st_bool (c := j39) (by kernel_rfl) hc56) (APath.fin (by kernel_rfl))))), (by show _ = _; kernel_rfl)⟩
            · obtain rfl := some_inj hj
              exact ⟨_, (APath.one (.val 105 .mov [.t 13]) (by kernel_rfl) (st_bool (c := j28) (by kernel_rfl) hc57) (APath.fin (by kernel_rfl))), (by show _ = _; kernel_rfl)⟩
          · clear hj
            rintro s hR
            obtain rfl := hR
            refine vc_ret ?_
            obtain rfl := some_inj h
            exact ret_of (by kernel_rfl)
end Go.Sh
