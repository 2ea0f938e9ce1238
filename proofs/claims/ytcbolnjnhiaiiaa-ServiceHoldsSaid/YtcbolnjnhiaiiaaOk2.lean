/- The Go functions compute them; written by sym.py. -/
import Derived.Test.YtcbolnjnhiaiiaaOk1
namespace Go.Sh
open Go Go.Eng Go.Proofs
set_option linter.unusedVariables false
set_option linter.unusedSimpArgs false
set_option maxRecDepth 100000
/- service.yieldOf -/
theorem service_yieldOf_ok (N : Nat) (a0_ : api_Gates) (a1_ : Int) (r : Int) (h : service_yieldOf N a0_ a1_ = some r) : PCall Try.prog 26 [.agg (c_api_Gates a0_), iv a1_] (iv r) := by
  unfold service_yieldOf at h
  have hH : HP ([] : List HO) [] := trivial
  refine pcall_of chk26 rfl rfl (vc_sound _ _ _ ?_) rfl
  refine vc_seq ?_
  obtain ⟨id1, H2, hid1, hH2, hH⟩ := HP.newCell hH [iv a1_]
  replace hH : HP H2 [.cel id1 [iv a1_]] := hH
  refine vc_reg (S := ⟨[(2, .loc 2 0), (3, .ptr id1 0)], [(2, (c_api_Gates a0_))], H2⟩) (APath.chunk 1 (by kernel_rfl) (APath.one (.boxH 3 (.t 1)) (by kernel_rfl) (st_boxH (H := []) (v := iv a1_) (by kernel_rfl) (by kernel_rfl) (by kernel_rfl) hid1 hH2) (APath.fin (by kernel_rfl)))) (by kernel_rfl) ?_
  refine vc_seq ?_
  refine vc_seq ?_
  obtain ⟨r3, hr3, h⟩ := bind_some h
  refine vc_reg (S := ⟨[(2, .loc 2 0), (3, .ptr id1 0), (8, bv r3)], [(2, (c_api_Gates a0_))], H2⟩) (APath.chunk 1 (by kernel_rfl) (APath.one (.call (some 8) 30 [.t 7]) (by kernel_rfl) (st_call (by kernel_rfl) (service_always_ok N a0_ r3 hr3)) APath.done)) (by kernel_rfl) ?_
  refine vc_ite (by kernel_rfl) h (fun hc4 h => ?_) (fun hc4 h => ?_)
  · refine vc_seq ?_
    refine vc_reg (S := ⟨[(4, iv a0_.Cycle)], [], H2⟩) (APath.fin (by kernel_rfl)) (by kernel_rfl) ?_
    replace hH : HP H2 [] := HP.pick hH [] rfl
    refine vc_ret ?_
    obtain rfl := some_inj h
    exact ret_of (by kernel_rfl)
  · refine vc_skip ?_
    refine vc_kp ?_
    refine vc_seq ?_
    obtain ⟨id5, H6, hid5, hH6, hH⟩ := HP.newCell hH [iv 0]
    replace hH : HP H6 [.cel id5 [iv 0], .cel id1 [iv a1_]] := hH
    obtain ⟨H7, hH7, hH⟩ := HP.setCell (k := 0) (off := 0) (cs := [iv 0]) (vs := [iv 0]) (cs' := [iv 0]) hH rfl (by kernel_rfl)
    replace hH : HP H7 [.cel id5 [iv 0], .cel id1 [iv a1_]] := hH
    refine vc_reg (S := ⟨[(2, .loc 2 0), (3, .ptr id1 0), (5, .ptr id5 0)], [(2, (c_api_Gates a0_))], H7⟩) (APath.one (.newH 5 [.p (.int .i64 0)]) (by kernel_rfl) (st_newH (H := H2) (by kernel_rfl) hid5 hH6) (APath.one (.store (.t 5) (.k (.p (.int .i64 0))) 1) (by kernel_rfl) (st_storeH (H := H6) (v := iv 0) (by kernel_rfl) (by kernel_rfl) (by kernel_rfl) (by kernel_rfl) hH7) APath.done)) (by kernel_rfl) ?_
    refine vc_seq ?_
    refine vc_seq ?_
    obtain ⟨r8, hr8, h⟩ := bind_some h
    obtain ⟨id10, H9, hvr8, hpr8⟩ := service_openings_ok N a0_ H7 r8 hr8
    replace hH : HP H9 [.cel id10 (c_api_Gates r8), .cel id5 [iv 0], .cel id1 [iv a1_]] := HP.callee (fp := []) (rest := [.cel id5 [iv 0], .cel id1 [iv a1_]]) hH hpr8
    refine vc_reg (S := ⟨[(3, .ptr id1 0), (5, .ptr id5 0), (12, .fn 48 [] [.ptr id10 0])], [], H9⟩) (APath.chunk 1 (by kernel_rfl) (APath.one (.call (some 12) 31 [.t 11]) (by kernel_rfl) (st_callH (H := H7) (ys := [.agg (c_api_Gates a0_)]) (by kernel_rfl) (by kernel_rfl) (by kernel_rfl) hvr8) APath.done)) (by kernel_rfl) ?_
    refine vc_block ?_
    obtain ⟨o517, ho517, h⟩ := bind_some h
    have hyo517 : ∀ (x12 : service_opening) (s : Int) (r : (Int) × Bool) (H : List HO) (its : List Thing), (fun (s : Int) (its : List Thing) => its = [.cel id5 [iv s], .cel id1 [iv a1_]] ++ [.lp (List.length H9) (lcOf Try.prog i26.nt [13] ra26_1 rb26_1) [(3, .ptr id1 0), (5, .ptr id5 0)] .ready]) s its → HP H its → (fun (s : Int) (x12 : service_opening) => yieldT (fun v : Int => service_yieldOf_R1 N a1_ v x12) s) s x12 = some r → ∃ H' its', YCall Try.prog (List.length H9) [.agg (c_service_opening x12)] H r.2 H' ∧ (fun (s : Int) (its : List Thing) => its = [.cel id5 [iv s], .cel id1 [iv a1_]] ++ [.lp (List.length H9) (lcOf Try.prog i26.nt [13] ra26_1 rb26_1) [(3, .ptr id1 0), (5, .ptr id5 0)] .ready]) r.1 its' ∧ Fp H H' its its' := by
      clear h
      intro x12 s r H11 its hT hH h
      obtain ⟨q, hb, rfl⟩ := yieldT_some h
      clear h
      obtain ⟨vs, rfl⟩ : ∃ v, v = s := ⟨s, rfl⟩
      obtain ⟨i13, rfl⟩ : ∃ v, v = vs := ⟨vs, rfl⟩
      obtain rfl := hT
      replace h : service_yieldOf_R1 N a1_ i13 x12 = some q := hb
      clear hb
      unfold service_yieldOf_R1 at h
      replace hH : Fp H11 H11 [.cel id5 [iv i13], .cel id1 [iv a1_], .lp (List.length H9) (lcOf Try.prog i26.nt [13] ra26_1 rb26_1) [(3, .ptr id1 0), (5, .ptr id5 0)] .ready] [.cel id5 [iv i13], .cel id1 [iv a1_], .lp (List.length H9) (lcOf Try.prog i26.nt [13] ra26_1 rb26_1) [(3, .ptr id1 0), (5, .ptr id5 0)] .ready] := Fp.refl hH
      suffices hs : ∃ H', YCall Try.prog (List.length H9) [.agg (c_service_opening x12)] H11 true H' ∧ ∃ its', (fun (s : Int) (its : List Thing) => its = [.cel id5 [iv s], .cel id1 [iv a1_]] ++ [.lp (List.length H9) (lcOf Try.prog i26.nt [13] ra26_1 rb26_1) [(3, .ptr id1 0), (5, .ptr id5 0)] .ready]) q its' ∧ Fp H11 H' [.cel id5 [iv i13], .cel id1 [iv a1_], .lp (List.length H9) (lcOf Try.prog i26.nt [13] ra26_1 rb26_1) [(3, .ptr id1 0), (5, .ptr id5 0)] .ready] its' by
        obtain ⟨H', h1, its', h2, h3⟩ := hs
        exact ⟨H', its', h1, h2, h3⟩
      refine ycall_det (id := (List.length H9)) (args := [.agg (c_service_opening x12)]) (H := H11) (n := i26.nt) (ps := [13]) (fr0 := [(3, .ptr id1 0), (5, .ptr id5 0)]) (ia := ra26_1) (ib := rb26_1) true (fun H' => ∃ its', (fun (s : Int) (its : List Thing) => its = [.cel id5 [iv s], .cel id1 [iv a1_]] ++ [.lp (List.length H9) (lcOf Try.prog i26.nt [13] ra26_1 rb26_1) [(3, .ptr id1 0), (5, .ptr id5 0)] .ready]) q its' ∧ Fp H11 H' [.cel id5 [iv i13], .cel id1 [iv a1_], .lp (List.length H9) (lcOf Try.prog i26.nt [13] ra26_1 rb26_1) [(3, .ptr id1 0), (5, .ptr id5 0)] .ready] its') (Fp.get hH 2 rfl) rfl (by decide +kernel) rfl ?_
      show vc _ _ _ _ ⟨[(3, .ptr id1 0), (5, .ptr id5 0), (13, .agg (c_service_opening x12))], [], H11⟩
      refine vc_reg (S := ⟨[(3, .ptr id1 0), (5, .ptr id5 0), (6, .loc 6 0)], [(6, (c_service_opening x12))], H11⟩) (APath.fin (by kernel_rfl)) (by kernel_rfl) ?_
      refine ia_done (k := 2) hH rfl ?_
      intro H513 hH
      replace hH : Fp H11 H513 [.cel id5 [iv i13], .cel id1 [iv a1_], .lp (List.length H9) (lcOf Try.prog i26.nt [13] ra26_1 rb26_1) [(3, .ptr id1 0), (5, .ptr id5 0)] .ready] [.cel id5 [iv i13], .cel id1 [iv a1_], .lp (List.length H9) (lcOf Try.prog i26.nt [13] ra26_1 rb26_1) [(3, .ptr id1 0), (5, .ptr id5 0)] .busy] := hH
      show vc _ _ _ _ ⟨[(3, .ptr id1 0), (5, .ptr id5 0), (6, .loc 6 0)], [(6, (c_service_opening x12))], H513⟩
      refine vc_block ?_
      have hlc514 := Fp.get hH 0 rfl
      have hlc515 := Fp.get hH 1 rfl
      obtain ⟨H516, hH516, hH⟩ := Fp.setCell (k := 0) (off := 0) (cs := [iv i13]) (vs := [iv (w64 (i13 + (if (w64 (x12.long - a1_)) > 0 then (w64 (x12.long - a1_)) else 0)))]) (cs' := [iv (w64 (i13 + (if (w64 (x12.long - a1_)) > 0 then (w64 (x12.long - a1_)) else 0)))]) hH rfl (by kernel_rfl)
      replace hH : Fp H11 H516 [.cel id5 [iv i13], .cel id1 [iv a1_], .lp (List.length H9) (lcOf Try.prog i26.nt [13] ra26_1 rb26_1) [(3, .ptr id1 0), (5, .ptr id5 0)] .ready] [.cel id5 [iv (w64 (i13 + (if (w64 (x12.long - a1_)) > 0 then (w64 (x12.long - a1_)) else 0)))], .cel id1 [iv a1_], .lp (List.length H9) (lcOf Try.prog i26.nt [13] ra26_1 rb26_1) [(3, .ptr id1 0), (5, .ptr id5 0)] .busy] := hH
      refine vc_reg (S := ⟨[], [], H516⟩) (APath.one (.load 14 (.t 5) 1 false) (by kernel_rfl) (st_loadC (H := H513) (id := id5) (off := 0) (cs := [iv i13]) (c := [iv i13]) (r := iv i13) (by kernel_rfl) (by kernel_rfl) hlc514 (by kernel_rfl) (by kernel_rfl) (by kernel_rfl)) (APath.chunk 2 (by kernel_rfl) (APath.one (.load 17 (.t 3) 1 false) (by kernel_rfl) (st_loadC (H := H513) (id := id1) (off := 0) (cs := [iv a1_]) (c := [iv a1_]) (r := iv a1_) (by kernel_rfl) (by kernel_rfl) hlc515 (by kernel_rfl) (by kernel_rfl) (by kernel_rfl)) (APath.chunk 3 (by kernel_rfl) (APath.one (.store (.t 5) (.t 20) 1) (by kernel_rfl) (st_storeH (H := H513) (v := iv (w64 (i13 + (if (w64 (x12.long - a1_)) > 0 then (w64 (x12.long - a1_)) else 0)))) (by kernel_rfl) (by kernel_rfl) (by kernel_rfl) (by kernel_rfl) hH516) APath.done))))) (by kernel_rfl) ?_
      obtain rfl := some_inj h
      exact rb_done (k := 2) (.ready) hH rfl rfl (fun H6 hH => ⟨_, (Eq.refl _), (Fp.pick hH [0, 1, 2] rfl)⟩)
    refine vc_range (s := ⟨[(3, .ptr id1 0), (5, .ptr id5 0), (12, .fn 48 [] [.ptr id10 0])], [], H9⟩) [(3, .ptr id1 0), (5, .ptr id5 0)] (FrOK.cons (by kernel_rfl) (by kernel_rfl) (FrOK.cons (by kernel_rfl) (by kernel_rfl) FrOK.nil)) (by kernel_rfl) (fun H => rfl) (capT := [.cel id10 (c_api_Gates r8)]) (cells0 := [.cel id5 [iv 0], .cel id1 [iv a1_]]) (rest := []) (HP.now (HP.pick hH [0, 1, 2] rfl)) (fun (s : Int) (its : List Thing) => its = [.cel id5 [iv s], .cel id1 [iv a1_]] ++ [.lp (List.length H9) (lcOf Try.prog i26.nt [13] ra26_1 rb26_1) [(3, .ptr id1 0), (5, .ptr id5 0)] .ready]) 0 o517 (by exact (Eq.refl _)) (fun H its hT hH => service_openings_1_ok N (fun (s : Int) (x12 : service_opening) => yieldT (fun v : Int => service_yieldOf_R1 N a1_ v x12) s) r8 0 id10 (List.length H9) (fun (s : Int) (its : List Thing) => its = [.cel id5 [iv s], .cel id1 [iv a1_]] ++ [.lp (List.length H9) (lcOf Try.prog i26.nt [13] ra26_1 rb26_1) [(3, .ptr id1 0), (5, .ptr id5 0)] .ready]) hyo517 H its hT hH o517 ho517) ?_
    rintro its hT
    obtain rfl := hT
    refine ⟨_, _, rfl, ?_⟩
    intro H518 hF
    replace hH : HP H518 [.cel id10 (c_api_Gates r8), .cel id5 [iv o517], .cel id1 [iv a1_]] := HP.after (HP.pick hH [0, 1, 2] rfl) hF
    refine outQ_ready (S := ⟨[(3, .ptr id1 0), (5, .ptr id5 0), (12, .fn 48 [] [.ptr id10 0])], [], H518⟩) ?_
    try show vc _ _ _ _ _
    refine vc_seq ?_
    have hlc519 := HP.get hH 1 rfl
    refine vc_reg (S := ⟨[(4, iv o517)], [], H518⟩) (APath.one (.load 21 (.t 5) 1 false) (by kernel_rfl) (st_loadC (H := H518) (id := id5) (off := 0) (cs := [iv o517]) (c := [iv o517]) (r := iv o517) (by kernel_rfl) (by kernel_rfl) hlc519 (by kernel_rfl) (by kernel_rfl) (by kernel_rfl)) (APath.fin (by kernel_rfl))) (by kernel_rfl) ?_
    replace hH : HP H518 [] := HP.pick hH [] rfl
    refine vc_ret ?_
    obtain rfl := some_inj h
    exact ret_of (by kernel_rfl)
/- isochronref30.Gives -/
theorem ref30_Gives_ok (N : Nat) (a0_ : api_Gates) (a1_ : Int) (a2_ : Int) (r : Int) (h : ref30_Gives N a0_ a1_ a2_ = some r) : PCall Try.prog 28 [.agg (c_api_Gates a0_), iv a1_, iv a2_] (iv r) := by
  unfold ref30_Gives at h
  have hH : HP ([] : List HO) [] := trivial
  refine pcall_of chk28 rfl rfl (vc_sound _ _ _ ?_) rfl
  refine vc_seq ?_
  refine vc_reg (S := ⟨[(1, iv a1_), (2, iv a2_), (3, .loc 3 0)], [(3, (c_api_Gates a0_))], []⟩) (APath.fin (by kernel_rfl)) (by kernel_rfl) ?_
  refine vc_seq ?_
  refine vc_seq ?_
  obtain ⟨r1, hr1, h⟩ := bind_some h
  refine vc_reg (S := ⟨[(1, iv a1_), (2, iv a2_), (3, .loc 3 0), (8, bv r1)], [(3, (c_api_Gates a0_))], []⟩) (APath.chunk 1 (by kernel_rfl) (APath.one (.call (some 8) 38 [.t 7]) (by kernel_rfl) (st_call (by kernel_rfl) (ref30_Always_ok N a0_ r1 hr1)) APath.done)) (by kernel_rfl) ?_
  refine vc_ite (by kernel_rfl) h (fun hc2 h => ?_) (fun hc2 h => ?_)
  · refine vc_seq ?_
    refine vc_reg (S := ⟨[(6, iv a0_.Cycle)], [], []⟩) (APath.fin (by kernel_rfl)) (by kernel_rfl) ?_
    refine vc_ret ?_
    obtain rfl := some_inj h
    exact ret_of (by kernel_rfl)
  · refine vc_skip ?_
    refine vc_kp ?_
    refine vc_seq ?_
    obtain ⟨r3, hr3, h⟩ := bind_some h
    obtain ⟨r4, hr4, h⟩ := bind_some h
    refine vc_reg (S := ⟨[(6, iv r4)], [], []⟩) (APath.chunk 1 (by kernel_rfl) (APath.one (.call (some 12) 39 [.t 11]) (by kernel_rfl) (st_call (by kernel_rfl) (ref30_Round_ok N a0_ r3 hr3)) (APath.chunk 3 (by kernel_rfl) (APath.one (.call (some 16) 47 [.t 12, .t 15]) (by kernel_rfl) (st_call (by kernel_rfl) (ref30_sum_ok N r3 (w64 (a2_ * a1_)) r4 hr4)) (APath.fin (by kernel_rfl)))))) (by kernel_rfl) ?_
    refine vc_ret ?_
    obtain rfl := some_inj h
    exact ret_of (by kernel_rfl)
/- service.Yield -/
theorem service_Yield_ok (N : Nat) (a0_ : api_Gates) (a1_ : Int) (a2_ : Int) (r : Int × Int) (h : service_Yield N a0_ a1_ a2_ = some r) : PCall Try.prog 12 [.agg (c_api_Gates a0_), iv a1_, iv a2_] (.tup [iv r.1, iv r.2]) := by
  unfold service_Yield at h
  have hH : HP ([] : List HO) [] := trivial
  refine pcall_of chk12 rfl rfl (vc_sound _ _ _ ?_) rfl
  refine vc_seq ?_
  refine vc_reg (S := ⟨[(1, iv a1_), (2, iv a2_), (3, .loc 3 0)], [(3, (c_api_Gates a0_))], []⟩) (APath.fin (by kernel_rfl)) (by kernel_rfl) ?_
  refine vc_seq ?_
  refine vc_seq ?_
  obtain ⟨r1, hr1, h⟩ := bind_some h
  refine vc_reg (S := ⟨[(1, iv a1_), (2, iv a2_), (3, .loc 3 0), (8, iv r1)], [(3, (c_api_Gates a0_))], []⟩) (APath.chunk 3 (by kernel_rfl) (APath.one (.call (some 12) 25 [.t 9, .t 10, .t 11]) (by kernel_rfl) (st_call (by kernel_rfl) (service_check_ok N a0_ a1_ a2_ r1 hr1)) (APath.fin (by kernel_rfl)))) (by kernel_rfl) ?_
  refine vc_seq ?_
  refine vc_reg (S := ⟨[(1, iv a1_), (2, iv a2_), (3, .loc 3 0), (8, iv r1), (14, bv (r1 != 0))], [(3, (c_api_Gates a0_))], []⟩) (APath.fin (by kernel_rfl)) (by kernel_rfl) ?_
  refine vc_ite (by kernel_rfl) h (fun hc2 h => ?_) (fun hc2 h => ?_)
  · refine vc_seq ?_
    refine vc_reg (S := ⟨[(6, iv 0), (7, iv r1)], [], []⟩) (APath.fin (by kernel_rfl)) (by kernel_rfl) ?_
    refine vc_ret ?_
    obtain rfl := some_inj h
    exact ret_of (by kernel_rfl)
  · refine vc_skip ?_
    refine vc_kp ?_
    refine vc_seq ?_
    obtain ⟨r3, hr3, h⟩ := bind_some h
    refine vc_reg (S := ⟨[(6, iv r3), (7, iv 0)], [], []⟩) (APath.chunk 4 (by kernel_rfl) (APath.one (.call (some 20) 26 [.t 16, .t 19]) (by kernel_rfl) (st_call (by kernel_rfl) (service_yieldOf_ok N a0_ (w64 (a2_ * a1_)) r3 hr3)) (APath.fin (by kernel_rfl)))) (by kernel_rfl) ?_
    refine vc_ret ?_
    obtain rfl := some_inj h
    exact ret_of (by kernel_rfl)
/- isochronref30.Yield -/
theorem ref30_Yield_ok (N : Nat) (a0_ : api_Gates) (a1_ : Int) (a2_ : Int) (r : Int × Int) (h : ref30_Yield N a0_ a1_ a2_ = some r) : PCall Try.prog 13 [.agg (c_api_Gates a0_), iv a1_, iv a2_] (.tup [iv r.1, iv r.2]) := by
  unfold ref30_Yield at h
  have hH : HP ([] : List HO) [] := trivial
  refine pcall_of chk13 rfl rfl (vc_sound _ _ _ ?_) rfl
  refine vc_seq ?_
  refine vc_reg (S := ⟨[(1, iv a1_), (2, iv a2_), (3, .loc 3 0)], [(3, (c_api_Gates a0_))], []⟩) (APath.fin (by kernel_rfl)) (by kernel_rfl) ?_
  refine vc_seq ?_
  obtain ⟨r1, hr1, h⟩ := bind_some h
  refine vc_reg (S := ⟨[(1, iv a1_), (2, iv a2_), (3, .loc 3 0), (8, iv r1)], [(3, (c_api_Gates a0_))], []⟩) (APath.chunk 3 (by kernel_rfl) (APath.one (.call (some 12) 27 [.t 9, .t 10, .t 11]) (by kernel_rfl) (st_call (by kernel_rfl) (ref30_args_ok N a0_ a1_ a2_ r1 hr1)) (APath.fin (by kernel_rfl)))) (by kernel_rfl) ?_
  refine vc_seq ?_
  refine vc_seq ?_
  refine vc_reg (S := ⟨[(1, iv a1_), (2, iv a2_), (3, .loc 3 0), (8, iv r1), (14, bv (r1 != 0))], [(3, (c_api_Gates a0_))], []⟩) (APath.fin (by kernel_rfl)) (by kernel_rfl) ?_
  refine vc_ite (by kernel_rfl) h (fun hc2 h => ?_) (fun hc2 h => ?_)
  · refine vc_seq ?_
    refine vc_reg (S := ⟨[(6, iv 0), (7, iv r1)], [], []⟩) (APath.fin (by kernel_rfl)) (by kernel_rfl) ?_
    refine vc_ret ?_
    obtain rfl := some_inj h
    exact ret_of (by kernel_rfl)
  · refine vc_skip ?_
    refine vc_kp ?_
    refine vc_seq ?_
    obtain ⟨r3, hr3, h⟩ := bind_some h
    refine vc_reg (S := ⟨[(6, iv r3), (7, iv 0)], [], []⟩) (APath.chunk 3 (by kernel_rfl) (APath.one (.call (some 19) 28 [.t 16, .t 17, .t 18]) (by kernel_rfl) (st_call (by kernel_rfl) (ref30_Gives_ok N a0_ a1_ a2_ r3 hr3)) (APath.fin (by kernel_rfl)))) (by kernel_rfl) ?_
    refine vc_ret ?_
    obtain rfl := some_inj h
    exact ret_of (by kernel_rfl)
/- service.Of -/
theorem service_Of_ok (N : Nat) (a0_ : api_Gates) (a1_ : Int) (a2_ : Int) (r : api_Serve × Int) (h : service_Of N a0_ a1_ a2_ = some r) : PCall Try.prog 17 [.agg (c_api_Gates a0_), iv a1_, iv a2_] (.tup [.agg [iv r.1.Rate, iv r.1.Latency], iv r.2]) := by
  unfold service_Of at h
  have hH : HP ([] : List HO) [] := trivial
  refine pcall_of chk17 rfl rfl (vc_sound _ _ _ ?_) rfl
  refine vc_seq ?_
  obtain ⟨id1, H2, hid1, hH2, hH⟩ := HP.newCell hH [iv a1_]
  replace hH : HP H2 [.cel id1 [iv a1_]] := hH
  refine vc_reg (S := ⟨[(2, iv a2_), (3, .loc 3 0), (4, .ptr id1 0), (6, .loc 6 0)], [(3, (c_api_Gates a0_)), (6, [iv 0, iv 0])], H2⟩) (APath.chunk 1 (by kernel_rfl) (APath.one (.boxH 4 (.t 1)) (by kernel_rfl) (st_boxH (H := []) (v := iv a1_) (by kernel_rfl) (by kernel_rfl) (by kernel_rfl) hid1 hH2) (APath.fin (by kernel_rfl)))) (by kernel_rfl) ?_
  refine vc_seq ?_
  refine vc_seq ?_
  have hlc3 := HP.get hH 0 rfl
  obtain ⟨r4, hr4, h⟩ := bind_some h
  refine vc_reg (S := ⟨[(2, iv a2_), (3, .loc 3 0), (4, .ptr id1 0), (6, .loc 6 0), (8, iv r4)], [(3, (c_api_Gates a0_)), (6, [iv 0, iv 0])], H2⟩) (APath.chunk 1 (by kernel_rfl) (APath.one (.load 14 (.t 4) 1 false) (by kernel_rfl) (st_loadC (H := H2) (id := id1) (off := 0) (cs := [iv a1_]) (c := [iv a1_]) (r := iv a1_) (by kernel_rfl) (by kernel_rfl) hlc3 (by kernel_rfl) (by kernel_rfl) (by kernel_rfl)) (APath.chunk 1 (by kernel_rfl) (APath.one (.call (some 16) 25 [.t 13, .t 14, .t 15]) (by kernel_rfl) (st_call (by kernel_rfl) (service_check_ok N a0_ a1_ a2_ r4 hr4)) (APath.fin (by kernel_rfl)))))) (by kernel_rfl) ?_
  refine vc_seq ?_
  refine vc_reg (S := ⟨[(2, iv a2_), (3, .loc 3 0), (4, .ptr id1 0), (6, .loc 6 0), (8, iv r4), (18, bv (r4 != 0))], [(3, (c_api_Gates a0_)), (6, [iv 0, iv 0])], H2⟩) (APath.fin (by kernel_rfl)) (by kernel_rfl) ?_
  refine vc_ite (by kernel_rfl) h (fun hc5 h => ?_) (fun hc5 h => ?_)
  · refine vc_seq ?_
    refine vc_reg (S := ⟨[(6, .loc 6 0), (7, iv r4)], [(6, [iv 0, iv 0])], H2⟩) (APath.fin (by kernel_rfl)) (by kernel_rfl) ?_
    replace hH : HP H2 [] := HP.pick hH [] rfl
    refine vc_ret ?_
    obtain rfl := some_inj h
    exact ret_of (by kernel_rfl)
  · refine vc_skip ?_
    refine vc_kp ?_
    refine vc_seq ?_
    have hlc6 := HP.get hH 0 rfl
    refine vc_reg (S := ⟨[(3, .loc 3 0), (4, .ptr id1 0), (6, .loc 6 0), (9, iv (w64 (a2_ * a1_)))], [(3, (c_api_Gates a0_)), (6, [iv 0, iv 0])], H2⟩) (APath.chunk 1 (by kernel_rfl) (APath.one (.load 22 (.t 4) 1 false) (by kernel_rfl) (st_loadC (H := H2) (id := id1) (off := 0) (cs := [iv a1_]) (c := [iv a1_]) (r := iv a1_) (by kernel_rfl) (by kernel_rfl) hlc6 (by kernel_rfl) (by kernel_rfl) (by kernel_rfl)) (APath.fin (by kernel_rfl)))) (by kernel_rfl) ?_
    refine vc_seq ?_
    obtain ⟨r7, hr7, h⟩ := bind_some h
    have hlc8 := HP.get hH 0 rfl
    obtain ⟨q9, hq9, h⟩ := bind_some h
    obtain ⟨id10, H11, hid10, hH11, hH⟩ := HP.newCell hH [iv 0]
    replace hH : HP H11 [.cel id10 [iv 0], .cel id1 [iv a1_]] := hH
    obtain ⟨H12, hH12, hH⟩ := HP.setCell (k := 0) (off := 0) (cs := [iv 0]) (vs := [iv q9]) (cs' := [iv q9]) hH rfl (by kernel_rfl)
    replace hH : HP H12 [.cel id10 [iv q9], .cel id1 [iv a1_]] := hH
    refine vc_regD (S := ⟨[(3, .loc 3 0), (4, .ptr id1 0), (6, .loc 6 0), (9, iv (w64 (a2_ * a1_))), (10, .ptr id10 0)], [(3, (c_api_Gates a0_)), (6, [iv 0, iv 0])], H12⟩) (by kernel_rfl) (APath.chunk 2 (by kernel_rfl) (APath.one (.callP 26 26 [.t 24, .t 25]) (by kernel_rfl) (st_callP (by kernel_rfl) (service_yieldOf_ok N a0_ (w64 (a2_ * a1_)) r7 hr7)) (APath.chunk 3 (by kernel_rfl) (APath.one (.load 30 (.t 4) 1 false) (by kernel_rfl) (st_loadC (H := H2) (id := id1) (off := 0) (cs := [iv a1_]) (c := [iv a1_]) (r := iv a1_) (by kernel_rfl) (by kernel_rfl) hlc8 (by kernel_rfl) (by kernel_rfl) (by kernel_rfl)) (APath.chunk 1 (by kernel_rfl) (APath.one (.val 32 (.bin .quo) [.t 27, .t 31]) (by kernel_rfl) (st_val (ys := [iv (w64 (r7 * 1048576)), iv (w64 (a0_.Cycle * a1_))]) (by kernel_rfl) (vexec_quo hq9)) (APath.one (.newH 10 [.p (.int .i64 0)]) (by kernel_rfl) (st_newH (H := H2) (by kernel_rfl) hid10 hH11) (APath.one (.store (.t 10) (.t 32) 1) (by kernel_rfl) (st_storeH (H := H11) (v := iv q9) (by kernel_rfl) (by kernel_rfl) (by kernel_rfl) (by kernel_rfl) hH12) APath.done)))))))) (by kernel_rfl) ?_
    refine vc_seq ?_
    refine vc_seq ?_
    have hlc13 := HP.get hH 0 rfl
    refine vc_reg (S := ⟨[(3, .loc 3 0), (4, .ptr id1 0), (6, .loc 6 0), (9, iv (w64 (a2_ * a1_))), (10, .ptr id10 0), (34, bv (decide (q9 < 1)))], [(3, (c_api_Gates a0_)), (6, [iv 0, iv 0])], H12⟩) (APath.one (.load 33 (.t 10) 1 false) (by kernel_rfl) (st_loadC (H := H12) (id := id10) (off := 0) (cs := [iv q9]) (c := [iv q9]) (r := iv q9) (by kernel_rfl) (by kernel_rfl) hlc13 (by kernel_rfl) (by kernel_rfl) (by kernel_rfl)) (APath.fin (by kernel_rfl))) (by kernel_rfl) ?_
    refine vc_ite (by kernel_rfl) h (fun hc14 h => ?_) (fun hc14 h => ?_)
    · refine vc_seq ?_
      refine vc_reg (S := ⟨[(6, .loc 6 0), (7, iv 4)], [(6, [iv 0, iv 0])], H12⟩) (APath.fin (by kernel_rfl)) (by kernel_rfl) ?_
      replace hH : HP H12 [] := HP.pick hH [] rfl
      refine vc_ret ?_
      obtain rfl := some_inj h
      exact ret_of (by kernel_rfl)
    · refine vc_skip ?_
      refine vc_kp ?_
      refine vc_seq ?_
      obtain ⟨id15, H16, hid15, hH16, hH⟩ := HP.newCell hH [iv 0]
      replace hH : HP H16 [.cel id15 [iv 0], .cel id10 [iv q9], .cel id1 [iv a1_]] := hH
      obtain ⟨H17, hH17, hH⟩ := HP.setCell (k := 0) (off := 0) (cs := [iv 0]) (vs := [iv 0]) (cs' := [iv 0]) hH rfl (by kernel_rfl)
      replace hH : HP H17 [.cel id15 [iv 0], .cel id10 [iv q9], .cel id1 [iv a1_]] := hH
      refine vc_reg (S := ⟨[(3, .loc 3 0), (4, .ptr id1 0), (6, .loc 6 0), (9, iv (w64 (a2_ * a1_))), (10, .ptr id10 0), (11, .ptr id15 0)], [(3, (c_api_Gates a0_)), (6, [iv 0, iv 0])], H17⟩) (APath.one (.newH 11 [.p (.int .i64 0)]) (by kernel_rfl) (st_newH (H := H12) (by kernel_rfl) hid15 hH16) (APath.one (.store (.t 11) (.k (.p (.int .i64 0))) 1) (by kernel_rfl) (st_storeH (H := H16) (v := iv 0) (by kernel_rfl) (by kernel_rfl) (by kernel_rfl) (by kernel_rfl) hH17) APath.done)) (by kernel_rfl) ?_
      refine vc_seq ?_
      obtain ⟨id18, H19, hid18, hH19, hH⟩ := HP.newCell hH [.nl .nilFunc]
      replace hH : HP H19 [.cel id18 [.nl .nilFunc], .cel id15 [iv 0], .cel id10 [iv q9], .cel id1 [iv a1_]] := hH
      obtain ⟨H20, hH20, hH⟩ := HP.setCell (k := 0) (off := 0) (cs := [.nl .nilFunc]) (vs := [.fn 34 [] [.ptr id15 0, .ptr id10 0, .ptr id1 0]]) (cs' := [.fn 34 [] [.ptr id15 0, .ptr id10 0, .ptr id1 0]]) hH rfl (by kernel_rfl)
      replace hH : HP H20 [.cel id18 [.fn 34 [] [.ptr id15 0, .ptr id10 0, .ptr id1 0]], .cel id15 [iv 0], .cel id10 [iv q9], .cel id1 [iv a1_]] := hH
      refine vc_reg (S := ⟨[(3, .loc 3 0), (4, .ptr id1 0), (6, .loc 6 0), (9, iv (w64 (a2_ * a1_))), (10, .ptr id10 0), (11, .ptr id15 0), (12, .ptr id18 0)], [(3, (c_api_Gates a0_)), (6, [iv 0, iv 0])], H20⟩) (APath.chunk 1 (by kernel_rfl) (APath.one (.newH 12 [.nl .nilFunc]) (by kernel_rfl) (st_newH (H := H17) (by kernel_rfl) hid18 hH19) (APath.one (.store (.t 12) (.t 36) 1) (by kernel_rfl) (st_storeH (H := H19) (v := .fn 34 [] [.ptr id15 0, .ptr id10 0, .ptr id1 0]) (by kernel_rfl) (by kernel_rfl) (by kernel_rfl) (by kernel_rfl) hH20) APath.done))) (by kernel_rfl) ?_
      refine vc_seq ?_
      have hlc21 := HP.get hH 0 rfl
      have hlc22 := HP.get hH 3 rfl
      obtain ⟨r23, hr23, h⟩ := bind_some h
      obtain ⟨H24, hvr23, hpr23⟩ := service_Of_1_ok N 0 (w64 ((-127) * a1_)) 0 q9 a1_ id15 id10 id1 H20 (HP.now (HP.pick hH [1, 2, 3] rfl)) r23 hr23
      replace hH : HP H24 [.cel id15 [iv r23], .cel id10 [iv q9], .cel id1 [iv a1_], .cel id18 [.fn 34 [] [.ptr id15 0, .ptr id10 0, .ptr id1 0]]] := HP.callee (fp := [.cel id15 [iv 0], .cel id10 [iv q9], .cel id1 [iv a1_]]) (rest := [.cel id18 [.fn 34 [] [.ptr id15 0, .ptr id10 0, .ptr id1 0]]]) (HP.pick hH [1, 2, 3, 0] rfl) hpr23
      refine vc_reg (S := ⟨[(3, .loc 3 0), (4, .ptr id1 0), (6, .loc 6 0), (9, iv (w64 (a2_ * a1_))), (10, .ptr id10 0), (11, .ptr id15 0), (12, .ptr id18 0)], [(3, (c_api_Gates a0_)), (6, [iv 0, iv 0])], H24⟩) (APath.one (.load 37 (.t 12) 1 false) (by kernel_rfl) (st_loadC (H := H20) (id := id18) (off := 0) (cs := [.fn 34 [] [.ptr id15 0, .ptr id10 0, .ptr id1 0]]) (c := [.fn 34 [] [.ptr id15 0, .ptr id10 0, .ptr id1 0]]) (r := .fn 34 [] [.ptr id15 0, .ptr id10 0, .ptr id1 0]) (by kernel_rfl) (by kernel_rfl) hlc21 (by kernel_rfl) (by kernel_rfl) (by kernel_rfl)) (APath.one (.load 38 (.t 4) 1 false) (by kernel_rfl) (st_loadC (H := H20) (id := id1) (off := 0) (cs := [iv a1_]) (c := [iv a1_]) (r := iv a1_) (by kernel_rfl) (by kernel_rfl) hlc22 (by kernel_rfl) (by kernel_rfl) (by kernel_rfl)) (APath.chunk 1 (by kernel_rfl) (APath.one (.callV (some 40) (.t 37) [.k (.p (.int .i64 0)), .t 39]) (by kernel_rfl) (st_callV (H := H20) (fv := .fn 34 [] [.ptr id15 0, .ptr id10 0, .ptr id1 0]) (ys := [iv 0, iv (w64 ((-127) * a1_))]) (by kernel_rfl) (by kernel_rfl) (by kernel_rfl) (VCall.of (by kernel_rfl) hvr23)) APath.done)))) (by kernel_rfl) ?_
      refine vc_seq ?_
      obtain ⟨r533, hr533, h⟩ := bind_some h
      have hyy532 : ∀ (x26 : Int) (x27 : Int) (s : Int) (r : ((Int))) (H : List HO) (its : List Thing), (fun (s : Int) (its : List Thing) => its = [.cel id15 [iv s], .cel id10 [iv q9], .cel id1 [iv a1_], .cel id18 [.fn 34 [] [.ptr id15 0, .ptr id10 0, .ptr id1 0]]]) s its → HP H its → (fun (s : Int) (x26 : Int) (x27 : Int) => service_Of_K1 N a1_ q9 s x26 x27) s x26 x27 = some r → ∃ H' its', VCall Try.prog (.fn 37 [] [.ptr id18 0, .ptr id1 0]) [iv x26, iv x27] H (.tup []) H' ∧ (fun (s : Int) (its : List Thing) => its = [.cel id15 [iv s], .cel id10 [iv q9], .cel id1 [iv a1_], .cel id18 [.fn 34 [] [.ptr id15 0, .ptr id10 0, .ptr id1 0]]]) r its' ∧ Fp H H' its its' := by
        clear h
        intro x26 x27 s q H25 its hT hH h
        obtain ⟨i28, rfl⟩ : ∃ v, v = s := ⟨s, rfl⟩
        obtain rfl := hT
        replace h : service_Of_K1 N a1_ q9 i28 x26 x27 = some q := h
        unfold service_Of_K1 at h
        replace hH : Fp H25 H25 [.cel id15 [iv i28], .cel id10 [iv q9], .cel id1 [iv a1_], .cel id18 [.fn 34 [] [.ptr id15 0, .ptr id10 0, .ptr id1 0]]] [.cel id15 [iv i28], .cel id10 [iv q9], .cel id1 [iv a1_], .cel id18 [.fn 34 [] [.ptr id15 0, .ptr id10 0, .ptr id1 0]]] := Fp.refl hH
        suffices hs : ∃ H', ACall Try.prog 37 [iv x26, iv x27, .ptr id18 0, .ptr id1 0] H25 (.tup []) H' ∧ ∃ its', (fun (s : Int) (its : List Thing) => its = [.cel id15 [iv s], .cel id10 [iv q9], .cel id1 [iv a1_], .cel id18 [.fn 34 [] [.ptr id15 0, .ptr id10 0, .ptr id1 0]]]) q its' ∧ Fp H25 H' [.cel id15 [iv i28], .cel id10 [iv q9], .cel id1 [iv a1_], .cel id18 [.fn 34 [] [.ptr id15 0, .ptr id10 0, .ptr id1 0]]] its' by
          obtain ⟨H', h1, its', h2, h3⟩ := hs
          exact ⟨H', its', VCall.of (by kernel_rfl) h1, h2, h3⟩
        refine acall_det chk37 (fun H' => ∃ its', (fun (s : Int) (its : List Thing) => its = [.cel id15 [iv s], .cel id10 [iv q9], .cel id1 [iv a1_], .cel id18 [.fn 34 [] [.ptr id15 0, .ptr id10 0, .ptr id1 0]]]) q its' ∧ Fp H25 H' [.cel id15 [iv i28], .cel id10 [iv q9], .cel id1 [iv a1_], .cel id18 [.fn 34 [] [.ptr id15 0, .ptr id10 0, .ptr id1 0]]] its') rfl rfl rfl ?_
        show vc _ _ _ _ ⟨[(0, iv x26), (1, iv x27), (2, .ptr id18 0), (3, .ptr id1 0)], [], H25⟩
        have hlc528 := Fp.get hH 3 rfl
        have hlc529 := Fp.get hH 2 rfl
        obtain ⟨r530, hr530, h⟩ := bind_some h
        obtain ⟨H531, hvr530, hpr530⟩ := service_Of_1_ok N x26 (w64 (x27 - (w64 (127 * a1_)))) i28 q9 a1_ id15 id10 id1 H25 (Fp.now (Fp.pick hH [0, 1, 2] rfl)) r530 hr530
        replace hH : Fp H25 H531 [.cel id15 [iv i28], .cel id10 [iv q9], .cel id1 [iv a1_], .cel id18 [.fn 34 [] [.ptr id15 0, .ptr id10 0, .ptr id1 0]]] [.cel id15 [iv r530], .cel id10 [iv q9], .cel id1 [iv a1_], .cel id18 [.fn 34 [] [.ptr id15 0, .ptr id10 0, .ptr id1 0]]] := Fp.callee (fp := [.cel id15 [iv i28], .cel id10 [iv q9], .cel id1 [iv a1_]]) (rest := [.cel id18 [.fn 34 [] [.ptr id15 0, .ptr id10 0, .ptr id1 0]]]) (Fp.pick hH [0, 1, 2, 3] rfl) hpr530
        refine vc_reg (S := ⟨[], [], H531⟩) (APath.one (.load 6 (.t 2) 1 false) (by kernel_rfl) (st_loadC (H := H25) (id := id18) (off := 0) (cs := [.fn 34 [] [.ptr id15 0, .ptr id10 0, .ptr id1 0]]) (c := [.fn 34 [] [.ptr id15 0, .ptr id10 0, .ptr id1 0]]) (r := .fn 34 [] [.ptr id15 0, .ptr id10 0, .ptr id1 0]) (by kernel_rfl) (by kernel_rfl) hlc528 (by kernel_rfl) (by kernel_rfl) (by kernel_rfl)) (APath.chunk 2 (by kernel_rfl) (APath.one (.load 9 (.t 3) 1 false) (by kernel_rfl) (st_loadC (H := H25) (id := id1) (off := 0) (cs := [iv a1_]) (c := [iv a1_]) (r := iv a1_) (by kernel_rfl) (by kernel_rfl) hlc529 (by kernel_rfl) (by kernel_rfl) (by kernel_rfl)) (APath.chunk 2 (by kernel_rfl) (APath.one (.callV (some 12) (.t 6) [.t 7, .t 11]) (by kernel_rfl) (st_callV (H := H25) (fv := .fn 34 [] [.ptr id15 0, .ptr id10 0, .ptr id1 0]) (ys := [iv x26, iv (w64 (x27 - (w64 (127 * a1_))))]) (by kernel_rfl) (by kernel_rfl) (by kernel_rfl) (VCall.of (by kernel_rfl) hvr530)) APath.done))))) (by kernel_rfl) ?_
        obtain rfl := some_inj h
        exact ⟨[], (by kernel_rfl), (by kernel_rfl), _, (Eq.refl _), (Fp.pick hH [0, 1, 2, 3] rfl)⟩
      obtain ⟨H534, itsr533, hvr533, hTr533, hFr533⟩ := service_gaps_ok N a0_ (w64 (a2_ * a1_)) (fun (s : Int) (x26 : Int) (x27 : Int) => service_Of_K1 N a1_ q9 s x26 x27) r23 37 [] [.ptr id18 0, .ptr id1 0] (by kernel_rfl) (fun (s : Int) (its : List Thing) => its = [.cel id15 [iv s], .cel id10 [iv q9], .cel id1 [iv a1_], .cel id18 [.fn 34 [] [.ptr id15 0, .ptr id10 0, .ptr id1 0]]]) hyy532 H24 [.cel id15 [iv r23], .cel id10 [iv q9], .cel id1 [iv a1_], .cel id18 [.fn 34 [] [.ptr id15 0, .ptr id10 0, .ptr id1 0]]] (by exact (Eq.refl _)) (HP.now (HP.pick hH [0, 1, 2, 3] rfl)) r533 hr533
      obtain rfl := hTr533
      replace hH : HP H534 [.cel id15 [iv r533], .cel id10 [iv q9], .cel id1 [iv a1_], .cel id18 [.fn 34 [] [.ptr id15 0, .ptr id10 0, .ptr id1 0]]] := HP.callee (fp := [.cel id15 [iv r23], .cel id10 [iv q9], .cel id1 [iv a1_], .cel id18 [.fn 34 [] [.ptr id15 0, .ptr id10 0, .ptr id1 0]]]) (rest := []) (HP.pick hH [0, 1, 2, 3] rfl) hFr533
      refine vc_reg (S := ⟨[(6, .loc 6 0), (10, .ptr id10 0), (11, .ptr id15 0)], [(6, [iv 0, iv 0])], H534⟩) (APath.chunk 3 (by kernel_rfl) (APath.one (.call (some 44) 36 [.t 41, .t 42, .t 43]) (by kernel_rfl) (st_callH (H := H24) (ys := [.agg (c_api_Gates a0_), iv (w64 (a2_ * a1_)), .fn 37 [] [.ptr id18 0, .ptr id1 0]]) (by kernel_rfl) (by kernel_rfl) (by kernel_rfl) hvr533) APath.done)) (by kernel_rfl) ?_
      replace hH : HP H534 [.cel id15 [iv r533], .cel id10 [iv q9]] := HP.pick hH [0, 1] rfl
      refine vc_seq ?_
      have hlc535 := HP.get hH 1 rfl
      have hlc536 := HP.get hH 0 rfl
      refine vc_reg (S := ⟨[(6, .loc 6 0), (7, iv 0)], [(6, [iv q9, iv r533])], H534⟩) (APath.one (.load 45 (.t 10) 1 false) (by kernel_rfl) (st_loadC (H := H534) (id := id10) (off := 0) (cs := [iv q9]) (c := [iv q9]) (r := iv q9) (by kernel_rfl) (by kernel_rfl) hlc535 (by kernel_rfl) (by kernel_rfl) (by kernel_rfl)) (APath.one (.load 46 (.t 11) 1 false) (by kernel_rfl) (st_loadC (H := H534) (id := id15) (off := 0) (cs := [iv r533]) (c := [iv r533]) (r := iv r533) (by kernel_rfl) (by kernel_rfl) hlc536 (by kernel_rfl) (by kernel_rfl) (by kernel_rfl)) (APath.fin (by kernel_rfl)))) (by kernel_rfl) ?_
      replace hH : HP H534 [] := HP.pick hH [] rfl
      refine vc_ret ?_
      obtain rfl := some_inj h
      exact ret_of (by kernel_rfl)
/- isochronref30.Of -/
theorem ref30_Of_ok (N : Nat) (a0_ : api_Gates) (a1_ : Int) (a2_ : Int) (r : api_Serve × Int) (h : ref30_Of N a0_ a1_ a2_ = some r) : PCall Try.prog 18 [.agg (c_api_Gates a0_), iv a1_, iv a2_] (.tup [.agg [iv r.1.Rate, iv r.1.Latency], iv r.2]) := by
  unfold ref30_Of at h
  have hH : HP ([] : List HO) [] := trivial
  refine pcall_of chk18 rfl rfl (vc_sound _ _ _ ?_) rfl
  refine vc_seq ?_
  refine vc_reg (S := ⟨[(1, iv a1_), (2, iv a2_), (3, .loc 3 0), (6, .loc 6 0)], [(3, (c_api_Gates a0_)), (6, [iv 0, iv 0])], []⟩) (APath.fin (by kernel_rfl)) (by kernel_rfl) ?_
  refine vc_seq ?_
  obtain ⟨r1, hr1, h⟩ := bind_some h
  refine vc_reg (S := ⟨[(1, iv a1_), (2, iv a2_), (3, .loc 3 0), (6, .loc 6 0), (8, iv r1)], [(3, (c_api_Gates a0_)), (6, [iv 0, iv 0])], []⟩) (APath.chunk 3 (by kernel_rfl) (APath.one (.call (some 20) 27 [.t 17, .t 18, .t 19]) (by kernel_rfl) (st_call (by kernel_rfl) (ref30_args_ok N a0_ a1_ a2_ r1 hr1)) (APath.fin (by kernel_rfl)))) (by kernel_rfl) ?_
  refine vc_seq ?_
  refine vc_seq ?_
  refine vc_reg (S := ⟨[(1, iv a1_), (2, iv a2_), (3, .loc 3 0), (6, .loc 6 0), (8, iv r1), (22, bv (r1 != 0))], [(3, (c_api_Gates a0_)), (6, [iv 0, iv 0])], []⟩) (APath.fin (by kernel_rfl)) (by kernel_rfl) ?_
  refine vc_ite (by kernel_rfl) h (fun hc2 h => ?_) (fun hc2 h => ?_)
  · refine vc_seq ?_
    refine vc_reg (S := ⟨[(6, .loc 6 0), (7, iv r1)], [(6, [iv 0, iv 0])], []⟩) (APath.fin (by kernel_rfl)) (by kernel_rfl) ?_
    refine vc_ret ?_
    obtain rfl := some_inj h
    exact ret_of (by kernel_rfl)
  · refine vc_skip ?_
    refine vc_kp ?_
    refine vc_seq ?_
    obtain ⟨r3, hr3, h⟩ := bind_some h
    obtain ⟨q4, hq4, h⟩ := bind_some h
    refine vc_regD (S := ⟨[(1, iv a1_), (2, iv a2_), (3, .loc 3 0), (6, .loc 6 0), (9, iv q4)], [(3, (c_api_Gates a0_)), (6, [iv 0, iv 0])], []⟩) (by kernel_rfl) (APath.chunk 3 (by kernel_rfl) (APath.one (.callP 28 28 [.t 25, .t 26, .t 27]) (by kernel_rfl) (st_callP (by kernel_rfl) (ref30_Gives_ok N a0_ a1_ a2_ r3 hr3)) (APath.chunk 5 (by kernel_rfl) (APath.one (.val 34 (.bin .quo) [.t 29, .t 33]) (by kernel_rfl) (st_val (ys := [iv (w64 (r3 * 1048576)), iv (w64 (a0_.Cycle * a1_))]) (by kernel_rfl) (vexec_quo hq4)) (APath.fin (by kernel_rfl)))))) (by kernel_rfl) ?_
    refine vc_seq ?_
    refine vc_seq ?_
    refine vc_reg (S := ⟨[(1, iv a1_), (2, iv a2_), (3, .loc 3 0), (6, .loc 6 0), (9, iv q4), (36, bv (decide (q4 < 1)))], [(3, (c_api_Gates a0_)), (6, [iv 0, iv 0])], []⟩) (APath.fin (by kernel_rfl)) (by kernel_rfl) ?_
    refine vc_ite (by kernel_rfl) h (fun hc5 h => ?_) (fun hc5 h => ?_)
    · refine vc_seq ?_
      refine vc_reg (S := ⟨[(6, .loc 6 0), (7, iv 4)], [(6, [iv 0, iv 0])], []⟩) (APath.fin (by kernel_rfl)) (by kernel_rfl) ?_
      refine vc_ret ?_
      obtain rfl := some_inj h
      exact ret_of (by kernel_rfl)
    · refine vc_skip ?_
      refine vc_kp ?_
      refine vc_seq ?_
      refine vc_reg (S := ⟨[(1, iv a1_), (2, iv a2_), (3, .loc 3 0), (6, .loc 6 0), (9, iv q4), (10, iv (w64 ((w64 (127 * a1_)) * 1048576)))], [(3, (c_api_Gates a0_)), (6, [iv 0, iv 0])], []⟩) (APath.fin (by kernel_rfl)) (by kernel_rfl) ?_
      obtain ⟨j506, hj506, h⟩ := bind_some h
      refine vc_joinK [1, 6, 9, 10] (fun s => s = ⟨[(1, iv a1_), (6, .loc 6 0), (9, iv q4), (10, iv j506)], [(6, [iv 0, iv 0])], []⟩) ?_ ?_
      · clear h
        have h := hj506
        refine vc_seq ?_
        obtain ⟨r507, hr507, h⟩ := bind_some h
        refine vc_reg (S := ⟨[(1, iv a1_), (2, iv a2_), (3, .loc 3 0), (6, .loc 6 0), (9, iv q4), (10, iv (w64 ((w64 (127 * a1_)) * 1048576))), (43, bv (!r507))], [(3, (c_api_Gates a0_)), (6, [iv 0, iv 0])], []⟩) (APath.chunk 1 (by kernel_rfl) (APath.one (.call (some 42) 38 [.t 41]) (by kernel_rfl) (st_call (by kernel_rfl) (ref30_Always_ok N a0_ r507 hr507)) (APath.fin (by kernel_rfl)))) (by kernel_rfl) ?_
        refine vc_ite (by kernel_rfl) h (fun hc508 h => ?_) (fun hc508 h => ?_)
        · refine vc_seq ?_
          obtain ⟨r509, hr509, h⟩ := bind_some h
          refine vc_reg (S := ⟨[(1, iv a1_), (2, iv a2_), (3, .loc 3 0), (6, .loc 6 0), (9, iv q4), (10, iv (w64 ((w64 (127 * a1_)) * 1048576))), (11, s_e_ref30_Opening false r509)], [(3, (c_api_Gates a0_)), (6, [iv 0, iv 0])], []⟩) (APath.chunk 1 (by kernel_rfl) (APath.one (.call (some 45) 39 [.t 44]) (by kernel_rfl) (st_call (by kernel_rfl) (ref30_Round_ok N a0_ r509 hr509)) (APath.fin (by kernel_rfl)))) (by kernel_rfl) ?_
          refine vc_seq ?_
          refine vc_reg (S := ⟨[(1, iv a1_), (2, iv a2_), (3, .loc 3 0), (6, .loc 6 0), (9, iv q4), (10, iv (w64 ((w64 (127 * a1_)) * 1048576))), (11, s_e_ref30_Opening false r509), (12, iv 0)], [(3, (c_api_Gates a0_)), (6, [iv 0, iv 0])], []⟩) (APath.fin (by kernel_rfl)) (by kernel_rfl) ?_
          refine vc_block ?_
          obtain ⟨o2026, ho2026, h⟩ := bind_some h
          refine vc_loop ((loop_sim (fun (x : Int × Int) s => s = ⟨[(1, iv a1_), (2, iv a2_), (3, .loc 3 0), (6, .loc 6 0), (9, iv q4), (10, iv x.1), (11, s_e_ref30_Opening false r509), (12, iv x.2)], [(3, (c_api_Gates a0_)), (6, [iv 0, iv 0])], []⟩) (fun x : Int × Int => ref30_Of_L1 N a0_ a1_ a2_ q4 r509 x.1 x.2) (fun (p : Int × Int) e s => e = .exit 0 ∧ (s = ⟨[(1, iv a1_), (2, iv a2_), (3, .loc 3 0), (6, .loc 6 0), (9, iv q4), (10, iv p.1), (11, s_e_ref30_Opening false r509), (12, iv p.2)], [(3, (c_api_Gates a0_)), (6, [iv 0, iv 0])], []⟩)) ?_ N _ o2026 _ ho2026 (by show _ = _; kernel_rfl)).mono ?_)
          · clear h ho2026
            rintro ⟨i510, i511⟩ o s h hR
            obtain rfl := hR
            replace h : ref30_Of_L1 N a0_ a1_ a2_ q4 r509 i510 i511 = some o := h
            unfold ref30_Of_L1 at h
            refine vc_seq ?_
            refine vc_seq ?_
            refine vc_reg (S := ⟨[(1, iv a1_), (2, iv a2_), (3, .loc 3 0), (6, .loc 6 0), (9, iv q4), (10, iv i510), (11, s_e_ref30_Opening false r509), (12, iv i511), (49, bv (decide (i511 < ((List.length r509 : Nat) : Int))))], [(3, (c_api_Gates a0_)), (6, [iv 0, iv 0])], []⟩) (APath.chunk 2 (by kernel_rfl) (APath.one (.val 48 .len [.t 47]) (by kernel_rfl) (st_val (ys := [s_e_ref30_Opening false r509]) (by kernel_rfl) (vexec_len e_ref30_Opening)) (APath.fin (by kernel_rfl)))) (by kernel_rfl) ?_
            refine vc_ite (by kernel_rfl) h (fun hc1012 h => ?_) (fun hc1012 h => ?_)
            · refine vc_skip ?_
              refine vc_kp ?_
              refine vc_seq ?_
              refine vc_block ?_
              refine vc_seq ?_
              obtain ⟨e1013, he1013, h⟩ := bind_some h
              obtain ⟨e1014, he1014, h⟩ := bind_some h
              obtain ⟨e1015, he1015, h⟩ := bind_some h
              refine vc_regD (S := ⟨[(1, iv a1_), (2, iv a2_), (3, .loc 3 0), (6, .loc 6 0), (9, iv q4), (10, iv i510), (11, s_e_ref30_Opening false r509), (12, iv i511), (13, iv (w64 (e1013.End - (if (w64 (a2_ * a1_)) < (w64 (e1014.End - e1015.Begin)) then (w64 (a2_ * a1_)) else (w64 (e1014.End - e1015.Begin))))))], [(3, (c_api_Gates a0_)), (6, [iv 0, iv 0])], []⟩) (by kernel_rfl) (APath.chunk 2 (by kernel_rfl) (APath.one (.val 54 (.iaddrS 2) [.t 52, .t 53]) (by kernel_rfl) (st_val (ys := [s_e_ref30_Opening false r509, iv i511]) (by kernel_rfl) (vexec_iaddrS e_ref30_Opening he1013)) (APath.chunk 1 (by kernel_rfl) (APath.one (.load 56 (.t 55) 1 false) (by kernel_rfl) (st_loadP (sz := 2) (off := 1) (cs := [.int .i64 e1013.End]) (r := iv e1013.End) e_ref30_Opening he1013 (by kernel_rfl) (by kernel_rfl) (by kernel_rfl)) (APath.chunk 2 (by kernel_rfl) (APath.one (.val 59 (.iaddrS 2) [.t 57, .t 58]) (by kernel_rfl) (st_val (ys := [s_e_ref30_Opening false r509, iv i511]) (by kernel_rfl) (vexec_iaddrS e_ref30_Opening he1014)) (APath.chunk 1 (by kernel_rfl) (APath.one (.load 61 (.t 60) 1 false) (by kernel_rfl) (st_loadP (sz := 2) (off := 1) (cs := [.int .i64 e1014.End]) (r := iv e1014.End) e_ref30_Opening he1014 (by kernel_rfl) (by kernel_rfl) (by kernel_rfl)) (APath.chunk 2 (by kernel_rfl) (APath.one (.val 64 (.iaddrS 2) [.t 62, .t 63]) (by kernel_rfl) (st_val (ys := [s_e_ref30_Opening false r509, iv i511]) (by kernel_rfl) (vexec_iaddrS e_ref30_Opening he1015)) (APath.chunk 1 (by kernel_rfl) (APath.one (.load 66 (.t 65) 1 false) (by kernel_rfl) (st_loadP (sz := 2) (off := 0) (cs := [.int .i64 e1015.Begin]) (r := iv e1015.Begin) e_ref30_Opening he1015 (by kernel_rfl) (by kernel_rfl) (by kernel_rfl)) (APath.fin (by kernel_rfl)))))))))))))) (by kernel_rfl) ?_
              refine vc_seq ?_
              refine vc_reg (S := ⟨[(1, iv a1_), (2, iv a2_), (3, .loc 3 0), (6, .loc 6 0), (9, iv q4), (10, iv i510), (11, s_e_ref30_Opening false r509), (12, iv i511), (13, iv (w64 (e1013.End - (if (w64 (a2_ * a1_)) < (w64 (e1014.End - e1015.Begin)) then (w64 (a2_ * a1_)) else (w64 (e1014.End - e1015.Begin)))))), (14, iv 0)], [(3, (c_api_Gates a0_)), (6, [iv 0, iv 0])], []⟩) (APath.fin (by kernel_rfl)) (by kernel_rfl) ?_
              refine vc_block ?_
              obtain ⟨o2025, ho2025, h⟩ := bind_some h
              refine vc_loop ((loop_sim (fun (x : Int × Int) s => s = ⟨[(1, iv a1_), (2, iv a2_), (3, .loc 3 0), (6, .loc 6 0), (9, iv q4), (10, iv x.1), (11, s_e_ref30_Opening false r509), (12, iv i511), (13, iv (w64 (e1013.End - (if (w64 (a2_ * a1_)) < (w64 (e1014.End - e1015.Begin)) then (w64 (a2_ * a1_)) else (w64 (e1014.End - e1015.Begin)))))), (14, iv x.2)], [(3, (c_api_Gates a0_)), (6, [iv 0, iv 0])], []⟩) (fun x : Int × Int => ref30_Of_L2 N a0_ a1_ a2_ q4 r509 e1013 e1014 e1015 x.1 x.2) (fun (p : Int × Int) e s => e = .exit 2 ∧ (s = ⟨[(1, iv a1_), (2, iv a2_), (3, .loc 3 0), (6, .loc 6 0), (9, iv q4), (10, iv p.1), (11, s_e_ref30_Opening false r509), (12, iv i511), (13, iv (w64 (e1013.End - (if (w64 (a2_ * a1_)) < (w64 (e1014.End - e1015.Begin)) then (w64 (a2_ * a1_)) else (w64 (e1014.End - e1015.Begin)))))), (14, iv p.2)], [(3, (c_api_Gates a0_)), (6, [iv 0, iv 0])], []⟩)) ?_ N _ o2025 _ ho2025 (by show _ = _; kernel_rfl)).mono ?_)
              · clear h ho2025
                rintro ⟨i1016, i1017⟩ o s h hR
                obtain rfl := hR
                replace h : ref30_Of_L2 N a0_ a1_ a2_ q4 r509 e1013 e1014 e1015 i1016 i1017 = some o := h
                unfold ref30_Of_L2 at h
                refine vc_seq ?_
                refine vc_seq ?_
                refine vc_reg (S := ⟨[(1, iv a1_), (2, iv a2_), (3, .loc 3 0), (6, .loc 6 0), (9, iv q4), (10, iv i1016), (11, s_e_ref30_Opening false r509), (12, iv i511), (13, iv (w64 (e1013.End - (if (w64 (a2_ * a1_)) < (w64 (e1014.End - e1015.Begin)) then (w64 (a2_ * a1_)) else (w64 (e1014.End - e1015.Begin)))))), (14, iv i1017), (77, bv (decide (i1017 < (w64 (2 * ((List.length r509 : Nat) : Int))))))], [(3, (c_api_Gates a0_)), (6, [iv 0, iv 0])], []⟩) (APath.chunk 2 (by kernel_rfl) (APath.one (.val 75 .len [.t 74]) (by kernel_rfl) (st_val (ys := [s_e_ref30_Opening false r509]) (by kernel_rfl) (vexec_len e_ref30_Opening)) (APath.fin (by kernel_rfl)))) (by kernel_rfl) ?_
                refine vc_ite (by kernel_rfl) h (fun hc1518 h => ?_) (fun hc1518 h => ?_)
                · refine vc_skip ?_
                  refine vc_kp ?_
                  obtain ⟨j2019, hj2019, h⟩ := bind_some h
                  refine vc_joinK [1, 2, 3, 6, 9, 10, 11, 12, 13, 14] (fun s => s = ⟨[(1, iv a1_), (2, iv a2_), (3, .loc 3 0), (6, .loc 6 0), (9, iv q4), (10, iv j2019), (11, s_e_ref30_Opening false r509), (12, iv i511), (13, iv (w64 (e1013.End - (if (w64 (a2_ * a1_)) < (w64 (e1014.End - e1015.Begin)) then (w64 (a2_ * a1_)) else (w64 (e1014.End - e1015.Begin)))))), (14, iv i1017)], [(3, (c_api_Gates a0_)), (6, [iv 0, iv 0])], []⟩) ?_ ?_
                  · clear h
                    have h := hj2019
                    refine vc_block ?_
                    refine vc_seq ?_
                    obtain ⟨m2020, hm2020, h⟩ := bind_some h
                    obtain ⟨e2021, he2021, h⟩ := bind_some h
                    refine vc_reg (S := ⟨[(1, iv a1_), (2, iv a2_), (3, .loc 3 0), (6, .loc 6 0), (9, iv q4), (10, iv i1016), (11, s_e_ref30_Opening false r509), (12, iv i511), (13, iv (w64 (e1013.End - (if (w64 (a2_ * a1_)) < (w64 (e1014.End - e1015.Begin)) then (w64 (a2_ * a1_)) else (w64 (e1014.End - e1015.Begin)))))), (14, iv i1017), (15, .loc 15 0)], [(3, (c_api_Gates a0_)), (6, [iv 0, iv 0]), (15, (c_ref30_Opening e2021))], []⟩) (APath.chunk 3 (by kernel_rfl) (APath.one (.val 83 .len [.t 82]) (by kernel_rfl) (st_val (ys := [s_e_ref30_Opening false r509]) (by kernel_rfl) (vexec_len e_ref30_Opening)) (APath.one (.val 84 (.bin .rem) [.t 81, .t 83]) (by kernel_rfl) (st_val (ys := [iv i1017, iv ((List.length r509 : Nat) : Int)]) (by kernel_rfl) (vexec_rem hm2020)) (APath.one (.val 85 (.iaddrS 2) [.t 80, .t 84]) (by kernel_rfl) (st_val (ys := [s_e_ref30_Opening false r509, iv m2020]) (by kernel_rfl) (vexec_iaddrS e_ref30_Opening he2021)) (APath.one (.load 86 (.t 85) 2 true) (by kernel_rfl) (st_loadP (sz := 2) (off := 0) (cs := [.int .i64 e2021.Begin, .int .i64 e2021.End]) (r := .agg (c_ref30_Opening e2021)) e_ref30_Opening he2021 (by kernel_rfl) (by kernel_rfl) (by kernel_rfl)) (APath.fin (by kernel_rfl))))))) (by kernel_rfl) ?_
                    refine vc_seq ?_
                    obtain ⟨q2022, hq2022, h⟩ := bind_some h
                    refine vc_regD (S := ⟨[(1, iv a1_), (2, iv a2_), (3, .loc 3 0), (6, .loc 6 0), (9, iv q4), (10, iv i1016), (11, s_e_ref30_Opening false r509), (12, iv i511), (13, iv (w64 (e1013.End - (if (w64 (a2_ * a1_)) < (w64 (e1014.End - e1015.Begin)) then (w64 (a2_ * a1_)) else (w64 (e1014.End - e1015.Begin)))))), (14, iv i1017), (16, iv (w64 ((w64 (e2021.Begin + (if (w64 (a2_ * a1_)) < (w64 (e2021.End - e2021.Begin)) then (w64 (a2_ * a1_)) else (w64 (e2021.End - e2021.Begin))))) + (w64 (q2022 * a0_.Cycle)))))], [(3, (c_api_Gates a0_)), (6, [iv 0, iv 0])], []⟩) (by kernel_rfl) (APath.chunk 14 (by kernel_rfl) (APath.one (.val 101 .len [.t 100]) (by kernel_rfl) (st_val (ys := [s_e_ref30_Opening false r509]) (by kernel_rfl) (vexec_len e_ref30_Opening)) (APath.one (.val 102 (.bin .quo) [.t 99, .t 101]) (by kernel_rfl) (st_val (ys := [iv i1017, iv ((List.length r509 : Nat) : Int)]) (by kernel_rfl) (vexec_quo hq2022)) (APath.fin (by kernel_rfl))))) (by kernel_rfl) ?_
                    refine vc_seq ?_
                    refine vc_reg (S := ⟨[(1, iv a1_), (2, iv a2_), (3, .loc 3 0), (6, .loc 6 0), (9, iv q4), (10, iv i1016), (11, s_e_ref30_Opening false r509), (12, iv i511), (13, iv (w64 (e1013.End - (if (w64 (a2_ * a1_)) < (w64 (e1014.End - e1015.Begin)) then (w64 (a2_ * a1_)) else (w64 (e1014.End - e1015.Begin)))))), (14, iv i1017), (16, iv (w64 ((w64 (e2021.Begin + (if (w64 (a2_ * a1_)) < (w64 (e2021.End - e2021.Begin)) then (w64 (a2_ * a1_)) else (w64 (e2021.End - e2021.Begin))))) + (w64 (q2022 * a0_.Cycle))))), (109, bv (decide ((w64 ((w64 (e2021.Begin + (if (w64 (a2_ * a1_)) < (w64 (e2021.End - e2021.Begin)) then (w64 (a2_ * a1_)) else (w64 (e2021.End - e2021.Begin))))) + (w64 (q2022 * a0_.Cycle)))) > (w64 (e1013.End - (if (w64 (a2_ * a1_)) < (w64 (e1014.End - e1015.Begin)) then (w64 (a2_ * a1_)) else (w64 (e1014.End - e1015.Begin))))))))], [(3, (c_api_Gates a0_)), (6, [iv 0, iv 0])], []⟩) (APath.fin (by kernel_rfl)) (by kernel_rfl) ?_
                    refine vc_ite (by kernel_rfl) h (fun hc2023 h => ?_) (fun hc2023 h => ?_)
                    · obtain ⟨r2024, hr2024, h⟩ := bind_some h
                      refine vc_reg (S := ⟨[(1, iv a1_), (2, iv a2_), (3, .loc 3 0), (6, .loc 6 0), (9, iv q4), (10, iv (if (w64 ((w64 ((w64 ((w64 ((w64 ((w64 (e2021.Begin + (if (w64 (a2_ * a1_)) < (w64 (e2021.End - e2021.Begin)) then (w64 (a2_ * a1_)) else (w64 (e2021.End - e2021.Begin))))) + (w64 (q2022 * a0_.Cycle)))) - (w64 (e1013.End - (if (w64 (a2_ * a1_)) < (w64 (e1014.End - e1015.Begin)) then (w64 (a2_ * a1_)) else (w64 (e1014.End - e1015.Begin))))))) * q4)) * a1_)) - (w64 (r2024 * 1048576)))) > i1016 then (w64 ((w64 ((w64 ((w64 ((w64 ((w64 (e2021.Begin + (if (w64 (a2_ * a1_)) < (w64 (e2021.End - e2021.Begin)) then (w64 (a2_ * a1_)) else (w64 (e2021.End - e2021.Begin))))) + (w64 (q2022 * a0_.Cycle)))) - (w64 (e1013.End - (if (w64 (a2_ * a1_)) < (w64 (e1014.End - e1015.Begin)) then (w64 (a2_ * a1_)) else (w64 (e1014.End - e1015.Begin))))))) * q4)) * a1_)) - (w64 (r2024 * 1048576)))) else i1016)), (11, s_e_ref30_Opening false r509), (12, iv i511), (13, iv (w64 (e1013.End - (if (w64 (a2_ * a1_)) < (w64 (e1014.End - e1015.Begin)) then (w64 (a2_ * a1_)) else (w64 (e1014.End - e1015.Begin)))))), (14, iv i1017)], [(3, (c_api_Gates a0_)), (6, [iv 0, iv 0])], []⟩) (APath.chunk 15 (by kernel_rfl) (APath.one (.call (some 125) 33 [.t 118, .t 119, .t 120, .t 121, .t 124]) (by kernel_rfl) (st_call (by kernel_rfl) (ref30_Least_ok N a0_ a1_ a2_ (w64 (e1013.End - (if (w64 (a2_ * a1_)) < (w64 (e1014.End - e1015.Begin)) then (w64 (a2_ * a1_)) else (w64 (e1014.End - e1015.Begin))))) (w64 ((w64 ((w64 (e2021.Begin + (if (w64 (a2_ * a1_)) < (w64 (e2021.End - e2021.Begin)) then (w64 (a2_ * a1_)) else (w64 (e2021.End - e2021.Begin))))) + (w64 (q2022 * a0_.Cycle)))) - (w64 (e1013.End - (if (w64 (a2_ * a1_)) < (w64 (e1014.End - e1015.Begin)) then (w64 (a2_ * a1_)) else (w64 (e1014.End - e1015.Begin))))))) r2024 hr2024)) (APath.fin (by kernel_rfl)))) (by kernel_rfl) ?_
                      obtain rfl := some_inj h
                      exact ⟨rfl, (by show _ = _; kernel_rfl)⟩
                    · refine vc_skip ?_
                      obtain rfl := some_inj h
                      exact ⟨rfl, (by show _ = _; kernel_rfl)⟩
                  · clear hj2019
                    rintro s hR
                    obtain rfl := hR
                    refine vc_reg (S := ⟨[(1, iv a1_), (2, iv a2_), (3, .loc 3 0), (6, .loc 6 0), (9, iv q4), (10, iv j2019), (11, s_e_ref30_Opening false r509), (12, iv i511), (13, iv (w64 (e1013.End - (if (w64 (a2_ * a1_)) < (w64 (e1014.End - e1015.Begin)) then (w64 (a2_ * a1_)) else (w64 (e1014.End - e1015.Begin)))))), (14, iv (w64 (i1017 + 1)))], [(3, (c_api_Gates a0_)), (6, [iv 0, iv 0])], []⟩) (APath.fin (by kernel_rfl)) (by kernel_rfl) ?_
                    obtain rfl := some_inj h
                    exact ⟨_, rfl, (by show _ = _; kernel_rfl)⟩
                · refine vc_exit ?_
                  try show vc _ _ _ _ _
                  obtain rfl := some_inj h
                  exact ⟨_, rfl, rfl, (by show _ = _; kernel_rfl)⟩
              · rintro e s hq
                obtain ⟨rfl, hR⟩ := hq
                obtain rfl := hR
                try show vc _ _ _ _ _
                refine vc_reg (S := ⟨[(1, iv a1_), (2, iv a2_), (3, .loc 3 0), (6, .loc 6 0), (9, iv q4), (10, iv o2025.1), (11, s_e_ref30_Opening false r509), (12, iv (w64 (i511 + 1)))], [(3, (c_api_Gates a0_)), (6, [iv 0, iv 0])], []⟩) (APath.fin (by kernel_rfl)) (by kernel_rfl) ?_
                obtain rfl := some_inj h
                exact ⟨_, rfl, (by show _ = _; kernel_rfl)⟩
            · refine vc_exit ?_
              try show vc _ _ _ _ _
              obtain rfl := some_inj h
              exact ⟨_, rfl, rfl, (by show _ = _; kernel_rfl)⟩
          · rintro e s hq
            obtain ⟨rfl, hR⟩ := hq
            obtain rfl := hR
            try show vc _ _ _ _ _
            obtain rfl := some_inj h
            exact ⟨rfl, (by show _ = _; kernel_rfl)⟩
        · refine vc_skip ?_
          obtain rfl := some_inj h
          exact ⟨rfl, (by show _ = _; kernel_rfl)⟩
      · clear hj506
        rintro s hR
        obtain rfl := hR
        refine vc_seq ?_
        obtain ⟨q2027, hq2027, h⟩ := bind_some h
        refine vc_reg (S := ⟨[(6, .loc 6 0), (7, iv 0)], [(6, [iv q4, iv q2027])], []⟩) (APath.chunk 10 (by kernel_rfl) (APath.one (.val 139 (.bin .quo) [.t 135, .t 138]) (by kernel_rfl) (st_val (ys := [iv (w64 ((w64 (j506 + (w64 (q4 * a1_)))) - 1)), iv (w64 (q4 * a1_))]) (by kernel_rfl) (vexec_quo hq2027)) (APath.fin (by kernel_rfl)))) (by kernel_rfl) ?_
        refine vc_ret ?_
        obtain rfl := some_inj h
        exact ret_of (by kernel_rfl)
/- isochronlaw30.yields -/
theorem law30_yields_ok (N : Nat) (a0_ : api_Gates) (a1_ : Int) (a2_ : Int) (r : Bool) (h : law30_yields N a0_ a1_ a2_ = some r) : PCall Try.prog 24 [.agg (c_api_Gates a0_), iv a1_, iv a2_] (bv r) := by
  unfold law30_yields at h
  have hH : HP ([] : List HO) [] := trivial
  refine pcall_of chk24 rfl rfl (vc_sound _ _ _ ?_) rfl
  refine vc_seq ?_
  refine vc_reg (S := ⟨[(1, iv a1_), (2, iv a2_), (3, .loc 3 0)], [(3, (c_api_Gates a0_))], []⟩) (APath.fin (by kernel_rfl)) (by kernel_rfl) ?_
  refine vc_seq ?_
  obtain ⟨r1, hr1, h⟩ := bind_some h
  refine vc_reg (S := ⟨[(1, iv a1_), (2, iv a2_), (3, .loc 3 0), (7, iv r1.1), (8, iv r1.2)], [(3, (c_api_Gates a0_))], []⟩) (APath.chunk 3 (by kernel_rfl) (APath.one (.call (some 18) 12 [.t 15, .t 16, .t 17]) (by kernel_rfl) (st_call (by kernel_rfl) (service_Yield_ok N a0_ a1_ a2_ r1 hr1)) (APath.fin (by kernel_rfl)))) (by kernel_rfl) ?_
  refine vc_seq ?_
  refine vc_reg (S := ⟨[(1, iv a1_), (2, iv a2_), (3, .loc 3 0), (7, iv r1.1), (8, iv r1.2), (9, iv 0)], [(3, (c_api_Gates a0_))], []⟩) (APath.fin (by kernel_rfl)) (by kernel_rfl) ?_
  refine vc_seq ?_
  refine vc_seq ?_
  refine vc_reg (S := ⟨[(1, iv a1_), (2, iv a2_), (3, .loc 3 0), (7, iv r1.1), (8, iv r1.2), (9, iv 0), (11, iv 0)], [(3, (c_api_Gates a0_))], []⟩) (APath.fin (by kernel_rfl)) (by kernel_rfl) ?_
  refine vc_block ?_
  obtain ⟨o515, ho515, h⟩ := bind_some h
  refine vc_loop ((loop_sim (fun (x : Int × Int) s => s = ⟨[(1, iv a1_), (2, iv a2_), (3, .loc 3 0), (7, iv r1.1), (8, iv r1.2), (9, iv x.1), (11, iv x.2)], [(3, (c_api_Gates a0_))], []⟩) (fun x : Int × Int => law30_yields_L1 N a0_ a1_ a2_ r1 x.1 x.2) (fun (p : (Int × Int) ⊕ (Bool)) e s => match p with | (.inl p) => e = .exit 0 ∧ (s = ⟨[(1, iv a1_), (2, iv a2_), (3, .loc 3 0), (7, iv r1.1), (8, iv r1.2), (9, iv p.1), (11, iv p.2)], [(3, (c_api_Gates a0_))], []⟩) | (.inr p) => e = .ret ∧ ∃ xs, resL s i24.res = some xs ∧ tupOf xs = bv p) ?_ N _ o515 _ ho515 (by show _ = _; kernel_rfl)).mono ?_)
  · clear h ho515
    rintro ⟨i2, i3⟩ o s h hR
    obtain rfl := hR
    replace h : law30_yields_L1 N a0_ a1_ a2_ r1 i2 i3 = some o := h
    unfold law30_yields_L1 at h
    refine vc_seq ?_
    refine vc_seq ?_
    refine vc_reg (S := ⟨[(1, iv a1_), (2, iv a2_), (3, .loc 3 0), (7, iv r1.1), (8, iv r1.2), (9, iv i2), (11, iv i3), (25, bv (decide (i3 ≤ ((List.length a0_.Entries : Nat) : Int))))], [(3, (c_api_Gates a0_))], []⟩) (APath.chunk 3 (by kernel_rfl) (APath.one (.val 24 .len [.t 23]) (by kernel_rfl) (st_val (ys := [s_e_api_Entry false a0_.Entries]) (by kernel_rfl) (vexec_len e_api_Entry)) (APath.fin (by kernel_rfl)))) (by kernel_rfl) ?_
    refine vc_ite (by kernel_rfl) h (fun hc504 h => ?_) (fun hc504 h => ?_)
    · refine vc_skip ?_
      refine vc_kp ?_
      refine vc_seq ?_
      refine vc_block ?_
      refine vc_seq ?_
      refine vc_seq ?_
      obtain ⟨r505, hr505, h⟩ := bind_some h
      refine vc_reg (S := ⟨[(1, iv a1_), (2, iv a2_), (3, .loc 3 0), (7, iv r1.1), (8, iv r1.2), (9, iv i2), (11, iv i3), (12, iv r505.1), (13, iv r505.2)], [(3, (c_api_Gates a0_))], []⟩) (APath.chunk 2 (by kernel_rfl) (APath.one (.call (some 31) 22 [.t 29, .k (.p (.int .i64 6)), .t 30]) (by kernel_rfl) (st_call (by kernel_rfl) (gates_Open_ok N a0_ 6 i2 r505 hr505)) (APath.fin (by kernel_rfl)))) (by kernel_rfl) ?_
      refine vc_seq ?_
      refine vc_regX ⟨[(1, iv a1_), (2, iv a2_), (3, .loc 3 0), (7, iv r1.1), (8, iv r1.2), (9, iv i2), (11, iv i3), (39, bv ((r505.2 == 0) && (r505.1 == 0)))], [(3, (c_api_Gates a0_))], []⟩ ?_ ?_
      · rcases Bool.eq_false_or_eq_true (r505.2 == 0) with hc506 | hc507
        · exact ⟨_, (APath.chunk 1 (by kernel_rfl) (APath.one (.val 35 (.bin .eql) [.t 34, .k (.p (.int .i64 0))]) (by kernel_rfl) (st_bool (c := (r505.2 == 0)) (by kernel_rfl) hc506) (APath.fin (by kernel_rfl)))), by simp only [hc506]; kernel_rfl⟩
        · exact ⟨_, (APath.chunk 1 (by kernel_rfl) (APath.one (.val 35 (.bin .eql) [.t 34, .k (.p (.int .i64 0))]) (by kernel_rfl) (st_bool (c := (r505.2 == 0)) (by kernel_rfl) hc507) (APath.fin (by kernel_rfl)))), by simp only [hc507]; kernel_rfl⟩
      · refine vc_ite (by kernel_rfl) h (fun hc508 h => ?_) (fun hc508 h => ?_)
        · refine vc_seq ?_
          obtain ⟨j512, hj, h⟩ := bind_some h
          refine vc_regXR (fun s => s = ⟨[(6, bv j512)], [], []⟩) ?_ ?_
          · clear h
            rcases ite_some hj with ⟨hc509, hj⟩ | ⟨hc511, hj⟩
            · obtain ⟨r510, hr510, hj⟩ := bind_some hj
              obtain rfl := some_inj hj
              exact ⟨_, (APath.chunk 1 (by kernel_rfl) (APath.one (.val 41 (.bin .eql) [.t 40, .k (.p (.int .i64 0))]) (by kernel_rfl) (st_bool (c := (r1.2 == 0)) (by kernel_rfl) hc509) (APath.chunk 7 (by kernel_rfl) (APath.oneG (.call (some 49) 20 [.t 43, .t 44, .t 45, .t 46, .t 48]) 42 true (by kernel_rfl) (by kernel_rfl) (st_call (by kernel_rfl) (law30_sends_ok N a0_ a1_ a2_ i2 a0_.Cycle r510 hr510)) (APath.fin (by kernel_rfl)))))), (by show _ = _; kernel_rfl)⟩
            · obtain rfl := some_inj hj
              exact ⟨_, (APath.chunk 1 (by kernel_rfl) (APath.one (.val 41 (.bin .eql) [.t 40, .k (.p (.int .i64 0))]) (by kernel_rfl) (st_bool (c := (r1.2 == 0)) (by kernel_rfl) hc511) (APath.fin (by kernel_rfl)))), (by show _ = _; kernel_rfl)⟩
          · clear hj
            rintro s hR
            obtain rfl := hR
            refine vc_ret ?_
            obtain rfl := some_inj h
            exact ⟨_, rfl, rfl, ret_of (by kernel_rfl)⟩
        · refine vc_skip ?_
          refine vc_kp ?_
          refine vc_seq ?_
          obtain ⟨r513, hr513, h⟩ := bind_some h
          refine vc_reg (S := ⟨[(1, iv a1_), (2, iv a2_), (3, .loc 3 0), (7, iv r1.1), (8, iv r1.2), (9, iv r513.1), (10, iv r513.2), (11, iv i3)], [(3, (c_api_Gates a0_))], []⟩) (APath.chunk 2 (by kernel_rfl) (APath.one (.call (some 60) 23 [.t 58, .t 59]) (by kernel_rfl) (st_call (by kernel_rfl) (gates_Turn_ok N a0_ i2 r513 hr513)) (APath.fin (by kernel_rfl)))) (by kernel_rfl) ?_
          refine vc_seq ?_
          refine vc_reg (S := ⟨[(1, iv a1_), (2, iv a2_), (3, .loc 3 0), (7, iv r1.1), (8, iv r1.2), (9, iv r513.1), (11, iv i3), (64, bv (r513.2 != 0))], [(3, (c_api_Gates a0_))], []⟩) (APath.fin (by kernel_rfl)) (by kernel_rfl) ?_
          refine vc_ite (by kernel_rfl) h (fun hc514 h => ?_) (fun hc514 h => ?_)
          · refine vc_exit ?_
            try show vc _ _ _ _ _
            obtain rfl := some_inj h
            exact ⟨_, rfl, rfl, (by show _ = _; kernel_rfl)⟩
          · refine vc_skip ?_
            refine vc_kp ?_
            refine vc_reg (S := ⟨[(1, iv a1_), (2, iv a2_), (3, .loc 3 0), (7, iv r1.1), (8, iv r1.2), (9, iv r513.1), (11, iv (w64 (i3 + 1)))], [(3, (c_api_Gates a0_))], []⟩) (APath.fin (by kernel_rfl)) (by kernel_rfl) ?_
            obtain rfl := some_inj h
            exact ⟨_, rfl, (by show _ = _; kernel_rfl)⟩
    · refine vc_exit ?_
      try show vc _ _ _ _ _
      obtain rfl := some_inj h
      exact ⟨_, rfl, rfl, (by show _ = _; kernel_rfl)⟩
  · rintro e s hq
    rcases o515 with p516 | p519
    · dsimp only at h hq
      obtain ⟨rfl, hR⟩ := hq
      obtain rfl := hR
      try show vc _ _ _ _ _
      refine vc_seq ?_
      refine vc_regX ⟨[(6, bv ((r1.2 == 0) && (r1.1 == a0_.Cycle)))], [], []⟩ ?_ ?_
      · rcases Bool.eq_false_or_eq_true (r1.2 == 0) with hc517 | hc518
        · exact ⟨_, (APath.chunk 1 (by kernel_rfl) (APath.one (.val 66 (.bin .eql) [.t 65, .k (.p (.int .i64 0))]) (by kernel_rfl) (st_bool (c := (r1.2 == 0)) (by kernel_rfl) hc517) (APath.fin (by kernel_rfl)))), by simp only [hc517]; kernel_rfl⟩
        · exact ⟨_, (APath.chunk 1 (by kernel_rfl) (APath.one (.val 66 (.bin .eql) [.t 65, .k (.p (.int .i64 0))]) (by kernel_rfl) (st_bool (c := (r1.2 == 0)) (by kernel_rfl) hc518) (APath.fin (by kernel_rfl)))), by simp only [hc518]; kernel_rfl⟩
      · refine vc_ret ?_
        obtain rfl := some_inj h
        exact ret_of (by kernel_rfl)
    · dsimp only at h hq
      obtain ⟨rfl, hq⟩ := hq
      obtain rfl := some_inj h
      exact hq
/- isochronlaw30.is -/
theorem law30_is_ok (N : Nat) (a0_ : api_Gates) (a1_ : Int) (a2_ : Int) (a3_ : Int) (a4_ : Int) (r : Bool) (h : law30_is N a0_ a1_ a2_ a3_ a4_ = some r) : PCall Try.prog 29 [.agg (c_api_Gates a0_), iv a1_, iv a2_, iv a3_, iv a4_] (bv r) := by
  unfold law30_is at h
  have hH : HP ([] : List HO) [] := trivial
  refine pcall_of chk29 rfl rfl (vc_sound _ _ _ ?_) rfl
  refine vc_seq ?_
  refine vc_reg (S := ⟨[(1, iv a1_), (2, iv a2_), (3, iv a3_), (4, iv a4_), (5, .loc 5 0)], [(5, (c_api_Gates a0_))], []⟩) (APath.fin (by kernel_rfl)) (by kernel_rfl) ?_
  refine vc_seq ?_
  obtain ⟨r1, hr1, h⟩ := bind_some h
  refine vc_reg (S := ⟨[(3, iv a3_), (4, iv a4_), (11, .loc 11 0), (12, iv r1.2)], [(11, (c_api_Serve r1.1))], []⟩) (APath.chunk 3 (by kernel_rfl) (APath.one (.call (some 17) 17 [.t 14, .t 15, .t 16]) (by kernel_rfl) (st_call (by kernel_rfl) (service_Of_ok N a0_ a1_ a2_ r1 hr1)) (APath.fin (by kernel_rfl)))) (by kernel_rfl) ?_
  refine vc_seq ?_
  refine vc_regX ⟨[(10, bv ((r1.2 == 0) && ((r1.1.Rate == a3_) && ((r1.1.Latency == a4_) && true))))], [], []⟩ ?_ ?_
  · rcases Bool.eq_false_or_eq_true (r1.2 == 0) with hc2 | hc3
    · exact ⟨_, (APath.chunk 1 (by kernel_rfl) (APath.one (.val 21 (.bin .eql) [.t 20, .k (.p (.int .i64 0))]) (by kernel_rfl) (st_bool (c := (r1.2 == 0)) (by kernel_rfl) hc2) (APath.fin (by kernel_rfl)))), by simp only [hc2]; kernel_rfl⟩
    · exact ⟨_, (APath.chunk 1 (by kernel_rfl) (APath.one (.val 21 (.bin .eql) [.t 20, .k (.p (.int .i64 0))]) (by kernel_rfl) (st_bool (c := (r1.2 == 0)) (by kernel_rfl) hc3) (APath.fin (by kernel_rfl)))), by simp only [hc3]; kernel_rfl⟩
  · refine vc_ret ?_
    obtain rfl := some_inj h
    exact ret_of (by kernel_rfl)
/- isochronlaw30.works -/
theorem law30_works_ok (N : Nat) (r : Bool) (h : law30_works N = some r) : PCall Try.prog 14 [] (bv r) := by
  unfold law30_works at h
  have hH : HP ([] : List HO) [] := trivial
  refine pcall_of chk14 rfl rfl (vc_sound _ _ _ ?_) rfl
  refine vc_seq ?_
  refine vc_reg (S := ⟨[], [], []⟩) (APath.fin (by kernel_rfl)) (by kernel_rfl) ?_
  refine vc_seq ?_
  obtain ⟨r1, hr1, h⟩ := bind_some h
  obtain ⟨r2, hr2, h⟩ := bind_some h
  refine vc_reg (S := ⟨[(1, .loc 1 0), (2, .loc 2 0)], [(1, (c_api_Gates r1)), (2, (c_api_Gates r2))], []⟩) (APath.chunk 1 (by kernel_rfl) (APath.one (.call (some 13) 19 [.t 12]) (by kernel_rfl) (st_call (by kernel_rfl) (law30_list_ok N ([128, 100, 127, 300]) r1 hr1)) (APath.chunk 1 (by kernel_rfl) (APath.one (.call (some 15) 19 [.t 14]) (by kernel_rfl) (st_call (by kernel_rfl) (law30_list_ok N ([127, 400]) r2 hr2)) (APath.fin (by kernel_rfl)))))) (by kernel_rfl) ?_
  refine vc_seq ?_
  obtain ⟨r3, hr3, h⟩ := bind_some h
  refine vc_reg (S := ⟨[(1, .loc 1 0), (2, .loc 2 0), (3, iv r3.1), (4, iv r3.2)], [(1, (c_api_Gates r1)), (2, (c_api_Gates r2))], []⟩) (APath.chunk 1 (by kernel_rfl) (APath.one (.call (some 18) 12 [.t 17, .k (.p (.int .i64 1)), .k (.p (.int .i64 100))]) (by kernel_rfl) (st_call (by kernel_rfl) (service_Yield_ok N r1 1 100 r3 hr3)) (APath.fin (by kernel_rfl)))) (by kernel_rfl) ?_
  refine vc_seq ?_
  obtain ⟨r4, hr4, h⟩ := bind_some h
  refine vc_reg (S := ⟨[(1, .loc 1 0), (2, .loc 2 0), (3, iv r3.1), (4, iv r3.2), (5, iv r4.1), (6, iv r4.2)], [(1, (c_api_Gates r1)), (2, (c_api_Gates r2))], []⟩) (APath.chunk 1 (by kernel_rfl) (APath.one (.call (some 23) 12 [.t 22, .k (.p (.int .i64 1)), .k (.p (.int .i64 100))]) (by kernel_rfl) (st_call (by kernel_rfl) (service_Yield_ok N r2 1 100 r4 hr4)) (APath.fin (by kernel_rfl)))) (by kernel_rfl) ?_
  refine vc_seq ?_
  obtain ⟨r5, hr5, h⟩ := bind_some h
  refine vc_reg (S := ⟨[(1, .loc 1 0), (2, .loc 2 0), (3, iv r3.1), (4, iv r3.2), (5, iv r4.1), (6, iv r4.2), (8, iv r5.2)], [(1, (c_api_Gates r1)), (2, (c_api_Gates r2))], []⟩) (APath.chunk 1 (by kernel_rfl) (APath.one (.call (some 28) 17 [.t 27, .k (.p (.int .i64 1)), .k (.p (.int .i64 300))]) (by kernel_rfl) (st_call (by kernel_rfl) (service_Of_ok N r1 1 300 r5 hr5)) (APath.fin (by kernel_rfl)))) (by kernel_rfl) ?_
  refine vc_seq ?_
  obtain ⟨r6, hr6, h⟩ := bind_some h
  refine vc_reg (S := ⟨[(1, .loc 1 0), (2, .loc 2 0), (3, iv r3.1), (4, iv r3.2), (5, iv r4.1), (6, iv r4.2), (8, iv r5.2), (10, iv r6.2)], [(1, (c_api_Gates r1)), (2, (c_api_Gates r2))], []⟩) (APath.chunk 1 (by kernel_rfl) (APath.one (.call (some 33) 17 [.t 32, .k (.p (.int .i64 1000)), .k (.p (.int .i64 84))]) (by kernel_rfl) (st_call (by kernel_rfl) (service_Of_ok N r1 1000 84 r6 hr6)) (APath.fin (by kernel_rfl)))) (by kernel_rfl) ?_
  refine vc_seq ?_
  obtain ⟨j17, hj, h⟩ := bind_some h
  refine vc_regXR (fun s => s = ⟨[(1, .loc 1 0), (2, .loc 2 0), (3, iv r3.1), (4, iv r3.2), (5, iv r4.1), (6, iv r4.2), (8, iv r5.2), (10, iv r6.2), (11, bv j17)], [(1, (c_api_Gates r1)), (2, (c_api_Gates r2))], []⟩) ?_ ?_
  · clear h
    obtain ⟨r7, hr7, hj⟩ := bind_some hj
    rcases ite_some hj with ⟨hc8, hj⟩ | ⟨hc16, hj⟩
    · obtain ⟨r9, hr9, hj⟩ := bind_some hj
      rcases ite_some hj with ⟨hc10, hj⟩ | ⟨hc15, hj⟩
      · obtain ⟨r11, hr11, hj⟩ := bind_some hj
        rcases ite_some hj with ⟨hc12, hj⟩ | ⟨hc14, hj⟩
        · obtain ⟨r13, hr13, hj⟩ := bind_some hj
          obtain rfl := some_inj hj
          exact ⟨_, (APath.chunk 1 (by kernel_rfl) (APath.one (.call (some 37) 20 [.t 36, .k (.p (.int .i64 1)), .k (.p (.int .i64 100)), .k (.p (.int .i64 0)), .k (.p (.int .i64 400))]) (by kernel_rfl) (st_call (by kernel_rfl) (law30_sends_ok N r1 1 100 0 400 r7 hr7)) (APath.one (.val 38 (.bin .eql) [.t 37, .k (.p (.int .i64 73))]) (by kernel_rfl) (st_bool (c := (r7 == 73)) (by kernel_rfl) hc8) (APath.chunk 2 (by kernel_rfl) (APath.oneG (.call (some 41) 20 [.t 40, .k (.p (.int .i64 1)), .k (.p (.int .i64 100)), .k (.p (.int .i64 100)), .k (.p (.int .i64 300))]) 39 true (by kernel_rfl) (by kernel_rfl) (st_call (by kernel_rfl) (law30_sends_ok N r1 1 100 100 300 r9 hr9)) (APath.oneG (.val 42 (.bin .eql) [.t 41, .k (.p (.int .i64 73))]) 39 true (by kernel_rfl) (by kernel_rfl) (st_bool (c := (r9 == 73)) (by kernel_rfl) hc10) (APath.chunk 3 (by kernel_rfl) (APath.oneG (.call (some 46) 20 [.t 45, .k (.p (.int .i64 1)), .k (.p (.int .i64 100)), .k (.p (.int .i64 150)), .k (.p (.int .i64 250))]) 44 true (by kernel_rfl) (by kernel_rfl) (st_call (by kernel_rfl) (law30_sends_ok N r1 1 100 150 250 r11 hr11)) (APath.oneG (.val 47 (.bin .eql) [.t 46, .k (.p (.int .i64 23))]) 44 true (by kernel_rfl) (by kernel_rfl) (st_bool (c := (r11 == 23)) (by kernel_rfl) hc12) (APath.chunk 3 (by kernel_rfl) (APath.oneG (.call (some 51) 20 [.t 50, .k (.p (.int .i64 1)), .k (.p (.int .i64 100)), .k (.p (.int .i64 0)), .k (.p (.int .i64 200))]) 49 true (by kernel_rfl) (by kernel_rfl) (st_call (by kernel_rfl) (law30_sends_ok N r1 1 100 0 200 r13 hr13)) (APath.fin (by kernel_rfl))))))))))))), (by show _ = _; kernel_rfl)⟩
        · obtain rfl := some_inj hj
          exact ⟨_, (APath.chunk 1 (by kernel_rfl) (APath.one (.call (some 37) 20 [.t 36, .k (.p (.int .i64 1)), .k (.p (.int .i64 100)), .k (.p (.int .i64 0)), .k (.p (.int .i64 400))]) (by kernel_rfl) (st_call (by kernel_rfl) (law30_sends_ok N r1 1 100 0 400 r7 hr7)) (APath.one (.val 38 (.bin .eql) [.t 37, .k (.p (.int .i64 73))]) (by kernel_rfl) (st_bool (c := (r7 == 73)) (by kernel_rfl) hc8) (APath.chunk 2 (by kernel_rfl) (APath.oneG (.call (some 41) 20 [.t 40, .k (.p (.int .i64 1)), .k (.p (.int .i64 100)), .k (.p (.int .i64 100)), .k (.p (.int .i64 300))]) 39 true (by kernel_rfl) (by kernel_rfl) (st_call (by kernel_rfl) (law30_sends_ok N r1 1 100 100 300 r9 hr9)) (APath.oneG (.val 42 (.bin .eql) [.t 41, .k (.p (.int .i64 73))]) 39 true (by kernel_rfl) (by kernel_rfl) (st_bool (c := (r9 == 73)) (by kernel_rfl) hc10) (APath.chunk 3 (by kernel_rfl) (APath.oneG (.call (some 46) 20 [.t 45, .k (.p (.int .i64 1)), .k (.p (.int .i64 100)), .k (.p (.int .i64 150)), .k (.p (.int .i64 250))]) 44 true (by kernel_rfl) (by kernel_rfl) (st_call (by kernel_rfl) (law30_sends_ok N r1 1 100 150 250 r11 hr11)) (APath.oneG (.val 47 (.bin .eql) [.t 46, .k (.p (.int .i64 23))]) 44 true (by kernel_rfl) (by kernel_rfl) (st_bool (c := (r11 == 23)) (by kernel_rfl) hc14) (APath.fin (by kernel_rfl))))))))))), (by show _ = _; kernel_rfl)⟩
      · obtain rfl := some_inj hj
        exact ⟨_, (APath.chunk 1 (by kernel_rfl) (APath.one (.call (some 37) 20 [.t 36, .k (.p (.int .i64 1)), .k (.p (.int .i64 100)), .k (.p (.int .i64 0)), .k (.p (.int .i64 400))]) (by kernel_rfl) (st_call (by kernel_rfl) (law30_sends_ok N r1 1 100 0 400 r7 hr7)) (APath.one (.val 38 (.bin .eql) [.t 37, .k (.p (.int .i64 73))]) (by kernel_rfl) (st_bool (c := (r7 == 73)) (by kernel_rfl) hc8) (APath.chunk 2 (by kernel_rfl) (APath.oneG (.call (some 41) 20 [.t 40, .k (.p (.int .i64 1)), .k (.p (.int .i64 100)), .k (.p (.int .i64 100)), .k (.p (.int .i64 300))]) 39 true (by kernel_rfl) (by kernel_rfl) (st_call (by kernel_rfl) (law30_sends_ok N r1 1 100 100 300 r9 hr9)) (APath.oneG (.val 42 (.bin .eql) [.t 41, .k (.p (.int .i64 73))]) 39 true (by kernel_rfl) (by kernel_rfl) (st_bool (c := (r9 == 73)) (by kernel_rfl) hc15) (APath.fin (by kernel_rfl)))))))), (by show _ = _; kernel_rfl)⟩
    · obtain rfl := some_inj hj
      exact ⟨_, (APath.chunk 1 (by kernel_rfl) (APath.one (.call (some 37) 20 [.t 36, .k (.p (.int .i64 1)), .k (.p (.int .i64 100)), .k (.p (.int .i64 0)), .k (.p (.int .i64 400))]) (by kernel_rfl) (st_call (by kernel_rfl) (law30_sends_ok N r1 1 100 0 400 r7 hr7)) (APath.one (.val 38 (.bin .eql) [.t 37, .k (.p (.int .i64 73))]) (by kernel_rfl) (st_bool (c := (r7 == 73)) (by kernel_rfl) hc16) (APath.fin (by kernel_rfl))))), (by show _ = _; kernel_rfl)⟩
  · clear hj
    rintro s hR
    obtain rfl := hR
    refine vc_seq ?_
    obtain ⟨j39, hj, h⟩ := bind_some h
    refine vc_regXR (fun s => s = ⟨[(0, bv j39)], [], []⟩) ?_ ?_
    · clear h
      rcases ite_some hj with ⟨hc18, hj⟩ | ⟨hc38, hj⟩
      · rcases ite_some hj with ⟨hc19, hj⟩ | ⟨hc37, hj⟩
        · rcases ite_some hj with ⟨hc20, hj⟩ | ⟨hc36, hj⟩
          · rcases ite_some hj with ⟨hc21, hj⟩ | ⟨hc35, hj⟩
            · rcases ite_some hj with ⟨hc22, hj⟩ | ⟨hc34, hj⟩
              · obtain ⟨r23, hr23, hj⟩ := bind_some hj
                rcases ite_some hj with ⟨hc24, hj⟩ | ⟨hc33, hj⟩
                · obtain ⟨r25, hr25, hj⟩ := bind_some hj
                  rcases ite_some hj with ⟨hc26, hj⟩ | ⟨hc32, hj⟩
                  · obtain ⟨r27, hr27, hj⟩ := bind_some hj
                    rcases ite_some hj with ⟨hc28, hj⟩ | ⟨hc31, hj⟩
                    · rcases ite_some hj with ⟨hc29, hj⟩ | ⟨hc30, hj⟩
                      · obtain rfl := some_inj hj
                        exact ⟨_, (APath.chunk 1 (by kernel_rfl) (APath.one (.val 55 (.bin .eql) [.t 54, .k (.p (.int .i64 200))]) (by kernel_rfl) (st_bool (c := (r3.1 == 200)) (by kernel_rfl) hc18) (APath.chunk 2 (by kernel_rfl) (APath.oneG (.val 58 (.bin .eql) [.t 57, .k (.p (.int .i64 0))]) 56 true (by kernel_rfl) (by kernel_rfl) (st_bool (c := (r3.2 == 0)) (by kernel_rfl) hc19) (APath.chunk 3 (by kernel_rfl) (APath.oneG (.val 62 (.bin .eql) [.t 61, .k (.p (.int .i64 400))]) 60 true (by kernel_rfl) (by kernel_rfl) (st_bool (c := (r4.1 == 400)) (by kernel_rfl) hc20) (APath.chunk 3 (by kernel_rfl) (APath.oneG (.val 66 (.bin .eql) [.t 65, .k (.p (.int .i64 0))]) 64 true (by kernel_rfl) (by kernel_rfl) (st_bool (c := (r4.2 == 0)) (by kernel_rfl) hc21) (APath.chunk 2 (by kernel_rfl) (APath.oneG (.val 69 .mov [.t 11]) 68 true (by kernel_rfl) (by kernel_rfl) (st_bool (c := j17) (by kernel_rfl) hc22) (APath.chunk 3 (by kernel_rfl) (APath.oneG (.call (some 73) 29 [.t 72, .k (.p (.int .i64 1)), .k (.p (.int .i64 100)), .k (.p (.int .i64 524288)), .k (.p (.int .i64 554))]) 71 true (by kernel_rfl) (by kernel_rfl) (st_callB (by kernel_rfl) (law30_is_ok N r1 1 100 524288 554 r23 hr23) hc24) (APath.chunk 3 (by kernel_rfl) (APath.oneG (.call (some 77) 29 [.t 76, .k (.p (.int .i64 1)), .k (.p (.int .i64 100)), .k (.p (.int .i64 1048576)), .k (.p (.int .i64 127))]) 75 true (by kernel_rfl) (by kernel_rfl) (st_callB (by kernel_rfl) (law30_is_ok N r2 1 100 1048576 127 r25 hr25) hc26) (APath.chunk 3 (by kernel_rfl) (APath.oneG (.call (some 81) 29 [.t 80, .k (.p (.int .i64 8)), .k (.p (.int .i64 100)), .k (.p (.int .i64 131072)), .k (.p (.int .i64 1016))]) 79 true (by kernel_rfl) (by kernel_rfl) (st_callB (by kernel_rfl) (law30_is_ok N r2 8 100 131072 1016 r27 hr27) hc28) (APath.chunk 3 (by kernel_rfl) (APath.oneG (.val 85 (.bin .eql) [.t 84, .k (.p (.int .i64 4))]) 83 true (by kernel_rfl) (by kernel_rfl) (st_bool (c := (r5.2 == 4)) (by kernel_rfl) hc29) (APath.fin (by kernel_rfl)))))))))))))))))))), (by show _ = _; kernel_rfl)⟩
                      · obtain rfl := some_inj hj
                        exact ⟨_, (APath.chunk 1 (by kernel_rfl) (APath.one (.val 55 (.bin .eql) [.t 54, .k (.p (.int .i64 200))]) (by kernel_rfl) (st_bool (c := (r3.1 == 200)) (by kernel_rfl) hc18) (APath.chunk 2 (by kernel_rfl) (APath.oneG (.val 58 (.bin .eql) [.t 57, .k (.p (.int .i64 0))]) 56 true (by kernel_rfl) (by kernel_rfl) (st_bool (c := (r3.2 == 0)) (by kernel_rfl) hc19) (APath.chunk 3 (by kernel_rfl) (APath.oneG (.val 62 (.bin .eql) [.t 61, .k (.p (.int .i64 400))]) 60 true (by kernel_rfl) (by kernel_rfl) (st_bool (c := (r4.1 == 400)) (by kernel_rfl) hc20) (APath.chunk 3 (by kernel_rfl) (APath.oneG (.val 66 (.bin .eql) [.t 65, .k (.p (.int .i64 0))]) 64 true (by kernel_rfl) (by kernel_rfl) (st_bool (c := (r4.2 == 0)) (by kernel_rfl) hc21) (APath.chunk 2 (by kernel_rfl) (APath.oneG (.val 69 .mov [.t 11]) 68 true (by kernel_rfl) (by kernel_rfl) (st_bool (c := j17) (by kernel_rfl) hc22) (APath.chunk 3 (by kernel_rfl) (APath.oneG (.call (some 73) 29 [.t 72, .k (.p (.int .i64 1)), .k (.p (.int .i64 100)), .k (.p (.int .i64 524288)), .k (.p (.int .i64 554))]) 71 true (by kernel_rfl) (by kernel_rfl) (st_callB (by kernel_rfl) (law30_is_ok N r1 1 100 524288 554 r23 hr23) hc24) (APath.chunk 3 (by kernel_rfl) (APath.oneG (.call (some 77) 29 [.t 76, .k (.p (.int .i64 1)), .k (.p (.int .i64 100)), .k (.p (.int .i64 1048576)), .k (.p (.int .i64 127))]) 75 true (by kernel_rfl) (by kernel_rfl) (st_callB (by kernel_rfl) (law30_is_ok N r2 1 100 1048576 127 r25 hr25) hc26) (APath.chunk 3 (by kernel_rfl) (APath.oneG (.call (some 81) 29 [.t 80, .k (.p (.int .i64 8)), .k (.p (.int .i64 100)), .k (.p (.int .i64 131072)), .k (.p (.int .i64 1016))]) 79 true (by kernel_rfl) (by kernel_rfl) (st_callB (by kernel_rfl) (law30_is_ok N r2 8 100 131072 1016 r27 hr27) hc28) (APath.chunk 3 (by kernel_rfl) (APath.oneG (.val 85 (.bin .eql) [.t 84, .k (.p (.int .i64 4))]) 83 true (by kernel_rfl) (by kernel_rfl) (st_bool (c := (r5.2 == 4)) (by kernel_rfl) hc30) (APath.fin (by kernel_rfl)))))))))))))))))))), (by show _ = _; kernel_rfl)⟩
                    · obtain rfl := some_inj hj
                      exact ⟨_, (APath.chunk 1 (by kernel_rfl) (APath.one (.val 55 (.bin .eql) [.t 54, .k (.p (.int .i64 200))]) (by kernel_rfl) (st_bool (c := (r3.1 == 200)) (by kernel_rfl) hc18) (APath.chunk 2 (by kernel_rfl) (APath.oneG (.val 58 (.bin .eql) [.t 57, .k (.p (.int .i64 0))]) 56 true (by kernel_rfl) (by kernel_rfl) (st_bool (c := (r3.2 == 0)) (by kernel_rfl) hc19) (APath.chunk 3 (by kernel_rfl) (APath.oneG (.val 62 (.bin .eql) [.t 61, .k (.p (.int .i64 400))]) 60 true (by kernel_rfl) (by kernel_rfl) (st_bool (c := (r4.1 == 400)) (by kernel_rfl) hc20) (APath.chunk 3 (by kernel_rfl) (APath.oneG (.val 66 (.bin .eql) [.t 65, .k (.p (.int .i64 0))]) 64 true (by kernel_rfl) (by kernel_rfl) (st_bool (c := (r4.2 == 0)) (by kernel_rfl) hc21) (APath.chunk 2 (by kernel_rfl) (APath.oneG (.val 69 .mov [.t 11]) 68 true (by kernel_rfl) (by kernel_rfl) (st_bool (c := j17) (by kernel_rfl) hc22) (APath.chunk 3 (by kernel_rfl) (APath.oneG (.call (some 73) 29 [.t 72, .k (.p (.int .i64 1)), .k (.p (.int .i64 100)), .k (.p (.int .i64 524288)), .k (.p (.int .i64 554))]) 71 true (by kernel_rfl) (by kernel_rfl) (st_callB (by kernel_rfl) (law30_is_ok N r1 1 100 524288 554 r23 hr23) hc24) (APath.chunk 3 (by kernel_rfl) (APath.oneG (.call (some 77) 29 [.t 76, .k (.p (.int .i64 1)), .k (.p (.int .i64 100)), .k (.p (.int .i64 1048576)), .k (.p (.int .i64 127))]) 75 true (by kernel_rfl) (by kernel_rfl) (st_callB (by kernel_rfl) (law30_is_ok N r2 1 100 1048576 127 r25 hr25) hc26) (APath.chunk 3 (by kernel_rfl) (APath.oneG (.call (some 81) 29 [.t 80, .k (.p (.int .i64 8)), .k (.p (.int .i64 100)), .k (.p (.int .i64 131072)), .k (.p (.int .i64 1016))]) 79 true (by kernel_rfl) (by kernel_rfl) (st_callB (by kernel_rfl) (law30_is_ok N r2 8 100 131072 1016 r27 hr27) hc31) (APath.fin (by kernel_rfl)))))))))))))))))), (by show _ = _; kernel_rfl)⟩
                  · obtain rfl := some_inj hj
                    exact ⟨_, (APath.chunk 1 (by kernel_rfl) (APath.one (.val 55 (.bin .eql) [.t 54, .k (.p (.int .i64 200))]) (by kernel_rfl) (st_bool (c := (r3.1 == 200)) (by kernel_rfl) hc18) (APath.chunk 2 (by kernel_rfl) (APath.oneG (.val 58 (.bin .eql) [.t 57, .k (.p (.int .i64 0))]) 56 true (by kernel_rfl) (by kernel_rfl) (st_bool (c := (r3.2 == 0)) (by kernel_rfl) hc19) (APath.chunk 3 (by kernel_rfl) (APath.oneG (.val 62 (.bin .eql) [.t 61, .k (.p (.int .i64 400))]) 60 true (by kernel_rfl) (by kernel_rfl) (st_bool (c := (r4.1 == 400)) (by kernel_rfl) hc20) (APath.chunk 3 (by kernel_rfl) (APath.oneG (.val 66 (.bin .eql) [.t 65, .k (.p (.int .i64 0))]) 64 true (by kernel_rfl) (by kernel_rfl) (st_bool (c := (r4.2 == 0)) (by kernel_rfl) hc21) (APath.chunk 2 (by kernel_rfl) (APath.oneG (.val 69 .mov [.t 11]) 68 true (by kernel_rfl) (by kernel_rfl) (st_bool (c := j17) (by kernel_rfl) hc22) (APath.chunk 3 (by kernel_rfl) (APath.oneG (.call (some 73) 29 [.t 72, .k (.p (.int .i64 1)), .k (.p (.int .i64 100)), .k (.p (.int .i64 524288)), .k (.p (.int .i64 554))]) 71 true (by kernel_rfl) (by kernel_rfl) (st_callB (by kernel_rfl) (law30_is_ok N r1 1 100 524288 554 r23 hr23) hc24) (APath.chunk 3 (by kernel_rfl) (APath.oneG (.call (some 77) 29 [.t 76, .k (.p (.int .i64 1)), .k (.p (.int .i64 100)), .k (.p (.int .i64 1048576)), .k (.p (.int .i64 127))]) 75 true (by kernel_rfl) (by kernel_rfl) (st_callB (by kernel_rfl) (law30_is_ok N r2 1 100 1048576 127 r25 hr25) hc32) (APath.fin (by kernel_rfl)))))))))))))))), (by show _ = _; kernel_rfl)⟩
                · obtain rfl := some_inj hj
                  exact ⟨_, (APath.chunk 1 (by kernel_rfl) (APath.one (.val 55 (.bin .eql) [.t 54, .k (.p (.int .i64 200))]) (by kernel_rfl) (st_bool (c := (r3.1 == 200)) (by kernel_rfl) hc18) (APath.chunk 2 (by kernel_rfl) (APath.oneG (.val 58 (.bin .eql) [.t 57, .k (.p (.int .i64 0))]) 56 true (by kernel_rfl) (by kernel_rfl) (st_bool (c := (r3.2 == 0)) (by kernel_rfl) hc19) (APath.chunk 3 (by kernel_rfl) (APath.oneG (.val 62 (.bin .eql) [.t 61, .k (.p (.int .i64 400))]) 60 true (by kernel_rfl) (by kernel_rfl) (st_bool (c := (r4.1 == 400)) (by kernel_rfl) hc20) (APath.chunk 3 (by kernel_rfl) (APath.oneG (.val 66 (.bin .eql) [.t 65, .k (.p (.int .i64 0))]) 64 true (by kernel_rfl) (by kernel_rfl) (st_bool (c := (r4.2 == 0)) (by kernel_rfl) hc21) (APath.chunk 2 (by kernel_rfl) (APath.oneG (.val 69 .mov [.t 11]) 68 true (by kernel_rfl) (by kernel_rfl) (st_bool (c := j17) (by kernel_rfl) hc22) (APath.chunk 3 (by kernel_rfl) (APath.oneG (.call (some 73) 29 [.t 72, .k (.p (.int .i64 1)), .k (.p (.int .i64 100)), .k (.p (.int .i64 524288)), .k (.p (.int .i64 554))]) 71 true (by kernel_rfl) (by kernel_rfl) (st_callB (by kernel_rfl) (law30_is_ok N r1 1 100 524288 554 r23 hr23) hc33) (APath.fin (by kernel_rfl)))))))))))))), (by show _ = _; kernel_rfl)⟩
              · obtain rfl := some_inj hj
                exact ⟨_, (APath.chunk 1 (by kernel_rfl) (APath.one (.val 55 (.bin .eql) [.t 54, .k (.p (.int .i64 200))]) (by kernel_rfl) (st_bool (c := (r3.1 == 200)) (by kernel_rfl) hc18) (APath.chunk 2 (by kernel_rfl) (APath.oneG (.val 58 (.bin .eql) [.t 57, .k (.p (.int .i64 0))]) 56 true (by kernel_rfl) (by kernel_rfl) (st_bool (c := (r3.2 == 0)) (by kernel_rfl) hc19) (APath.chunk 3 (by kernel_rfl) (APath.oneG (.val 62 (.bin .eql) [.t 61, .k (.p (.int .i64 400))]) 60 true (by kernel_rfl) (by kernel_rfl) (st_bool (c := (r4.1 == 400)) (by kernel_rfl) hc20) (APath.chunk 3 (by kernel_rfl) (APath.oneG (.val 66 (.bin .eql) [.t 65, .k (.p (.int .i64 0))]) 64 true (by kernel_rfl) (by kernel_rfl) (st_bool (c := (r4.2 == 0)) (by kernel_rfl) hc21) (APath.chunk 2 (by kernel_rfl) (APath.oneG (.val 69 .mov [.t 11]) 68 true (by kernel_rfl) (by kernel_rfl) (st_bool (c := j17) (by kernel_rfl) hc34) (APath.fin (by kernel_rfl)))))))))))), (by show _ = _; kernel_rfl)⟩
            · obtain rfl := some_inj hj
              exact ⟨_, (APath.chunk 1 (by kernel_rfl) (APath.one (.val 55 (.bin .eql) [.t 54, .k (.p (.int .i64 200))]) (by kernel_rfl) (st_bool (c := (r3.1 == 200)) (by kernel_rfl) hc18) (APath.chunk 2 (by kernel_rfl) (APath.oneG (.val 58 (.bin .eql) [.t 57, .k (.p (.int .i64 0))]) 56 true (by kernel_rfl) (by kernel_rfl) (st_bool (c := (r3.2 == 0)) (by kernel_rfl) hc19) (APath.chunk 3 (by kernel_rfl) (APath.oneG (.val 62 (.bin .eql) [.t 61, .k (.p (.int .i64 400))]) 60 true (by kernel_rfl) (by kernel_rfl) (st_bool (c := (r4.1 == 400)) (by kernel_rfl) hc20) (APath.chunk 3 (by kernel_rfl) (APath.oneG (.val 66 (.bin .eql) [.t 65, .k (.p (.int .i64 0))]) 64 true (by kernel_rfl) (by kernel_rfl) (st_bool (c := (r4.2 == 0)) (by kernel_rfl) hc35) (APath.fin (by kernel_rfl)))))))))), (by show _ = _; kernel_rfl)⟩
          · obtain rfl := some_inj hj
            exact ⟨_, (APath.chunk 1 (by kernel_rfl) (APath.one (.val 55 (.bin .eql) [.t 54, .k (.p (.int .i64 200))]) (by kernel_rfl) (st_bool (c := (r3.1 == 200)) (by kernel_rfl) hc18) (APath.chunk 2 (by kernel_rfl) (APath.oneG (.val 58 (.bin .eql) [.t 57, .k (.p (.int .i64 0))]) 56 true (by kernel_rfl) (by kernel_rfl) (st_bool (c := (r3.2 == 0)) (by kernel_rfl) hc19) (APath.chunk 3 (by kernel_rfl) (APath.oneG (.val 62 (.bin .eql) [.t 61, .k (.p (.int .i64 400))]) 60 true (by kernel_rfl) (by kernel_rfl) (st_bool (c := (r4.1 == 400)) (by kernel_rfl) hc36) (APath.fin (by kernel_rfl)))))))), (by show _ = _; kernel_rfl)⟩
        · obtain rfl := some_inj hj
          exact ⟨_, (APath.chunk 1 (by kernel_rfl) (APath.one (.val 55 (.bin .eql) [.t 54, .k (.p (.int .i64 200))]) (by kernel_rfl) (st_bool (c := (r3.1 == 200)) (by kernel_rfl) hc18) (APath.chunk 2 (by kernel_rfl) (APath.oneG (.val 58 (.bin .eql) [.t 57, .k (.p (.int .i64 0))]) 56 true (by kernel_rfl) (by kernel_rfl) (st_bool (c := (r3.2 == 0)) (by kernel_rfl) hc37) (APath.fin (by kernel_rfl)))))), (by show _ = _; kernel_rfl)⟩
      · obtain rfl := some_inj hj
        exact ⟨_, (APath.chunk 1 (by kernel_rfl) (APath.one (.val 55 (.bin .eql) [.t 54, .k (.p (.int .i64 200))]) (by kernel_rfl) (st_bool (c := (r3.1 == 200)) (by kernel_rfl) hc38) (APath.fin (by kernel_rfl)))), (by show _ = _; kernel_rfl)⟩
    · clear hj
      rintro s hR
      obtain rfl := hR
      refine vc_ret ?_
      obtain rfl := some_inj h
      exact ret_of (by kernel_rfl)
end Go.Sh
