/- Part of the proof; written by a program out of the texts in wip/. -/
import Derived.Test.YtoboapnbbcedbaaRouteEitherOk1
namespace Go.Sh
open Go Go.Eng Go.Proofs
set_option linter.unusedVariables false
set_option linter.unusedSimpArgs false
set_option maxRecDepth 100000
theorem route_walk_nodes_ok (N : Nat) (a0_ : route_walk) (a1_ : (List Int)) (r : (List Int)) (h : route_walk_nodes N a0_ a1_ = some r) : PCall Try.prog 37 [.agg (c_api_Topo a0_.Topo), s_eI64 false a1_] (s_eI64 false r) := by
  unfold route_walk_nodes at h
  have hH : HP ([] : List HO) [] := trivial
  refine pcall_of chk37 rfl rfl (vc_sound _ _ _ ?_) rfl
  refine vc_seq ?_
  refine vc_reg (S := ⟨[(1, s_eI64 false a1_), (2, .loc 2 0)], [(2, (c_api_Topo a0_.Topo))], []⟩) (APath.fin (by kernel_rfl)) (by kernel_rfl) ?_
  refine vc_seq ?_
  obtain ⟨l3, hl3, h⟩ := bind_some h
  obtain ⟨a1, H2, ha1, hH2, ha1b, hH⟩ := HP.make eI64 hH hl3
  replace hH : HP H2 [.arr a1 1 false (List.map eI64 l3)] := hH
  have hfa1 := own_form (HP.get hH 0 rfl)
  obtain ⟨id4, H5, hid4, hH5, hH⟩ := HP.newCell hH [s_eI64 true []]
  replace hH : HP H5 [.cel id4 [s_eI64 true []], .arr a1 1 false (List.map eI64 l3)] := hH
  obtain ⟨H6, hH6, hH⟩ := HP.setCell (k := 0) (off := 0) (cs := [s_eI64 true []]) (vs := [a1]) (cs' := [a1]) hH rfl (by kernel_rfl)
  replace hH : HP H6 [.cel id4 [a1], .arr a1 1 false (List.map eI64 l3)] := hH
  refine vc_reg (S := ⟨[(1, s_eI64 false a1_), (2, .loc 2 0), (5, .ptr id4 0)], [(2, (c_api_Topo a0_.Topo))], H6⟩) (APath.chunk 1 (by rcases hfa1 with ha1e | ⟨_, _, ha1e⟩ <;> subst ha1e <;> kernel_rfl) (APath.one (.val 9 .len [.t 8]) (by kernel_rfl) (st_val (ys := [s_eI64 false a1_]) (by rcases hfa1 with ha1e | ⟨_, _, ha1e⟩ <;> subst ha1e <;> kernel_rfl) (vexec_len eI64)) (APath.chunk 1 (by rcases hfa1 with ha1e | ⟨_, _, ha1e⟩ <;> subst ha1e <;> kernel_rfl) (APath.one (.mkSl 11 (.k (.p (.int .i64 0))) (.t 10) [.int .i64 0] 8) (by kernel_rfl) (st_make (H := []) (zero := [.int .i64 0]) (bytes := 8) (by rcases hfa1 with ha1e | ⟨_, _, ha1e⟩ <;> subst ha1e <;> kernel_rfl) (by rcases hfa1 with ha1e | ⟨_, _, ha1e⟩ <;> subst ha1e <;> kernel_rfl) (by rcases hfa1 with ha1e | ⟨_, _, ha1e⟩ <;> subst ha1e <;> kernel_rfl) ha1 hH2 ha1b) (APath.one (.newH 5 [.p (.sl 1 true [])]) (by kernel_rfl) (st_newH (H := H2) (by rcases hfa1 with ha1e | ⟨_, _, ha1e⟩ <;> subst ha1e <;> kernel_rfl) hid4 hH5) (APath.one (.store (.t 5) (.t 11) 1) (by kernel_rfl) (st_storeC (H := H5) (v := a1) (cs := [a1]) (by rcases hfa1 with ha1e | ⟨_, _, ha1e⟩ <;> subst ha1e <;> kernel_rfl) (by rcases hfa1 with ha1e | ⟨_, _, ha1e⟩ <;> subst ha1e <;> kernel_rfl) (by rcases hfa1 with ha1e | ⟨_, _, ha1e⟩ <;> subst ha1e <;> kernel_rfl) (by rcases hfa1 with ha1e | ⟨_, _, ha1e⟩ <;> subst ha1e <;> kernel_rfl) (by rcases hfa1 with ha1e | ⟨_, _, ha1e⟩ <;> subst ha1e <;> kernel_rfl) hH6) APath.done)))))) (by rcases hfa1 with ha1e | ⟨_, _, ha1e⟩ <;> subst ha1e <;> kernel_rfl) ?_
  refine vc_seq ?_
  refine vc_seq ?_
  obtain ⟨r7, hr7, h⟩ := bind_some h
  obtain ⟨id9, id10, H8, hvr7, hpr7⟩ := route_walk_hops_ok N a0_ a1_ H6 r7 hr7
  replace hH : HP H8 [.cel id9 [s_eI64 false r7.1], .cel id10 (c_api_Topo r7.2.Topo), .cel id4 [a1], .arr a1 1 false (List.map eI64 l3)] := HP.callee (fp := []) (rest := [.cel id4 [a1], .arr a1 1 false (List.map eI64 l3)]) hH hpr7
  refine vc_reg (S := ⟨[(5, .ptr id4 0), (14, .fn 78 [] [.ptr id9 0, .ptr id10 0])], [], H8⟩) (APath.chunk 2 (by kernel_rfl) (APath.one (.call (some 14) 62 [.t 12, .t 13]) (by kernel_rfl) (st_callH (H := H6) (ys := [.agg (c_api_Topo a0_.Topo), s_eI64 false a1_]) (by kernel_rfl) (by kernel_rfl) (by kernel_rfl) hvr7) APath.done)) (by kernel_rfl) ?_
  refine vc_block ?_
  obtain ⟨o1030, ho1030, h⟩ := bind_some h
  have hyo1030 : ∀ (x13 : Int) (x14 : route_hop) (s : (List Int)) (r : ((List Int)) × Bool) (H : List HO) (its : List Thing), (fun (s : (List Int)) (its : List Thing) => ∃ (a11 : AV), its = [.arr a11 1 false (List.map eI64 s), .cel id4 [a11]] ++ [.lp (List.length H8) (lcOf Try.prog i37.nt [15, 16] ra37_1 rb37_1) [(5, .ptr id4 0)] .ready]) s its → HP H its → (fun (s : (List Int)) (x13 : Int) (x14 : route_hop) => yieldT (fun v : (List Int) => route_walk_nodes_R1 N v x13 x14) s) s x13 x14 = some r → ∃ H' its', YCall Try.prog (List.length H8) [iv x13, .agg (c_route_hop x14)] H r.2 H' ∧ (fun (s : (List Int)) (its : List Thing) => ∃ (a11 : AV), its = [.arr a11 1 false (List.map eI64 s), .cel id4 [a11]] ++ [.lp (List.length H8) (lcOf Try.prog i37.nt [15, 16] ra37_1 rb37_1) [(5, .ptr id4 0)] .ready]) r.1 its' ∧ Fp H H' its its' := by
    clear h
    intro x13 x14 s r H12 its hT hH h
    obtain ⟨q, hb, rfl⟩ := yieldT_some h
    clear h
    obtain ⟨vs, rfl⟩ : ∃ v, v = s := ⟨s, rfl⟩
    obtain ⟨l15, rfl⟩ : ∃ v, v = vs := ⟨vs, rfl⟩
    obtain ⟨a11, rfl⟩ := hT
    replace h : route_walk_nodes_R1 N l15 x13 x14 = some q := hb
    clear hb
    unfold route_walk_nodes_R1 at h
    replace hH : Fp H12 H12 [.arr a11 1 false (List.map eI64 l15), .cel id4 [a11], .lp (List.length H8) (lcOf Try.prog i37.nt [15, 16] ra37_1 rb37_1) [(5, .ptr id4 0)] .ready] [.arr a11 1 false (List.map eI64 l15), .cel id4 [a11], .lp (List.length H8) (lcOf Try.prog i37.nt [15, 16] ra37_1 rb37_1) [(5, .ptr id4 0)] .ready] := Fp.refl hH
    have hfa11 := own_form (Fp.get hH 0 rfl)
    suffices hs : ∃ H', YCall Try.prog (List.length H8) [iv x13, .agg (c_route_hop x14)] H12 true H' ∧ ∃ its', (fun (s : (List Int)) (its : List Thing) => ∃ (a11 : AV), its = [.arr a11 1 false (List.map eI64 s), .cel id4 [a11]] ++ [.lp (List.length H8) (lcOf Try.prog i37.nt [15, 16] ra37_1 rb37_1) [(5, .ptr id4 0)] .ready]) q its' ∧ Fp H12 H' [.arr a11 1 false (List.map eI64 l15), .cel id4 [a11], .lp (List.length H8) (lcOf Try.prog i37.nt [15, 16] ra37_1 rb37_1) [(5, .ptr id4 0)] .ready] its' by
      obtain ⟨H', h1, its', h2, h3⟩ := hs
      exact ⟨H', its', h1, h2, h3⟩
    refine ycall_det (id := (List.length H8)) (args := [iv x13, .agg (c_route_hop x14)]) (H := H12) (n := i37.nt) (ps := [15, 16]) (fr0 := [(5, .ptr id4 0)]) (ia := ra37_1) (ib := rb37_1) true (fun H' => ∃ its', (fun (s : (List Int)) (its : List Thing) => ∃ (a11 : AV), its = [.arr a11 1 false (List.map eI64 s), .cel id4 [a11]] ++ [.lp (List.length H8) (lcOf Try.prog i37.nt [15, 16] ra37_1 rb37_1) [(5, .ptr id4 0)] .ready]) q its' ∧ Fp H12 H' [.arr a11 1 false (List.map eI64 l15), .cel id4 [a11], .lp (List.length H8) (lcOf Try.prog i37.nt [15, 16] ra37_1 rb37_1) [(5, .ptr id4 0)] .ready] its') (Fp.get hH 2 rfl) rfl (by decide +kernel) rfl ?_
    show vc _ _ _ _ ⟨[(5, .ptr id4 0), (15, iv x13), (16, .agg (c_route_hop x14))], [], H12⟩
    refine vc_seq ?_
    refine vc_reg (S := ⟨[(5, .ptr id4 0), (6, iv x13), (16, .agg (c_route_hop x14))], [], H12⟩) (APath.fin (by kernel_rfl)) (by kernel_rfl) ?_
    refine vc_reg (S := ⟨[(5, .ptr id4 0), (6, iv x13), (7, .loc 7 0)], [(7, (c_route_hop x14))], H12⟩) (APath.fin (by kernel_rfl)) (by kernel_rfl) ?_
    refine ia_done (k := 2) hH rfl ?_
    intro H515 hH
    replace hH : Fp H12 H515 [.arr a11 1 false (List.map eI64 l15), .cel id4 [a11], .lp (List.length H8) (lcOf Try.prog i37.nt [15, 16] ra37_1 rb37_1) [(5, .ptr id4 0)] .ready] [.arr a11 1 false (List.map eI64 l15), .cel id4 [a11], .lp (List.length H8) (lcOf Try.prog i37.nt [15, 16] ra37_1 rb37_1) [(5, .ptr id4 0)] .busy] := hH
    show vc _ _ _ _ ⟨[(5, .ptr id4 0), (6, iv x13), (7, .loc 7 0)], [(7, (c_route_hop x14))], H515⟩
    refine vc_block ?_
    obtain ⟨j1018, hj1018, h⟩ := bind_some h
    refine vc_joinK [5, 7] (fun s => ∃ (a1016 : AV) (H1017 : List HO), s = ⟨[(5, .ptr id4 0), (7, .loc 7 0)], [(7, (c_route_hop x14))], H1017⟩ ∧ Fp H12 H1017 [.arr a11 1 false (List.map eI64 l15), .cel id4 [a11], .lp (List.length H8) (lcOf Try.prog i37.nt [15, 16] ra37_1 rb37_1) [(5, .ptr id4 0)] .ready] [.arr a1016 1 false (List.map eI64 j1018), .cel id4 [a1016], .lp (List.length H8) (lcOf Try.prog i37.nt [15, 16] ra37_1 rb37_1) [(5, .ptr id4 0)] .busy]) ?_ ?_
    · clear h
      have h := hj1018
      refine vc_seq ?_
      refine vc_reg (S := ⟨[(5, .ptr id4 0), (7, .loc 7 0), (18, bv (x13 == 0))], [(7, (c_route_hop x14))], H515⟩) (APath.fin (by kernel_rfl)) (by kernel_rfl) ?_
      refine vc_ite (by kernel_rfl) h (fun hc1019 h => ?_) (fun hc1019 h => ?_)
      · have hlc1020 := Fp.get hH 1 rfl
        obtain ⟨l1023, hl1023, h⟩ := bind_some h
        obtain ⟨a1021, H1022, ha1021, hH⟩ := Fp.app (k := 0) (a := a11) (sz := 1) (frz := false) eI64 hH rfl hl1023
        replace hH : Fp H12 H1022 [.arr a11 1 false (List.map eI64 l15), .cel id4 [a11], .lp (List.length H8) (lcOf Try.prog i37.nt [15, 16] ra37_1 rb37_1) [(5, .ptr id4 0)] .ready] [.arr a1021 1 false (List.map eI64 l1023), .cel id4 [a11], .lp (List.length H8) (lcOf Try.prog i37.nt [15, 16] ra37_1 rb37_1) [(5, .ptr id4 0)] .busy] := hH
        have hfa1021 := own_form (Fp.get hH 0 rfl)
        obtain ⟨H1024, hH1024, hH⟩ := Fp.setCell (k := 1) (off := 0) (cs := [a11]) (vs := [a1021]) (cs' := [a1021]) hH rfl (by kernel_rfl)
        replace hH : Fp H12 H1024 [.arr a11 1 false (List.map eI64 l15), .cel id4 [a11], .lp (List.length H8) (lcOf Try.prog i37.nt [15, 16] ra37_1 rb37_1) [(5, .ptr id4 0)] .ready] [.arr a1021 1 false (List.map eI64 l1023), .cel id4 [a1021], .lp (List.length H8) (lcOf Try.prog i37.nt [15, 16] ra37_1 rb37_1) [(5, .ptr id4 0)] .busy] := hH
        refine vc_reg (S := ⟨[(5, .ptr id4 0), (7, .loc 7 0)], [(7, (c_route_hop x14))], H1024⟩) (APath.one (.load 19 (.t 5) 1 false) (by kernel_rfl) (st_loadC (H := H515) (id := id4) (off := 0) (cs := [a11]) (c := [a11]) (r := a11) (by rcases hfa1021 with ha1021e | ⟨_, _, ha1021e⟩ <;> rcases hfa11 with ha11e | ⟨_, _, ha11e⟩ <;> subst ha1021e ha11e <;> kernel_rfl) (by rcases hfa1021 with ha1021e | ⟨_, _, ha1021e⟩ <;> rcases hfa11 with ha11e | ⟨_, _, ha11e⟩ <;> subst ha1021e ha11e <;> kernel_rfl) hlc1020 (by rcases hfa1021 with ha1021e | ⟨_, _, ha1021e⟩ <;> rcases hfa11 with ha11e | ⟨_, _, ha11e⟩ <;> subst ha1021e ha11e <;> kernel_rfl) (by rcases hfa1021 with ha1021e | ⟨_, _, ha1021e⟩ <;> rcases hfa11 with ha11e | ⟨_, _, ha11e⟩ <;> subst ha1021e ha11e <;> kernel_rfl) (by rcases hfa1021 with ha1021e | ⟨_, _, ha1021e⟩ <;> rcases hfa11 with ha11e | ⟨_, _, ha11e⟩ <;> subst ha1021e ha11e <;> kernel_rfl)) (APath.chunk 3 (by rcases hfa1021 with ha1021e | ⟨_, _, ha1021e⟩ <;> rcases hfa11 with ha11e | ⟨_, _, ha11e⟩ <;> subst ha1021e ha11e <;> kernel_rfl) (APath.one (.app 23 (.t 19) (.t 22) 1 8) (by kernel_rfl) (st_app (H := H515) (a := a11) (b := s_eI64 true [x14.from_]) (by rcases hfa1021 with ha1021e | ⟨_, _, ha1021e⟩ <;> rcases hfa11 with ha11e | ⟨_, _, ha11e⟩ <;> subst ha1021e ha11e <;> kernel_rfl) (by rcases hfa1021 with ha1021e | ⟨_, _, ha1021e⟩ <;> rcases hfa11 with ha11e | ⟨_, _, ha11e⟩ <;> subst ha1021e ha11e <;> kernel_rfl) (by rcases hfa1021 with ha1021e | ⟨_, _, ha1021e⟩ <;> rcases hfa11 with ha11e | ⟨_, _, ha11e⟩ <;> subst ha1021e ha11e <;> kernel_rfl) (by rcases hfa1021 with ha1021e | ⟨_, _, ha1021e⟩ <;> rcases hfa11 with ha11e | ⟨_, _, ha11e⟩ <;> subst ha1021e ha11e <;> kernel_rfl) ha1021) (APath.one (.store (.t 5) (.t 23) 1) (by kernel_rfl) (st_storeC (H := H1022) (v := a1021) (cs := [a1021]) (by rcases hfa1021 with ha1021e | ⟨_, _, ha1021e⟩ <;> rcases hfa11 with ha11e | ⟨_, _, ha11e⟩ <;> subst ha1021e ha11e <;> kernel_rfl) (by rcases hfa1021 with ha1021e | ⟨_, _, ha1021e⟩ <;> rcases hfa11 with ha11e | ⟨_, _, ha11e⟩ <;> subst ha1021e ha11e <;> kernel_rfl) (by rcases hfa1021 with ha1021e | ⟨_, _, ha1021e⟩ <;> rcases hfa11 with ha11e | ⟨_, _, ha11e⟩ <;> subst ha1021e ha11e <;> kernel_rfl) (by rcases hfa1021 with ha1021e | ⟨_, _, ha1021e⟩ <;> rcases hfa11 with ha11e | ⟨_, _, ha11e⟩ <;> subst ha1021e ha11e <;> kernel_rfl) (by rcases hfa1021 with ha1021e | ⟨_, _, ha1021e⟩ <;> rcases hfa11 with ha11e | ⟨_, _, ha11e⟩ <;> subst ha1021e ha11e <;> kernel_rfl) hH1024) APath.done)))) (by rcases hfa1021 with ha1021e | ⟨_, _, ha1021e⟩ <;> rcases hfa11 with ha11e | ⟨_, _, ha11e⟩ <;> subst ha1021e ha11e <;> kernel_rfl) ?_
        obtain rfl := some_inj h
        exact ⟨rfl, ⟨a1021, H1024, (by show _ = _; kernel_rfl), (Fp.pick hH [0, 1, 2] rfl)⟩⟩
      · refine vc_skip ?_
        obtain rfl := some_inj h
        exact ⟨rfl, ⟨a11, H515, (by show _ = _; kernel_rfl), (Fp.pick hH [0, 1, 2] rfl)⟩⟩
    · clear hj1018
      rintro s hR
      obtain ⟨a1016, H1017, rfl, hH⟩ := hR
      replace hH : Fp H12 H1017 [.arr a11 1 false (List.map eI64 l15), .cel id4 [a11], .lp (List.length H8) (lcOf Try.prog i37.nt [15, 16] ra37_1 rb37_1) [(5, .ptr id4 0)] .ready] [.arr a1016 1 false (List.map eI64 j1018), .cel id4 [a1016], .lp (List.length H8) (lcOf Try.prog i37.nt [15, 16] ra37_1 rb37_1) [(5, .ptr id4 0)] .busy] := hH
      have hfa1016 := own_form (Fp.get hH 0 rfl)
      have hlc1025 := Fp.get hH 1 rfl
      obtain ⟨l1028, hl1028, h⟩ := bind_some h
      obtain ⟨a1026, H1027, ha1026, hH⟩ := Fp.app (k := 0) (a := a1016) (sz := 1) (frz := false) eI64 hH rfl hl1028
      replace hH : Fp H12 H1027 [.arr a11 1 false (List.map eI64 l15), .cel id4 [a11], .lp (List.length H8) (lcOf Try.prog i37.nt [15, 16] ra37_1 rb37_1) [(5, .ptr id4 0)] .ready] [.arr a1026 1 false (List.map eI64 l1028), .cel id4 [a1016], .lp (List.length H8) (lcOf Try.prog i37.nt [15, 16] ra37_1 rb37_1) [(5, .ptr id4 0)] .busy] := hH
      have hfa1026 := own_form (Fp.get hH 0 rfl)
      obtain ⟨H1029, hH1029, hH⟩ := Fp.setCell (k := 1) (off := 0) (cs := [a1016]) (vs := [a1026]) (cs' := [a1026]) hH rfl (by kernel_rfl)
      replace hH : Fp H12 H1029 [.arr a11 1 false (List.map eI64 l15), .cel id4 [a11], .lp (List.length H8) (lcOf Try.prog i37.nt [15, 16] ra37_1 rb37_1) [(5, .ptr id4 0)] .ready] [.arr a1026 1 false (List.map eI64 l1028), .cel id4 [a1026], .lp (List.length H8) (lcOf Try.prog i37.nt [15, 16] ra37_1 rb37_1) [(5, .ptr id4 0)] .busy] := hH
      refine vc_reg (S := ⟨[], [], H1029⟩) (APath.one (.load 24 (.t 5) 1 false) (by kernel_rfl) (st_loadC (H := H1017) (id := id4) (off := 0) (cs := [a1016]) (c := [a1016]) (r := a1016) (by rcases hfa1016 with ha1016e | ⟨_, _, ha1016e⟩ <;> rcases hfa1026 with ha1026e | ⟨_, _, ha1026e⟩ <;> subst ha1016e ha1026e <;> kernel_rfl) (by rcases hfa1016 with ha1016e | ⟨_, _, ha1016e⟩ <;> rcases hfa1026 with ha1026e | ⟨_, _, ha1026e⟩ <;> subst ha1016e ha1026e <;> kernel_rfl) hlc1025 (by rcases hfa1016 with ha1016e | ⟨_, _, ha1016e⟩ <;> rcases hfa1026 with ha1026e | ⟨_, _, ha1026e⟩ <;> subst ha1016e ha1026e <;> kernel_rfl) (by rcases hfa1016 with ha1016e | ⟨_, _, ha1016e⟩ <;> rcases hfa1026 with ha1026e | ⟨_, _, ha1026e⟩ <;> subst ha1016e ha1026e <;> kernel_rfl) (by rcases hfa1016 with ha1016e | ⟨_, _, ha1016e⟩ <;> rcases hfa1026 with ha1026e | ⟨_, _, ha1026e⟩ <;> subst ha1016e ha1026e <;> kernel_rfl)) (APath.chunk 3 (by rcases hfa1016 with ha1016e | ⟨_, _, ha1016e⟩ <;> rcases hfa1026 with ha1026e | ⟨_, _, ha1026e⟩ <;> subst ha1016e ha1026e <;> kernel_rfl) (APath.one (.app 28 (.t 24) (.t 27) 1 8) (by kernel_rfl) (st_app (H := H1017) (a := a1016) (b := s_eI64 true [x14.to_]) (by rcases hfa1016 with ha1016e | ⟨_, _, ha1016e⟩ <;> rcases hfa1026 with ha1026e | ⟨_, _, ha1026e⟩ <;> subst ha1016e ha1026e <;> kernel_rfl) (by rcases hfa1016 with ha1016e | ⟨_, _, ha1016e⟩ <;> rcases hfa1026 with ha1026e | ⟨_, _, ha1026e⟩ <;> subst ha1016e ha1026e <;> kernel_rfl) (by rcases hfa1016 with ha1016e | ⟨_, _, ha1016e⟩ <;> rcases hfa1026 with ha1026e | ⟨_, _, ha1026e⟩ <;> subst ha1016e ha1026e <;> kernel_rfl) (by rcases hfa1016 with ha1016e | ⟨_, _, ha1016e⟩ <;> rcases hfa1026 with ha1026e | ⟨_, _, ha1026e⟩ <;> subst ha1016e ha1026e <;> kernel_rfl) ha1026) (APath.one (.store (.t 5) (.t 28) 1) (by kernel_rfl) (st_storeC (H := H1027) (v := a1026) (cs := [a1026]) (by rcases hfa1016 with ha1016e | ⟨_, _, ha1016e⟩ <;> rcases hfa1026 with ha1026e | ⟨_, _, ha1026e⟩ <;> subst ha1016e ha1026e <;> kernel_rfl) (by rcases hfa1016 with ha1016e | ⟨_, _, ha1016e⟩ <;> rcases hfa1026 with ha1026e | ⟨_, _, ha1026e⟩ <;> subst ha1016e ha1026e <;> kernel_rfl) (by rcases hfa1016 with ha1016e | ⟨_, _, ha1016e⟩ <;> rcases hfa1026 with ha1026e | ⟨_, _, ha1026e⟩ <;> subst ha1016e ha1026e <;> kernel_rfl) (by rcases hfa1016 with ha1016e | ⟨_, _, ha1016e⟩ <;> rcases hfa1026 with ha1026e | ⟨_, _, ha1026e⟩ <;> subst ha1016e ha1026e <;> kernel_rfl) (by rcases hfa1016 with ha1016e | ⟨_, _, ha1016e⟩ <;> rcases hfa1026 with ha1026e | ⟨_, _, ha1026e⟩ <;> subst ha1016e ha1026e <;> kernel_rfl) hH1029) APath.done)))) (by rcases hfa1016 with ha1016e | ⟨_, _, ha1016e⟩ <;> rcases hfa1026 with ha1026e | ⟨_, _, ha1026e⟩ <;> subst ha1016e ha1026e <;> kernel_rfl) ?_
      obtain rfl := some_inj h
      exact rb_done (k := 2) (.ready) hH rfl rfl (fun H6 hH => ⟨_, ⟨a1026, Eq.refl _⟩, (Fp.pick hH [0, 1, 2] rfl)⟩)
  refine vc_range (s := ⟨[(5, .ptr id4 0), (14, .fn 78 [] [.ptr id9 0, .ptr id10 0])], [], H8⟩) [(5, .ptr id4 0)] (FrOK.cons (by kernel_rfl) (by kernel_rfl) FrOK.nil) (by kernel_rfl) (fun H => rfl) (capT := [.cel id9 [s_eI64 false r7.1], .cel id10 (c_api_Topo r7.2.Topo)]) (cells0 := [.arr a1 1 false (List.map eI64 l3), .cel id4 [a1]]) (rest := []) (HP.now (HP.pick hH [0, 1, 3, 2] rfl)) (fun (s : (List Int)) (its : List Thing) => ∃ (a11 : AV), its = [.arr a11 1 false (List.map eI64 s), .cel id4 [a11]] ++ [.lp (List.length H8) (lcOf Try.prog i37.nt [15, 16] ra37_1 rb37_1) [(5, .ptr id4 0)] .ready]) l3 o1030 (by exact ⟨a1, Eq.refl _⟩) (fun H its hT hH => route_walk_hops_1_ok N (fun (s : (List Int)) (x13 : Int) (x14 : route_hop) => yieldT (fun v : (List Int) => route_walk_nodes_R1 N v x13 x14) s) r7.1 r7.2 l3 id9 id10 (List.length H8) (fun (s : (List Int)) (its : List Thing) => ∃ (a11 : AV), its = [.arr a11 1 false (List.map eI64 s), .cel id4 [a11]] ++ [.lp (List.length H8) (lcOf Try.prog i37.nt [15, 16] ra37_1 rb37_1) [(5, .ptr id4 0)] .ready]) hyo1030 H its hT hH o1030 ho1030) ?_
  rintro its hT
  obtain ⟨a11, rfl⟩ := hT
  refine ⟨_, _, rfl, ?_⟩
  intro H1031 hF
  replace hH : HP H1031 [.cel id9 [s_eI64 false r7.1], .cel id10 (c_api_Topo r7.2.Topo), .arr a11 1 false (List.map eI64 o1030), .cel id4 [a11]] := HP.after (HP.pick hH [0, 1, 3, 2] rfl) hF
  have hfa11 := own_form (HP.get hH 2 rfl)
  refine outQ_ready (S := ⟨[(5, .ptr id4 0), (14, .fn 78 [] [.ptr id9 0, .ptr id10 0])], [], H1031⟩) ?_
  try show vc _ _ _ _ _
  refine vc_kp ?_
  replace hH : HP H1031 [.arr a11 1 false (List.map eI64 o1030), .cel id4 [a11]] := HP.pick hH [2, 3] rfl
  refine vc_seq ?_
  have hlc1032 := HP.get hH 1 rfl
  refine vc_reg (S := ⟨[(4, a11)], [], H1031⟩) (APath.one (.load 29 (.t 5) 1 false) (by kernel_rfl) (st_loadC (H := H1031) (id := id4) (off := 0) (cs := [a11]) (c := [a11]) (r := a11) (by rcases hfa11 with ha11e | ⟨_, _, ha11e⟩ <;> subst ha11e <;> kernel_rfl) (by rcases hfa11 with ha11e | ⟨_, _, ha11e⟩ <;> subst ha11e <;> kernel_rfl) hlc1032 (by rcases hfa11 with ha11e | ⟨_, _, ha11e⟩ <;> subst ha11e <;> kernel_rfl) (by rcases hfa11 with ha11e | ⟨_, _, ha11e⟩ <;> subst ha11e <;> kernel_rfl) (by rcases hfa11 with ha11e | ⟨_, _, ha11e⟩ <;> subst ha11e <;> kernel_rfl)) (APath.fin (by rcases hfa11 with ha11e | ⟨_, _, ha11e⟩ <;> subst ha11e <;> kernel_rfl))) (by rcases hfa11 with ha11e | ⟨_, _, ha11e⟩ <;> subst ha11e <;> kernel_rfl) ?_
  replace hH : HP H1031 [.arr a11 1 false (List.map eI64 o1030)] := HP.pick hH [0] rfl
  refine vc_ret ?_
  obtain rfl := some_inj h
  exact ret_own (H := H1031) (ys := [a11]) (xs := [.p (.sl 1 false (List.map eI64 o1030))]) (by rcases hfa11 with ha11e | ⟨_, _, ha11e⟩ <;> subst ha11e <;> kernel_rfl) (by rcases hfa11 with ha11e | ⟨_, _, ha11e⟩ <;> subst ha11e <;> kernel_rfl) (pureVL_cons (HP.pure (k := 0) (frz := false) eI64 hH rfl).2 pureVL_nil) (by kernel_rfl)
theorem route_Delay_1_ok (N : Nat) (a0_ : route_walk) (c0_ : (List Int)) (k0_ : Nat) (H : List HO) (hH : HP H [.cel k0_ [s_eI64 false c0_]]) (r : Int × Int) (h : route_Delay_1 N a0_ c0_ = some r) : ACall Try.prog 39 [.agg (c_api_Topo a0_.Topo), .ptr k0_ 0] H (.tup [iv r.1, iv r.2]) H := by
  unfold route_Delay_1 at h
  refine acall_ofW chk39 rfl rfl rfl (vc_sound _ _ _ ?_)
  refine vc_seq ?_
  refine vc_reg (S := ⟨[(1, .ptr k0_ 0), (2, .loc 2 0)], [(2, (c_api_Topo a0_.Topo))], H⟩) (APath.fin (by kernel_rfl)) (by kernel_rfl) ?_
  refine vc_seq ?_
  have hlc1 := HP.get hH 0 rfl
  obtain ⟨r2, hr2, h⟩ := bind_some h
  have hvr2 := (route_total_ok N c0_ (fun x0 => route_walk_delay N a0_ x0 )   41 [.agg (c_api_Topo a0_.Topo)] [] (by kernel_rfl) [] (fun H x0 r hH h => VCall.of (by kernel_rfl) ((route_walk_delay_ok N a0_ x0 r h).frame H)) H (HP.now (HP.pick hH [] rfl)) r2 hr2)
  refine vc_reg (S := ⟨[(3, iv r2), (4, iv 0)], [], H⟩) (APath.one (.load 5 (.t 1) 1 false) (by kernel_rfl) (st_loadC (H := H) (id := k0_) (off := 0) (cs := [s_eI64 false c0_]) (c := [s_eI64 false c0_]) (r := s_eI64 false c0_) (by kernel_rfl) (by kernel_rfl) hlc1 (by kernel_rfl) (by kernel_rfl) (by kernel_rfl)) (APath.chunk 2 (by kernel_rfl) (APath.one (.call (some 8) 40 [.t 5, .t 7]) (by kernel_rfl) (st_callH (H := H) (ys := [s_eI64 false c0_, .fn 41 [.agg (c_api_Topo a0_.Topo)] []]) (by kernel_rfl) (by kernel_rfl) (by kernel_rfl) hvr2) (APath.fin (by kernel_rfl))))) (by kernel_rfl) ?_
  replace hH : HP H [] := HP.pick hH [] rfl
  refine vc_ret ?_
  obtain rfl := some_inj h
  exact ret_ofAW (by kernel_rfl) (by kernel_rfl)
theorem route_Time_1_ok (N : Nat) (a0_ : route_walk) (c0_ : Int) (c1_ : (List Int)) (k0_ : Nat) (k1_ : Nat) (H : List HO) (hH : HP H [.cel k0_ [iv c0_], .cel k1_ [s_eI64 false c1_]]) (r : Int × Int) (h : route_Time_1 N a0_ c0_ c1_ = some r) : ACall Try.prog 42 [.agg (c_api_Topo a0_.Topo), .ptr k0_ 0, .ptr k1_ 0] H (.tup [iv r.1, iv r.2]) H := by
  unfold route_Time_1 at h
  have hH0 := hH
  replace hH := Fp.refl hH
  refine acall_res chk42 rfl rfl rfl (vc_sound _ _ _ ?_)
  refine vc_seq ?_
  obtain ⟨id1, H2, hid1, hH2, hH⟩ := Fp.newCell hH (c_api_Topo a0_.Topo)
  replace hH : Fp H H2 [.cel k0_ [iv c0_], .cel k1_ [s_eI64 false c1_]] [.cel id1 (c_api_Topo a0_.Topo), .cel k0_ [iv c0_], .cel k1_ [s_eI64 false c1_]] := hH
  refine vc_reg (S := ⟨[(1, .ptr k0_ 0), (2, .ptr k1_ 0), (3, .ptr id1 0)], [], H2⟩) (APath.one (.boxH 3 (.t 0)) (by kernel_rfl) (st_boxH (H := H) (v := .agg (c_api_Topo a0_.Topo)) (by kernel_rfl) (by kernel_rfl) (by kernel_rfl) hid1 hH2) (APath.fin (by kernel_rfl))) (by kernel_rfl) ?_
  refine vc_seq ?_
  refine vc_seq ?_
  obtain ⟨j7, hj, h⟩ := bind_some h
  refine vc_regXR (fun s => s = ⟨[(1, .ptr k0_ 0), (2, .ptr k1_ 0), (3, .ptr id1 0), (11, bv j7)], [], H2⟩) ?_ ?_
  · clear h
    have hlc3 := Fp.get hH 1 rfl
    rcases ite_some hj with ⟨hc4, hj⟩ | ⟨hc5, hj⟩
    · obtain rfl := some_inj hj
      exact ⟨_, (APath.one (.load 6 (.t 1) 1 false) (by kernel_rfl) (st_loadC (H := H2) (id := k0_) (off := 0) (cs := [iv c0_]) (c := [iv c0_]) (r := iv c0_) (by kernel_rfl) (by kernel_rfl) hlc3 (by kernel_rfl) (by kernel_rfl) (by kernel_rfl)) (APath.one (.val 7 (.bin .lss) [.t 6, .k (.p (.int .i64 84))]) (by kernel_rfl) (st_bool (c := (decide (c0_ < 84))) (by kernel_rfl) hc4) (APath.fin (by kernel_rfl)))), (by show _ = _; kernel_rfl)⟩
    · have hlc6 := Fp.get hH 1 rfl
      obtain rfl := some_inj hj
      exact ⟨_, (APath.one (.load 6 (.t 1) 1 false) (by kernel_rfl) (st_loadC (H := H2) (id := k0_) (off := 0) (cs := [iv c0_]) (c := [iv c0_]) (r := iv c0_) (by kernel_rfl) (by kernel_rfl) hlc3 (by kernel_rfl) (by kernel_rfl) (by kernel_rfl)) (APath.one (.val 7 (.bin .lss) [.t 6, .k (.p (.int .i64 84))]) (by kernel_rfl) (st_bool (c := (decide (c0_ < 84))) (by kernel_rfl) hc5) (APath.chunk 1 (by kernel_rfl) (APath.oneG (.load 9 (.t 1) 1 false) 8 false (by kernel_rfl) (by kernel_rfl) (st_loadC (H := H2) (id := k0_) (off := 0) (cs := [iv c0_]) (c := [iv c0_]) (r := iv c0_) (by kernel_rfl) (by kernel_rfl) hlc6 (by kernel_rfl) (by kernel_rfl) (by kernel_rfl)) (APath.fin (by kernel_rfl)))))), (by show _ = _; kernel_rfl)⟩
  · clear hj
    rintro s hR
    obtain rfl := hR
    refine vc_ite (by kernel_rfl) h (fun hc8 h => ?_) (fun hc8 h => ?_)
    · refine vc_seq ?_
      refine vc_reg (S := ⟨[(4, iv 0), (5, iv 2)], [], H2⟩) (APath.fin (by kernel_rfl)) (by kernel_rfl) ?_
      replace hH : Fp H H2 [.cel k0_ [iv c0_], .cel k1_ [s_eI64 false c1_]] [.cel k0_ [iv c0_], .cel k1_ [s_eI64 false c1_]] := Fp.pick hH [1, 2] rfl
      refine vc_ret ?_
      obtain rfl := some_inj h
      exact ret_res (xs := [iv 0, iv 2]) (pureR_cons (r := .tmp 4) (y := iv 0) (by kernel_rfl) (by kernel_rfl) (by kernel_rfl) (pureR_cons (r := .tmp 5) (y := iv 2) (by kernel_rfl) (by kernel_rfl) (by kernel_rfl) pureR_nil)) (by kernel_rfl) (Fp.pick hH [0, 1] rfl) rfl hH0
    · refine vc_skip ?_
      refine vc_kp ?_
      refine vc_seq ?_
      have hlc9 := Fp.get hH 2 rfl
      obtain ⟨r10, hr10, h⟩ := bind_some h
      have hvr10 := (route_total_ok N c1_ (fun x0 => route_Time_1_1 N x0 c0_ a0_)   43 [] [.ptr k0_ 0, .ptr id1 0] (by kernel_rfl) [.cel k0_ [iv c0_], .cel id1 (c_api_Topo a0_.Topo)] (fun H x0 r hH h => VCall.of (by kernel_rfl) (route_Time_1_1_ok N  x0 c0_ a0_ k0_ id1 H hH r h)) H2 (Fp.now (Fp.pick hH [1, 0] rfl)) r10 hr10)
      refine vc_reg (S := ⟨[(4, iv r10), (5, iv 0)], [], H2⟩) (APath.one (.load 12 (.t 2) 1 false) (by kernel_rfl) (st_loadC (H := H2) (id := k1_) (off := 0) (cs := [s_eI64 false c1_]) (c := [s_eI64 false c1_]) (r := s_eI64 false c1_) (by kernel_rfl) (by kernel_rfl) hlc9 (by kernel_rfl) (by kernel_rfl) (by kernel_rfl)) (APath.chunk 1 (by kernel_rfl) (APath.one (.call (some 14) 40 [.t 12, .t 13]) (by kernel_rfl) (st_callH (H := H2) (ys := [s_eI64 false c1_, .fn 43 [] [.ptr k0_ 0, .ptr id1 0]]) (by kernel_rfl) (by kernel_rfl) (by kernel_rfl) hvr10) (APath.fin (by kernel_rfl))))) (by kernel_rfl) ?_
      replace hH : Fp H H2 [.cel k0_ [iv c0_], .cel k1_ [s_eI64 false c1_]] [.cel k0_ [iv c0_], .cel k1_ [s_eI64 false c1_]] := Fp.pick hH [1, 2] rfl
      refine vc_ret ?_
      obtain rfl := some_inj h
      exact ret_res (xs := [iv r10, iv 0]) (pureR_cons (r := .tmp 4) (y := iv r10) (by kernel_rfl) (by kernel_rfl) (by kernel_rfl) (pureR_cons (r := .tmp 5) (y := iv 0) (by kernel_rfl) (by kernel_rfl) (by kernel_rfl) pureR_nil)) (by kernel_rfl) (Fp.pick hH [0, 1] rfl) rfl hH0
theorem route_walk_valid_ok (N : Nat) (a0_ : route_walk) (a1_ : (List Int)) (r : Bool) (h : route_walk_valid N a0_ a1_ = some r) : PCall Try.prog 51 [.agg (c_api_Topo a0_.Topo), s_eI64 false a1_] (bv r) := by
  unfold route_walk_valid at h
  have hH : HP ([] : List HO) [] := trivial
  refine pcall_of chk51 rfl rfl (vc_sound _ _ _ ?_) rfl
  refine vc_seq ?_
  obtain ⟨id1, H2, hid1, hH2, hH⟩ := HP.newCell hH (c_api_Topo a0_.Topo)
  replace hH : HP H2 [.cel id1 (c_api_Topo a0_.Topo)] := hH
  refine vc_reg (S := ⟨[(1, s_eI64 false a1_), (2, .ptr id1 0)], [], H2⟩) (APath.one (.boxH 2 (.t 0)) (by kernel_rfl) (st_boxH (H := []) (v := .agg (c_api_Topo a0_.Topo)) (by kernel_rfl) (by kernel_rfl) (by kernel_rfl) hid1 hH2) (APath.fin (by kernel_rfl))) (by kernel_rfl) ?_
  refine vc_seq ?_
  refine vc_seq ?_
  refine vc_regX ⟨[(1, s_eI64 false a1_), (2, .ptr id1 0), (17, bv ((decide (((List.length a1_ : Nat) : Int) < 1)) || (decide (((List.length a1_ : Nat) : Int) > 8))))], [], H2⟩ ?_ ?_
  · rcases Bool.eq_false_or_eq_true (decide (((List.length a1_ : Nat) : Int) < 1)) with hc3 | hc4
    · exact ⟨_, (APath.chunk 1 (by kernel_rfl) (APath.one (.val 11 .len [.t 10]) (by kernel_rfl) (st_val (ys := [s_eI64 false a1_]) (by kernel_rfl) (vexec_len eI64)) (APath.one (.val 12 (.bin .lss) [.t 11, .k (.p (.int .i64 1))]) (by kernel_rfl) (st_bool (c := (decide (((List.length a1_ : Nat) : Int) < 1))) (by kernel_rfl) hc3) (APath.fin (by kernel_rfl))))), by simp only [hc3]; kernel_rfl⟩
    · exact ⟨_, (APath.chunk 1 (by kernel_rfl) (APath.one (.val 11 .len [.t 10]) (by kernel_rfl) (st_val (ys := [s_eI64 false a1_]) (by kernel_rfl) (vexec_len eI64)) (APath.one (.val 12 (.bin .lss) [.t 11, .k (.p (.int .i64 1))]) (by kernel_rfl) (st_bool (c := (decide (((List.length a1_ : Nat) : Int) < 1))) (by kernel_rfl) hc4) (APath.chunk 2 (by kernel_rfl) (APath.oneG (.val 15 .len [.t 14]) 13 false (by kernel_rfl) (by kernel_rfl) (st_val (ys := [s_eI64 false a1_]) (by kernel_rfl) (vexec_len eI64)) (APath.fin (by kernel_rfl))))))), by simp only [hc4]; kernel_rfl⟩
  · refine vc_ite (by kernel_rfl) h (fun hc5 h => ?_) (fun hc5 h => ?_)
    · refine vc_seq ?_
      refine vc_reg (S := ⟨[(4, bv false)], [], H2⟩) (APath.fin (by kernel_rfl)) (by kernel_rfl) ?_
      replace hH : HP H2 [] := HP.pick hH [] rfl
      refine vc_ret ?_
      obtain rfl := some_inj h
      exact ret_of (by kernel_rfl)
    · refine vc_skip ?_
      refine vc_kp ?_
      refine vc_seq ?_
      obtain ⟨id6, H7, hid6, hH7, hH⟩ := HP.newCell hH (c_Arr12_Bool (Arr12_Bool.mk false false false false false false false false false false false false))
      replace hH : HP H7 [.cel id6 (c_Arr12_Bool (Arr12_Bool.mk false false false false false false false false false false false false)), .cel id1 (c_api_Topo a0_.Topo)] := hH
      refine vc_reg (S := ⟨[(1, s_eI64 false a1_), (2, .ptr id1 0), (5, .ptr id6 0)], [], H7⟩) (APath.one (.newH 5 [.p (.bool false), .p (.bool false), .p (.bool false), .p (.bool false), .p (.bool false), .p (.bool false), .p (.bool false), .p (.bool false), .p (.bool false), .p (.bool false), .p (.bool false), .p (.bool false)]) (by kernel_rfl) (st_newH (H := H2) (by kernel_rfl) hid6 hH7) APath.done) (by kernel_rfl) ?_
      refine vc_seq ?_
      obtain ⟨id8, H9, hid8, hH9, hH⟩ := HP.newCell hH [iv 0]
      replace hH : HP H9 [.cel id8 [iv 0], .cel id6 (c_Arr12_Bool (Arr12_Bool.mk false false false false false false false false false false false false)), .cel id1 (c_api_Topo a0_.Topo)] := hH
      obtain ⟨id10, H11, hid10, hH11, hH⟩ := HP.newCell hH [iv 0]
      replace hH : HP H11 [.cel id10 [iv 0], .cel id8 [iv 0], .cel id6 (c_Arr12_Bool (Arr12_Bool.mk false false false false false false false false false false false false)), .cel id1 (c_api_Topo a0_.Topo)] := hH
      obtain ⟨H12, hH12, hH⟩ := HP.setCell (k := 1) (off := 0) (cs := [iv 0]) (vs := [iv 0]) (cs' := [iv 0]) hH rfl (by kernel_rfl)
      replace hH : HP H12 [.cel id10 [iv 0], .cel id8 [iv 0], .cel id6 (c_Arr12_Bool (Arr12_Bool.mk false false false false false false false false false false false false)), .cel id1 (c_api_Topo a0_.Topo)] := hH
      obtain ⟨H13, hH13, hH⟩ := HP.setCell (k := 0) (off := 0) (cs := [iv 0]) (vs := [iv 0]) (cs' := [iv 0]) hH rfl (by kernel_rfl)
      replace hH : HP H13 [.cel id10 [iv 0], .cel id8 [iv 0], .cel id6 (c_Arr12_Bool (Arr12_Bool.mk false false false false false false false false false false false false)), .cel id1 (c_api_Topo a0_.Topo)] := hH
      refine vc_reg (S := ⟨[(1, s_eI64 false a1_), (2, .ptr id1 0), (5, .ptr id6 0), (6, .ptr id8 0), (7, .ptr id10 0)], [], H13⟩) (APath.one (.newH 6 [.p (.int .i64 0)]) (by kernel_rfl) (st_newH (H := H7) (by kernel_rfl) hid8 hH9) (APath.one (.newH 7 [.p (.int .i64 0)]) (by kernel_rfl) (st_newH (H := H9) (by kernel_rfl) hid10 hH11) (APath.one (.store (.t 6) (.k (.p (.int .i64 0))) 1) (by kernel_rfl) (st_storeH (H := H11) (v := iv 0) (by kernel_rfl) (by kernel_rfl) (by kernel_rfl) (by kernel_rfl) hH12) (APath.one (.store (.t 7) (.k (.p (.int .i64 0))) 1) (by kernel_rfl) (st_storeH (H := H12) (v := iv 0) (by kernel_rfl) (by kernel_rfl) (by kernel_rfl) (by kernel_rfl) hH13) APath.done)))) (by kernel_rfl) ?_
      obtain ⟨j515, hj515, h⟩ := bind_some h
      refine vc_joinK [1, 7] (fun s => ∃ (H514 : List HO), s = ⟨[(1, s_eI64 false a1_), (7, .ptr id10 0)], [], H514⟩ ∧ HP H514 [.cel id10 [iv j515]]) ?_ ?_
      · clear h
        have h := hj515
        refine vc_seq ?_
        have hlc516 := HP.get hH 3 rfl
        obtain ⟨r517, hr517, h⟩ := bind_some h
        obtain ⟨id519, id520, H518, hvr517, hpr517⟩ := route_walk_hops_ok N a0_ a1_ H13 r517 hr517
        replace hH : HP H518 [.cel id519 [s_eI64 false r517.1], .cel id520 (c_api_Topo r517.2.Topo), .cel id10 [iv 0], .cel id8 [iv 0], .cel id6 (c_Arr12_Bool (Arr12_Bool.mk false false false false false false false false false false false false)), .cel id1 (c_api_Topo a0_.Topo)] := HP.callee (fp := []) (rest := [.cel id10 [iv 0], .cel id8 [iv 0], .cel id6 (c_Arr12_Bool (Arr12_Bool.mk false false false false false false false false false false false false)), .cel id1 (c_api_Topo a0_.Topo)]) hH hpr517
        refine vc_reg (S := ⟨[(1, s_eI64 false a1_), (2, .ptr id1 0), (5, .ptr id6 0), (6, .ptr id8 0), (7, .ptr id10 0), (20, .fn 78 [] [.ptr id519 0, .ptr id520 0])], [], H518⟩) (APath.one (.load 18 (.t 2) 3 true) (by kernel_rfl) (st_loadC (H := H13) (id := id1) (off := 0) (cs := (c_api_Topo a0_.Topo)) (c := (c_api_Topo a0_.Topo)) (r := .agg (c_api_Topo a0_.Topo)) (by kernel_rfl) (by kernel_rfl) hlc516 (by kernel_rfl) (by kernel_rfl) (by kernel_rfl)) (APath.chunk 1 (by kernel_rfl) (APath.one (.call (some 20) 62 [.t 18, .t 19]) (by kernel_rfl) (st_callH (H := H13) (ys := [.agg (c_api_Topo a0_.Topo), s_eI64 false a1_]) (by kernel_rfl) (by kernel_rfl) (by kernel_rfl) hvr517) APath.done))) (by kernel_rfl) ?_
        refine vc_block ?_
        obtain ⟨o1052, ho1052, h⟩ := bind_some h
        have hyo1052 : ∀ (x522 : Int) (x523 : route_hop) (s : (Int × Int × Arr12_Bool) × Nat) (r : ((Int × Int × Arr12_Bool) × Nat) × Bool) (H : List HO) (its : List Thing), (fun (s : (Int × Int × Arr12_Bool) × Nat) (its : List Thing) => its = [.cel id10 [iv s.1.1], .cel id8 [iv s.1.2.1], .cel id6 (c_Arr12_Bool s.1.2.2), .cel id1 (c_api_Topo a0_.Topo)] ++ [.lp (List.length H518) (lcOf Try.prog i51.nt [21, 22] ra51_1 rb51_1) [(2, .ptr id1 0), (5, .ptr id6 0), (6, .ptr id8 0), (7, .ptr id10 0)] (stAt [.ready, .done (.exit 0)] s.2)]) s its → HP H its → (fun (s : (Int × Int × Arr12_Bool) × Nat) (x522 : Int) (x523 : route_hop) => yieldF (fun v : Int × Int × Arr12_Bool => route_walk_valid_R1 N a0_ v.1 v.2.1 v.2.2 x522 x523) s) s x522 x523 = some r → ∃ H' its', YCall Try.prog (List.length H518) [iv x522, .agg (c_route_hop x523)] H r.2 H' ∧ (fun (s : (Int × Int × Arr12_Bool) × Nat) (its : List Thing) => its = [.cel id10 [iv s.1.1], .cel id8 [iv s.1.2.1], .cel id6 (c_Arr12_Bool s.1.2.2), .cel id1 (c_api_Topo a0_.Topo)] ++ [.lp (List.length H518) (lcOf Try.prog i51.nt [21, 22] ra51_1 rb51_1) [(2, .ptr id1 0), (5, .ptr id6 0), (6, .ptr id8 0), (7, .ptr id10 0)] (stAt [.ready, .done (.exit 0)] s.2)]) r.1 its' ∧ Fp H H' its its' := by
          clear h
          intro x522 x523 s r H521 its hT hH h
          obtain ⟨h0, q, hb, rfl⟩ := yieldF_some h
          clear h
          obtain ⟨vs, e⟩ := s
          obtain rfl : e = 0 := h0
          obtain ⟨i524, i525, l526⟩ := vs
          obtain rfl := hT
          replace h : route_walk_valid_R1 N a0_ i524 i525 l526 x522 x523 = some q := hb
          clear hb
          unfold route_walk_valid_R1 at h
          replace hH : Fp H521 H521 [.cel id10 [iv i524], .cel id8 [iv i525], .cel id6 (c_Arr12_Bool l526), .cel id1 (c_api_Topo a0_.Topo), .lp (List.length H518) (lcOf Try.prog i51.nt [21, 22] ra51_1 rb51_1) [(2, .ptr id1 0), (5, .ptr id6 0), (6, .ptr id8 0), (7, .ptr id10 0)] .ready] [.cel id10 [iv i524], .cel id8 [iv i525], .cel id6 (c_Arr12_Bool l526), .cel id1 (c_api_Topo a0_.Topo), .lp (List.length H518) (lcOf Try.prog i51.nt [21, 22] ra51_1 rb51_1) [(2, .ptr id1 0), (5, .ptr id6 0), (6, .ptr id8 0), (7, .ptr id10 0)] .ready] := Fp.refl hH
          suffices hs : ∃ H', YCall Try.prog (List.length H518) [iv x522, .agg (c_route_hop x523)] H521 (q.2 == 0) H' ∧ ∃ its', (fun (s : (Int × Int × Arr12_Bool) × Nat) (its : List Thing) => its = [.cel id10 [iv s.1.1], .cel id8 [iv s.1.2.1], .cel id6 (c_Arr12_Bool s.1.2.2), .cel id1 (c_api_Topo a0_.Topo)] ++ [.lp (List.length H518) (lcOf Try.prog i51.nt [21, 22] ra51_1 rb51_1) [(2, .ptr id1 0), (5, .ptr id6 0), (6, .ptr id8 0), (7, .ptr id10 0)] (stAt [.ready, .done (.exit 0)] s.2)]) q its' ∧ Fp H521 H' [.cel id10 [iv i524], .cel id8 [iv i525], .cel id6 (c_Arr12_Bool l526), .cel id1 (c_api_Topo a0_.Topo), .lp (List.length H518) (lcOf Try.prog i51.nt [21, 22] ra51_1 rb51_1) [(2, .ptr id1 0), (5, .ptr id6 0), (6, .ptr id8 0), (7, .ptr id10 0)] .ready] its' by
            obtain ⟨H', h1, its', h2, h3⟩ := hs
            exact ⟨H', its', h1, h2, h3⟩
          refine ycall_det (id := (List.length H518)) (args := [iv x522, .agg (c_route_hop x523)]) (H := H521) (n := i51.nt) (ps := [21, 22]) (fr0 := [(2, .ptr id1 0), (5, .ptr id6 0), (6, .ptr id8 0), (7, .ptr id10 0)]) (ia := ra51_1) (ib := rb51_1) (q.2 == 0) (fun H' => ∃ its', (fun (s : (Int × Int × Arr12_Bool) × Nat) (its : List Thing) => its = [.cel id10 [iv s.1.1], .cel id8 [iv s.1.2.1], .cel id6 (c_Arr12_Bool s.1.2.2), .cel id1 (c_api_Topo a0_.Topo)] ++ [.lp (List.length H518) (lcOf Try.prog i51.nt [21, 22] ra51_1 rb51_1) [(2, .ptr id1 0), (5, .ptr id6 0), (6, .ptr id8 0), (7, .ptr id10 0)] (stAt [.ready, .done (.exit 0)] s.2)]) q its' ∧ Fp H521 H' [.cel id10 [iv i524], .cel id8 [iv i525], .cel id6 (c_Arr12_Bool l526), .cel id1 (c_api_Topo a0_.Topo), .lp (List.length H518) (lcOf Try.prog i51.nt [21, 22] ra51_1 rb51_1) [(2, .ptr id1 0), (5, .ptr id6 0), (6, .ptr id8 0), (7, .ptr id10 0)] .ready] its') (Fp.get hH 4 rfl) rfl (by decide +kernel) rfl ?_
          show vc _ _ _ _ ⟨[(2, .ptr id1 0), (5, .ptr id6 0), (6, .ptr id8 0), (7, .ptr id10 0), (21, iv x522), (22, .agg (c_route_hop x523))], [], H521⟩
          refine vc_seq ?_
          refine vc_reg (S := ⟨[(2, .ptr id1 0), (5, .ptr id6 0), (6, .ptr id8 0), (7, .ptr id10 0), (8, iv x522), (22, .agg (c_route_hop x523))], [], H521⟩) (APath.fin (by kernel_rfl)) (by kernel_rfl) ?_
          refine vc_reg (S := ⟨[(2, .ptr id1 0), (5, .ptr id6 0), (6, .ptr id8 0), (7, .ptr id10 0), (8, iv x522), (9, .loc 9 0)], [(9, (c_route_hop x523))], H521⟩) (APath.fin (by kernel_rfl)) (by kernel_rfl) ?_
          refine ia_done (k := 4) hH rfl ?_
          intro H1024 hH
          replace hH : Fp H521 H1024 [.cel id10 [iv i524], .cel id8 [iv i525], .cel id6 (c_Arr12_Bool l526), .cel id1 (c_api_Topo a0_.Topo), .lp (List.length H518) (lcOf Try.prog i51.nt [21, 22] ra51_1 rb51_1) [(2, .ptr id1 0), (5, .ptr id6 0), (6, .ptr id8 0), (7, .ptr id10 0)] .ready] [.cel id10 [iv i524], .cel id8 [iv i525], .cel id6 (c_Arr12_Bool l526), .cel id1 (c_api_Topo a0_.Topo), .lp (List.length H518) (lcOf Try.prog i51.nt [21, 22] ra51_1 rb51_1) [(2, .ptr id1 0), (5, .ptr id6 0), (6, .ptr id8 0), (7, .ptr id10 0)] .busy] := hH
          show vc _ _ _ _ ⟨[(2, .ptr id1 0), (5, .ptr id6 0), (6, .ptr id8 0), (7, .ptr id10 0), (8, iv x522), (9, .loc 9 0)], [(9, (c_route_hop x523))], H1024⟩
          refine vc_block ?_
          refine vc_seq ?_
          refine vc_seq ?_
          refine vc_reg (S := ⟨[(2, .ptr id1 0), (5, .ptr id6 0), (6, .ptr id8 0), (7, .ptr id10 0), (9, .loc 9 0), (24, bv (x522 == 0))], [(9, (c_route_hop x523))], H1024⟩) (APath.fin (by kernel_rfl)) (by kernel_rfl) ?_
          refine vc_ite (by kernel_rfl) h (fun hc1025 h => ?_) (fun hc1025 h => ?_)
          · obtain ⟨e1026, he1026, h⟩ := bind_some h
            obtain ⟨H1027, hH1027, hH⟩ := Fp.setCell (k := 2) (off := 0 + Int.toNat x523.from_ * 1) (cs := (c_Arr12_Bool l526)) (vs := [bv true]) (cs' := (c_Arr12_Bool (Arr12_Bool.set l526 x523.from_ true))) hH rfl (splice_arr (fun x => bv x) [] [] (l := l526.l) he1026 rfl rfl rfl (arr_new (Arr12_Bool.c_set l526 x523.from_ true) (by show (c_Arr12_Bool (Arr12_Bool.set l526 x523.from_ true)) = [] ++ (c_Arr12_Bool (Arr12_Bool.set l526 x523.from_ true) ++ []); rfl)))
            replace hH : Fp H521 H1027 [.cel id10 [iv i524], .cel id8 [iv i525], .cel id6 (c_Arr12_Bool l526), .cel id1 (c_api_Topo a0_.Topo), .lp (List.length H518) (lcOf Try.prog i51.nt [21, 22] ra51_1 rb51_1) [(2, .ptr id1 0), (5, .ptr id6 0), (6, .ptr id8 0), (7, .ptr id10 0)] .ready] [.cel id10 [iv i524], .cel id8 [iv i525], .cel id6 (c_Arr12_Bool (Arr12_Bool.set l526 x523.from_ true)), .cel id1 (c_api_Topo a0_.Topo), .lp (List.length H518) (lcOf Try.prog i51.nt [21, 22] ra51_1 rb51_1) [(2, .ptr id1 0), (5, .ptr id6 0), (6, .ptr id8 0), (7, .ptr id10 0)] .busy] := hH
            refine vc_reg (S := ⟨[(5, .ptr id6 0), (6, .ptr id8 0), (7, .ptr id10 0), (9, .loc 9 0)], [(9, (c_route_hop x523))], H1027⟩) (APath.chunk 2 (by kernel_rfl) (APath.one (.val 27 (.iaddr 12 1) [.t 5, .t 26]) (by kernel_rfl) (st_val (ys := [.ptr id6 0, iv x523.from_]) (by kernel_rfl) (vexec_iaddrP (l := l526.l) he1026 rfl)) (APath.one (.store (.t 27) (.k (.p (.bool true))) 1) (by kernel_rfl) (st_storeH (H := H1024) (v := bv true) (by kernel_rfl) (by kernel_rfl) (by kernel_rfl) (by kernel_rfl) hH1027) APath.done))) (by kernel_rfl) ?_
            refine vc_kp ?_
            refine vc_seq ?_
            refine vc_seq ?_
            obtain ⟨e1028, he1028, h⟩ := bind_some h
            have hlc1029 := Fp.get hH 2 rfl
            refine vc_reg (S := ⟨[(5, .ptr id6 0), (6, .ptr id8 0), (7, .ptr id10 0), (9, .loc 9 0), (43, bv e1028)], [(9, (c_route_hop x523))], H1027⟩) (APath.chunk 2 (by kernel_rfl) (APath.one (.val 42 (.iaddr 12 1) [.t 5, .t 41]) (by kernel_rfl) (st_val (ys := [.ptr id6 0, iv x523.to_]) (by kernel_rfl) (vexec_iaddrP (l := (Arr12_Bool.set l526 x523.from_ true).l) he1028 rfl)) (APath.one (.load 43 (.t 42) 1 false) (by kernel_rfl) (st_loadAP (H := H1027) (id := id6) (off := 0) (cs := (c_Arr12_Bool (Arr12_Bool.set l526 x523.from_ true))) (l := (Arr12_Bool.set l526 x523.from_ true).l) (fun x => bv x) [] [] he1028 (by kernel_rfl) (by kernel_rfl) hlc1029 rfl rfl) APath.done))) (by kernel_rfl) ?_
            refine vc_ite (by kernel_rfl) h (fun hc1030 h => ?_) (fun hc1030 h => ?_)
            · refine vc_kp ?_
              try show vc _ _ _ _ _
              refine vc_exit ?_
              try show vc _ _ _ _ _
              obtain rfl := some_inj h
              exact rb_done (k := 4) (.done (.exit 0)) hH rfl rfl (fun H6 hH => ⟨_, (Eq.refl _), (Fp.pick hH [0, 1, 2, 3, 4] rfl)⟩)
            · refine vc_skip ?_
              refine vc_kp ?_
              refine vc_seq ?_
              obtain ⟨e1031, he1031, h⟩ := bind_some h
              obtain ⟨H1032, hH1032, hH⟩ := Fp.setCell (k := 2) (off := 0 + Int.toNat x523.to_ * 1) (cs := (c_Arr12_Bool (Arr12_Bool.set l526 x523.from_ true))) (vs := [bv true]) (cs' := (c_Arr12_Bool (Arr12_Bool.set (Arr12_Bool.set l526 x523.from_ true) x523.to_ true))) hH rfl (splice_arr (fun x => bv x) [] [] (l := (Arr12_Bool.set l526 x523.from_ true).l) he1031 rfl rfl rfl (arr_new (Arr12_Bool.c_set (Arr12_Bool.set l526 x523.from_ true) x523.to_ true) (by show (c_Arr12_Bool (Arr12_Bool.set (Arr12_Bool.set l526 x523.from_ true) x523.to_ true)) = [] ++ (c_Arr12_Bool (Arr12_Bool.set (Arr12_Bool.set l526 x523.from_ true) x523.to_ true) ++ []); rfl)))
              replace hH : Fp H521 H1032 [.cel id10 [iv i524], .cel id8 [iv i525], .cel id6 (c_Arr12_Bool l526), .cel id1 (c_api_Topo a0_.Topo), .lp (List.length H518) (lcOf Try.prog i51.nt [21, 22] ra51_1 rb51_1) [(2, .ptr id1 0), (5, .ptr id6 0), (6, .ptr id8 0), (7, .ptr id10 0)] .ready] [.cel id10 [iv i524], .cel id8 [iv i525], .cel id6 (c_Arr12_Bool (Arr12_Bool.set (Arr12_Bool.set l526 x523.from_ true) x523.to_ true)), .cel id1 (c_api_Topo a0_.Topo), .lp (List.length H518) (lcOf Try.prog i51.nt [21, 22] ra51_1 rb51_1) [(2, .ptr id1 0), (5, .ptr id6 0), (6, .ptr id8 0), (7, .ptr id10 0)] .busy] := hH
              refine vc_reg (S := ⟨[(6, .ptr id8 0), (7, .ptr id10 0), (9, .loc 9 0)], [(9, (c_route_hop x523))], H1032⟩) (APath.chunk 2 (by kernel_rfl) (APath.one (.val 46 (.iaddr 12 1) [.t 5, .t 45]) (by kernel_rfl) (st_val (ys := [.ptr id6 0, iv x523.to_]) (by kernel_rfl) (vexec_iaddrP (l := (Arr12_Bool.set l526 x523.from_ true).l) he1031 rfl)) (APath.one (.store (.t 46) (.k (.p (.bool true))) 1) (by kernel_rfl) (st_storeH (H := H1027) (v := bv true) (by kernel_rfl) (by kernel_rfl) (by kernel_rfl) (by kernel_rfl) hH1032) APath.done))) (by kernel_rfl) ?_
              refine vc_seq ?_
              obtain ⟨H1033, hH1033, hH⟩ := Fp.setCell (k := 1) (off := 0) (cs := [iv i525]) (vs := [iv x523.to_]) (cs' := [iv x523.to_]) hH rfl (by kernel_rfl)
              replace hH : Fp H521 H1033 [.cel id10 [iv i524], .cel id8 [iv i525], .cel id6 (c_Arr12_Bool l526), .cel id1 (c_api_Topo a0_.Topo), .lp (List.length H518) (lcOf Try.prog i51.nt [21, 22] ra51_1 rb51_1) [(2, .ptr id1 0), (5, .ptr id6 0), (6, .ptr id8 0), (7, .ptr id10 0)] .ready] [.cel id10 [iv i524], .cel id8 [iv x523.to_], .cel id6 (c_Arr12_Bool (Arr12_Bool.set (Arr12_Bool.set l526 x523.from_ true) x523.to_ true)), .cel id1 (c_api_Topo a0_.Topo), .lp (List.length H518) (lcOf Try.prog i51.nt [21, 22] ra51_1 rb51_1) [(2, .ptr id1 0), (5, .ptr id6 0), (6, .ptr id8 0), (7, .ptr id10 0)] .busy] := hH
              refine vc_reg (S := ⟨[(7, .ptr id10 0)], [], H1033⟩) (APath.chunk 2 (by kernel_rfl) (APath.one (.store (.t 6) (.t 48) 1) (by kernel_rfl) (st_storeH (H := H1032) (v := iv x523.to_) (by kernel_rfl) (by kernel_rfl) (by kernel_rfl) (by kernel_rfl) hH1033) APath.done)) (by kernel_rfl) ?_
              have hlc1034 := Fp.get hH 0 rfl
              obtain ⟨H1035, hH1035, hH⟩ := Fp.setCell (k := 0) (off := 0) (cs := [iv i524]) (vs := [iv (w64 (i524 + 1))]) (cs' := [iv (w64 (i524 + 1))]) hH rfl (by kernel_rfl)
              replace hH : Fp H521 H1035 [.cel id10 [iv i524], .cel id8 [iv i525], .cel id6 (c_Arr12_Bool l526), .cel id1 (c_api_Topo a0_.Topo), .lp (List.length H518) (lcOf Try.prog i51.nt [21, 22] ra51_1 rb51_1) [(2, .ptr id1 0), (5, .ptr id6 0), (6, .ptr id8 0), (7, .ptr id10 0)] .ready] [.cel id10 [iv (w64 (i524 + 1))], .cel id8 [iv x523.to_], .cel id6 (c_Arr12_Bool (Arr12_Bool.set (Arr12_Bool.set l526 x523.from_ true) x523.to_ true)), .cel id1 (c_api_Topo a0_.Topo), .lp (List.length H518) (lcOf Try.prog i51.nt [21, 22] ra51_1 rb51_1) [(2, .ptr id1 0), (5, .ptr id6 0), (6, .ptr id8 0), (7, .ptr id10 0)] .busy] := hH
              refine vc_reg (S := ⟨[], [], H1035⟩) (APath.one (.load 49 (.t 7) 1 false) (by kernel_rfl) (st_loadC (H := H1033) (id := id10) (off := 0) (cs := [iv i524]) (c := [iv i524]) (r := iv i524) (by kernel_rfl) (by kernel_rfl) hlc1034 (by kernel_rfl) (by kernel_rfl) (by kernel_rfl)) (APath.chunk 1 (by kernel_rfl) (APath.one (.store (.t 7) (.t 50) 1) (by kernel_rfl) (st_storeH (H := H1033) (v := iv (w64 (i524 + 1))) (by kernel_rfl) (by kernel_rfl) (by kernel_rfl) (by kernel_rfl) hH1035) APath.done))) (by kernel_rfl) ?_
              obtain rfl := some_inj h
              exact rb_done (k := 4) (.ready) hH rfl rfl (fun H6 hH => ⟨_, (Eq.refl _), (Fp.pick hH [0, 1, 2, 3, 4] rfl)⟩)
          · refine vc_seq ?_
            obtain ⟨j1042, hj, h⟩ := bind_some h
            refine vc_regXR (fun s => s = ⟨[(5, .ptr id6 0), (6, .ptr id8 0), (7, .ptr id10 0), (9, .loc 9 0), (39, bv j1042)], [(9, (c_route_hop x523))], H1024⟩) ?_ ?_
            · clear h
              have hlc1036 := Fp.get hH 1 rfl
              rcases ite_some hj with ⟨hc1037, hj⟩ | ⟨hc1038, hj⟩
              · obtain rfl := some_inj hj
                exact ⟨_, (APath.chunk 2 (by kernel_rfl) (APath.one (.load 30 (.t 6) 1 false) (by kernel_rfl) (st_loadC (H := H1024) (id := id8) (off := 0) (cs := [iv i525]) (c := [iv i525]) (r := iv i525) (by kernel_rfl) (by kernel_rfl) hlc1036 (by kernel_rfl) (by kernel_rfl) (by kernel_rfl)) (APath.one (.val 31 (.bin .neq) [.t 29, .t 30]) (by kernel_rfl) (st_bool (c := (x523.from_ != i525)) (by kernel_rfl) hc1037) (APath.fin (by kernel_rfl))))), (by show _ = _; kernel_rfl)⟩
              · have hlc1039 := Fp.get hH 3 rfl
                have hlc1040 := Fp.get hH 1 rfl
                obtain ⟨e1041, he1041, hj⟩ := bind_some hj
                obtain rfl := some_inj hj
                exact ⟨_, (APath.chunk 2 (by kernel_rfl) (APath.one (.load 30 (.t 6) 1 false) (by kernel_rfl) (st_loadC (H := H1024) (id := id8) (off := 0) (cs := [iv i525]) (c := [iv i525]) (r := iv i525) (by kernel_rfl) (by kernel_rfl) hlc1036 (by kernel_rfl) (by kernel_rfl) (by kernel_rfl)) (APath.one (.val 31 (.bin .neq) [.t 29, .t 30]) (by kernel_rfl) (st_bool (c := (x523.from_ != i525)) (by kernel_rfl) hc1038) (APath.chunk 3 (by kernel_rfl) (APath.oneG (.load 35 (.t 34) 1 false) 32 false (by kernel_rfl) (by kernel_rfl) (st_loadC (H := H1024) (id := id1) (off := 1) (cs := (c_api_Topo a0_.Topo)) (c := [s_eB false a0_.Topo.Station]) (r := s_eB false a0_.Topo.Station) (by kernel_rfl) (by kernel_rfl) hlc1039 (by kernel_rfl) (by kernel_rfl) (by kernel_rfl)) (APath.oneG (.load 36 (.t 6) 1 false) 32 false (by kernel_rfl) (by kernel_rfl) (st_loadC (H := H1024) (id := id8) (off := 0) (cs := [iv i525]) (c := [iv i525]) (r := iv i525) (by kernel_rfl) (by kernel_rfl) hlc1040 (by kernel_rfl) (by kernel_rfl) (by kernel_rfl)) (APath.oneG (.val 37 (.iaddrS 1) [.t 35, .t 36]) 32 false (by kernel_rfl) (by kernel_rfl) (st_val (ys := [s_eB false a0_.Topo.Station, iv i525]) (by kernel_rfl) (vexec_iaddrS eB he1041)) (APath.oneG (.load 38 (.t 37) 1 false) 32 false (by kernel_rfl) (by kernel_rfl) (st_loadP (sz := 1) (off := 0) (cs := [.bool e1041]) (r := bv e1041) eB he1041 (by kernel_rfl) (by kernel_rfl) (by kernel_rfl)) (APath.fin (by kernel_rfl)))))))))), (by show _ = _; kernel_rfl)⟩
            · clear hj
              rintro s hR
              obtain rfl := hR
              refine vc_ite (by kernel_rfl) h (fun hc1043 h => ?_) (fun hc1043 h => ?_)
              · refine vc_kp ?_
                try show vc _ _ _ _ _
                refine vc_exit ?_
                try show vc _ _ _ _ _
                obtain rfl := some_inj h
                exact rb_done (k := 4) (.done (.exit 0)) hH rfl rfl (fun H6 hH => ⟨_, (Eq.refl _), (Fp.pick hH [0, 1, 2, 3, 4] rfl)⟩)
              · refine vc_skip ?_
                refine vc_kp ?_
                refine vc_seq ?_
                refine vc_seq ?_
                obtain ⟨e1044, he1044, h⟩ := bind_some h
                have hlc1045 := Fp.get hH 2 rfl
                refine vc_reg (S := ⟨[(5, .ptr id6 0), (6, .ptr id8 0), (7, .ptr id10 0), (9, .loc 9 0), (43, bv e1044)], [(9, (c_route_hop x523))], H1024⟩) (APath.chunk 2 (by kernel_rfl) (APath.one (.val 42 (.iaddr 12 1) [.t 5, .t 41]) (by kernel_rfl) (st_val (ys := [.ptr id6 0, iv x523.to_]) (by kernel_rfl) (vexec_iaddrP (l := l526.l) he1044 rfl)) (APath.one (.load 43 (.t 42) 1 false) (by kernel_rfl) (st_loadAP (H := H1024) (id := id6) (off := 0) (cs := (c_Arr12_Bool l526)) (l := l526.l) (fun x => bv x) [] [] he1044 (by kernel_rfl) (by kernel_rfl) hlc1045 rfl rfl) APath.done))) (by kernel_rfl) ?_
                refine vc_ite (by kernel_rfl) h (fun hc1046 h => ?_) (fun hc1046 h => ?_)
                · refine vc_kp ?_
                  try show vc _ _ _ _ _
                  refine vc_exit ?_
                  try show vc _ _ _ _ _
                  obtain rfl := some_inj h
                  exact rb_done (k := 4) (.done (.exit 0)) hH rfl rfl (fun H6 hH => ⟨_, (Eq.refl _), (Fp.pick hH [0, 1, 2, 3, 4] rfl)⟩)
                · refine vc_skip ?_
                  refine vc_kp ?_
                  refine vc_seq ?_
                  obtain ⟨e1047, he1047, h⟩ := bind_some h
                  obtain ⟨H1048, hH1048, hH⟩ := Fp.setCell (k := 2) (off := 0 + Int.toNat x523.to_ * 1) (cs := (c_Arr12_Bool l526)) (vs := [bv true]) (cs' := (c_Arr12_Bool (Arr12_Bool.set l526 x523.to_ true))) hH rfl (splice_arr (fun x => bv x) [] [] (l := l526.l) he1047 rfl rfl rfl (arr_new (Arr12_Bool.c_set l526 x523.to_ true) (by show (c_Arr12_Bool (Arr12_Bool.set l526 x523.to_ true)) = [] ++ (c_Arr12_Bool (Arr12_Bool.set l526 x523.to_ true) ++ []); rfl)))
                  replace hH : Fp H521 H1048 [.cel id10 [iv i524], .cel id8 [iv i525], .cel id6 (c_Arr12_Bool l526), .cel id1 (c_api_Topo a0_.Topo), .lp (List.length H518) (lcOf Try.prog i51.nt [21, 22] ra51_1 rb51_1) [(2, .ptr id1 0), (5, .ptr id6 0), (6, .ptr id8 0), (7, .ptr id10 0)] .ready] [.cel id10 [iv i524], .cel id8 [iv i525], .cel id6 (c_Arr12_Bool (Arr12_Bool.set l526 x523.to_ true)), .cel id1 (c_api_Topo a0_.Topo), .lp (List.length H518) (lcOf Try.prog i51.nt [21, 22] ra51_1 rb51_1) [(2, .ptr id1 0), (5, .ptr id6 0), (6, .ptr id8 0), (7, .ptr id10 0)] .busy] := hH
                  refine vc_reg (S := ⟨[(6, .ptr id8 0), (7, .ptr id10 0), (9, .loc 9 0)], [(9, (c_route_hop x523))], H1048⟩) (APath.chunk 2 (by kernel_rfl) (APath.one (.val 46 (.iaddr 12 1) [.t 5, .t 45]) (by kernel_rfl) (st_val (ys := [.ptr id6 0, iv x523.to_]) (by kernel_rfl) (vexec_iaddrP (l := l526.l) he1047 rfl)) (APath.one (.store (.t 46) (.k (.p (.bool true))) 1) (by kernel_rfl) (st_storeH (H := H1024) (v := bv true) (by kernel_rfl) (by kernel_rfl) (by kernel_rfl) (by kernel_rfl) hH1048) APath.done))) (by kernel_rfl) ?_
                  refine vc_seq ?_
                  obtain ⟨H1049, hH1049, hH⟩ := Fp.setCell (k := 1) (off := 0) (cs := [iv i525]) (vs := [iv x523.to_]) (cs' := [iv x523.to_]) hH rfl (by kernel_rfl)
                  replace hH : Fp H521 H1049 [.cel id10 [iv i524], .cel id8 [iv i525], .cel id6 (c_Arr12_Bool l526), .cel id1 (c_api_Topo a0_.Topo), .lp (List.length H518) (lcOf Try.prog i51.nt [21, 22] ra51_1 rb51_1) [(2, .ptr id1 0), (5, .ptr id6 0), (6, .ptr id8 0), (7, .ptr id10 0)] .ready] [.cel id10 [iv i524], .cel id8 [iv x523.to_], .cel id6 (c_Arr12_Bool (Arr12_Bool.set l526 x523.to_ true)), .cel id1 (c_api_Topo a0_.Topo), .lp (List.length H518) (lcOf Try.prog i51.nt [21, 22] ra51_1 rb51_1) [(2, .ptr id1 0), (5, .ptr id6 0), (6, .ptr id8 0), (7, .ptr id10 0)] .busy] := hH
                  refine vc_reg (S := ⟨[(7, .ptr id10 0)], [], H1049⟩) (APath.chunk 2 (by kernel_rfl) (APath.one (.store (.t 6) (.t 48) 1) (by kernel_rfl) (st_storeH (H := H1048) (v := iv x523.to_) (by kernel_rfl) (by kernel_rfl) (by kernel_rfl) (by kernel_rfl) hH1049) APath.done)) (by kernel_rfl) ?_
                  have hlc1050 := Fp.get hH 0 rfl
                  obtain ⟨H1051, hH1051, hH⟩ := Fp.setCell (k := 0) (off := 0) (cs := [iv i524]) (vs := [iv (w64 (i524 + 1))]) (cs' := [iv (w64 (i524 + 1))]) hH rfl (by kernel_rfl)
                  replace hH : Fp H521 H1051 [.cel id10 [iv i524], .cel id8 [iv i525], .cel id6 (c_Arr12_Bool l526), .cel id1 (c_api_Topo a0_.Topo), .lp (List.length H518) (lcOf Try.prog i51.nt [21, 22] ra51_1 rb51_1) [(2, .ptr id1 0), (5, .ptr id6 0), (6, .ptr id8 0), (7, .ptr id10 0)] .ready] [.cel id10 [iv (w64 (i524 + 1))], .cel id8 [iv x523.to_], .cel id6 (c_Arr12_Bool (Arr12_Bool.set l526 x523.to_ true)), .cel id1 (c_api_Topo a0_.Topo), .lp (List.length H518) (lcOf Try.prog i51.nt [21, 22] ra51_1 rb51_1) [(2, .ptr id1 0), (5, .ptr id6 0), (6, .ptr id8 0), (7, .ptr id10 0)] .busy] := hH
                  refine vc_reg (S := ⟨[], [], H1051⟩) (APath.one (.load 49 (.t 7) 1 false) (by kernel_rfl) (st_loadC (H := H1049) (id := id10) (off := 0) (cs := [iv i524]) (c := [iv i524]) (r := iv i524) (by kernel_rfl) (by kernel_rfl) hlc1050 (by kernel_rfl) (by kernel_rfl) (by kernel_rfl)) (APath.chunk 1 (by kernel_rfl) (APath.one (.store (.t 7) (.t 50) 1) (by kernel_rfl) (st_storeH (H := H1049) (v := iv (w64 (i524 + 1))) (by kernel_rfl) (by kernel_rfl) (by kernel_rfl) (by kernel_rfl) hH1051) APath.done))) (by kernel_rfl) ?_
                  obtain rfl := some_inj h
                  exact rb_done (k := 4) (.ready) hH rfl rfl (fun H6 hH => ⟨_, (Eq.refl _), (Fp.pick hH [0, 1, 2, 3, 4] rfl)⟩)
        refine vc_range (s := ⟨[(1, s_eI64 false a1_), (2, .ptr id1 0), (5, .ptr id6 0), (6, .ptr id8 0), (7, .ptr id10 0), (20, .fn 78 [] [.ptr id519 0, .ptr id520 0])], [], H518⟩) [(2, .ptr id1 0), (5, .ptr id6 0), (6, .ptr id8 0), (7, .ptr id10 0)] (FrOK.cons (by kernel_rfl) (by kernel_rfl) (FrOK.cons (by kernel_rfl) (by kernel_rfl) (FrOK.cons (by kernel_rfl) (by kernel_rfl) (FrOK.cons (by kernel_rfl) (by kernel_rfl) FrOK.nil)))) (by kernel_rfl) (fun H => rfl) (capT := [.cel id519 [s_eI64 false r517.1], .cel id520 (c_api_Topo r517.2.Topo)]) (cells0 := [.cel id10 [iv 0], .cel id8 [iv 0], .cel id6 (c_Arr12_Bool (Arr12_Bool.mk false false false false false false false false false false false false)), .cel id1 (c_api_Topo a0_.Topo)]) (rest := []) (HP.now (HP.pick hH [0, 1, 2, 3, 4, 5] rfl)) (fun (s : (Int × Int × Arr12_Bool) × Nat) (its : List Thing) => its = [.cel id10 [iv s.1.1], .cel id8 [iv s.1.2.1], .cel id6 (c_Arr12_Bool s.1.2.2), .cel id1 (c_api_Topo a0_.Topo)] ++ [.lp (List.length H518) (lcOf Try.prog i51.nt [21, 22] ra51_1 rb51_1) [(2, .ptr id1 0), (5, .ptr id6 0), (6, .ptr id8 0), (7, .ptr id10 0)] (stAt [.ready, .done (.exit 0)] s.2)]) ((0, 0, (Arr12_Bool.mk false false false false false false false false false false false false)), 0) o1052 (by exact (Eq.refl _)) (fun H its hT hH => route_walk_hops_1_ok N (fun (s : (Int × Int × Arr12_Bool) × Nat) (x522 : Int) (x523 : route_hop) => yieldF (fun v : Int × Int × Arr12_Bool => route_walk_valid_R1 N a0_ v.1 v.2.1 v.2.2 x522 x523) s) r517.1 r517.2 ((0, 0, (Arr12_Bool.mk false false false false false false false false false false false false)), 0) id519 id520 (List.length H518) (fun (s : (Int × Int × Arr12_Bool) × Nat) (its : List Thing) => its = [.cel id10 [iv s.1.1], .cel id8 [iv s.1.2.1], .cel id6 (c_Arr12_Bool s.1.2.2), .cel id1 (c_api_Topo a0_.Topo)] ++ [.lp (List.length H518) (lcOf Try.prog i51.nt [21, 22] ra51_1 rb51_1) [(2, .ptr id1 0), (5, .ptr id6 0), (6, .ptr id8 0), (7, .ptr id10 0)] (stAt [.ready, .done (.exit 0)] s.2)]) hyo1052 H its hT hH o1052 ho1052) ?_
        rintro its hT
        obtain rfl := hT
        refine ⟨_, _, rfl, ?_⟩
        intro H1053 hF
        replace hH : HP H1053 [.cel id519 [s_eI64 false r517.1], .cel id520 (c_api_Topo r517.2.Topo), .cel id10 [iv o1052.1.1], .cel id8 [iv o1052.1.2.1], .cel id6 (c_Arr12_Bool o1052.1.2.2), .cel id1 (c_api_Topo a0_.Topo)] := HP.after (HP.pick hH [0, 1, 2, 3, 4, 5] rfl) hF
        rcases ite_some h with ⟨hc1054, h⟩ | ⟨_, h⟩
        · refine outQ_at (S := ⟨[(1, s_eI64 false a1_), (2, .ptr id1 0), (5, .ptr id6 0), (6, .ptr id8 0), (7, .ptr id10 0), (20, .fn 78 [] [.ptr id519 0, .ptr id520 0])], [], H1053⟩) (e := .normal) hc1054 rfl ?_
          try show vc _ _ _ _ _
          obtain rfl := some_inj h
          exact ⟨rfl, ⟨H1053, (by show _ = _; kernel_rfl), (HP.pick hH [2] rfl)⟩⟩
        · rcases ite_some h with ⟨hc1055, h⟩ | ⟨_, h⟩
          · refine outQ_at (S := ⟨[(1, s_eI64 false a1_), (2, .ptr id1 0), (5, .ptr id6 0), (6, .ptr id8 0), (7, .ptr id10 0), (20, .fn 78 [] [.ptr id519 0, .ptr id520 0])], [], H1053⟩) (e := (.exit 0)) hc1055 rfl ?_
            try show vc _ _ _ _ _
            obtain rfl := some_inj h
            exact ⟨rfl, ⟨H1053, (by show _ = _; kernel_rfl), (HP.pick hH [2] rfl)⟩⟩
          · cases h
      · clear hj515
        rintro s hR
        obtain ⟨H514, rfl, hH⟩ := hR
        replace hH : HP H514 [.cel id10 [iv j515]] := hH
        refine vc_seq ?_
        have hlc1056 := HP.get hH 0 rfl
        refine vc_reg (S := ⟨[(4, bv (j515 == ((List.length a1_ : Nat) : Int)))], [], H514⟩) (APath.one (.load 51 (.t 7) 1 false) (by kernel_rfl) (st_loadC (H := H514) (id := id10) (off := 0) (cs := [iv j515]) (c := [iv j515]) (r := iv j515) (by kernel_rfl) (by kernel_rfl) hlc1056 (by kernel_rfl) (by kernel_rfl) (by kernel_rfl)) (APath.chunk 1 (by kernel_rfl) (APath.one (.val 53 .len [.t 52]) (by kernel_rfl) (st_val (ys := [s_eI64 false a1_]) (by kernel_rfl) (vexec_len eI64)) (APath.fin (by kernel_rfl))))) (by kernel_rfl) ?_
        replace hH : HP H514 [] := HP.pick hH [] rfl
        refine vc_ret ?_
        obtain rfl := some_inj h
        exact ret_of (by kernel_rfl)
theorem ref16_link_ok (N : Nat) (a0_ : api_Topo) (a1_ : api_Link) (r : Bool) (h : ref16_link N a0_ a1_ = some r) : PCall Try.prog 70 [.agg (c_api_Topo a0_), .agg (c_api_Link a1_)] (bv r) := by
  unfold ref16_link at h
  have hH : HP ([] : List HO) [] := trivial
  refine pcall_of chk70 rfl rfl (vc_sound _ _ _ ?_) rfl
  refine vc_seq ?_
  refine vc_reg (S := ⟨[(2, .loc 2 0), (3, .loc 3 0)], [(2, (c_api_Topo a0_)), (3, (c_api_Link a1_))], []⟩) (APath.fin (by kernel_rfl)) (by kernel_rfl) ?_
  refine vc_seq ?_
  refine vc_seq ?_
  obtain ⟨j13, hj, h⟩ := bind_some h
  refine vc_regXR (fun s => s = ⟨[(3, .loc 3 0), (39, bv j13)], [(3, (c_api_Link a1_))], []⟩) ?_ ?_
  · clear h
    obtain ⟨r1, hr1, hj⟩ := bind_some hj
    rcases ite_some hj with ⟨hc2, hj⟩ | ⟨hc3, hj⟩
    · obtain rfl := some_inj hj
      exact ⟨_, (APath.chunk 3 (by kernel_rfl) (APath.one (.call (some 8) 81 [.t 5, .t 7]) (by kernel_rfl) (st_call (by kernel_rfl) (ref16_node_ok N a0_ a1_.A r1 hr1)) (APath.one (.val 9 .not [.t 8]) (by kernel_rfl) (st_bool (c := (!r1)) (by kernel_rfl) hc2) (APath.fin (by kernel_rfl))))), (by show _ = _; kernel_rfl)⟩
    · obtain ⟨r4, hr4, hj⟩ := bind_some hj
      rcases ite_some hj with ⟨hc5, hj⟩ | ⟨hc6, hj⟩
      · obtain rfl := some_inj hj
        exact ⟨_, (APath.chunk 3 (by kernel_rfl) (APath.one (.call (some 8) 81 [.t 5, .t 7]) (by kernel_rfl) (st_call (by kernel_rfl) (ref16_node_ok N a0_ a1_.A r1 hr1)) (APath.one (.val 9 .not [.t 8]) (by kernel_rfl) (st_bool (c := (!r1)) (by kernel_rfl) hc3) (APath.chunk 4 (by kernel_rfl) (APath.oneG (.call (some 14) 81 [.t 11, .t 13]) 10 false (by kernel_rfl) (by kernel_rfl) (st_call (by kernel_rfl) (ref16_node_ok N a0_ a1_.B r4 hr4)) (APath.oneG (.val 15 .not [.t 14]) 10 false (by kernel_rfl) (by kernel_rfl) (st_bool (c := (!r4)) (by kernel_rfl) hc5) (APath.fin (by kernel_rfl)))))))), (by show _ = _; kernel_rfl)⟩
      · rcases ite_some hj with ⟨hc7, hj⟩ | ⟨hc8, hj⟩
        · obtain rfl := some_inj hj
          exact ⟨_, (APath.chunk 3 (by kernel_rfl) (APath.one (.call (some 8) 81 [.t 5, .t 7]) (by kernel_rfl) (st_call (by kernel_rfl) (ref16_node_ok N a0_ a1_.A r1 hr1)) (APath.one (.val 9 .not [.t 8]) (by kernel_rfl) (st_bool (c := (!r1)) (by kernel_rfl) hc3) (APath.chunk 4 (by kernel_rfl) (APath.oneG (.call (some 14) 81 [.t 11, .t 13]) 10 false (by kernel_rfl) (by kernel_rfl) (st_call (by kernel_rfl) (ref16_node_ok N a0_ a1_.B r4 hr4)) (APath.oneG (.val 15 .not [.t 14]) 10 false (by kernel_rfl) (by kernel_rfl) (st_bool (c := (!r4)) (by kernel_rfl) hc6) (APath.chunk 6 (by kernel_rfl) (APath.oneG (.val 22 (.bin .eql) [.t 19, .t 21]) 17 false (by kernel_rfl) (by kernel_rfl) (st_bool (c := (a1_.A == a1_.B)) (by kernel_rfl) hc7) (APath.fin (by kernel_rfl)))))))))), (by show _ = _; kernel_rfl)⟩
        · obtain ⟨e9, he9, hj⟩ := bind_some hj
          rcases ite_some hj with ⟨hc10, hj⟩ | ⟨hc12, hj⟩
          · obtain ⟨e11, he11, hj⟩ := bind_some hj
            obtain rfl := some_inj hj
            exact ⟨_, (APath.chunk 3 (by kernel_rfl) (APath.one (.call (some 8) 81 [.t 5, .t 7]) (by kernel_rfl) (st_call (by kernel_rfl) (ref16_node_ok N a0_ a1_.A r1 hr1)) (APath.one (.val 9 .not [.t 8]) (by kernel_rfl) (st_bool (c := (!r1)) (by kernel_rfl) hc3) (APath.chunk 4 (by kernel_rfl) (APath.oneG (.call (some 14) 81 [.t 11, .t 13]) 10 false (by kernel_rfl) (by kernel_rfl) (st_call (by kernel_rfl) (ref16_node_ok N a0_ a1_.B r4 hr4)) (APath.oneG (.val 15 .not [.t 14]) 10 false (by kernel_rfl) (by kernel_rfl) (st_bool (c := (!r4)) (by kernel_rfl) hc6) (APath.chunk 6 (by kernel_rfl) (APath.oneG (.val 22 (.bin .eql) [.t 19, .t 21]) 17 false (by kernel_rfl) (by kernel_rfl) (st_bool (c := (a1_.A == a1_.B)) (by kernel_rfl) hc8) (APath.chunk 6 (by kernel_rfl) (APath.oneG (.val 29 (.iaddrS 1) [.t 26, .t 28]) 24 false (by kernel_rfl) (by kernel_rfl) (st_val (ys := [s_eB false a0_.Station, iv a1_.A]) (by kernel_rfl) (vexec_iaddrS eB he9)) (APath.oneG (.load 30 (.t 29) 1 false) 24 false (by kernel_rfl) (by kernel_rfl) (AStep.bool (st_loadP (sz := 1) (off := 0) (cs := [.bool e9]) (r := bv e9) eB he9 (by kernel_rfl) (by kernel_rfl) (by kernel_rfl)) hc10) (APath.chunk 5 (by kernel_rfl) (APath.oneG (.val 36 (.iaddrS 1) [.t 33, .t 35]) 31 true (by kernel_rfl) (by kernel_rfl) (st_val (ys := [s_eB false a0_.Station, iv a1_.B]) (by kernel_rfl) (vexec_iaddrS eB he11)) (APath.oneG (.load 37 (.t 36) 1 false) 31 true (by kernel_rfl) (by kernel_rfl) (st_loadP (sz := 1) (off := 0) (cs := [.bool e11]) (r := bv e11) eB he11 (by kernel_rfl) (by kernel_rfl) (by kernel_rfl)) (APath.fin (by kernel_rfl)))))))))))))))), (by show _ = _; kernel_rfl)⟩
          · obtain rfl := some_inj hj
            exact ⟨_, (APath.chunk 3 (by kernel_rfl) (APath.one (.call (some 8) 81 [.t 5, .t 7]) (by kernel_rfl) (st_call (by kernel_rfl) (ref16_node_ok N a0_ a1_.A r1 hr1)) (APath.one (.val 9 .not [.t 8]) (by kernel_rfl) (st_bool (c := (!r1)) (by kernel_rfl) hc3) (APath.chunk 4 (by kernel_rfl) (APath.oneG (.call (some 14) 81 [.t 11, .t 13]) 10 false (by kernel_rfl) (by kernel_rfl) (st_call (by kernel_rfl) (ref16_node_ok N a0_ a1_.B r4 hr4)) (APath.oneG (.val 15 .not [.t 14]) 10 false (by kernel_rfl) (by kernel_rfl) (st_bool (c := (!r4)) (by kernel_rfl) hc6) (APath.chunk 6 (by kernel_rfl) (APath.oneG (.val 22 (.bin .eql) [.t 19, .t 21]) 17 false (by kernel_rfl) (by kernel_rfl) (st_bool (c := (a1_.A == a1_.B)) (by kernel_rfl) hc8) (APath.chunk 6 (by kernel_rfl) (APath.oneG (.val 29 (.iaddrS 1) [.t 26, .t 28]) 24 false (by kernel_rfl) (by kernel_rfl) (st_val (ys := [s_eB false a0_.Station, iv a1_.A]) (by kernel_rfl) (vexec_iaddrS eB he9)) (APath.oneG (.load 30 (.t 29) 1 false) 24 false (by kernel_rfl) (by kernel_rfl) (AStep.bool (st_loadP (sz := 1) (off := 0) (cs := [.bool e9]) (r := bv e9) eB he9 (by kernel_rfl) (by kernel_rfl) (by kernel_rfl)) hc12) (APath.fin (by kernel_rfl))))))))))))), (by show _ = _; kernel_rfl)⟩
  · clear hj
    rintro s hR
    obtain rfl := hR
    refine vc_ite (by kernel_rfl) h (fun hc14 h => ?_) (fun hc14 h => ?_)
    · refine vc_seq ?_
      refine vc_reg (S := ⟨[(4, bv false)], [], []⟩) (APath.fin (by kernel_rfl)) (by kernel_rfl) ?_
      refine vc_ret ?_
      obtain rfl := some_inj h
      exact ret_of (by kernel_rfl)
    · refine vc_skip ?_
      refine vc_kp ?_
      refine vc_seq ?_
      refine vc_regX ⟨[(4, bv ((decide (a1_.Per ≥ 1)) && ((decide (a1_.Per ≤ 1000)) && ((decide (a1_.Delay ≥ 0)) && (decide (a1_.Delay ≤ 10000))))))], [], []⟩ ?_ ?_
      · rcases Bool.eq_false_or_eq_true (decide (a1_.Per ≥ 1)) with hc15 | hc20
        · rcases Bool.eq_false_or_eq_true (decide (a1_.Per ≤ 1000)) with hc16 | hc19
          · rcases Bool.eq_false_or_eq_true (decide (a1_.Delay ≥ 0)) with hc17 | hc18
            · exact ⟨_, (APath.chunk 2 (by kernel_rfl) (APath.one (.val 42 (.bin .geq) [.t 41, .k (.p (.int .i64 1))]) (by kernel_rfl) (st_bool (c := (decide (a1_.Per ≥ 1))) (by kernel_rfl) hc15) (APath.chunk 3 (by kernel_rfl) (APath.oneG (.val 46 (.bin .leq) [.t 45, .k (.p (.int .i64 1000))]) 43 true (by kernel_rfl) (by kernel_rfl) (st_bool (c := (decide (a1_.Per ≤ 1000))) (by kernel_rfl) hc16) (APath.chunk 4 (by kernel_rfl) (APath.oneG (.val 51 (.bin .geq) [.t 50, .k (.p (.int .i64 0))]) 48 true (by kernel_rfl) (by kernel_rfl) (st_bool (c := (decide (a1_.Delay ≥ 0))) (by kernel_rfl) hc17) (APath.fin (by kernel_rfl)))))))), by simp only [hc15, hc16, hc17]; kernel_rfl⟩
            · exact ⟨_, (APath.chunk 2 (by kernel_rfl) (APath.one (.val 42 (.bin .geq) [.t 41, .k (.p (.int .i64 1))]) (by kernel_rfl) (st_bool (c := (decide (a1_.Per ≥ 1))) (by kernel_rfl) hc15) (APath.chunk 3 (by kernel_rfl) (APath.oneG (.val 46 (.bin .leq) [.t 45, .k (.p (.int .i64 1000))]) 43 true (by kernel_rfl) (by kernel_rfl) (st_bool (c := (decide (a1_.Per ≤ 1000))) (by kernel_rfl) hc16) (APath.chunk 4 (by kernel_rfl) (APath.oneG (.val 51 (.bin .geq) [.t 50, .k (.p (.int .i64 0))]) 48 true (by kernel_rfl) (by kernel_rfl) (st_bool (c := (decide (a1_.Delay ≥ 0))) (by kernel_rfl) hc18) (APath.fin (by kernel_rfl)))))))), by simp only [hc15, hc16, hc18]; kernel_rfl⟩
          · exact ⟨_, (APath.chunk 2 (by kernel_rfl) (APath.one (.val 42 (.bin .geq) [.t 41, .k (.p (.int .i64 1))]) (by kernel_rfl) (st_bool (c := (decide (a1_.Per ≥ 1))) (by kernel_rfl) hc15) (APath.chunk 3 (by kernel_rfl) (APath.oneG (.val 46 (.bin .leq) [.t 45, .k (.p (.int .i64 1000))]) 43 true (by kernel_rfl) (by kernel_rfl) (st_bool (c := (decide (a1_.Per ≤ 1000))) (by kernel_rfl) hc19) (APath.fin (by kernel_rfl)))))), by simp only [hc15, hc19]; kernel_rfl⟩
        · exact ⟨_, (APath.chunk 2 (by kernel_rfl) (APath.one (.val 42 (.bin .geq) [.t 41, .k (.p (.int .i64 1))]) (by kernel_rfl) (st_bool (c := (decide (a1_.Per ≥ 1))) (by kernel_rfl) hc20) (APath.fin (by kernel_rfl)))), by simp only [hc20]; kernel_rfl⟩
      · refine vc_ret ?_
        obtain rfl := some_inj h
        exact ret_of (by kernel_rfl)
theorem slices_Contains__bool_bool_ok (N : Nat) (a0_ : (List Bool)) (a1_ : Bool) (r : Bool) (h : slices_Contains__bool_bool N a0_ a1_ = some r) : PCall Try.prog 75 [s_eB false a0_, bv a1_] (bv r) := by
  unfold slices_Contains__bool_bool at h
  have hH : HP ([] : List HO) [] := trivial
  refine pcall_of chk75 rfl rfl (vc_sound _ _ _ ?_) rfl
  refine vc_seq ?_
  refine vc_reg (S := ⟨[(0, s_eB false a0_), (1, bv a1_)], [], []⟩) (APath.fin (by kernel_rfl)) (by kernel_rfl) ?_
  refine vc_seq ?_
  obtain ⟨r1, hr1, h⟩ := bind_some h
  refine vc_reg (S := ⟨[(4, bv (decide (r1 ≥ 0)))], [], []⟩) (APath.chunk 2 (by kernel_rfl) (APath.one (.call (some 7) 87 [.t 5, .t 6]) (by kernel_rfl) (st_call (by kernel_rfl) (slices_Index__bool_bool_ok N a0_ a1_ r1 hr1)) (APath.fin (by kernel_rfl)))) (by kernel_rfl) ?_
  refine vc_ret ?_
  obtain rfl := some_inj h
  exact ret_of (by kernel_rfl)
theorem slices_Contains__int_int_ok (N : Nat) (a0_ : (List Int)) (a1_ : Int) (r : Bool) (h : slices_Contains__int_int N a0_ a1_ = some r) : PCall Try.prog 77 [s_eI64 false a0_, iv a1_] (bv r) := by
  unfold slices_Contains__int_int at h
  have hH : HP ([] : List HO) [] := trivial
  refine pcall_of chk77 rfl rfl (vc_sound _ _ _ ?_) rfl
  refine vc_seq ?_
  refine vc_reg (S := ⟨[(0, s_eI64 false a0_), (1, iv a1_)], [], []⟩) (APath.fin (by kernel_rfl)) (by kernel_rfl) ?_
  refine vc_seq ?_
  obtain ⟨r1, hr1, h⟩ := bind_some h
  refine vc_reg (S := ⟨[(4, bv (decide (r1 ≥ 0)))], [], []⟩) (APath.chunk 2 (by kernel_rfl) (APath.one (.call (some 7) 88 [.t 5, .t 6]) (by kernel_rfl) (st_call (by kernel_rfl) (slices_Index__int_int_ok N a0_ a1_ r1 hr1)) (APath.fin (by kernel_rfl)))) (by kernel_rfl) ?_
  refine vc_ret ?_
  obtain rfl := some_inj h
  exact ret_of (by kernel_rfl)
theorem topo_sound_1_ok (N : Nat) (a0_ : Int) (c0_ : api_Topo) (k0_ : Nat) (H : List HO) (hH : HP H [.cel k0_ (c_api_Topo c0_)]) (r : Bool) (h : topo_sound_1 N a0_ c0_ = some r) : ACall Try.prog 82 [iv a0_, .ptr k0_ 0] H (bv r) H := by
  unfold topo_sound_1 at h
  refine acall_ofW chk82 rfl rfl rfl (vc_sound _ _ _ ?_)
  refine vc_seq ?_
  refine vc_reg (S := ⟨[(0, iv a0_), (1, .ptr k0_ 0)], [], H⟩) (APath.fin (by kernel_rfl)) (by kernel_rfl) ?_
  refine vc_seq ?_
  have hlc1 := HP.get hH 0 rfl
  obtain ⟨e2, he2, h⟩ := bind_some h
  refine vc_reg (S := ⟨[(1, .ptr k0_ 0), (4, .loc 4 0)], [(4, (c_api_Link e2))], H⟩) (APath.chunk 1 (by kernel_rfl) (APath.one (.load 6 (.t 5) 1 false) (by kernel_rfl) (st_loadC (H := H) (id := k0_) (off := 2) (cs := (c_api_Topo c0_)) (c := [s_e_api_Link false c0_.Links]) (r := s_e_api_Link false c0_.Links) (by kernel_rfl) (by kernel_rfl) hlc1 (by kernel_rfl) (by kernel_rfl) (by kernel_rfl)) (APath.chunk 1 (by kernel_rfl) (APath.one (.val 8 (.iaddrS 4) [.t 6, .t 7]) (by kernel_rfl) (st_val (ys := [s_e_api_Link false c0_.Links, iv a0_]) (by kernel_rfl) (vexec_iaddrS e_api_Link he2)) (APath.one (.load 9 (.t 8) 4 true) (by kernel_rfl) (st_loadP (sz := 4) (off := 0) (cs := [.int .i64 e2.A, .int .i64 e2.B, .int .i64 e2.Per, .int .i64 e2.Delay]) (r := .agg (c_api_Link e2)) e_api_Link he2 (by kernel_rfl) (by kernel_rfl) (by kernel_rfl)) (APath.fin (by kernel_rfl))))))) (by kernel_rfl) ?_
  refine vc_seq ?_
  obtain ⟨j11, hj, h⟩ := bind_some h
  refine vc_regXR (fun s => s = ⟨[(3, bv j11)], [], H⟩) ?_ ?_
  · clear h
    have hlc3 := HP.get hH 0 rfl
    obtain ⟨r4, hr4, hj⟩ := bind_some hj
    rcases ite_some hj with ⟨hc5, hj⟩ | ⟨hc10, hj⟩
    · have hlc6 := HP.get hH 0 rfl
      obtain ⟨r7, hr7, hj⟩ := bind_some hj
      rcases ite_some hj with ⟨hc8, hj⟩ | ⟨hc9, hj⟩
      · obtain rfl := some_inj hj
        exact ⟨_, (APath.one (.load 10 (.t 1) 3 true) (by kernel_rfl) (st_loadC (H := H) (id := k0_) (off := 0) (cs := (c_api_Topo c0_)) (c := (c_api_Topo c0_)) (r := .agg (c_api_Topo c0_)) (by kernel_rfl) (by kernel_rfl) hlc3 (by kernel_rfl) (by kernel_rfl) (by kernel_rfl)) (APath.chunk 2 (by kernel_rfl) (APath.one (.call (some 13) 83 [.t 10, .t 12]) (by kernel_rfl) (st_callB (by kernel_rfl) (topo_node_ok N c0_ e2.A r4 hr4) hc5) (APath.chunk 1 (by kernel_rfl) (APath.oneG (.load 15 (.t 1) 3 true) 14 true (by kernel_rfl) (by kernel_rfl) (st_loadC (H := H) (id := k0_) (off := 0) (cs := (c_api_Topo c0_)) (c := (c_api_Topo c0_)) (r := .agg (c_api_Topo c0_)) (by kernel_rfl) (by kernel_rfl) hlc6 (by kernel_rfl) (by kernel_rfl) (by kernel_rfl)) (APath.chunk 2 (by kernel_rfl) (APath.oneG (.call (some 18) 83 [.t 15, .t 17]) 14 true (by kernel_rfl) (by kernel_rfl) (st_callB (by kernel_rfl) (topo_node_ok N c0_ e2.B r7 hr7) hc8) (APath.fin (by kernel_rfl))))))))), (by show _ = _; kernel_rfl)⟩
      · obtain rfl := some_inj hj
        exact ⟨_, (APath.one (.load 10 (.t 1) 3 true) (by kernel_rfl) (st_loadC (H := H) (id := k0_) (off := 0) (cs := (c_api_Topo c0_)) (c := (c_api_Topo c0_)) (r := .agg (c_api_Topo c0_)) (by kernel_rfl) (by kernel_rfl) hlc3 (by kernel_rfl) (by kernel_rfl) (by kernel_rfl)) (APath.chunk 2 (by kernel_rfl) (APath.one (.call (some 13) 83 [.t 10, .t 12]) (by kernel_rfl) (st_callB (by kernel_rfl) (topo_node_ok N c0_ e2.A r4 hr4) hc5) (APath.chunk 1 (by kernel_rfl) (APath.oneG (.load 15 (.t 1) 3 true) 14 true (by kernel_rfl) (by kernel_rfl) (st_loadC (H := H) (id := k0_) (off := 0) (cs := (c_api_Topo c0_)) (c := (c_api_Topo c0_)) (r := .agg (c_api_Topo c0_)) (by kernel_rfl) (by kernel_rfl) hlc6 (by kernel_rfl) (by kernel_rfl) (by kernel_rfl)) (APath.chunk 2 (by kernel_rfl) (APath.oneG (.call (some 18) 83 [.t 15, .t 17]) 14 true (by kernel_rfl) (by kernel_rfl) (st_callB (by kernel_rfl) (topo_node_ok N c0_ e2.B r7 hr7) hc9) (APath.fin (by kernel_rfl))))))))), (by show _ = _; kernel_rfl)⟩
    · obtain rfl := some_inj hj
      exact ⟨_, (APath.one (.load 10 (.t 1) 3 true) (by kernel_rfl) (st_loadC (H := H) (id := k0_) (off := 0) (cs := (c_api_Topo c0_)) (c := (c_api_Topo c0_)) (r := .agg (c_api_Topo c0_)) (by kernel_rfl) (by kernel_rfl) hlc3 (by kernel_rfl) (by kernel_rfl) (by kernel_rfl)) (APath.chunk 2 (by kernel_rfl) (APath.one (.call (some 13) 83 [.t 10, .t 12]) (by kernel_rfl) (st_callB (by kernel_rfl) (topo_node_ok N c0_ e2.A r4 hr4) hc10) (APath.fin (by kernel_rfl))))), (by show _ = _; kernel_rfl)⟩
  · clear hj
    rintro s hR
    obtain rfl := hR
    refine vc_ret ?_
    obtain rfl := some_inj h
    exact ret_ofAW (by kernel_rfl) (by kernel_rfl)
theorem route_Nodes_1_ok (N : Nat) (a0_ : route_walk) (c0_ : (List Int)) (k0_ : Nat) (H : List HO) (hH : HP H [.cel k0_ [s_eI64 false c0_]]) (r : (List Int) × Int) (h : route_Nodes_1 N a0_ c0_ = some r) : ACall Try.prog 36 [.agg (c_api_Topo a0_.Topo), .ptr k0_ 0] H (.tup [s_eI64 false r.1, iv r.2]) H := by
  unfold route_Nodes_1 at h
  refine acall_ofW chk36 rfl rfl rfl (vc_sound _ _ _ ?_)
  refine vc_seq ?_
  refine vc_reg (S := ⟨[(1, .ptr k0_ 0), (2, .loc 2 0)], [(2, (c_api_Topo a0_.Topo))], H⟩) (APath.fin (by kernel_rfl)) (by kernel_rfl) ?_
  refine vc_seq ?_
  have hlc1 := HP.get hH 0 rfl
  obtain ⟨r2, hr2, h⟩ := bind_some h
  refine vc_reg (S := ⟨[(3, s_eI64 false r2), (4, iv 0)], [], H⟩) (APath.chunk 1 (by kernel_rfl) (APath.one (.load 6 (.t 1) 1 false) (by kernel_rfl) (st_loadC (H := H) (id := k0_) (off := 0) (cs := [s_eI64 false c0_]) (c := [s_eI64 false c0_]) (r := s_eI64 false c0_) (by kernel_rfl) (by kernel_rfl) hlc1 (by kernel_rfl) (by kernel_rfl) (by kernel_rfl)) (APath.one (.call (some 7) 37 [.t 5, .t 6]) (by kernel_rfl) (st_call (by kernel_rfl) (route_walk_nodes_ok N a0_ c0_ r2 hr2)) (APath.fin (by kernel_rfl))))) (by kernel_rfl) ?_
  replace hH : HP H [] := HP.pick hH [] rfl
  refine vc_ret ?_
  obtain rfl := some_inj h
  exact ret_ofAW (by kernel_rfl) (by kernel_rfl)
theorem route_walk_meets_ok (N : Nat) (a0_ : route_walk) (a1_ : (List Int)) (a2_ : (List Int)) (r : Bool) (h : route_walk_meets N a0_ a1_ a2_ = some r) : PCall Try.prog 60 [.agg (c_api_Topo a0_.Topo), s_eI64 false a1_, s_eI64 false a2_] (bv r) := by
  unfold route_walk_meets at h
  have hH : HP ([] : List HO) [] := trivial
  refine pcall_of chk60 rfl rfl (vc_sound _ _ _ ?_) rfl
  refine vc_seq ?_
  refine vc_reg (S := ⟨[(1, s_eI64 false a1_), (2, s_eI64 false a2_), (3, .loc 3 0)], [(3, (c_api_Topo a0_.Topo))], []⟩) (APath.fin (by kernel_rfl)) (by kernel_rfl) ?_
  refine vc_seq ?_
  obtain ⟨r1, hr1, h⟩ := bind_some h
  refine vc_reg (S := ⟨[(2, s_eI64 false a2_), (3, .loc 3 0), (7, s_eI64 false r1)], [(3, (c_api_Topo a0_.Topo))], []⟩) (APath.chunk 2 (by kernel_rfl) (APath.one (.call (some 14) 37 [.t 12, .t 13]) (by kernel_rfl) (st_call (by kernel_rfl) (route_walk_nodes_ok N a0_ a1_ r1 hr1)) (APath.fin (by kernel_rfl)))) (by kernel_rfl) ?_
  refine vc_seq ?_
  refine vc_reg (S := ⟨[(2, s_eI64 false a2_), (3, .loc 3 0), (7, s_eI64 false r1), (8, iv (w64 (((List.length r1 : Nat) : Int) - 1)))], [(3, (c_api_Topo a0_.Topo))], []⟩) (APath.chunk 1 (by kernel_rfl) (APath.one (.val 16 .len [.t 15]) (by kernel_rfl) (st_val (ys := [s_eI64 false r1]) (by kernel_rfl) (vexec_len eI64)) (APath.fin (by kernel_rfl)))) (by kernel_rfl) ?_
  refine vc_seq ?_
  obtain ⟨r2, hr2, h⟩ := bind_some h
  refine vc_reg (S := ⟨[(7, s_eI64 false r1), (8, iv (w64 (((List.length r1 : Nat) : Int) - 1))), (9, s_eI64 false r2)], [], []⟩) (APath.chunk 2 (by kernel_rfl) (APath.one (.call (some 20) 37 [.t 18, .t 19]) (by kernel_rfl) (st_call (by kernel_rfl) (route_walk_nodes_ok N a0_ a2_ r2 hr2)) (APath.fin (by kernel_rfl)))) (by kernel_rfl) ?_
  refine vc_seq ?_
  refine vc_seq ?_
  obtain ⟨l3, hl3, h⟩ := bind_some h
  refine vc_reg (S := ⟨[(9, s_eI64 false r2), (24, s_eI64 true l3), (25, iv ((List.length l3 : Nat) : Int)), (26, iv 0)], [], []⟩) (APath.chunk 3 (by kernel_rfl) (APath.one (.val 24 (.slice 1 true true true) [.t 21, .k (.p (.int .i64 1)), .t 22, .t 23]) (by kernel_rfl) (st_val (ys := [s_eI64 false r1, iv 1, iv (w64 (((List.length r1 : Nat) : Int) - 1)), iv (w64 (((List.length r1 : Nat) : Int) - 1))]) (by kernel_rfl) (vexec_slice3 eI64 hl3)) (APath.one (.val 25 .len [.t 24]) (by kernel_rfl) (st_val (ys := [s_eI64 true l3]) (by kernel_rfl) (vexec_len eI64)) (APath.fin (by kernel_rfl))))) (by kernel_rfl) ?_
  refine vc_block ?_
  obtain ⟨o509, ho509, h⟩ := bind_some h
  refine vc_loop ((loop_sim (fun (x : Int) s => s = ⟨[(9, s_eI64 false r2), (24, s_eI64 true l3), (25, iv ((List.length l3 : Nat) : Int)), (26, iv x)], [], []⟩) (fun x : Int => route_walk_meets_L1 N r2 l3 x) (fun (p : (Unit) ⊕ (Bool)) e s => match p with | (.inl p) => e = .exit 0 ∧ (s = ⟨[], [], []⟩) | (.inr p) => e = .ret ∧ ∃ xs, resL s i60.res = some xs ∧ tupOf xs = bv p) ?_ N _ o509 _ ho509 (by show _ = _; kernel_rfl)).mono ?_)
  · clear h ho509
    rintro i4 o s h hR
    obtain rfl := hR
    replace h : route_walk_meets_L1 N r2 l3 i4 = some o := h
    unfold route_walk_meets_L1 at h
    refine vc_seq ?_
    refine vc_reg (S := ⟨[(9, s_eI64 false r2), (24, s_eI64 true l3), (25, iv ((List.length l3 : Nat) : Int)), (26, iv i4), (27, bv (decide (i4 < ((List.length l3 : Nat) : Int))))], [], []⟩) (APath.fin (by kernel_rfl)) (by kernel_rfl) ?_
    refine vc_seq ?_
    refine vc_ite (by kernel_rfl) h (fun hc505 h => ?_) (fun hc505 h => ?_)
    · refine vc_skip ?_
      refine vc_kp ?_
      refine vc_seq ?_
      refine vc_block ?_
      refine vc_seq ?_
      obtain ⟨e506, he506, h⟩ := bind_some h
      refine vc_reg (S := ⟨[(9, s_eI64 false r2), (11, iv e506), (24, s_eI64 true l3), (25, iv ((List.length l3 : Nat) : Int)), (26, iv i4)], [], []⟩) (APath.one (.val 28 (.iaddrS 1) [.t 24, .t 26]) (by kernel_rfl) (st_val (ys := [s_eI64 true l3, iv i4]) (by kernel_rfl) (vexec_iaddrS eI64 he506)) (APath.one (.load 29 (.t 28) 1 false) (by kernel_rfl) (st_loadP (sz := 1) (off := 0) (cs := [.int .i64 e506]) (r := iv e506) eI64 he506 (by kernel_rfl) (by kernel_rfl) (by kernel_rfl)) (APath.fin (by kernel_rfl)))) (by kernel_rfl) ?_
      refine vc_seq ?_
      obtain ⟨r507, hr507, h⟩ := bind_some h
      refine vc_reg (S := ⟨[(9, s_eI64 false r2), (24, s_eI64 true l3), (25, iv ((List.length l3 : Nat) : Int)), (26, iv i4), (32, bv r507)], [], []⟩) (APath.chunk 2 (by kernel_rfl) (APath.one (.call (some 32) 77 [.t 30, .t 31]) (by kernel_rfl) (st_call (by kernel_rfl) (slices_Contains__int_int_ok N r2 e506 r507 hr507)) APath.done)) (by kernel_rfl) ?_
      refine vc_ite (by kernel_rfl) h (fun hc508 h => ?_) (fun hc508 h => ?_)
      · refine vc_seq ?_
        refine vc_reg (S := ⟨[(6, bv true)], [], []⟩) (APath.fin (by kernel_rfl)) (by kernel_rfl) ?_
        refine vc_ret ?_
        obtain rfl := some_inj h
        exact ⟨_, rfl, rfl, ret_of (by kernel_rfl)⟩
      · refine vc_skip ?_
        refine vc_kp ?_
        refine vc_reg (S := ⟨[(9, s_eI64 false r2), (24, s_eI64 true l3), (25, iv ((List.length l3 : Nat) : Int)), (26, iv (w64 (i4 + 1)))], [], []⟩) (APath.fin (by kernel_rfl)) (by kernel_rfl) ?_
        obtain rfl := some_inj h
        exact ⟨_, rfl, (by show _ = _; kernel_rfl)⟩
    · refine vc_kp ?_
      try show vc _ _ _ _ _
      refine vc_exit ?_
      try show vc _ _ _ _ _
      obtain rfl := some_inj h
      exact ⟨_, rfl, rfl, (by show _ = _; kernel_rfl)⟩
  · rintro e s hq
    rcases o509 with p510 | p511
    · dsimp only at h hq
      obtain ⟨rfl, hR⟩ := hq
      obtain rfl := hR
      try show vc _ _ _ _ _
      refine vc_seq ?_
      refine vc_reg (S := ⟨[(6, bv false)], [], []⟩) (APath.fin (by kernel_rfl)) (by kernel_rfl) ?_
      refine vc_ret ?_
      obtain rfl := some_inj h
      exact ret_of (by kernel_rfl)
    · dsimp only at h hq
      obtain ⟨rfl, hq⟩ := hq
      obtain rfl := some_inj h
      exact hq
theorem ref16_Draft_with_ok (N : Nat) (a0_ : ref16_Draft) (a1_ : api_Topo) (a2_ : Int) (a3_ : Int) (bp1_1_ : AV) (bp1_2_ : AV) (H : List HO) (hH : HP H [.arr bp1_1_ 1 true (List.map eB a1_.Station), .arr bp1_2_ 4 true (List.map e_api_Link a1_.Links)]) (r : api_Topo) (h : ref16_Draft_with N a0_ a1_ a2_ a3_ = some r) : ∃ (or_0_1_ : AV) (or_0_2_ : AV) (H' : List HO), ACall Try.prog 64 [.agg (c_ref16_Draft a0_), .agg [iv a1_.Nodes, bp1_1_, bp1_2_], iv a2_, iv a3_] H (.agg [iv r.Nodes, or_0_1_, or_0_2_]) H' ∧ Fp H H' [.arr bp1_1_ 1 true (List.map eB a1_.Station), .arr bp1_2_ 4 true (List.map e_api_Link a1_.Links)] [.arr or_0_1_ 1 true (List.map eB r.Station), .arr or_0_2_ 4 true (List.map e_api_Link r.Links)] := by
  suffices hs : ∃ r' H', ACall Try.prog 64 [.agg (c_ref16_Draft a0_), .agg [iv a1_.Nodes, bp1_1_, bp1_2_], iv a2_, iv a3_] H r' H' ∧ ∃ (or_0_1_ : AV) (or_0_2_ : AV), r' = .agg [iv r.Nodes, or_0_1_, or_0_2_] ∧ Fp H H' [.arr bp1_1_ 1 true (List.map eB a1_.Station), .arr bp1_2_ 4 true (List.map e_api_Link a1_.Links)] [.arr or_0_1_ 1 true (List.map eB r.Station), .arr or_0_2_ 4 true (List.map e_api_Link r.Links)] by
    obtain ⟨_, H', h1, or_0_1_, or_0_2_, rfl, h2⟩ := hs
    exact ⟨or_0_1_, or_0_2_, H', h1, h2⟩
  unfold ref16_Draft_with at h
  replace hH := Fp.refl hH
  have hfbp1_1_ := own_form (Fp.get hH 0 rfl)
  have hfbp1_2_ := own_form (Fp.get hH 1 rfl)
  refine acall_detRW chk64 [] (fun r' H' => ∃ (or_0_1_ : AV) (or_0_2_ : AV), r' = .agg [iv r.Nodes, or_0_1_, or_0_2_] ∧ Fp H H' [.arr bp1_1_ 1 true (List.map eB a1_.Station), .arr bp1_2_ 4 true (List.map e_api_Link a1_.Links)] [.arr or_0_1_ 1 true (List.map eB r.Station), .arr or_0_2_ 4 true (List.map e_api_Link r.Links)]) (fun r' H' q => by obtain ⟨or_0_1_, or_0_2_, e, hp⟩ := q; subst e; have hfor_0_1_ := own_form (Fp.get hp 0 rfl); have hfor_0_2_ := own_form (Fp.get hp 1 rfl); show noLoc _ = true; rcases hfor_0_1_ with hor_0_1_e | ⟨_, _, hor_0_1_e⟩ <;> rcases hfor_0_2_ with hor_0_2_e | ⟨_, _, hor_0_2_e⟩ <;> subst hor_0_1_e hor_0_2_e <;> rfl) rfl (by rcases hfbp1_1_ with hbp1_1_e | ⟨_, _, hbp1_1_e⟩ <;> rcases hfbp1_2_ with hbp1_2_e | ⟨_, _, hbp1_2_e⟩ <;> subst hbp1_1_e hbp1_2_e <;> kernel_rfl) ?_
  refine vc_seq ?_
  refine vc_reg (S := ⟨[(2, iv a2_), (3, iv a3_), (4, .loc 4 0), (5, .loc 5 0), (8, .loc 8 0)], [(4, (c_ref16_Draft a0_)), (5, [iv a1_.Nodes, bp1_1_, bp1_2_]), (8, [iv 0, s_eB true [], s_e_api_Link true []])], H⟩) (APath.fin (by rcases hfbp1_1_ with hbp1_1_e | ⟨_, _, hbp1_1_e⟩ <;> rcases hfbp1_2_ with hbp1_2_e | ⟨_, _, hbp1_2_e⟩ <;> subst hbp1_1_e hbp1_2_e <;> kernel_rfl)) (by rcases hfbp1_1_ with hbp1_1_e | ⟨_, _, hbp1_1_e⟩ <;> rcases hfbp1_2_ with hbp1_2_e | ⟨_, _, hbp1_2_e⟩ <;> subst hbp1_1_e hbp1_2_e <;> kernel_rfl) ?_
  refine vc_seq ?_
  have hln1 := Fp.len (k := 1) (a := bp1_2_) (sz := 4) (frz := true) (l := a1_.Links) e_api_Link hH rfl
  refine vc_reg (S := ⟨[(2, iv a2_), (3, iv a3_), (4, .loc 4 0), (5, .loc 5 0), (8, .loc 8 0), (9, iv ((List.length a1_.Links : Nat) : Int))], [(4, (c_ref16_Draft a0_)), (5, [iv a1_.Nodes, bp1_1_, bp1_2_]), (8, [iv 0, s_eB true [], s_e_api_Link true []])], H⟩) (APath.chunk 2 (by rcases hfbp1_1_ with hbp1_1_e | ⟨_, _, hbp1_1_e⟩ <;> rcases hfbp1_2_ with hbp1_2_e | ⟨_, _, hbp1_2_e⟩ <;> subst hbp1_1_e hbp1_2_e <;> kernel_rfl) (APath.one (.val 14 .len [.t 13]) (by kernel_rfl) (st_val (ys := [bp1_2_]) (by rcases hfbp1_1_ with hbp1_1_e | ⟨_, _, hbp1_1_e⟩ <;> rcases hfbp1_2_ with hbp1_2_e | ⟨_, _, hbp1_2_e⟩ <;> subst hbp1_1_e hbp1_2_e <;> kernel_rfl) hln1) (APath.fin (by rcases hfbp1_1_ with hbp1_1_e | ⟨_, _, hbp1_1_e⟩ <;> rcases hfbp1_2_ with hbp1_2_e | ⟨_, _, hbp1_2_e⟩ <;> subst hbp1_1_e hbp1_2_e <;> kernel_rfl)))) (by rcases hfbp1_1_ with hbp1_1_e | ⟨_, _, hbp1_1_e⟩ <;> rcases hfbp1_2_ with hbp1_2_e | ⟨_, _, hbp1_2_e⟩ <;> subst hbp1_1_e hbp1_2_e <;> kernel_rfl) ?_
  refine vc_seq ?_
  obtain ⟨r2, hr2, h⟩ := bind_some h
  obtain ⟨r3, hr3, h⟩ := bind_some h
  refine vc_regD (S := ⟨[(2, iv a2_), (3, iv a3_), (5, .loc 5 0), (8, .loc 8 0), (9, iv ((List.length a1_.Links : Nat) : Int)), (10, .loc 10 0)], [(5, [iv a1_.Nodes, bp1_1_, bp1_2_]), (8, [iv 0, s_eB true [], s_e_api_Link true []]), (10, [iv a2_, iv a3_, iv (w64 (1 + (Int.tmod r2 20))), iv (Int.tmod r3 50)])], H⟩) (by rcases hfbp1_1_ with hbp1_1_e | ⟨_, _, hbp1_1_e⟩ <;> rcases hfbp1_2_ with hbp1_2_e | ⟨_, _, hbp1_2_e⟩ <;> subst hbp1_1_e hbp1_2_e <;> kernel_rfl) (APath.chunk 5 (by rcases hfbp1_1_ with hbp1_1_e | ⟨_, _, hbp1_1_e⟩ <;> rcases hfbp1_2_ with hbp1_2_e | ⟨_, _, hbp1_2_e⟩ <;> subst hbp1_1_e hbp1_2_e <;> kernel_rfl) (APath.one (.callP 20 65 [.t 18, .t 19]) (by kernel_rfl) (st_callP (by rcases hfbp1_1_ with hbp1_1_e | ⟨_, _, hbp1_1_e⟩ <;> rcases hfbp1_2_ with hbp1_2_e | ⟨_, _, hbp1_2_e⟩ <;> subst hbp1_1_e hbp1_2_e <;> kernel_rfl) (ref16_pick_ok N a0_.Pers ((List.length a1_.Links : Nat) : Int) r2 hr2)) (APath.chunk 5 (by rcases hfbp1_1_ with hbp1_1_e | ⟨_, _, hbp1_1_e⟩ <;> rcases hfbp1_2_ with hbp1_2_e | ⟨_, _, hbp1_2_e⟩ <;> subst hbp1_1_e hbp1_2_e <;> kernel_rfl) (APath.one (.callP 26 65 [.t 24, .t 25]) (by kernel_rfl) (st_callP (by rcases hfbp1_1_ with hbp1_1_e | ⟨_, _, hbp1_1_e⟩ <;> rcases hfbp1_2_ with hbp1_2_e | ⟨_, _, hbp1_2_e⟩ <;> subst hbp1_1_e hbp1_2_e <;> kernel_rfl) (ref16_pick_ok N a0_.Delays ((List.length a1_.Links : Nat) : Int) r3 hr3)) (APath.fin (by rcases hfbp1_1_ with hbp1_1_e | ⟨_, _, hbp1_1_e⟩ <;> rcases hfbp1_2_ with hbp1_2_e | ⟨_, _, hbp1_2_e⟩ <;> subst hbp1_1_e hbp1_2_e <;> kernel_rfl)))))) (by rcases hfbp1_1_ with hbp1_1_e | ⟨_, _, hbp1_1_e⟩ <;> rcases hfbp1_2_ with hbp1_2_e | ⟨_, _, hbp1_2_e⟩ <;> subst hbp1_1_e hbp1_2_e <;> kernel_rfl) ?_
  refine vc_seq ?_
  refine vc_seq ?_
  obtain ⟨j12, hj, h⟩ := bind_some h
  refine vc_regXR (fun s => ∃ (a9 : AV) (a10 : AV) (H11 : List HO), s = ⟨[(2, iv a2_), (3, iv a3_), (5, .loc 5 0), (8, .loc 8 0), (9, iv ((List.length a1_.Links : Nat) : Int)), (10, .loc 10 0), (36, bv j12)], [(5, [iv a1_.Nodes, a9, a10]), (8, [iv 0, s_eB true [], s_e_api_Link true []]), (10, [iv a2_, iv a3_, iv (w64 (1 + (Int.tmod r2 20))), iv (Int.tmod r3 50)])], H11⟩ ∧ Fp H H11 [.arr bp1_1_ 1 true (List.map eB a1_.Station), .arr bp1_2_ 4 true (List.map e_api_Link a1_.Links)] [.arr a9 1 true (List.map eB a1_.Station), .arr a10 4 true (List.map e_api_Link a1_.Links)]) ?_ ?_
  · clear h
    rcases ite_some hj with ⟨hc4, hj⟩ | ⟨hc5, hj⟩
    · obtain rfl := some_inj hj
      exact ⟨_, (APath.chunk 1 (by rcases hfbp1_1_ with hbp1_1_e | ⟨_, _, hbp1_1_e⟩ <;> rcases hfbp1_2_ with hbp1_2_e | ⟨_, _, hbp1_2_e⟩ <;> subst hbp1_1_e hbp1_2_e <;> kernel_rfl) (APath.one (.val 30 (.bin .eql) [.t 29, .k (.p (.int .i64 24))]) (by kernel_rfl) (st_bool (c := (((List.length a1_.Links : Nat) : Int) == 24)) (by rcases hfbp1_1_ with hbp1_1_e | ⟨_, _, hbp1_1_e⟩ <;> rcases hfbp1_2_ with hbp1_2_e | ⟨_, _, hbp1_2_e⟩ <;> subst hbp1_1_e hbp1_2_e <;> kernel_rfl) hc4) (APath.fin (by rcases hfbp1_1_ with hbp1_1_e | ⟨_, _, hbp1_1_e⟩ <;> rcases hfbp1_2_ with hbp1_2_e | ⟨_, _, hbp1_2_e⟩ <;> subst hbp1_1_e hbp1_2_e <;> kernel_rfl)))), ⟨bp1_1_, bp1_2_, H, (by show _ = _; rcases hfbp1_1_ with hbp1_1_e | ⟨_, _, hbp1_1_e⟩ <;> rcases hfbp1_2_ with hbp1_2_e | ⟨_, _, hbp1_2_e⟩ <;> subst hbp1_1_e hbp1_2_e <;> kernel_rfl), (Fp.pick hH [0, 1] rfl)⟩⟩
    · obtain ⟨r6, hr6, hj⟩ := bind_some hj
      obtain ⟨H7, hzH7, hzH7v, hH⟩ := Fp.frz (k := 0) (a := bp1_1_) (sz := 1) (frz := true) eB hH rfl
      replace hH : Fp H H7 [.arr bp1_1_ 1 true (List.map eB a1_.Station), .arr bp1_2_ 4 true (List.map e_api_Link a1_.Links)] [.arr bp1_1_ 1 true (List.map eB a1_.Station), .arr bp1_2_ 4 true (List.map e_api_Link a1_.Links)] := hH
      obtain ⟨H8, hzH8, hzH8v, hH⟩ := Fp.frz (k := 1) (a := bp1_2_) (sz := 4) (frz := true) e_api_Link hH rfl
      replace hH : Fp H H8 [.arr bp1_1_ 1 true (List.map eB a1_.Station), .arr bp1_2_ 4 true (List.map e_api_Link a1_.Links)] [.arr bp1_1_ 1 true (List.map eB a1_.Station), .arr bp1_2_ 4 true (List.map e_api_Link a1_.Links)] := hH
      obtain rfl := some_inj hj
      exact ⟨_, (APath.chunk 1 (by rcases hfbp1_1_ with hbp1_1_e | ⟨_, _, hbp1_1_e⟩ <;> rcases hfbp1_2_ with hbp1_2_e | ⟨_, _, hbp1_2_e⟩ <;> subst hbp1_1_e hbp1_2_e <;> kernel_rfl) (APath.one (.val 30 (.bin .eql) [.t 29, .k (.p (.int .i64 24))]) (by kernel_rfl) (st_bool (c := (((List.length a1_.Links : Nat) : Int) == 24)) (by rcases hfbp1_1_ with hbp1_1_e | ⟨_, _, hbp1_1_e⟩ <;> rcases hfbp1_2_ with hbp1_2_e | ⟨_, _, hbp1_2_e⟩ <;> subst hbp1_1_e hbp1_2_e <;> kernel_rfl) hc5) (APath.chunk 3 (by rcases hfbp1_1_ with hbp1_1_e | ⟨_, _, hbp1_1_e⟩ <;> rcases hfbp1_2_ with hbp1_2_e | ⟨_, _, hbp1_2_e⟩ <;> subst hbp1_1_e hbp1_2_e <;> kernel_rfl) (APath.oneG (.call (some 34) 70 [.t 32, .t 33]) 31 false (by kernel_rfl) (by rcases hfbp1_1_ with hbp1_1_e | ⟨_, _, hbp1_1_e⟩ <;> rcases hfbp1_2_ with hbp1_2_e | ⟨_, _, hbp1_2_e⟩ <;> subst hbp1_1_e hbp1_2_e <;> kernel_rfl) (st_callF (H := H) (ys := [.agg [iv a1_.Nodes, bp1_1_, bp1_2_], .agg [iv a2_, iv a3_, iv (w64 (1 + (Int.tmod r2 20))), iv (Int.tmod r3 50)]]) (by rcases hfbp1_1_ with hbp1_1_e | ⟨_, _, hbp1_1_e⟩ <;> rcases hfbp1_2_ with hbp1_2_e | ⟨_, _, hbp1_2_e⟩ <;> subst hbp1_1_e hbp1_2_e <;> kernel_rfl) (by rcases hfbp1_1_ with hbp1_1_e | ⟨_, _, hbp1_1_e⟩ <;> rcases hfbp1_2_ with hbp1_2_e | ⟨_, _, hbp1_2_e⟩ <;> subst hbp1_1_e hbp1_2_e <;> kernel_rfl) (frzL_cons (frzV_agg (frzC_cons rfl (frzC_cons hzH7 (frzC_cons hzH8 frzC_nil)))) (frzL_cons rfl frzL_nil)) (ref16_link_ok N a1_ (api_Link.mk a2_ a3_ (w64 (1 + (Int.tmod r2 20))) (Int.tmod r3 50)) r6 hr6)) (APath.fin (by rcases hfbp1_1_ with hbp1_1_e | ⟨_, _, hbp1_1_e⟩ <;> rcases hfbp1_2_ with hbp1_2_e | ⟨_, _, hbp1_2_e⟩ <;> subst hbp1_1_e hbp1_2_e <;> kernel_rfl)))))), ⟨bp1_1_, bp1_2_, H8, (by show _ = _; rcases hfbp1_1_ with hbp1_1_e | ⟨_, _, hbp1_1_e⟩ <;> rcases hfbp1_2_ with hbp1_2_e | ⟨_, _, hbp1_2_e⟩ <;> subst hbp1_1_e hbp1_2_e <;> kernel_rfl), (Fp.pick hH [0, 1] rfl)⟩⟩
  · clear hj
    rintro s hR
    obtain ⟨a9, a10, H11, rfl, hH⟩ := hR
    replace hH : Fp H H11 [.arr bp1_1_ 1 true (List.map eB a1_.Station), .arr bp1_2_ 4 true (List.map e_api_Link a1_.Links)] [.arr a9 1 true (List.map eB a1_.Station), .arr a10 4 true (List.map e_api_Link a1_.Links)] := hH
    have hfa9 := own_form (Fp.get hH 0 rfl)
    have hfa10 := own_form (Fp.get hH 1 rfl)
    refine vc_ite (by kernel_rfl) h (fun hc13 h => ?_) (fun hc13 h => ?_)
    · refine vc_seq ?_
      refine vc_reg (S := ⟨[(8, .loc 8 0)], [(8, [iv a1_.Nodes, a9, a10])], H11⟩) (APath.fin (by rcases hfa10 with ha10e | ⟨_, _, ha10e⟩ <;> rcases hfa9 with ha9e | ⟨_, _, ha9e⟩ <;> subst ha10e ha9e <;> kernel_rfl)) (by rcases hfa10 with ha10e | ⟨_, _, ha10e⟩ <;> rcases hfa9 with ha9e | ⟨_, _, ha9e⟩ <;> subst ha10e ha9e <;> kernel_rfl) ?_
      refine vc_ret ?_
      obtain rfl := some_inj h
      exact ⟨[.agg [iv a1_.Nodes, a9, a10]], (by rcases hfa10 with ha10e | ⟨_, _, ha10e⟩ <;> rcases hfa9 with ha9e | ⟨_, _, ha9e⟩ <;> subst ha10e ha9e <;> kernel_rfl), a9, a10, (by rcases hfa10 with ha10e | ⟨_, _, ha10e⟩ <;> rcases hfa9 with ha9e | ⟨_, _, ha9e⟩ <;> subst ha10e ha9e <;> kernel_rfl), Fp.pick hH [0, 1] rfl⟩
    · refine vc_skip ?_
      refine vc_kp ?_
      refine vc_seq ?_
      refine vc_seq ?_
      refine vc_reg (S := ⟨[(2, iv a2_), (3, iv a3_), (5, .loc 5 0), (8, .loc 8 0), (9, iv ((List.length a1_.Links : Nat) : Int)), (10, .loc 10 0), (11, iv 0)], [(5, [iv a1_.Nodes, a9, a10]), (8, [iv 0, s_eB true [], s_e_api_Link true []]), (10, [iv a2_, iv a3_, iv (w64 (1 + (Int.tmod r2 20))), iv (Int.tmod r3 50)])], H11⟩) (APath.fin (by rcases hfa10 with ha10e | ⟨_, _, ha10e⟩ <;> rcases hfa9 with ha9e | ⟨_, _, ha9e⟩ <;> subst ha10e ha9e <;> kernel_rfl)) (by rcases hfa10 with ha10e | ⟨_, _, ha10e⟩ <;> rcases hfa9 with ha9e | ⟨_, _, ha9e⟩ <;> subst ha10e ha9e <;> kernel_rfl) ?_
      refine vc_block ?_
      obtain ⟨o521, ho521, h⟩ := bind_some h
      refine vc_loop ((loop_sim (fun (x : Int) s => s = ⟨[(2, iv a2_), (3, iv a3_), (5, .loc 5 0), (8, .loc 8 0), (9, iv ((List.length a1_.Links : Nat) : Int)), (10, .loc 10 0), (11, iv x)], [(5, [iv a1_.Nodes, a9, a10]), (8, [iv 0, s_eB true [], s_e_api_Link true []]), (10, [iv a2_, iv a3_, iv (w64 (1 + (Int.tmod r2 20))), iv (Int.tmod r3 50)])], H11⟩) (fun x : Int => ref16_Draft_with_L1 N a1_ a2_ a3_ x) (fun (p : (Unit) ⊕ (api_Topo)) e s => match p with | (.inl p) => e = .exit 0 ∧ (s = ⟨[(5, .loc 5 0), (8, .loc 8 0), (10, .loc 10 0)], [(5, [iv a1_.Nodes, a9, a10]), (8, [iv 0, s_eB true [], s_e_api_Link true []]), (10, [iv a2_, iv a3_, iv (w64 (1 + (Int.tmod r2 20))), iv (Int.tmod r3 50)])], H11⟩) | (.inr p) => e = .ret ∧ ∃ xs, rawL (wS [] s) i64.res = some xs ∧ ∃ (or_0_1_ : AV) (or_0_2_ : AV), tupOf xs = .agg [iv p.Nodes, or_0_1_, or_0_2_] ∧ Fp H (weakH [] s.H) [.arr bp1_1_ 1 true (List.map eB a1_.Station), .arr bp1_2_ 4 true (List.map e_api_Link a1_.Links)] [.arr or_0_1_ 1 true (List.map eB p.Station), .arr or_0_2_ 4 true (List.map e_api_Link p.Links)]) ?_ N _ o521 _ ho521 (by show _ = _; rcases hfa10 with ha10e | ⟨_, _, ha10e⟩ <;> rcases hfa9 with ha9e | ⟨_, _, ha9e⟩ <;> subst ha10e ha9e <;> kernel_rfl)).mono ?_)
      · clear h ho521
        rintro i14 o s h hR
        obtain rfl := hR
        replace h : ref16_Draft_with_L1 N a1_ a2_ a3_ i14 = some o := h
        unfold ref16_Draft_with_L1 at h
        refine vc_seq ?_
        refine vc_seq ?_
        refine vc_reg (S := ⟨[(2, iv a2_), (3, iv a3_), (5, .loc 5 0), (8, .loc 8 0), (9, iv ((List.length a1_.Links : Nat) : Int)), (10, .loc 10 0), (11, iv i14), (40, bv (decide (i14 < ((List.length a1_.Links : Nat) : Int))))], [(5, [iv a1_.Nodes, a9, a10]), (8, [iv 0, s_eB true [], s_e_api_Link true []]), (10, [iv a2_, iv a3_, iv (w64 (1 + (Int.tmod r2 20))), iv (Int.tmod r3 50)])], H11⟩) (APath.fin (by rcases hfa10 with ha10e | ⟨_, _, ha10e⟩ <;> rcases hfa9 with ha9e | ⟨_, _, ha9e⟩ <;> subst ha10e ha9e <;> kernel_rfl)) (by rcases hfa10 with ha10e | ⟨_, _, ha10e⟩ <;> rcases hfa9 with ha9e | ⟨_, _, ha9e⟩ <;> subst ha10e ha9e <;> kernel_rfl) ?_
        refine vc_ite (by kernel_rfl) h (fun hc515 h => ?_) (fun hc515 h => ?_)
        · refine vc_skip ?_
          refine vc_kp ?_
          refine vc_seq ?_
          refine vc_block ?_
          refine vc_seq ?_
          obtain ⟨e516, he516, h⟩ := bind_some h
          obtain ⟨id517, ver518, _, hid517f, hid517, hid517a, hid517v⟩ := Fp.elem (k := 1) (a := a10) (sz := 4) (frz := true) e_api_Link hH rfl he516
          obtain ⟨r519, hr519, h⟩ := bind_some h
          refine vc_reg (S := ⟨[(2, iv a2_), (3, iv a3_), (5, .loc 5 0), (8, .loc 8 0), (9, iv ((List.length a1_.Links : Nat) : Int)), (10, .loc 10 0), (11, iv i14), (50, bv r519)], [(5, [iv a1_.Nodes, a9, a10]), (8, [iv 0, s_eB true [], s_e_api_Link true []]), (10, [iv a2_, iv a3_, iv (w64 (1 + (Int.tmod r2 20))), iv (Int.tmod r3 50)])], H11⟩) (APath.chunk 3 (by rcases hfa10 with ha10e | ⟨_, _, ha10e⟩ <;> rcases hfa9 with ha9e | ⟨_, _, ha9e⟩ <;> subst ha10e ha9e <;> kernel_rfl) (APath.one (.val 46 (.iaddrS 4) [.t 44, .t 45]) (by kernel_rfl) (st_val (ys := [a10, iv i14]) (by rcases hfa10 with ha10e | ⟨_, _, ha10e⟩ <;> rcases hfa9 with ha9e | ⟨_, _, ha9e⟩ <;> subst ha10e ha9e <;> kernel_rfl) (hid517v .i64)) (APath.one (.load 47 (.t 46) 4 true) (by kernel_rfl) (st_loadO (H := H11) (off := 0) (cs := [.int .i64 e516.A, .int .i64 e516.B, .int .i64 e516.Per, .int .i64 e516.Delay]) (r := .agg (c_api_Link e516)) e_api_Link he516 hid517 (by rcases hfa10 with ha10e | ⟨_, _, ha10e⟩ <;> rcases hfa9 with ha9e | ⟨_, _, ha9e⟩ <;> subst ha10e ha9e <;> kernel_rfl) (by rcases hfa10 with ha10e | ⟨_, _, ha10e⟩ <;> rcases hfa9 with ha9e | ⟨_, _, ha9e⟩ <;> subst ha10e ha9e <;> kernel_rfl) (by rcases hfa10 with ha10e | ⟨_, _, ha10e⟩ <;> rcases hfa9 with ha9e | ⟨_, _, ha9e⟩ <;> subst ha10e ha9e <;> kernel_rfl) (by rcases hfa10 with ha10e | ⟨_, _, ha10e⟩ <;> rcases hfa9 with ha9e | ⟨_, _, ha9e⟩ <;> subst ha10e ha9e <;> kernel_rfl)) (APath.chunk 2 (by rcases hfa10 with ha10e | ⟨_, _, ha10e⟩ <;> rcases hfa9 with ha9e | ⟨_, _, ha9e⟩ <;> subst ha10e ha9e <;> kernel_rfl) (APath.one (.call (some 50) 71 [.t 47, .t 48, .t 49]) (by kernel_rfl) (st_call (by rcases hfa10 with ha10e | ⟨_, _, ha10e⟩ <;> rcases hfa9 with ha9e | ⟨_, _, ha9e⟩ <;> subst ha10e ha9e <;> kernel_rfl) (ref16_Joins_ok N e516 a2_ a3_ r519 hr519)) APath.done))))) (by rcases hfa10 with ha10e | ⟨_, _, ha10e⟩ <;> rcases hfa9 with ha9e | ⟨_, _, ha9e⟩ <;> subst ha10e ha9e <;> kernel_rfl) ?_
          refine vc_ite (by kernel_rfl) h (fun hc520 h => ?_) (fun hc520 h => ?_)
          · refine vc_seq ?_
            refine vc_reg (S := ⟨[(8, .loc 8 0)], [(8, [iv a1_.Nodes, a9, a10])], H11⟩) (APath.fin (by rcases hfa10 with ha10e | ⟨_, _, ha10e⟩ <;> rcases hfa9 with ha9e | ⟨_, _, ha9e⟩ <;> subst ha10e ha9e <;> kernel_rfl)) (by rcases hfa10 with ha10e | ⟨_, _, ha10e⟩ <;> rcases hfa9 with ha9e | ⟨_, _, ha9e⟩ <;> subst ha10e ha9e <;> kernel_rfl) ?_
            refine vc_ret ?_
            obtain rfl := some_inj h
            exact ⟨_, rfl, rfl, ⟨[.agg [iv a1_.Nodes, a9, a10]], (by rcases hfa10 with ha10e | ⟨_, _, ha10e⟩ <;> rcases hfa9 with ha9e | ⟨_, _, ha9e⟩ <;> subst ha10e ha9e <;> kernel_rfl), a9, a10, (by rcases hfa10 with ha10e | ⟨_, _, ha10e⟩ <;> rcases hfa9 with ha9e | ⟨_, _, ha9e⟩ <;> subst ha10e ha9e <;> kernel_rfl), Fp.pick hH [0, 1] rfl⟩⟩
          · refine vc_skip ?_
            refine vc_kp ?_
            refine vc_reg (S := ⟨[(2, iv a2_), (3, iv a3_), (5, .loc 5 0), (8, .loc 8 0), (9, iv ((List.length a1_.Links : Nat) : Int)), (10, .loc 10 0), (11, iv (w64 (i14 + 1)))], [(5, [iv a1_.Nodes, a9, a10]), (8, [iv 0, s_eB true [], s_e_api_Link true []]), (10, [iv a2_, iv a3_, iv (w64 (1 + (Int.tmod r2 20))), iv (Int.tmod r3 50)])], H11⟩) (APath.fin (by rcases hfa10 with ha10e | ⟨_, _, ha10e⟩ <;> rcases hfa9 with ha9e | ⟨_, _, ha9e⟩ <;> subst ha10e ha9e <;> kernel_rfl)) (by rcases hfa10 with ha10e | ⟨_, _, ha10e⟩ <;> rcases hfa9 with ha9e | ⟨_, _, ha9e⟩ <;> subst ha10e ha9e <;> kernel_rfl) ?_
            obtain rfl := some_inj h
            exact ⟨_, rfl, (by show _ = _; rcases hfa10 with ha10e | ⟨_, _, ha10e⟩ <;> rcases hfa9 with ha9e | ⟨_, _, ha9e⟩ <;> subst ha10e ha9e <;> kernel_rfl)⟩
        · refine vc_kp ?_
          try show vc _ _ _ _ _
          refine vc_exit ?_
          try show vc _ _ _ _ _
          obtain rfl := some_inj h
          exact ⟨_, rfl, rfl, (by show _ = _; rcases hfa10 with ha10e | ⟨_, _, ha10e⟩ <;> rcases hfa9 with ha9e | ⟨_, _, ha9e⟩ <;> subst ha10e ha9e <;> kernel_rfl)⟩
      · rintro e s hq
        rcases o521 with p522 | p526
        · dsimp only at h hq
          obtain ⟨rfl, hR⟩ := hq
          obtain rfl := hR
          try show vc _ _ _ _ _
          refine vc_seq ?_
          obtain ⟨l525, hl525, h⟩ := bind_some h
          obtain ⟨a523, H524, ha523, hH⟩ := Fp.app (k := 1) (a := a10) (sz := 4) (frz := true) e_api_Link hH rfl hl525
          replace hH : Fp H H524 [.arr bp1_1_ 1 true (List.map eB a1_.Station), .arr bp1_2_ 4 true (List.map e_api_Link a1_.Links)] [.arr a9 1 true (List.map eB a1_.Station), .arr a523 4 true (List.map e_api_Link l525)] := hH
          have hfa523 := own_form (Fp.get hH 1 rfl)
          refine vc_reg (S := ⟨[(5, .loc 5 0), (8, .loc 8 0)], [(5, [iv a1_.Nodes, a9, a523]), (8, [iv 0, s_eB true [], s_e_api_Link true []])], H524⟩) (APath.chunk 4 (by rcases hfa10 with ha10e | ⟨_, _, ha10e⟩ <;> rcases hfa523 with ha523e | ⟨_, _, ha523e⟩ <;> rcases hfa9 with ha9e | ⟨_, _, ha9e⟩ <;> subst ha10e ha523e ha9e <;> kernel_rfl) (APath.one (.app 56 (.t 53) (.t 55) 4 32) (by kernel_rfl) (st_app (H := H11) (a := a10) (b := s_e_api_Link true [(api_Link.mk a2_ a3_ (w64 (1 + (Int.tmod r2 20))) (Int.tmod r3 50))]) (by rcases hfa10 with ha10e | ⟨_, _, ha10e⟩ <;> rcases hfa523 with ha523e | ⟨_, _, ha523e⟩ <;> rcases hfa9 with ha9e | ⟨_, _, ha9e⟩ <;> subst ha10e ha523e ha9e <;> kernel_rfl) (by rcases hfa10 with ha10e | ⟨_, _, ha10e⟩ <;> rcases hfa523 with ha523e | ⟨_, _, ha523e⟩ <;> rcases hfa9 with ha9e | ⟨_, _, ha9e⟩ <;> subst ha10e ha523e ha9e <;> kernel_rfl) (by rcases hfa10 with ha10e | ⟨_, _, ha10e⟩ <;> rcases hfa523 with ha523e | ⟨_, _, ha523e⟩ <;> rcases hfa9 with ha9e | ⟨_, _, ha9e⟩ <;> subst ha10e ha523e ha9e <;> kernel_rfl) (by rcases hfa10 with ha10e | ⟨_, _, ha10e⟩ <;> rcases hfa523 with ha523e | ⟨_, _, ha523e⟩ <;> rcases hfa9 with ha9e | ⟨_, _, ha9e⟩ <;> subst ha10e ha523e ha9e <;> kernel_rfl) ha523) (APath.fin (by rcases hfa10 with ha10e | ⟨_, _, ha10e⟩ <;> rcases hfa523 with ha523e | ⟨_, _, ha523e⟩ <;> rcases hfa9 with ha9e | ⟨_, _, ha9e⟩ <;> subst ha10e ha523e ha9e <;> kernel_rfl)))) (by rcases hfa10 with ha10e | ⟨_, _, ha10e⟩ <;> rcases hfa523 with ha523e | ⟨_, _, ha523e⟩ <;> rcases hfa9 with ha9e | ⟨_, _, ha9e⟩ <;> subst ha10e ha523e ha9e <;> kernel_rfl) ?_
          refine vc_seq ?_
          refine vc_reg (S := ⟨[(8, .loc 8 0)], [(8, [iv a1_.Nodes, a9, a523])], H524⟩) (APath.fin (by rcases hfa523 with ha523e | ⟨_, _, ha523e⟩ <;> rcases hfa9 with ha9e | ⟨_, _, ha9e⟩ <;> subst ha523e ha9e <;> kernel_rfl)) (by rcases hfa523 with ha523e | ⟨_, _, ha523e⟩ <;> rcases hfa9 with ha9e | ⟨_, _, ha9e⟩ <;> subst ha523e ha9e <;> kernel_rfl) ?_
          refine vc_ret ?_
          obtain rfl := some_inj h
          exact ⟨[.agg [iv a1_.Nodes, a9, a523]], (by rcases hfa523 with ha523e | ⟨_, _, ha523e⟩ <;> rcases hfa9 with ha9e | ⟨_, _, ha9e⟩ <;> subst ha523e ha9e <;> kernel_rfl), a9, a523, (by rcases hfa523 with ha523e | ⟨_, _, ha523e⟩ <;> rcases hfa9 with ha9e | ⟨_, _, ha9e⟩ <;> subst ha523e ha9e <;> kernel_rfl), Fp.pick hH [0, 1] rfl⟩
        · dsimp only at h hq
          obtain ⟨rfl, hq⟩ := hq
          obtain rfl := some_inj h
          exact hq
theorem topo_sound_ok (N : Nat) (a0_ : api_Topo) (r : Bool) (h : topo_sound N a0_ = some r) : PCall Try.prog 74 [.agg (c_api_Topo a0_)] (bv r) := by
  unfold topo_sound at h
  have hH : HP ([] : List HO) [] := trivial
  refine pcall_of chk74 rfl rfl (vc_sound _ _ _ ?_) rfl
  refine vc_seq ?_
  obtain ⟨id1, H2, hid1, hH2, hH⟩ := HP.newCell hH (c_api_Topo a0_)
  replace hH : HP H2 [.cel id1 (c_api_Topo a0_)] := hH
  refine vc_reg (S := ⟨[(1, .ptr id1 0)], [], H2⟩) (APath.one (.boxH 1 (.t 0)) (by kernel_rfl) (st_boxH (H := []) (v := .agg (c_api_Topo a0_)) (by kernel_rfl) (by kernel_rfl) (by kernel_rfl) hid1 hH2) (APath.fin (by kernel_rfl))) (by kernel_rfl) ?_
  refine vc_seq ?_
  refine vc_reg (S := ⟨[(1, .ptr id1 0), (3, .loc 3 0)], [(3, [.fn 82 [] [.ptr id1 0], .fn 84 [] [.ptr id1 0], .fn 85 [] [.ptr id1 0], .fn 86 [] [.ptr id1 0]])], H2⟩) (APath.fin (by kernel_rfl)) (by kernel_rfl) ?_
  refine vc_seq ?_
  refine vc_seq ?_
  have hlc3 := HP.get hH 0 rfl
  refine vc_reg (S := ⟨[(3, .loc 3 0), (14, iv ((List.length a0_.Links : Nat) : Int)), (15, iv 0)], [(3, [.fn 82 [] [.ptr id1 0], .fn 84 [] [.ptr id1 0], .fn 85 [] [.ptr id1 0], .fn 86 [] [.ptr id1 0]])], H2⟩) (APath.chunk 1 (by kernel_rfl) (APath.one (.load 13 (.t 12) 1 false) (by kernel_rfl) (st_loadC (H := H2) (id := id1) (off := 2) (cs := (c_api_Topo a0_)) (c := [s_e_api_Link false a0_.Links]) (r := s_e_api_Link false a0_.Links) (by kernel_rfl) (by kernel_rfl) hlc3 (by kernel_rfl) (by kernel_rfl) (by kernel_rfl)) (APath.one (.val 14 .len [.t 13]) (by kernel_rfl) (st_val (ys := [s_e_api_Link false a0_.Links]) (by kernel_rfl) (vexec_len e_api_Link)) (APath.fin (by kernel_rfl))))) (by kernel_rfl) ?_
  refine vc_block ?_
  obtain ⟨o514, ho514, h⟩ := bind_some h
  refine vc_loop ((loop_sim (fun (x : Int) s => s = ⟨[(3, .loc 3 0), (14, iv ((List.length a0_.Links : Nat) : Int)), (15, iv x)], [(3, [.fn 82 [] [.ptr id1 0], .fn 84 [] [.ptr id1 0], .fn 85 [] [.ptr id1 0], .fn 86 [] [.ptr id1 0]])], H2⟩) (fun x : Int => topo_sound_L1 N a0_ x) (fun (p : (Unit) ⊕ (Bool)) e s => match p with | (.inl p) => e = .exit 0 ∧ (s = ⟨[], [], H2⟩) | (.inr p) => e = .ret ∧ ∃ xs, resL s i74.res = some xs ∧ tupOf xs = bv p) ?_ N _ o514 _ ho514 (by show _ = _; kernel_rfl)).mono ?_)
  · clear h ho514
    rintro i4 o s h hR
    obtain rfl := hR
    replace h : topo_sound_L1 N a0_ i4 = some o := h
    unfold topo_sound_L1 at h
    refine vc_seq ?_
    refine vc_reg (S := ⟨[(3, .loc 3 0), (14, iv ((List.length a0_.Links : Nat) : Int)), (15, iv i4), (16, bv (decide (i4 < ((List.length a0_.Links : Nat) : Int))))], [(3, [.fn 82 [] [.ptr id1 0], .fn 84 [] [.ptr id1 0], .fn 85 [] [.ptr id1 0], .fn 86 [] [.ptr id1 0]])], H2⟩) (APath.fin (by kernel_rfl)) (by kernel_rfl) ?_
    refine vc_seq ?_
    refine vc_ite (by kernel_rfl) h (fun hc505 h => ?_) (fun hc505 h => ?_)
    · refine vc_skip ?_
      refine vc_kp ?_
      refine vc_seq ?_
      refine vc_block ?_
      refine vc_seq ?_
      refine vc_reg (S := ⟨[(3, .loc 3 0), (4, iv i4), (14, iv ((List.length a0_.Links : Nat) : Int)), (15, iv i4)], [(3, [.fn 82 [] [.ptr id1 0], .fn 84 [] [.ptr id1 0], .fn 85 [] [.ptr id1 0], .fn 86 [] [.ptr id1 0]])], H2⟩) (APath.fin (by kernel_rfl)) (by kernel_rfl) ?_
      refine vc_seq ?_
      refine vc_reg (S := ⟨[(3, .loc 3 0), (4, iv i4), (14, iv ((List.length a0_.Links : Nat) : Int)), (15, iv i4), (18, .agg [.fn 82 [] [.ptr id1 0], .fn 84 [] [.ptr id1 0], .fn 85 [] [.ptr id1 0], .fn 86 [] [.ptr id1 0]]), (19, iv 0)], [(3, [.fn 82 [] [.ptr id1 0], .fn 84 [] [.ptr id1 0], .fn 85 [] [.ptr id1 0], .fn 86 [] [.ptr id1 0]])], H2⟩) (APath.fin (by kernel_rfl)) (by kernel_rfl) ?_
      refine vc_block ?_
      refine vc_unroll 18 ?_
      refine unr_step ?_
      refine vc_seq ?_
      refine vc_reg (S := ⟨[(3, .loc 3 0), (4, iv i4), (14, iv ((List.length a0_.Links : Nat) : Int)), (15, iv i4), (18, .agg [.fn 82 [] [.ptr id1 0], .fn 84 [] [.ptr id1 0], .fn 85 [] [.ptr id1 0], .fn 86 [] [.ptr id1 0]]), (19, iv 0), (20, bv true)], [(3, [.fn 82 [] [.ptr id1 0], .fn 84 [] [.ptr id1 0], .fn 85 [] [.ptr id1 0], .fn 86 [] [.ptr id1 0]])], H2⟩) (APath.fin (by kernel_rfl)) (by kernel_rfl) ?_
      refine vc_seq ?_
      refine vc_true (by kernel_rfl) ?_
      refine vc_skip ?_
      refine vc_kp ?_
      refine vc_seq ?_
      refine vc_block ?_
      refine vc_seq ?_
      refine vc_reg (S := ⟨[(3, .loc 3 0), (4, iv i4), (6, .fn 82 [] [.ptr id1 0]), (14, iv ((List.length a0_.Links : Nat) : Int)), (15, iv i4), (18, .agg [.fn 82 [] [.ptr id1 0], .fn 84 [] [.ptr id1 0], .fn 85 [] [.ptr id1 0], .fn 86 [] [.ptr id1 0]]), (19, iv 0)], [(3, [.fn 82 [] [.ptr id1 0], .fn 84 [] [.ptr id1 0], .fn 85 [] [.ptr id1 0], .fn 86 [] [.ptr id1 0]])], H2⟩) (APath.fin (by kernel_rfl)) (by kernel_rfl) ?_
      refine vc_seq ?_
      obtain ⟨r506, hr506, h⟩ := bind_some h
      have hvr506 := (topo_sound_1_ok N i4 a0_ id1 H2 (HP.now (HP.pick hH [0] rfl)) r506 hr506)
      refine vc_reg (S := ⟨[(3, .loc 3 0), (4, iv i4), (14, iv ((List.length a0_.Links : Nat) : Int)), (15, iv i4), (18, .agg [.fn 82 [] [.ptr id1 0], .fn 84 [] [.ptr id1 0], .fn 85 [] [.ptr id1 0], .fn 86 [] [.ptr id1 0]]), (19, iv 0), (25, bv (!r506))], [(3, [.fn 82 [] [.ptr id1 0], .fn 84 [] [.ptr id1 0], .fn 85 [] [.ptr id1 0], .fn 86 [] [.ptr id1 0]])], H2⟩) (APath.chunk 2 (by kernel_rfl) (APath.one (.callV (some 24) (.t 22) [.t 23]) (by kernel_rfl) (st_callV (H := H2) (fv := .fn 82 [] [.ptr id1 0]) (ys := [iv i4]) (by kernel_rfl) (by kernel_rfl) (by kernel_rfl) (VCall.of (by kernel_rfl) hvr506)) (APath.fin (by kernel_rfl)))) (by kernel_rfl) ?_
      refine vc_ite (by kernel_rfl) h (fun hc507 h => ?_) (fun hc507 h => ?_)
      · refine vc_seq ?_
        refine vc_reg (S := ⟨[(2, bv false)], [], H2⟩) (APath.fin (by kernel_rfl)) (by kernel_rfl) ?_
        replace hH : HP H2 [] := HP.pick hH [] rfl
        refine vc_ret ?_
        obtain rfl := some_inj h
        exact ⟨_, rfl, rfl, ret_of (by kernel_rfl)⟩
      · refine vc_skip ?_
        refine vc_kp ?_
        refine vc_reg (S := ⟨[(3, .loc 3 0), (4, iv i4), (14, iv ((List.length a0_.Links : Nat) : Int)), (15, iv i4), (18, .agg [.fn 82 [] [.ptr id1 0], .fn 84 [] [.ptr id1 0], .fn 85 [] [.ptr id1 0], .fn 86 [] [.ptr id1 0]]), (19, iv 1)], [(3, [.fn 82 [] [.ptr id1 0], .fn 84 [] [.ptr id1 0], .fn 85 [] [.ptr id1 0], .fn 86 [] [.ptr id1 0]])], H2⟩) (APath.fin (by kernel_rfl)) (by kernel_rfl) ?_
        refine unr_step ?_
        refine vc_seq ?_
        refine vc_reg (S := ⟨[(3, .loc 3 0), (4, iv i4), (14, iv ((List.length a0_.Links : Nat) : Int)), (15, iv i4), (18, .agg [.fn 82 [] [.ptr id1 0], .fn 84 [] [.ptr id1 0], .fn 85 [] [.ptr id1 0], .fn 86 [] [.ptr id1 0]]), (19, iv 1), (20, bv true)], [(3, [.fn 82 [] [.ptr id1 0], .fn 84 [] [.ptr id1 0], .fn 85 [] [.ptr id1 0], .fn 86 [] [.ptr id1 0]])], H2⟩) (APath.fin (by kernel_rfl)) (by kernel_rfl) ?_
        refine vc_seq ?_
        refine vc_true (by kernel_rfl) ?_
        refine vc_skip ?_
        refine vc_kp ?_
        refine vc_seq ?_
        refine vc_block ?_
        refine vc_seq ?_
        refine vc_reg (S := ⟨[(3, .loc 3 0), (4, iv i4), (6, .fn 84 [] [.ptr id1 0]), (14, iv ((List.length a0_.Links : Nat) : Int)), (15, iv i4), (18, .agg [.fn 82 [] [.ptr id1 0], .fn 84 [] [.ptr id1 0], .fn 85 [] [.ptr id1 0], .fn 86 [] [.ptr id1 0]]), (19, iv 1)], [(3, [.fn 82 [] [.ptr id1 0], .fn 84 [] [.ptr id1 0], .fn 85 [] [.ptr id1 0], .fn 86 [] [.ptr id1 0]])], H2⟩) (APath.fin (by kernel_rfl)) (by kernel_rfl) ?_
        refine vc_seq ?_
        obtain ⟨r508, hr508, h⟩ := bind_some h
        have hvr508 := (topo_sound_2_ok N i4 a0_ id1 H2 (HP.now (HP.pick hH [0] rfl)) r508 hr508)
        refine vc_reg (S := ⟨[(3, .loc 3 0), (4, iv i4), (14, iv ((List.length a0_.Links : Nat) : Int)), (15, iv i4), (18, .agg [.fn 82 [] [.ptr id1 0], .fn 84 [] [.ptr id1 0], .fn 85 [] [.ptr id1 0], .fn 86 [] [.ptr id1 0]]), (19, iv 1), (25, bv (!r508))], [(3, [.fn 82 [] [.ptr id1 0], .fn 84 [] [.ptr id1 0], .fn 85 [] [.ptr id1 0], .fn 86 [] [.ptr id1 0]])], H2⟩) (APath.chunk 2 (by kernel_rfl) (APath.one (.callV (some 24) (.t 22) [.t 23]) (by kernel_rfl) (st_callV (H := H2) (fv := .fn 84 [] [.ptr id1 0]) (ys := [iv i4]) (by kernel_rfl) (by kernel_rfl) (by kernel_rfl) (VCall.of (by kernel_rfl) hvr508)) (APath.fin (by kernel_rfl)))) (by kernel_rfl) ?_
        refine vc_ite (by kernel_rfl) h (fun hc509 h => ?_) (fun hc509 h => ?_)
        · refine vc_seq ?_
          refine vc_reg (S := ⟨[(2, bv false)], [], H2⟩) (APath.fin (by kernel_rfl)) (by kernel_rfl) ?_
          replace hH : HP H2 [] := HP.pick hH [] rfl
          refine vc_ret ?_
          obtain rfl := some_inj h
          exact ⟨_, rfl, rfl, ret_of (by kernel_rfl)⟩
        · refine vc_skip ?_
          refine vc_kp ?_
          refine vc_reg (S := ⟨[(3, .loc 3 0), (4, iv i4), (14, iv ((List.length a0_.Links : Nat) : Int)), (15, iv i4), (18, .agg [.fn 82 [] [.ptr id1 0], .fn 84 [] [.ptr id1 0], .fn 85 [] [.ptr id1 0], .fn 86 [] [.ptr id1 0]]), (19, iv 2)], [(3, [.fn 82 [] [.ptr id1 0], .fn 84 [] [.ptr id1 0], .fn 85 [] [.ptr id1 0], .fn 86 [] [.ptr id1 0]])], H2⟩) (APath.fin (by kernel_rfl)) (by kernel_rfl) ?_
          refine unr_step ?_
          refine vc_seq ?_
          refine vc_reg (S := ⟨[(3, .loc 3 0), (4, iv i4), (14, iv ((List.length a0_.Links : Nat) : Int)), (15, iv i4), (18, .agg [.fn 82 [] [.ptr id1 0], .fn 84 [] [.ptr id1 0], .fn 85 [] [.ptr id1 0], .fn 86 [] [.ptr id1 0]]), (19, iv 2), (20, bv true)], [(3, [.fn 82 [] [.ptr id1 0], .fn 84 [] [.ptr id1 0], .fn 85 [] [.ptr id1 0], .fn 86 [] [.ptr id1 0]])], H2⟩) (APath.fin (by kernel_rfl)) (by kernel_rfl) ?_
          refine vc_seq ?_
          refine vc_true (by kernel_rfl) ?_
          refine vc_skip ?_
          refine vc_kp ?_
          refine vc_seq ?_
          refine vc_block ?_
          refine vc_seq ?_
          refine vc_reg (S := ⟨[(3, .loc 3 0), (4, iv i4), (6, .fn 85 [] [.ptr id1 0]), (14, iv ((List.length a0_.Links : Nat) : Int)), (15, iv i4), (18, .agg [.fn 82 [] [.ptr id1 0], .fn 84 [] [.ptr id1 0], .fn 85 [] [.ptr id1 0], .fn 86 [] [.ptr id1 0]]), (19, iv 2)], [(3, [.fn 82 [] [.ptr id1 0], .fn 84 [] [.ptr id1 0], .fn 85 [] [.ptr id1 0], .fn 86 [] [.ptr id1 0]])], H2⟩) (APath.fin (by kernel_rfl)) (by kernel_rfl) ?_
          refine vc_seq ?_
          obtain ⟨r510, hr510, h⟩ := bind_some h
          have hvr510 := (topo_sound_3_ok N i4 a0_ id1 H2 (HP.now (HP.pick hH [0] rfl)) r510 hr510)
          refine vc_reg (S := ⟨[(3, .loc 3 0), (4, iv i4), (14, iv ((List.length a0_.Links : Nat) : Int)), (15, iv i4), (18, .agg [.fn 82 [] [.ptr id1 0], .fn 84 [] [.ptr id1 0], .fn 85 [] [.ptr id1 0], .fn 86 [] [.ptr id1 0]]), (19, iv 2), (25, bv (!r510))], [(3, [.fn 82 [] [.ptr id1 0], .fn 84 [] [.ptr id1 0], .fn 85 [] [.ptr id1 0], .fn 86 [] [.ptr id1 0]])], H2⟩) (APath.chunk 2 (by kernel_rfl) (APath.one (.callV (some 24) (.t 22) [.t 23]) (by kernel_rfl) (st_callV (H := H2) (fv := .fn 85 [] [.ptr id1 0]) (ys := [iv i4]) (by kernel_rfl) (by kernel_rfl) (by kernel_rfl) (VCall.of (by kernel_rfl) hvr510)) (APath.fin (by kernel_rfl)))) (by kernel_rfl) ?_
          refine vc_ite (by kernel_rfl) h (fun hc511 h => ?_) (fun hc511 h => ?_)
          · refine vc_seq ?_
            refine vc_reg (S := ⟨[(2, bv false)], [], H2⟩) (APath.fin (by kernel_rfl)) (by kernel_rfl) ?_
            replace hH : HP H2 [] := HP.pick hH [] rfl
            refine vc_ret ?_
            obtain rfl := some_inj h
            exact ⟨_, rfl, rfl, ret_of (by kernel_rfl)⟩
          · refine vc_skip ?_
            refine vc_kp ?_
            refine vc_reg (S := ⟨[(3, .loc 3 0), (4, iv i4), (14, iv ((List.length a0_.Links : Nat) : Int)), (15, iv i4), (18, .agg [.fn 82 [] [.ptr id1 0], .fn 84 [] [.ptr id1 0], .fn 85 [] [.ptr id1 0], .fn 86 [] [.ptr id1 0]]), (19, iv 3)], [(3, [.fn 82 [] [.ptr id1 0], .fn 84 [] [.ptr id1 0], .fn 85 [] [.ptr id1 0], .fn 86 [] [.ptr id1 0]])], H2⟩) (APath.fin (by kernel_rfl)) (by kernel_rfl) ?_
            refine unr_step ?_
            refine vc_seq ?_
            refine vc_reg (S := ⟨[(3, .loc 3 0), (4, iv i4), (14, iv ((List.length a0_.Links : Nat) : Int)), (15, iv i4), (18, .agg [.fn 82 [] [.ptr id1 0], .fn 84 [] [.ptr id1 0], .fn 85 [] [.ptr id1 0], .fn 86 [] [.ptr id1 0]]), (19, iv 3), (20, bv true)], [(3, [.fn 82 [] [.ptr id1 0], .fn 84 [] [.ptr id1 0], .fn 85 [] [.ptr id1 0], .fn 86 [] [.ptr id1 0]])], H2⟩) (APath.fin (by kernel_rfl)) (by kernel_rfl) ?_
            refine vc_seq ?_
            refine vc_true (by kernel_rfl) ?_
            refine vc_skip ?_
            refine vc_kp ?_
            refine vc_seq ?_
            refine vc_block ?_
            refine vc_seq ?_
            refine vc_reg (S := ⟨[(3, .loc 3 0), (4, iv i4), (6, .fn 86 [] [.ptr id1 0]), (14, iv ((List.length a0_.Links : Nat) : Int)), (15, iv i4), (18, .agg [.fn 82 [] [.ptr id1 0], .fn 84 [] [.ptr id1 0], .fn 85 [] [.ptr id1 0], .fn 86 [] [.ptr id1 0]]), (19, iv 3)], [(3, [.fn 82 [] [.ptr id1 0], .fn 84 [] [.ptr id1 0], .fn 85 [] [.ptr id1 0], .fn 86 [] [.ptr id1 0]])], H2⟩) (APath.fin (by kernel_rfl)) (by kernel_rfl) ?_
            refine vc_seq ?_
            obtain ⟨r512, hr512, h⟩ := bind_some h
            have hvr512 := (topo_sound_4_ok N i4 a0_ id1 H2 (HP.now (HP.pick hH [0] rfl)) r512 hr512)
            refine vc_reg (S := ⟨[(3, .loc 3 0), (4, iv i4), (14, iv ((List.length a0_.Links : Nat) : Int)), (15, iv i4), (18, .agg [.fn 82 [] [.ptr id1 0], .fn 84 [] [.ptr id1 0], .fn 85 [] [.ptr id1 0], .fn 86 [] [.ptr id1 0]]), (19, iv 3), (25, bv (!r512))], [(3, [.fn 82 [] [.ptr id1 0], .fn 84 [] [.ptr id1 0], .fn 85 [] [.ptr id1 0], .fn 86 [] [.ptr id1 0]])], H2⟩) (APath.chunk 2 (by kernel_rfl) (APath.one (.callV (some 24) (.t 22) [.t 23]) (by kernel_rfl) (st_callV (H := H2) (fv := .fn 86 [] [.ptr id1 0]) (ys := [iv i4]) (by kernel_rfl) (by kernel_rfl) (by kernel_rfl) (VCall.of (by kernel_rfl) hvr512)) (APath.fin (by kernel_rfl)))) (by kernel_rfl) ?_
            refine vc_ite (by kernel_rfl) h (fun hc513 h => ?_) (fun hc513 h => ?_)
            · refine vc_seq ?_
              refine vc_reg (S := ⟨[(2, bv false)], [], H2⟩) (APath.fin (by kernel_rfl)) (by kernel_rfl) ?_
              replace hH : HP H2 [] := HP.pick hH [] rfl
              refine vc_ret ?_
              obtain rfl := some_inj h
              exact ⟨_, rfl, rfl, ret_of (by kernel_rfl)⟩
            · refine vc_skip ?_
              refine vc_kp ?_
              refine vc_reg (S := ⟨[(3, .loc 3 0), (4, iv i4), (14, iv ((List.length a0_.Links : Nat) : Int)), (15, iv i4), (18, .agg [.fn 82 [] [.ptr id1 0], .fn 84 [] [.ptr id1 0], .fn 85 [] [.ptr id1 0], .fn 86 [] [.ptr id1 0]]), (19, iv 4)], [(3, [.fn 82 [] [.ptr id1 0], .fn 84 [] [.ptr id1 0], .fn 85 [] [.ptr id1 0], .fn 86 [] [.ptr id1 0]])], H2⟩) (APath.fin (by kernel_rfl)) (by kernel_rfl) ?_
              refine unr_step ?_
              refine vc_seq ?_
              refine vc_reg (S := ⟨[(3, .loc 3 0), (4, iv i4), (14, iv ((List.length a0_.Links : Nat) : Int)), (15, iv i4), (18, .agg [.fn 82 [] [.ptr id1 0], .fn 84 [] [.ptr id1 0], .fn 85 [] [.ptr id1 0], .fn 86 [] [.ptr id1 0]]), (19, iv 4), (20, bv false)], [(3, [.fn 82 [] [.ptr id1 0], .fn 84 [] [.ptr id1 0], .fn 85 [] [.ptr id1 0], .fn 86 [] [.ptr id1 0]])], H2⟩) (APath.fin (by kernel_rfl)) (by kernel_rfl) ?_
              refine vc_seq ?_
              refine vc_false (by kernel_rfl) ?_
              refine vc_kp ?_
              try show vc _ _ _ _ _
              refine vc_exit ?_
              try show vc _ _ _ _ _
              refine vc_reg (S := ⟨[(3, .loc 3 0), (14, iv ((List.length a0_.Links : Nat) : Int)), (15, iv (w64 (i4 + 1)))], [(3, [.fn 82 [] [.ptr id1 0], .fn 84 [] [.ptr id1 0], .fn 85 [] [.ptr id1 0], .fn 86 [] [.ptr id1 0]])], H2⟩) (APath.fin (by kernel_rfl)) (by kernel_rfl) ?_
              obtain rfl := some_inj h
              exact ⟨_, rfl, (by show _ = _; kernel_rfl)⟩
    · refine vc_kp ?_
      try show vc _ _ _ _ _
      replace hH : HP H2 [] := HP.pick hH [] rfl
      refine vc_exit ?_
      try show vc _ _ _ _ _
      obtain rfl := some_inj h
      exact ⟨_, rfl, rfl, (by show _ = _; kernel_rfl)⟩
  · rintro e s hq
    rcases o514 with p515 | p516
    · dsimp only at h hq
      obtain ⟨rfl, hR⟩ := hq
      obtain rfl := hR
      try show vc _ _ _ _ _
      refine vc_seq ?_
      refine vc_reg (S := ⟨[(2, bv true)], [], H2⟩) (APath.fin (by kernel_rfl)) (by kernel_rfl) ?_
      refine vc_ret ?_
      obtain rfl := some_inj h
      exact ret_of (by kernel_rfl)
    · dsimp only at h hq
      obtain ⟨rfl, hq⟩ := hq
      obtain rfl := some_inj h
      exact hq
end Go.Sh

