/- Part of the proof; written by a program out of the texts in wip/. -/
import Derived.Test.YtoboapnbbcedbaaRouteTreesOk1
namespace Go.Sh
open Go Go.Eng Go.Proofs
set_option linter.unusedVariables false
set_option linter.unusedSimpArgs false
set_option maxRecDepth 100000
theorem route_walk_valid_ok (N : Nat) (a0_ : route_walk) (a1_ : (List Int)) (r : Bool) (h : route_walk_valid N a0_ a1_ = some r) : PCall Try.prog 51 [.agg (c_api_Topo a0_.Topo), s_eI64 false a1_] (bv r) := by
  unfold route_walk_valid at h
  have hH : HP ([] : List HO) [] := trivial
  refine pcall_of chk51 rfl rfl (vc_sound _ _ _ ?_) rfl
  refine vc_seq ?_
  obtain ⟨id1, H2, hid1, hH2, hH⟩ := HP.newCell hH (c_api_Topo a0_.Topo)
  replace hH : HP H2 [.cel id1 (c_api_Topo a0_.Topo)] := hH
  refine vc_reg (S := ⟨[(1, s_eI64 false a1_), (2, .ptr id1 0)], [], H2⟩) (APath.one (.boxH 2 (.t 0)) (by kernel_rfl) (st_boxH (H := []) (v := .agg (c_api_Topo a0_.Topo)) (by kernel_rfl) (by kernel_rfl) (by kernel_rfl) hid1 hH2) (APath.fin (by kernel_rfl))) (by kernel_rfl) ?_
  refine vc_seq ?_
  refine vc_seq ?_
  refine vc_regX ⟨[(1, s_eI64 false a1_), (2, .ptr id1 0), (17, bv ((decide (((List.length a1_ : Nat) : Int) < 1)) || (decide (((List.length a1_ : Nat) : Int) > 8))))], [], H2⟩ ?_ ?_
  · rcases Bool.eq_false_or_eq_true (decide (((List.length a1_ : Nat) : Int) < 1)) with hc3 | hc4
    · exact ⟨_, (APath.chunk 1 (by kernel_rfl) (APath.one (.val 11 .len [.t 10]) (by kernel_rfl) (st_val (ys := [s_eI64 false a1_]) (by kernel_rfl) (vexec_len eI64)) (APath.one (.val 12 (.bin .lss) [.t 11, .k (.p (.int .i64 1))]) (by kernel_rfl) (st_bool (c := (decide (((List.length a1_ : Nat) : Int) < 1))) (by kernel_rfl) hc3) (APath.fin (by kernel_rfl))))), by simp only [hc3]; kernel_rfl⟩
    · exact ⟨_, (APath.chunk 1 (by kernel_rfl) (APath.one (.val 11 .len [.t 10]) (by kernel_rfl) (st_val (ys := [s_eI64 false a1_]) (by kernel_rfl) (vexec_len eI64)) (APath.one (.val 12 (.bin .lss) [.t 11, .k (.p (.int .i64 1))]) (by kernel_rfl) (st_bool (c := (decide (((List.length a1_ : Nat) : Int) < 1))) (by kernel_rfl) hc4) (APath.chunk 2 (by kernel_rfl) (APath.oneG (.val 15 .len [.t 14]) 13 false (by kernel_rfl) (by kernel_rfl) (st_val (ys := [s_eI64 false a1_]) (by kernel_rfl) (vexec_len eI64)) (APath.fin (by kernel_rfl))))))), by simp only [hc4]; kernel_rfl⟩
  · refine vc_ite (by kernel_rfl) h (fun hc5 h => ?_) (fun hc5 h => ?_)
    · refine vc_seq ?_
      refine vc_reg (S := ⟨[(4, bv false)], [], H2⟩) (APath.fin (by kernel_rfl)) (by kernel_rfl) ?_
      replace hH : HP H2 [] := HP.pick hH [] rfl
      refine vc_ret ?_
      obtain rfl := some_inj h
      exact ret_of (by kernel_rfl)
    · refine vc_skip ?_
      refine vc_kp ?_
      refine vc_seq ?_
      obtain ⟨id6, H7, hid6, hH7, hH⟩ := HP.newCell hH (c_Arr12_Bool (Arr12_Bool.mk false false false false false false false false false false false false))
      replace hH : HP H7 [.cel id6 (c_Arr12_Bool (Arr12_Bool.mk false false false false false false false false false false false false)), .cel id1 (c_api_Topo a0_.Topo)] := hH
      refine vc_reg (S := ⟨[(1, s_eI64 false a1_), (2, .ptr id1 0), (5, .ptr id6 0)], [], H7⟩) (APath.one (.newH 5 [.p (.bool false), .p (.bool false), .p (.bool false), .p (.bool false), .p (.bool false), .p (.bool false), .p (.bool false), .p (.bool false), .p (.bool false), .p (.bool false), .p (.bool false), .p (.bool false)]) (by kernel_rfl) (st_newH (H := H2) (by kernel_rfl) hid6 hH7) APath.done) (by kernel_rfl) ?_
      refine vc_seq ?_
      obtain ⟨id8, H9, hid8, hH9, hH⟩ := HP.newCell hH [iv 0]
      replace hH : HP H9 [.cel id8 [iv 0], .cel id6 (c_Arr12_Bool (Arr12_Bool.mk false false false false false false false false false false false false)), .cel id1 (c_api_Topo a0_.Topo)] := hH
      obtain ⟨id10, H11, hid10, hH11, hH⟩ := HP.newCell hH [iv 0]
      replace hH : HP H11 [.cel id10 [iv 0], .cel id8 [iv 0], .cel id6 (c_Arr12_Bool (Arr12_Bool.mk false false false false false false false false false false false false)), .cel id1 (c_api_Topo a0_.Topo)] := hH
      obtain ⟨H12, hH12, hH⟩ := HP.setCell (k := 1) (off := 0) (cs := [iv 0]) (vs := [iv 0]) (cs' := [iv 0]) hH rfl (by kernel_rfl)
      replace hH : HP H12 [.cel id10 [iv 0], .cel id8 [iv 0], .cel id6 (c_Arr12_Bool (Arr12_Bool.mk false false false false false false false false false false false false)), .cel id1 (c_api_Topo a0_.Topo)] := hH
      obtain ⟨H13, hH13, hH⟩ := HP.setCell (k := 0) (off := 0) (cs := [iv 0]) (vs := [iv 0]) (cs' := [iv 0]) hH rfl (by kernel_rfl)
      replace hH : HP H13 [.cel id10 [iv 0], .cel id8 [iv 0], .cel id6 (c_Arr12_Bool (Arr12_Bool.mk false false false false false false false false false false false false)), .cel id1 (c_api_Topo a0_.Topo)] := hH
      refine vc_reg (S := ⟨[(1, s_eI64 false a1_), (2, .ptr id1 0), (5, .ptr id6 0), (6, .ptr id8 0), (7, .ptr id10 0)], [], H13⟩) (APath.one (.newH 6 [.p (.int .i64 0)]) (by kernel_rfl) (st_newH (H := H7) (by kernel_rfl) hid8 hH9) (APath.one (.newH 7 [.p (.int .i64 0)]) (by kernel_rfl) (st_newH (H := H9) (by kernel_rfl) hid10 hH11) (APath.one (.store (.t 6) (.k (.p (.int .i64 0))) 1) (by kernel_rfl) (st_storeH (H := H11) (v := iv 0) (by kernel_rfl) (by kernel_rfl) (by kernel_rfl) (by kernel_rfl) hH12) (APath.one (.store (.t 7) (.k (.p (.int .i64 0))) 1) (by kernel_rfl) (st_storeH (H := H12) (v := iv 0) (by kernel_rfl) (by kernel_rfl) (by kernel_rfl) (by kernel_rfl) hH13) APath.done)))) (by kernel_rfl) ?_
      obtain ⟨j515, hj515, h⟩ := bind_some h
      refine vc_joinK [1, 7] (fun s => ∃ (H514 : List HO), s = ⟨[(1, s_eI64 false a1_), (7, .ptr id10 0)], [], H514⟩ ∧ HP H514 [.cel id10 [iv j515]]) ?_ ?_
      · clear h
        have h := hj515
        refine vc_seq ?_
        have hlc516 := HP.get hH 3 rfl
        obtain ⟨r517, hr517, h⟩ := bind_some h
        obtain ⟨id519, id520, H518, hvr517, hpr517⟩ := route_walk_hops_ok N a0_ a1_ H13 r517 hr517
        replace hH : HP H518 [.cel id519 [s_eI64 false r517.1], .cel id520 (c_api_Topo r517.2.Topo), .cel id10 [iv 0], .cel id8 [iv 0], .cel id6 (c_Arr12_Bool (Arr12_Bool.mk false false false false false false false false false false false false)), .cel id1 (c_api_Topo a0_.Topo)] := HP.callee (fp := []) (rest := [.cel id10 [iv 0], .cel id8 [iv 0], .cel id6 (c_Arr12_Bool (Arr12_Bool.mk false false false false false false false false false false false false)), .cel id1 (c_api_Topo a0_.Topo)]) hH hpr517
        refine vc_reg (S := ⟨[(1, s_eI64 false a1_), (2, .ptr id1 0), (5, .ptr id6 0), (6, .ptr id8 0), (7, .ptr id10 0), (20, .fn 78 [] [.ptr id519 0, .ptr id520 0])], [], H518⟩) (APath.one (.load 18 (.t 2) 3 true) (by kernel_rfl) (st_loadC (H := H13) (id := id1) (off := 0) (cs := (c_api_Topo a0_.Topo)) (c := (c_api_Topo a0_.Topo)) (r := .agg (c_api_Topo a0_.Topo)) (by kernel_rfl) (by kernel_rfl) hlc516 (by kernel_rfl) (by kernel_rfl) (by kernel_rfl)) (APath.chunk 1 (by kernel_rfl) (APath.one (.call (some 20) 62 [.t 18, .t 19]) (by kernel_rfl) (st_callH (H := H13) (ys := [.agg (c_api_Topo a0_.Topo), s_eI64 false a1_]) (by kernel_rfl) (by kernel_rfl) (by kernel_rfl) hvr517) APath.done))) (by kernel_rfl) ?_
        refine vc_block ?_
        obtain ⟨o1052, ho1052, h⟩ := bind_some h
        have hyo1052 : ∀ (x522 : Int) (x523 : route_hop) (s : (Int × Int × Arr12_Bool) × Nat) (r : ((Int × Int × Arr12_Bool) × Nat) × Bool) (H : List HO) (its : List Thing), (fun (s : (Int × Int × Arr12_Bool) × Nat) (its : List Thing) => its = [.cel id10 [iv s.1.1], .cel id8 [iv s.1.2.1], .cel id6 (c_Arr12_Bool s.1.2.2), .cel id1 (c_api_Topo a0_.Topo)] ++ [.lp (List.length H518) (lcOf Try.prog i51.nt [21, 22] ra51_1 rb51_1) [(2, .ptr id1 0), (5, .ptr id6 0), (6, .ptr id8 0), (7, .ptr id10 0)] (stAt [.ready, .done (.exit 0)] s.2)]) s its → HP H its → (fun (s : (Int × Int × Arr12_Bool) × Nat) (x522 : Int) (x523 : route_hop) => yieldF (fun v : Int × Int × Arr12_Bool => route_walk_valid_R1 N a0_ v.1 v.2.1 v.2.2 x522 x523) s) s x522 x523 = some r → ∃ H' its', YCall Try.prog (List.length H518) [iv x522, .agg (c_route_hop x523)] H r.2 H' ∧ (fun (s : (Int × Int × Arr12_Bool) × Nat) (its : List Thing) => its = [.cel id10 [iv s.1.1], .cel id8 [iv s.1.2.1], .cel id6 (c_Arr12_Bool s.1.2.2), .cel id1 (c_api_Topo a0_.Topo)] ++ [.lp (List.length H518) (lcOf Try.prog i51.nt [21, 22] ra51_1 rb51_1) [(2, .ptr id1 0), (5, .ptr id6 0), (6, .ptr id8 0), (7, .ptr id10 0)] (stAt [.ready, .done (.exit 0)] s.2)]) r.1 its' ∧ Fp H H' its its' := by
          clear h
          intro x522 x523 s r H521 its hT hH h
          obtain ⟨h0, q, hb, rfl⟩ := yieldF_some h
          clear h
          obtain ⟨vs, e⟩ := s
          obtain rfl : e = 0 := h0
          obtain ⟨i524, i525, l526⟩ := vs
          obtain rfl := hT
          replace h : route_walk_valid_R1 N a0_ i524 i525 l526 x522 x523 = some q := hb
          clear hb
          unfold route_walk_valid_R1 at h
          replace hH : Fp H521 H521 [.cel id10 [iv i524], .cel id8 [iv i525], .cel id6 (c_Arr12_Bool l526), .cel id1 (c_api_Topo a0_.Topo), .lp (List.length H518) (lcOf Try.prog i51.nt [21, 22] ra51_1 rb51_1) [(2, .ptr id1 0), (5, .ptr id6 0), (6, .ptr id8 0), (7, .ptr id10 0)] .ready] [.cel id10 [iv i524], .cel id8 [iv i525], .cel id6 (c_Arr12_Bool l526), .cel id1 (c_api_Topo a0_.Topo), .lp (List.length H518) (lcOf Try.prog i51.nt [21, 22] ra51_1 rb51_1) [(2, .ptr id1 0), (5, .ptr id6 0), (6, .ptr id8 0), (7, .ptr id10 0)] .ready] := Fp.refl hH
          suffices hs : ∃ H', YCall Try.prog (List.length H518) [iv x522, .agg (c_route_hop x523)] H521 (q.2 == 0) H' ∧ ∃ its', (fun (s : (Int × Int × Arr12_Bool) × Nat) (its : List Thing) => its = [.cel id10 [iv s.1.1], .cel id8 [iv s.1.2.1], .cel id6 (c_Arr12_Bool s.1.2.2), .cel id1 (c_api_Topo a0_.Topo)] ++ [.lp (List.length H518) (lcOf Try.prog i51.nt [21, 22] ra51_1 rb51_1) [(2, .ptr id1 0), (5, .ptr id6 0), (6, .ptr id8 0), (7, .ptr id10 0)] (stAt [.ready, .done (.exit 0)] s.2)]) q its' ∧ Fp H521 H' [.cel id10 [iv i524], .cel id8 [iv i525], .cel id6 (c_Arr12_Bool l526), .cel id1 (c_api_Topo a0_.Topo), .lp (List.length H518) (lcOf Try.prog i51.nt [21, 22] ra51_1 rb51_1) [(2, .ptr id1 0), (5, .ptr id6 0), (6, .ptr id8 0), (7, .ptr id10 0)] .ready] its' by
            obtain ⟨H', h1, its', h2, h3⟩ := hs
            exact ⟨H', its', h1, h2, h3⟩
          refine ycall_det (id := (List.length H518)) (args := [iv x522, .agg (c_route_hop x523)]) (H := H521) (n := i51.nt) (ps := [21, 22]) (fr0 := [(2, .ptr id1 0), (5, .ptr id6 0), (6, .ptr id8 0), (7, .ptr id10 0)]) (ia := ra51_1) (ib := rb51_1) (q.2 == 0) (fun H' => ∃ its', (fun (s : (Int × Int × Arr12_Bool) × Nat) (its : List Thing) => its = [.cel id10 [iv s.1.1], .cel id8 [iv s.1.2.1], .cel id6 (c_Arr12_Bool s.1.2.2), .cel id1 (c_api_Topo a0_.Topo)] ++ [.lp (List.length H518) (lcOf Try.prog i51.nt [21, 22] ra51_1 rb51_1) [(2, .ptr id1 0), (5, .ptr id6 0), (6, .ptr id8 0), (7, .ptr id10 0)] (stAt [.ready, .done (.exit 0)] s.2)]) q its' ∧ Fp H521 H' [.cel id10 [iv i524], .cel id8 [iv i525], .cel id6 (c_Arr12_Bool l526), .cel id1 (c_api_Topo a0_.Topo), .lp (List.length H518) (lcOf Try.prog i51.nt [21, 22] ra51_1 rb51_1) [(2, .ptr id1 0), (5, .ptr id6 0), (6, .ptr id8 0), (7, .ptr id10 0)] .ready] its') (Fp.get hH 4 rfl) rfl (by decide +kernel) rfl ?_
          show vc _ _ _ _ ⟨[(2, .ptr id1 0), (5, .ptr id6 0), (6, .ptr id8 0), (7, .ptr id10 0), (21, iv x522), (22, .agg (c_route_hop x523))], [], H521⟩
          refine vc_seq ?_
          refine vc_reg (S := ⟨[(2, .ptr id1 0), (5, .ptr id6 0), (6, .ptr id8 0), (7, .ptr id10 0), (8, iv x522), (22, .agg (c_route_hop x523))], [], H521⟩) (APath.fin (by kernel_rfl)) (by kernel_rfl) ?_
          refine vc_reg (S := ⟨[(2, .ptr id1 0), (5, .ptr id6 0), (6, .ptr id8 0), (7, .ptr id10 0), (8, iv x522), (9, .loc 9 0)], [(9, (c_route_hop x523))], H521⟩) (APath.fin (by kernel_rfl)) (by kernel_rfl) ?_
          refine ia_done (k := 4) hH rfl ?_
          intro H1024 hH
          replace hH : Fp H521 H1024 [.cel id10 [iv i524], .cel id8 [iv i525], .cel id6 (c_Arr12_Bool l526), .cel id1 (c_api_Topo a0_.Topo), .lp (List.length H518) (lcOf Try.prog i51.nt [21, 22] ra51_1 rb51_1) [(2, .ptr id1 0), (5, .ptr id6 0), (6, .ptr id8 0), (7, .ptr id10 0)] .ready] [.cel id10 [iv i524], .cel id8 [iv i525], .cel id6 (c_Arr12_Bool l526), .cel id1 (c_api_Topo a0_.Topo), .lp (List.length H518) (lcOf Try.prog i51.nt [21, 22] ra51_1 rb51_1) [(2, .ptr id1 0), (5, .ptr id6 0), (6, .ptr id8 0), (7, .ptr id10 0)] .busy] := hH
          show vc _ _ _ _ ⟨[(2, .ptr id1 0), (5, .ptr id6 0), (6, .ptr id8 0), (7, .ptr id10 0), (8, iv x522), (9, .loc 9 0)], [(9, (c_route_hop x523))], H1024⟩
          refine vc_block ?_
          refine vc_seq ?_
          refine vc_seq ?_
          refine vc_reg (S := ⟨[(2, .ptr id1 0), (5, .ptr id6 0), (6, .ptr id8 0), (7, .ptr id10 0), (9, .loc 9 0), (24, bv (x522 == 0))], [(9, (c_route_hop x523))], H1024⟩) (APath.fin (by kernel_rfl)) (by kernel_rfl) ?_
          refine vc_ite (by kernel_rfl) h (fun hc1025 h => ?_) (fun hc1025 h => ?_)
          · obtain ⟨e1026, he1026, h⟩ := bind_some h
            obtain ⟨H1027, hH1027, hH⟩ := Fp.setCell (k := 2) (off := 0 + Int.toNat x523.from_ * 1) (cs := (c_Arr12_Bool l526)) (vs := [bv true]) (cs' := (c_Arr12_Bool (Arr12_Bool.set l526 x523.from_ true))) hH rfl (splice_arr (fun x => bv x) [] [] (l := l526.l) he1026 rfl rfl rfl (arr_new (Arr12_Bool.c_set l526 x523.from_ true) (by show (c_Arr12_Bool (Arr12_Bool.set l526 x523.from_ true)) = [] ++ (c_Arr12_Bool (Arr12_Bool.set l526 x523.from_ true) ++ []); rfl)))
            replace hH : Fp H521 H1027 [.cel id10 [iv i524], .cel id8 [iv i525], .cel id6 (c_Arr12_Bool l526), .cel id1 (c_api_Topo a0_.Topo), .lp (List.length H518) (lcOf Try.prog i51.nt [21, 22] ra51_1 rb51_1) [(2, .ptr id1 0), (5, .ptr id6 0), (6, .ptr id8 0), (7, .ptr id10 0)] .ready] [.cel id10 [iv i524], .cel id8 [iv i525], .cel id6 (c_Arr12_Bool (Arr12_Bool.set l526 x523.from_ true)), .cel id1 (c_api_Topo a0_.Topo), .lp (List.length H518) (lcOf Try.prog i51.nt [21, 22] ra51_1 rb51_1) [(2, .ptr id1 0), (5, .ptr id6 0), (6, .ptr id8 0), (7, .ptr id10 0)] .busy] := hH
            refine vc_reg (S := ⟨[(5, .ptr id6 0), (6, .ptr id8 0), (7, .ptr id10 0), (9, .loc 9 0)], [(9, (c_route_hop x523))], H1027⟩) (APath.chunk 2 (by kernel_rfl) (APath.one (.val 27 (.iaddr 12 1) [.t 5, .t 26]) (by kernel_rfl) (st_val (ys := [.ptr id6 0, iv x523.from_]) (by kernel_rfl) (vexec_iaddrP (l := l526.l) he1026 rfl)) (APath.one (.store (.t 27) (.k (.p (.bool true))) 1) (by kernel_rfl) (st_storeH (H := H1024) (v := bv true) (by kernel_rfl) (by kernel_rfl) (by kernel_rfl) (by kernel_rfl) hH1027) APath.done))) (by kernel_rfl) ?_
            refine vc_kp ?_
            refine vc_seq ?_
            refine vc_seq ?_
            obtain ⟨e1028, he1028, h⟩ := bind_some h
            have hlc1029 := Fp.get hH 2 rfl
            refine vc_reg (S := ⟨[(5, .ptr id6 0), (6, .ptr id8 0), (7, .ptr id10 0), (9, .loc 9 0), (43, bv e1028)], [(9, (c_route_hop x523))], H1027⟩) (APath.chunk 2 (by kernel_rfl) (APath.one (.val 42 (.iaddr 12 1) [.t 5, .t 41]) (by kernel_rfl) (st_val (ys := [.ptr id6 0, iv x523.to_]) (by kernel_rfl) (vexec_iaddrP (l := (Arr12_Bool.set l526 x523.from_ true).l) he1028 rfl)) (APath.one (.load 43 (.t 42) 1 false) (by kernel_rfl) (st_loadAP (H := H1027) (id := id6) (off := 0) (cs := (c_Arr12_Bool (Arr12_Bool.set l526 x523.from_ true))) (l := (Arr12_Bool.set l526 x523.from_ true).l) (fun x => bv x) [] [] he1028 (by kernel_rfl) (by kernel_rfl) hlc1029 rfl rfl) APath.done))) (by kernel_rfl) ?_
            refine vc_ite (by kernel_rfl) h (fun hc1030 h => ?_) (fun hc1030 h => ?_)
            · refine vc_kp ?_
              try show vc _ _ _ _ _
              refine vc_exit ?_
              try show vc _ _ _ _ _
              obtain rfl := some_inj h
              exact rb_done (k := 4) (.done (.exit 0)) hH rfl rfl (fun H6 hH => ⟨_, (Eq.refl _), (Fp.pick hH [0, 1, 2, 3, 4] rfl)⟩)
            · refine vc_skip ?_
              refine vc_kp ?_
              refine vc_seq ?_
              obtain ⟨e1031, he1031, h⟩ := bind_some h
              obtain ⟨H1032, hH1032, hH⟩ := Fp.setCell (k := 2) (off := 0 + Int.toNat x523.to_ * 1) (cs := (c_Arr12_Bool (Arr12_Bool.set l526 x523.from_ true))) (vs := [bv true]) (cs' := (c_Arr12_Bool (Arr12_Bool.set (Arr12_Bool.set l526 x523.from_ true) x523.to_ true))) hH rfl (splice_arr (fun x => bv x) [] [] (l := (Arr12_Bool.set l526 x523.from_ true).l) he1031 rfl rfl rfl (arr_new (Arr12_Bool.c_set (Arr12_Bool.set l526 x523.from_ true) x523.to_ true) (by show (c_Arr12_Bool (Arr12_Bool.set (Arr12_Bool.set l526 x523.from_ true) x523.to_ true)) = [] ++ (c_Arr12_Bool (Arr12_Bool.set (Arr12_Bool.set l526 x523.from_ true) x523.to_ true) ++ []); rfl)))
              replace hH : Fp H521 H1032 [.cel id10 [iv i524], .cel id8 [iv i525], .cel id6 (c_Arr12_Bool l526), .cel id1 (c_api_Topo a0_.Topo), .lp (List.length H518) (lcOf Try.prog i51.nt [21, 22] ra51_1 rb51_1) [(2, .ptr id1 0), (5, .ptr id6 0), (6, .ptr id8 0), (7, .ptr id10 0)] .ready] [.cel id10 [iv i524], .cel id8 [iv i525], .cel id6 (c_Arr12_Bool (Arr12_Bool.set (Arr12_Bool.set l526 x523.from_ true) x523.to_ true)), .cel id1 (c_api_Topo a0_.Topo), .lp (List.length H518) (lcOf Try.prog i51.nt [21, 22] ra51_1 rb51_1) [(2, .ptr id1 0), (5, .ptr id6 0), (6, .ptr id8 0), (7, .ptr id10 0)] .busy] := hH
              refine vc_reg (S := ⟨[(6, .ptr id8 0), (7, .ptr id10 0), (9, .loc 9 0)], [(9, (c_route_hop x523))], H1032⟩) (APath.chunk 2 (by kernel_rfl) (APath.one (.val 46 (.iaddr 12 1) [.t 5, .t 45]) (by kernel_rfl) (st_val (ys := [.ptr id6 0, iv x523.to_]) (by kernel_rfl) (vexec_iaddrP (l := (Arr12_Bool.set l526 x523.from_ true).l) he1031 rfl)) (APath.one (.store (.t 46) (.k (.p (.bool true))) 1) (by kernel_rfl) (st_storeH (H := H1027) (v := bv true) (by kernel_rfl) (by kernel_rfl) (by kernel_rfl) (by kernel_rfl) hH1032) APath.done))) (by kernel_rfl) ?_
              refine vc_seq ?_
              obtain ⟨H1033, hH1033, hH⟩ := Fp.setCell (k := 1) (off := 0) (cs := [iv i525]) (vs := [iv x523.to_]) (cs' := [iv x523.to_]) hH rfl (by kernel_rfl)
              replace hH : Fp H521 H1033 [.cel id10 [iv i524], .cel id8 [iv i525], .cel id6 (c_Arr12_Bool l526), .cel id1 (c_api_Topo a0_.Topo), .lp (List.length H518) (lcOf Try.prog i51.nt [21, 22] ra51_1 rb51_1) [(2, .ptr id1 0), (5, .ptr id6 0), (6, .ptr id8 0), (7, .ptr id10 0)] .ready] [.cel id10 [iv i524], .cel id8 [iv x523.to_], .cel id6 (c_Arr12_Bool (Arr12_Bool.set (Arr12_Bool.set l526 x523.from_ true) x523.to_ true)), .cel id1 (c_api_Topo a0_.Topo), .lp (List.length H518) (lcOf Try.prog i51.nt [21, 22] ra51_1 rb51_1) [(2, .ptr id1 0), (5, .ptr id6 0), (6, .ptr id8 0), (7, .ptr id10 0)] .busy] := hH
              refine vc_reg (S := ⟨[(7, .ptr id10 0)], [], H1033⟩) (APath.chunk 2 (by kernel_rfl) (APath.one (.store (.t 6) (.t 48) 1) (by kernel_rfl) (st_storeH (H := H1032) (v := iv x523.to_) (by kernel_rfl) (by kernel_rfl) (by kernel_rfl) (by kernel_rfl) hH1033) APath.done)) (by kernel_rfl) ?_
              have hlc1034 := Fp.get hH 0 rfl
              obtain ⟨H1035, hH1035, hH⟩ := Fp.setCell (k := 0) (off := 0) (cs := [iv i524]) (vs := [iv (w64 (i524 + 1))]) (cs' := [iv (w64 (i524 + 1))]) hH rfl (by kernel_rfl)
              replace hH : Fp H521 H1035 [.cel id10 [iv i524], .cel id8 [iv i525], .cel id6 (c_Arr12_Bool l526), .cel id1 (c_api_Topo a0_.Topo), .lp (List.length H518) (lcOf Try.prog i51.nt [21, 22] ra51_1 rb51_1) [(2, .ptr id1 0), (5, .ptr id6 0), (6, .ptr id8 0), (7, .ptr id10 0)] .ready] [.cel id10 [iv (w64 (i524 + 1))], .cel id8 [iv x523.to_], .cel id6 (c_Arr12_Bool (Arr12_Bool.set (Arr12_Bool.set l526 x523.from_ true) x523.to_ true)), .cel id1 (c_api_Topo a0_.Topo), .lp (List.length H518) (lcOf Try.prog i51.nt [21, 22] ra51_1 rb51_1) [(2, .ptr id1 0), (5, .ptr id6 0), (6, .ptr id8 0), (7, .ptr id10 0)] .busy] := hH
              refine vc_reg (S := ⟨[], [], H1035⟩) (APath.one (.load 49 (.t 7) 1 false) (by kernel_rfl) (st_loadC (H := H1033) (id := id10) (off := 0) (cs := [iv i524]) (c := [iv i524]) (r := iv i524) (by kernel_rfl) (by kernel_rfl) hlc1034 (by kernel_rfl) (by kernel_rfl) (by kernel_rfl)) (APath.chunk 1 (by kernel_rfl) (APath.one (.store (.t 7) (.t 50) 1) (by kernel_rfl) (st_storeH (H := H1033) (v := iv (w64 (i524 + 1))) (by kernel_rfl) (by kernel_rfl) (by kernel_rfl) (by kernel_rfl) hH1035) APath.done))) (by kernel_rfl) ?_
              obtain rfl := some_inj h
              exact rb_done (k := 4) (.ready) hH rfl rfl (fun H6 hH => ⟨_, (Eq.refl _), (Fp.pick hH [0, 1, 2, 3, 4] rfl)⟩)
          · refine vc_seq ?_
            obtain ⟨j1042, hj, h⟩ := bind_some h
            refine vc_regXR (fun s => s = ⟨[(5, .ptr id6 0), (6, .ptr id8 0), (7, .ptr id10 0), (9, .loc 9 0), (39, bv j1042)], [(9, (c_route_hop x523))], H1024⟩) ?_ ?_
            · clear h
              have hlc1036 := Fp.get hH 1 rfl
              rcases ite_some hj with ⟨hc1037, hj⟩ | ⟨hc1038, hj⟩
              · obtain rfl := some_inj hj
                exact ⟨_, (APath.chunk 2 (by kernel_rfl) (APath.one (.load 30 (.t 6) 1 false) (by kernel_rfl) (st_loadC (H := H1024) (id := id8) (off := 0) (cs := [iv i525]) (c := [iv i525]) (r := iv i525) (by kernel_rfl) (by kernel_rfl) hlc1036 (by kernel_rfl) (by kernel_rfl) (by kernel_rfl)) (APath.one (.val 31 (.bin .neq) [.t 29, .t 30]) (by kernel_rfl) (st_bool (c := (x523.from_ != i525)) (by kernel_rfl) hc1037) (APath.fin (by kernel_rfl))))), (by show _ = _; kernel_rfl)⟩
              · have hlc1039 := Fp.get hH 3 rfl
                have hlc1040 := Fp.get hH 1 rfl
                obtain ⟨e1041, he1041, hj⟩ := bind_some hj
                obtain rfl := some_inj hj
                exact ⟨_, (APath.chunk 2 (by kernel_rfl) (APath.one (.load 30 (.t 6) 1 false) (by kernel_rfl) (st_loadC (H := H1024) (id := id8) (off := 0) (cs := [iv i525]) (c := [iv i525]) (r := iv i525) (by kernel_rfl) (by kernel_rfl) hlc1036 (by kernel_rfl) (by kernel_rfl) (by kernel_rfl)) (APath.one (.val 31 (.bin .neq) [.t 29, .t 30]) (by kernel_rfl) (st_bool (c := (x523.from_ != i525)) (by kernel_rfl) hc1038) (APath.chunk 3 (by kernel_rfl) (APath.oneG (.load 35 (.t 34) 1 false) 32 false (by kernel_rfl) (by kernel_rfl) (st_loadC (H := H1024) (id := id1) (off := 1) (cs := (c_api_Topo a0_.Topo)) (c := [s_eB false a0_.Topo.Station]) (r := s_eB false a0_.Topo.Station) (by kernel_rfl) (by kernel_rfl) hlc1039 (by kernel_rfl) (by kernel_rfl) (by kernel_rfl)) (APath.oneG (.load 36 (.t 6) 1 false) 32 false (by kernel_rfl) (by kernel_rfl) (st_loadC (H := H1024) (id := id8) (off := 0) (cs := [iv i525]) (c := [iv i525]) (r := iv i525) (by kernel_rfl) (by kernel_rfl) hlc1040 (by kernel_rfl) (by kernel_rfl) (by kernel_rfl)) (APath.oneG (.val 37 (.iaddrS 1) [.t 35, .t 36]) 32 false (by kernel_rfl) (by kernel_rfl) (st_val (ys := [s_eB false a0_.Topo.Station, iv i525]) (by kernel_rfl) (vexec_iaddrS eB he1041)) (APath.oneG (.load 38 (.t 37) 1 false) 32 false (by kernel_rfl) (by kernel_rfl) (st_loadP (sz := 1) (off := 0) (cs := [.bool e1041]) (r := bv e1041) eB he1041 (by kernel_rfl) (by kernel_rfl) (by kernel_rfl)) (APath.fin (by kernel_rfl)))))))))), (by show _ = _; kernel_rfl)⟩
            · clear hj
              rintro s hR
              obtain rfl := hR
              refine vc_ite (by kernel_rfl) h (fun hc1043 h => ?_) (fun hc1043 h => ?_)
              · refine vc_kp ?_
                try show vc _ _ _ _ _
                refine vc_exit ?_
                try show vc _ _ _ _ _
                obtain rfl := some_inj h
                exact rb_done (k := 4) (.done (.exit 0)) hH rfl rfl (fun H6 hH => ⟨_, (Eq.refl _), (Fp.pick hH [0, 1, 2, 3, 4] rfl)⟩)
              · refine vc_skip ?_
                refine vc_kp ?_
                refine vc_seq ?_
                refine vc_seq ?_
                obtain ⟨e1044, he1044, h⟩ := bind_some h
                have hlc1045 := Fp.get hH 2 rfl
                refine vc_reg (S := ⟨[(5, .ptr id6 0), (6, .ptr id8 0), (7, .ptr id10 0), (9, .loc 9 0), (43, bv e1044)], [(9, (c_route_hop x523))], H1024⟩) (APath.chunk 2 (by kernel_rfl) (APath.one (.val 42 (.iaddr 12 1) [.t 5, .t 41]) (by kernel_rfl) (st_val (ys := [.ptr id6 0, iv x523.to_]) (by kernel_rfl) (vexec_iaddrP (l := l526.l) he1044 rfl)) (APath.one (.load 43 (.t 42) 1 false) (by kernel_rfl) (st_loadAP (H := H1024) (id := id6) (off := 0) (cs := (c_Arr12_Bool l526)) (l := l526.l) (fun x => bv x) [] [] he1044 (by kernel_rfl) (by kernel_rfl) hlc1045 rfl rfl) APath.done))) (by kernel_rfl) ?_
                refine vc_ite (by kernel_rfl) h (fun hc1046 h => ?_) (fun hc1046 h => ?_)
                · refine vc_kp ?_
                  try show vc _ _ _ _ _
                  refine vc_exit ?_
                  try show vc _ _ _ _ _
                  obtain rfl := some_inj h
                  exact rb_done (k := 4) (.done (.exit 0)) hH rfl rfl (fun H6 hH => ⟨_, (Eq.refl _), (Fp.pick hH [0, 1, 2, 3, 4] rfl)⟩)
                · refine vc_skip ?_
                  refine vc_kp ?_
                  refine vc_seq ?_
                  obtain ⟨e1047, he1047, h⟩ := bind_some h
                  obtain ⟨H1048, hH1048, hH⟩ := Fp.setCell (k := 2) (off := 0 + Int.toNat x523.to_ * 1) (cs := (c_Arr12_Bool l526)) (vs := [bv true]) (cs' := (c_Arr12_Bool (Arr12_Bool.set l526 x523.to_ true))) hH rfl (splice_arr (fun x => bv x) [] [] (l := l526.l) he1047 rfl rfl rfl (arr_new (Arr12_Bool.c_set l526 x523.to_ true) (by show (c_Arr12_Bool (Arr12_Bool.set l526 x523.to_ true)) = [] ++ (c_Arr12_Bool (Arr12_Bool.set l526 x523.to_ true) ++ []); rfl)))
                  replace hH : Fp H521 H1048 [.cel id10 [iv i524], .cel id8 [iv i525], .cel id6 (c_Arr12_Bool l526), .cel id1 (c_api_Topo a0_.Topo), .lp (List.length H518) (lcOf Try.prog i51.nt [21, 22] ra51_1 rb51_1) [(2, .ptr id1 0), (5, .ptr id6 0), (6, .ptr id8 0), (7, .ptr id10 0)] .ready] [.cel id10 [iv i524], .cel id8 [iv i525], .cel id6 (c_Arr12_Bool (Arr12_Bool.set l526 x523.to_ true)), .cel id1 (c_api_Topo a0_.Topo), .lp (List.length H518) (lcOf Try.prog i51.nt [21, 22] ra51_1 rb51_1) [(2, .ptr id1 0), (5, .ptr id6 0), (6, .ptr id8 0), (7, .ptr id10 0)] .busy] := hH
                  refine vc_reg (S := ⟨[(6, .ptr id8 0), (7, .ptr id10 0), (9, .loc 9 0)], [(9, (c_route_hop x523))], H1048⟩) (APath.chunk 2 (by kernel_rfl) (APath.one (.val 46 (.iaddr 12 1) [.t 5, .t 45]) (by kernel_rfl) (st_val (ys := [.ptr id6 0, iv x523.to_]) (by kernel_rfl) (vexec_iaddrP (l := l526.l) he1047 rfl)) (APath.one (.store (.t 46) (.k (.p (.bool true))) 1) (by kernel_rfl) (st_storeH (H := H1024) (v := bv true) (by kernel_rfl) (by kernel_rfl) (by kernel_rfl) (by kernel_rfl) hH1048) APath.done))) (by kernel_rfl) ?_
                  refine vc_seq ?_
                  obtain ⟨H1049, hH1049, hH⟩ := Fp.setCell (k := 1) (off := 0) (cs := [iv i525]) (vs := [iv x523.to_]) (cs' := [iv x523.to_]) hH rfl (by kernel_rfl)
                  replace hH : Fp H521 H1049 [.cel id10 [iv i524], .cel id8 [iv i525], .cel id6 (c_Arr12_Bool l526), .cel id1 (c_api_Topo a0_.Topo), .lp (List.length H518) (lcOf Try.prog i51.nt [21, 22] ra51_1 rb51_1) [(2, .ptr id1 0), (5, .ptr id6 0), (6, .ptr id8 0), (7, .ptr id10 0)] .ready] [.cel id10 [iv i524], .cel id8 [iv x523.to_], .cel id6 (c_Arr12_Bool (Arr12_Bool.set l526 x523.to_ true)), .cel id1 (c_api_Topo a0_.Topo), .lp (List.length H518) (lcOf Try.prog i51.nt [21, 22] ra51_1 rb51_1) [(2, .ptr id1 0), (5, .ptr id6 0), (6, .ptr id8 0), (7, .ptr id10 0)] .busy] := hH
                  refine vc_reg (S := ⟨[(7, .ptr id10 0)], [], H1049⟩) (APath.chunk 2 (by kernel_rfl) (APath.one (.store (.t 6) (.t 48) 1) (by kernel_rfl) (st_storeH (H := H1048) (v := iv x523.to_) (by kernel_rfl) (by kernel_rfl) (by kernel_rfl) (by kernel_rfl) hH1049) APath.done)) (by kernel_rfl) ?_
                  have hlc1050 := Fp.get hH 0 rfl
                  obtain ⟨H1051, hH1051, hH⟩ := Fp.setCell (k := 0) (off := 0) (cs := [iv i524]) (vs := [iv (w64 (i524 + 1))]) (cs' := [iv (w64 (i524 + 1))]) hH rfl (by kernel_rfl)
                  replace hH : Fp H521 H1051 [.cel id10 [iv i524], .cel id8 [iv i525], .cel id6 (c_Arr12_Bool l526), .cel id1 (c_api_Topo a0_.Topo), .lp (List.length H518) (lcOf Try.prog i51.nt [21, 22] ra51_1 rb51_1) [(2, .ptr id1 0), (5, .ptr id6 0), (6, .ptr id8 0), (7, .ptr id10 0)] .ready] [.cel id10 [iv (w64 (i524 + 1))], .cel id8 [iv x523.to_], .cel id6 (c_Arr12_Bool (Arr12_Bool.set l526 x523.to_ true)), .cel id1 (c_api_Topo a0_.Topo), .lp (List.length H518) (lcOf Try.prog i51.nt [21, 22] ra51_1 rb51_1) [(2, .ptr id1 0), (5, .ptr id6 0), (6, .ptr id8 0), (7, .ptr id10 0)] .busy] := hH
                  refine vc_reg (S := ⟨[], [], H1051⟩) (APath.one (.load 49 (.t 7) 1 false) (by kernel_rfl) (st_loadC (H := H1049) (id := id10) (off := 0) (cs := [iv i524]) (c := [iv i524]) (r := iv i524) (by kernel_rfl) (by kernel_rfl) hlc1050 (by kernel_rfl) (by kernel_rfl) (by kernel_rfl)) (APath.chunk 1 (by kernel_rfl) (APath.one (.store (.t 7) (.t 50) 1) (by kernel_rfl) (st_storeH (H := H1049) (v := iv (w64 (i524 + 1))) (by kernel_rfl) (by kernel_rfl) (by kernel_rfl) (by kernel_rfl) hH1051) APath.done))) (by kernel_rfl) ?_
                  obtain rfl := some_inj h
                  exact rb_done (k := 4) (.ready) hH rfl rfl (fun H6 hH => ⟨_, (Eq.refl _), (Fp.pick hH [0, 1, 2, 3, 4] rfl)⟩)
        refine vc_range (s := ⟨[(1, s_eI64 false a1_), (2, .ptr id1 0), (5, .ptr id6 0), (6, .ptr id8 0), (7, .ptr id10 0), (20, .fn 78 [] [.ptr id519 0, .ptr id520 0])], [], H518⟩) [(2, .ptr id1 0), (5, .ptr id6 0), (6, .ptr id8 0), (7, .ptr id10 0)] (FrOK.cons (by kernel_rfl) (by kernel_rfl) (FrOK.cons (by kernel_rfl) (by kernel_rfl) (FrOK.cons (by kernel_rfl) (by kernel_rfl) (FrOK.cons (by kernel_rfl) (by kernel_rfl) FrOK.nil)))) (by kernel_rfl) (fun H => rfl) (capT := [.cel id519 [s_eI64 false r517.1], .cel id520 (c_api_Topo r517.2.Topo)]) (cells0 := [.cel id10 [iv 0], .cel id8 [iv 0], .cel id6 (c_Arr12_Bool (Arr12_Bool.mk false false false false false false false false false false false false)), .cel id1 (c_api_Topo a0_.Topo)]) (rest := []) (HP.now (HP.pick hH [0, 1, 2, 3, 4, 5] rfl)) (fun (s : (Int × Int × Arr12_Bool) × Nat) (its : List Thing) => its = [.cel id10 [iv s.1.1], .cel id8 [iv s.1.2.1], .cel id6 (c_Arr12_Bool s.1.2.2), .cel id1 (c_api_Topo a0_.Topo)] ++ [.lp (List.length H518) (lcOf Try.prog i51.nt [21, 22] ra51_1 rb51_1) [(2, .ptr id1 0), (5, .ptr id6 0), (6, .ptr id8 0), (7, .ptr id10 0)] (stAt [.ready, .done (.exit 0)] s.2)]) ((0, 0, (Arr12_Bool.mk false false false false false false false false false false false false)), 0) o1052 (by exact (Eq.refl _)) (fun H its hT hH => route_walk_hops_1_ok N (fun (s : (Int × Int × Arr12_Bool) × Nat) (x522 : Int) (x523 : route_hop) => yieldF (fun v : Int × Int × Arr12_Bool => route_walk_valid_R1 N a0_ v.1 v.2.1 v.2.2 x522 x523) s) r517.1 r517.2 ((0, 0, (Arr12_Bool.mk false false false false false false false false false false false false)), 0) id519 id520 (List.length H518) (fun (s : (Int × Int × Arr12_Bool) × Nat) (its : List Thing) => its = [.cel id10 [iv s.1.1], .cel id8 [iv s.1.2.1], .cel id6 (c_Arr12_Bool s.1.2.2), .cel id1 (c_api_Topo a0_.Topo)] ++ [.lp (List.length H518) (lcOf Try.prog i51.nt [21, 22] ra51_1 rb51_1) [(2, .ptr id1 0), (5, .ptr id6 0), (6, .ptr id8 0), (7, .ptr id10 0)] (stAt [.ready, .done (.exit 0)] s.2)]) hyo1052 H its hT hH o1052 ho1052) ?_
        rintro its hT
        obtain rfl := hT
        refine ⟨_, _, rfl, ?_⟩
        intro H1053 hF
        replace hH : HP H1053 [.cel id519 [s_eI64 false r517.1], .cel id520 (c_api_Topo r517.2.Topo), .cel id10 [iv o1052.1.1], .cel id8 [iv o1052.1.2.1], .cel id6 (c_Arr12_Bool o1052.1.2.2), .cel id1 (c_api_Topo a0_.Topo)] := HP.after (HP.pick hH [0, 1, 2, 3, 4, 5] rfl) hF
        rcases ite_some h with ⟨hc1054, h⟩ | ⟨_, h⟩
        · refine outQ_at (S := ⟨[(1, s_eI64 false a1_), (2, .ptr id1 0), (5, .ptr id6 0), (6, .ptr id8 0), (7, .ptr id10 0), (20, .fn 78 [] [.ptr id519 0, .ptr id520 0])], [], H1053⟩) (e := .normal) hc1054 rfl ?_
          try show vc _ _ _ _ _
          obtain rfl := some_inj h
          exact ⟨rfl, ⟨H1053, (by show _ = _; kernel_rfl), (HP.pick hH [2] rfl)⟩⟩
        · rcases ite_some h with ⟨hc1055, h⟩ | ⟨_, h⟩
          · refine outQ_at (S := ⟨[(1, s_eI64 false a1_), (2, .ptr id1 0), (5, .ptr id6 0), (6, .ptr id8 0), (7, .ptr id10 0), (20, .fn 78 [] [.ptr id519 0, .ptr id520 0])], [], H1053⟩) (e := (.exit 0)) hc1055 rfl ?_
            try show vc _ _ _ _ _
            obtain rfl := some_inj h
            exact ⟨rfl, ⟨H1053, (by show _ = _; kernel_rfl), (HP.pick hH [2] rfl)⟩⟩
          · cases h
      · clear hj515
        rintro s hR
        obtain ⟨H514, rfl, hH⟩ := hR
        replace hH : HP H514 [.cel id10 [iv j515]] := hH
        refine vc_seq ?_
        have hlc1056 := HP.get hH 0 rfl
        refine vc_reg (S := ⟨[(4, bv (j515 == ((List.length a1_ : Nat) : Int)))], [], H514⟩) (APath.one (.load 51 (.t 7) 1 false) (by kernel_rfl) (st_loadC (H := H514) (id := id10) (off := 0) (cs := [iv j515]) (c := [iv j515]) (r := iv j515) (by kernel_rfl) (by kernel_rfl) hlc1056 (by kernel_rfl) (by kernel_rfl) (by kernel_rfl)) (APath.chunk 1 (by kernel_rfl) (APath.one (.val 53 .len [.t 52]) (by kernel_rfl) (st_val (ys := [s_eI64 false a1_]) (by kernel_rfl) (vexec_len eI64)) (APath.fin (by kernel_rfl))))) (by kernel_rfl) ?_
        replace hH : HP H514 [] := HP.pick hH [] rfl
        refine vc_ret ?_
        obtain rfl := some_inj h
        exact ret_of (by kernel_rfl)
theorem ref21_uses_ok (N : Nat) (a0_ : (List (List Int))) (a1_ : Int) (r : Bool) (h : ref21_uses N a0_ a1_ = some r) : PCall Try.prog 63 [s_eSl_1_eI64 false a0_, iv a1_] (bv r) := by
  unfold ref21_uses at h
  have hH : HP ([] : List HO) [] := trivial
  refine pcall_of chk63 rfl rfl (vc_sound _ _ _ ?_) rfl
  refine vc_seq ?_
  refine vc_reg (S := ⟨[(0, s_eSl_1_eI64 false a0_), (1, iv a1_)], [], []⟩) (APath.fin (by kernel_rfl)) (by kernel_rfl) ?_
  refine vc_seq ?_
  refine vc_seq ?_
  refine vc_reg (S := ⟨[(0, s_eSl_1_eI64 false a0_), (1, iv a1_), (5, iv 0)], [], []⟩) (APath.fin (by kernel_rfl)) (by kernel_rfl) ?_
  refine vc_block ?_
  obtain ⟨o506, ho506, h⟩ := bind_some h
  refine vc_loop ((loop_sim (fun (x : Int) s => s = ⟨[(0, s_eSl_1_eI64 false a0_), (1, iv a1_), (5, iv x)], [], []⟩) (fun x : Int => ref21_uses_L1 N a0_ a1_ x) (fun (p : (Unit) ⊕ (Bool)) e s => match p with | (.inl p) => e = .exit 0 ∧ (s = ⟨[], [], []⟩) | (.inr p) => e = .ret ∧ ∃ xs, resL s i63.res = some xs ∧ tupOf xs = bv p) ?_ N _ o506 _ ho506 (by show _ = _; kernel_rfl)).mono ?_)
  · clear h ho506
    rintro i1 o s h hR
    obtain rfl := hR
    replace h : ref21_uses_L1 N a0_ a1_ i1 = some o := h
    unfold ref21_uses_L1 at h
    refine vc_seq ?_
    refine vc_seq ?_
    refine vc_reg (S := ⟨[(0, s_eSl_1_eI64 false a0_), (1, iv a1_), (5, iv i1), (9, bv (decide (i1 < ((List.length a0_ : Nat) : Int))))], [], []⟩) (APath.chunk 2 (by kernel_rfl) (APath.one (.val 8 .len [.t 7]) (by kernel_rfl) (st_val (ys := [s_eSl_1_eI64 false a0_]) (by kernel_rfl) (vexec_len (eSl 1 eI64))) (APath.fin (by kernel_rfl)))) (by kernel_rfl) ?_
    refine vc_ite (by kernel_rfl) h (fun hc502 h => ?_) (fun hc502 h => ?_)
    · refine vc_skip ?_
      refine vc_kp ?_
      refine vc_seq ?_
      refine vc_block ?_
      refine vc_seq ?_
      obtain ⟨e503, he503, h⟩ := bind_some h
      obtain ⟨r504, hr504, h⟩ := bind_some h
      refine vc_reg (S := ⟨[(0, s_eSl_1_eI64 false a0_), (1, iv a1_), (5, iv i1), (17, bv r504)], [], []⟩) (APath.chunk 2 (by kernel_rfl) (APath.one (.val 14 (.iaddrS 1) [.t 12, .t 13]) (by kernel_rfl) (st_val (ys := [s_eSl_1_eI64 false a0_, iv i1]) (by kernel_rfl) (vexec_iaddrS (eSl 1 eI64) he503)) (APath.one (.load 15 (.t 14) 1 false) (by kernel_rfl) (st_loadP (sz := 1) (off := 0) (cs := [.sl 1 false (List.map eI64 e503)]) (r := s_eI64 false e503) (eSl 1 eI64) he503 (by kernel_rfl) (by kernel_rfl) (by kernel_rfl)) (APath.chunk 1 (by kernel_rfl) (APath.one (.call (some 17) 67 [.t 15, .t 16]) (by kernel_rfl) (st_call (by kernel_rfl) (ref16_In_ok N e503 a1_ r504 hr504)) APath.done))))) (by kernel_rfl) ?_
      refine vc_ite (by kernel_rfl) h (fun hc505 h => ?_) (fun hc505 h => ?_)
      · refine vc_seq ?_
        refine vc_reg (S := ⟨[(4, bv true)], [], []⟩) (APath.fin (by kernel_rfl)) (by kernel_rfl) ?_
        refine vc_ret ?_
        obtain rfl := some_inj h
        exact ⟨_, rfl, rfl, ret_of (by kernel_rfl)⟩
      · refine vc_skip ?_
        refine vc_kp ?_
        refine vc_reg (S := ⟨[(0, s_eSl_1_eI64 false a0_), (1, iv a1_), (5, iv (w64 (i1 + 1)))], [], []⟩) (APath.fin (by kernel_rfl)) (by kernel_rfl) ?_
        obtain rfl := some_inj h
        exact ⟨_, rfl, (by show _ = _; kernel_rfl)⟩
    · refine vc_kp ?_
      try show vc _ _ _ _ _
      refine vc_exit ?_
      try show vc _ _ _ _ _
      obtain rfl := some_inj h
      exact ⟨_, rfl, rfl, (by show _ = _; kernel_rfl)⟩
  · rintro e s hq
    rcases o506 with p507 | p508
    · dsimp only at h hq
      obtain ⟨rfl, hR⟩ := hq
      obtain rfl := hR
      try show vc _ _ _ _ _
      refine vc_seq ?_
      refine vc_reg (S := ⟨[(4, bv false)], [], []⟩) (APath.fin (by kernel_rfl)) (by kernel_rfl) ?_
      refine vc_ret ?_
      obtain rfl := some_inj h
      exact ret_of (by kernel_rfl)
    · dsimp only at h hq
      obtain ⟨rfl, hq⟩ := hq
      obtain rfl := some_inj h
      exact hq
theorem ref16_link_ok (N : Nat) (a0_ : api_Topo) (a1_ : api_Link) (r : Bool) (h : ref16_link N a0_ a1_ = some r) : PCall Try.prog 70 [.agg (c_api_Topo a0_), .agg (c_api_Link a1_)] (bv r) := by
  unfold ref16_link at h
  have hH : HP ([] : List HO) [] := trivial
  refine pcall_of chk70 rfl rfl (vc_sound _ _ _ ?_) rfl
  refine vc_seq ?_
  refine vc_reg (S := ⟨[(2, .loc 2 0), (3, .loc 3 0)], [(2, (c_api_Topo a0_)), (3, (c_api_Link a1_))], []⟩) (APath.fin (by kernel_rfl)) (by kernel_rfl) ?_
  refine vc_seq ?_
  refine vc_seq ?_
  obtain ⟨j13, hj, h⟩ := bind_some h
  refine vc_regXR (fun s => s = ⟨[(3, .loc 3 0), (39, bv j13)], [(3, (c_api_Link a1_))], []⟩) ?_ ?_
  · clear h
    obtain ⟨r1, hr1, hj⟩ := bind_some hj
    rcases ite_some hj with ⟨hc2, hj⟩ | ⟨hc3, hj⟩
    · obtain rfl := some_inj hj
      exact ⟨_, (APath.chunk 3 (by kernel_rfl) (APath.one (.call (some 8) 81 [.t 5, .t 7]) (by kernel_rfl) (st_call (by kernel_rfl) (ref16_node_ok N a0_ a1_.A r1 hr1)) (APath.one (.val 9 .not [.t 8]) (by kernel_rfl) (st_bool (c := (!r1)) (by kernel_rfl) hc2) (APath.fin (by kernel_rfl))))), (by show _ = _; kernel_rfl)⟩
    · obtain ⟨r4, hr4, hj⟩ := bind_some hj
      rcases ite_some hj with ⟨hc5, hj⟩ | ⟨hc6, hj⟩
      · obtain rfl := some_inj hj
        exact ⟨_, (APath.chunk 3 (by kernel_rfl) (APath.one (.call (some 8) 81 [.t 5, .t 7]) (by kernel_rfl) (st_call (by kernel_rfl) (ref16_node_ok N a0_ a1_.A r1 hr1)) (APath.one (.val 9 .not [.t 8]) (by kernel_rfl) (st_bool (c := (!r1)) (by kernel_rfl) hc3) (APath.chunk 4 (by kernel_rfl) (APath.oneG (.call (some 14) 81 [.t 11, .t 13]) 10 false (by kernel_rfl) (by kernel_rfl) (st_call (by kernel_rfl) (ref16_node_ok N a0_ a1_.B r4 hr4)) (APath.oneG (.val 15 .not [.t 14]) 10 false (by kernel_rfl) (by kernel_rfl) (st_bool (c := (!r4)) (by kernel_rfl) hc5) (APath.fin (by kernel_rfl)))))))), (by show _ = _; kernel_rfl)⟩
      · rcases ite_some hj with ⟨hc7, hj⟩ | ⟨hc8, hj⟩
        · obtain rfl := some_inj hj
          exact ⟨_, (APath.chunk 3 (by kernel_rfl) (APath.one (.call (some 8) 81 [.t 5, .t 7]) (by kernel_rfl) (st_call (by kernel_rfl) (ref16_node_ok N a0_ a1_.A r1 hr1)) (APath.one (.val 9 .not [.t 8]) (by kernel_rfl) (st_bool (c := (!r1)) (by kernel_rfl) hc3) (APath.chunk 4 (by kernel_rfl) (APath.oneG (.call (some 14) 81 [.t 11, .t 13]) 10 false (by kernel_rfl) (by kernel_rfl) (st_call (by kernel_rfl) (ref16_node_ok N a0_ a1_.B r4 hr4)) (APath.oneG (.val 15 .not [.t 14]) 10 false (by kernel_rfl) (by kernel_rfl) (st_bool (c := (!r4)) (by kernel_rfl) hc6) (APath.chunk 6 (by kernel_rfl) (APath.oneG (.val 22 (.bin .eql) [.t 19, .t 21]) 17 false (by kernel_rfl) (by kernel_rfl) (st_bool (c := (a1_.A == a1_.B)) (by kernel_rfl) hc7) (APath.fin (by kernel_rfl)))))))))), (by show _ = _; kernel_rfl)⟩
        · obtain ⟨e9, he9, hj⟩ := bind_some hj
          rcases ite_some hj with ⟨hc10, hj⟩ | ⟨hc12, hj⟩
          · obtain ⟨e11, he11, hj⟩ := bind_some hj
            obtain rfl := some_inj hj
            exact ⟨_, (APath.chunk 3 (by kernel_rfl) (APath.one (.call (some 8) 81 [.t 5, .t 7]) (by kernel_rfl) (st_call (by kernel_rfl) (ref16_node_ok N a0_ a1_.A r1 hr1)) (APath.one (.val 9 .not [.t 8]) (by kernel_rfl) (st_bool (c := (!r1)) (by kernel_rfl) hc3) (APath.chunk 4 (by kernel_rfl) (APath.oneG (.call (some 14) 81 [.t 11, .t 13]) 10 false (by kernel_rfl) (by kernel_rfl) (st_call (by kernel_rfl) (ref16_node_ok N a0_ a1_.B r4 hr4)) (APath.oneG (.val 15 .not [.t 14]) 10 false (by kernel_rfl) (by kernel_rfl) (st_bool (c := (!r4)) (by kernel_rfl) hc6) (APath.chunk 6 (by kernel_rfl) (APath.oneG (.val 22 (.bin .eql) [.t 19, .t 21]) 17 false (by kernel_rfl) (by kernel_rfl) (st_bool (c := (a1_.A == a1_.B)) (by kernel_rfl) hc8) (APath.chunk 6 (by kernel_rfl) (APath.oneG (.val 29 (.iaddrS 1) [.t 26, .t 28]) 24 false (by kernel_rfl) (by kernel_rfl) (st_val (ys := [s_eB false a0_.Station, iv a1_.A]) (by kernel_rfl) (vexec_iaddrS eB he9)) (APath.oneG (.load 30 (.t 29) 1 false) 24 false (by kernel_rfl) (by kernel_rfl) (AStep.bool (st_loadP (sz := 1) (off := 0) (cs := [.bool e9]) (r := bv e9) eB he9 (by kernel_rfl) (by kernel_rfl) (by kernel_rfl)) hc10) (APath.chunk 5 (by kernel_rfl) (APath.oneG (.val 36 (.iaddrS 1) [.t 33, .t 35]) 31 true (by kernel_rfl) (by kernel_rfl) (st_val (ys := [s_eB false a0_.Station, iv a1_.B]) (by kernel_rfl) (vexec_iaddrS eB he11)) (APath.oneG (.load 37 (.t 36) 1 false) 31 true (by kernel_rfl) (by kernel_rfl) (st_loadP (sz := 1) (off := 0) (cs := [.bool e11]) (r := bv e11) eB he11 (by kernel_rfl) (by kernel_rfl) (by kernel_rfl)) (APath.fin (by kernel_rfl)))))))))))))))), (by show _ = _; kernel_rfl)⟩
          · obtain rfl := some_inj hj
            exact ⟨_, (APath.chunk 3 (by kernel_rfl) (APath.one (.call (some 8) 81 [.t 5, .t 7]) (by kernel_rfl) (st_call (by kernel_rfl) (ref16_node_ok N a0_ a1_.A r1 hr1)) (APath.one (.val 9 .not [.t 8]) (by kernel_rfl) (st_bool (c := (!r1)) (by kernel_rfl) hc3) (APath.chunk 4 (by kernel_rfl) (APath.oneG (.call (some 14) 81 [.t 11, .t 13]) 10 false (by kernel_rfl) (by kernel_rfl) (st_call (by kernel_rfl) (ref16_node_ok N a0_ a1_.B r4 hr4)) (APath.oneG (.val 15 .not [.t 14]) 10 false (by kernel_rfl) (by kernel_rfl) (st_bool (c := (!r4)) (by kernel_rfl) hc6) (APath.chunk 6 (by kernel_rfl) (APath.oneG (.val 22 (.bin .eql) [.t 19, .t 21]) 17 false (by kernel_rfl) (by kernel_rfl) (st_bool (c := (a1_.A == a1_.B)) (by kernel_rfl) hc8) (APath.chunk 6 (by kernel_rfl) (APath.oneG (.val 29 (.iaddrS 1) [.t 26, .t 28]) 24 false (by kernel_rfl) (by kernel_rfl) (st_val (ys := [s_eB false a0_.Station, iv a1_.A]) (by kernel_rfl) (vexec_iaddrS eB he9)) (APath.oneG (.load 30 (.t 29) 1 false) 24 false (by kernel_rfl) (by kernel_rfl) (AStep.bool (st_loadP (sz := 1) (off := 0) (cs := [.bool e9]) (r := bv e9) eB he9 (by kernel_rfl) (by kernel_rfl) (by kernel_rfl)) hc12) (APath.fin (by kernel_rfl))))))))))))), (by show _ = _; kernel_rfl)⟩
  · clear hj
    rintro s hR
    obtain rfl := hR
    refine vc_ite (by kernel_rfl) h (fun hc14 h => ?_) (fun hc14 h => ?_)
    · refine vc_seq ?_
      refine vc_reg (S := ⟨[(4, bv false)], [], []⟩) (APath.fin (by kernel_rfl)) (by kernel_rfl) ?_
      refine vc_ret ?_
      obtain rfl := some_inj h
      exact ret_of (by kernel_rfl)
    · refine vc_skip ?_
      refine vc_kp ?_
      refine vc_seq ?_
      refine vc_regX ⟨[(4, bv ((decide (a1_.Per ≥ 1)) && ((decide (a1_.Per ≤ 1000)) && ((decide (a1_.Delay ≥ 0)) && (decide (a1_.Delay ≤ 10000))))))], [], []⟩ ?_ ?_
      · rcases Bool.eq_false_or_eq_true (decide (a1_.Per ≥ 1)) with hc15 | hc20
        · rcases Bool.eq_false_or_eq_true (decide (a1_.Per ≤ 1000)) with hc16 | hc19
          · rcases Bool.eq_false_or_eq_true (decide (a1_.Delay ≥ 0)) with hc17 | hc18
            · exact ⟨_, (APath.chunk 2 (by kernel_rfl) (APath.one (.val 42 (.bin .geq) [.t 41, .k (.p (.int .i64 1))]) (by kernel_rfl) (st_bool (c := (decide (a1_.Per ≥ 1))) (by kernel_rfl) hc15) (APath.chunk 3 (by kernel_rfl) (APath.oneG (.val 46 (.bin .leq) [.t 45, .k (.p (.int .i64 1000))]) 43 true (by kernel_rfl) (by kernel_rfl) (st_bool (c := (decide (a1_.Per ≤ 1000))) (by kernel_rfl) hc16) (APath.chunk 4 (by kernel_rfl) (APath.oneG (.val 51 (.bin .geq) [.t 50, .k (.p (.int .i64 0))]) 48 true (by kernel_rfl) (by kernel_rfl) (st_bool (c := (decide (a1_.Delay ≥ 0))) (by kernel_rfl) hc17) (APath.fin (by kernel_rfl)))))))), by simp only [hc15, hc16, hc17]; kernel_rfl⟩
            · exact ⟨_, (APath.chunk 2 (by kernel_rfl) (APath.one (.val 42 (.bin .geq) [.t 41, .k (.p (.int .i64 1))]) (by kernel_rfl) (st_bool (c := (decide (a1_.Per ≥ 1))) (by kernel_rfl) hc15) (APath.chunk 3 (by kernel_rfl) (APath.oneG (.val 46 (.bin .leq) [.t 45, .k (.p (.int .i64 1000))]) 43 true (by kernel_rfl) (by kernel_rfl) (st_bool (c := (decide (a1_.Per ≤ 1000))) (by kernel_rfl) hc16) (APath.chunk 4 (by kernel_rfl) (APath.oneG (.val 51 (.bin .geq) [.t 50, .k (.p (.int .i64 0))]) 48 true (by kernel_rfl) (by kernel_rfl) (st_bool (c := (decide (a1_.Delay ≥ 0))) (by kernel_rfl) hc18) (APath.fin (by kernel_rfl)))))))), by simp only [hc15, hc16, hc18]; kernel_rfl⟩
          · exact ⟨_, (APath.chunk 2 (by kernel_rfl) (APath.one (.val 42 (.bin .geq) [.t 41, .k (.p (.int .i64 1))]) (by kernel_rfl) (st_bool (c := (decide (a1_.Per ≥ 1))) (by kernel_rfl) hc15) (APath.chunk 3 (by kernel_rfl) (APath.oneG (.val 46 (.bin .leq) [.t 45, .k (.p (.int .i64 1000))]) 43 true (by kernel_rfl) (by kernel_rfl) (st_bool (c := (decide (a1_.Per ≤ 1000))) (by kernel_rfl) hc19) (APath.fin (by kernel_rfl)))))), by simp only [hc15, hc19]; kernel_rfl⟩
        · exact ⟨_, (APath.chunk 2 (by kernel_rfl) (APath.one (.val 42 (.bin .geq) [.t 41, .k (.p (.int .i64 1))]) (by kernel_rfl) (st_bool (c := (decide (a1_.Per ≥ 1))) (by kernel_rfl) hc20) (APath.fin (by kernel_rfl)))), by simp only [hc20]; kernel_rfl⟩
      · refine vc_ret ?_
        obtain rfl := some_inj h
        exact ret_of (by kernel_rfl)
theorem slices_Contains__bool_bool_ok (N : Nat) (a0_ : (List Bool)) (a1_ : Bool) (r : Bool) (h : slices_Contains__bool_bool N a0_ a1_ = some r) : PCall Try.prog 75 [s_eB false a0_, bv a1_] (bv r) := by
  unfold slices_Contains__bool_bool at h
  have hH : HP ([] : List HO) [] := trivial
  refine pcall_of chk75 rfl rfl (vc_sound _ _ _ ?_) rfl
  refine vc_seq ?_
  refine vc_reg (S := ⟨[(0, s_eB false a0_), (1, bv a1_)], [], []⟩) (APath.fin (by kernel_rfl)) (by kernel_rfl) ?_
  refine vc_seq ?_
  obtain ⟨r1, hr1, h⟩ := bind_some h
  refine vc_reg (S := ⟨[(4, bv (decide (r1 ≥ 0)))], [], []⟩) (APath.chunk 2 (by kernel_rfl) (APath.one (.call (some 7) 87 [.t 5, .t 6]) (by kernel_rfl) (st_call (by kernel_rfl) (slices_Index__bool_bool_ok N a0_ a1_ r1 hr1)) (APath.fin (by kernel_rfl)))) (by kernel_rfl) ?_
  refine vc_ret ?_
  obtain rfl := some_inj h
  exact ret_of (by kernel_rfl)
theorem slices_Contains__int_int_ok (N : Nat) (a0_ : (List Int)) (a1_ : Int) (r : Bool) (h : slices_Contains__int_int N a0_ a1_ = some r) : PCall Try.prog 77 [s_eI64 false a0_, iv a1_] (bv r) := by
  unfold slices_Contains__int_int at h
  have hH : HP ([] : List HO) [] := trivial
  refine pcall_of chk77 rfl rfl (vc_sound _ _ _ ?_) rfl
  refine vc_seq ?_
  refine vc_reg (S := ⟨[(0, s_eI64 false a0_), (1, iv a1_)], [], []⟩) (APath.fin (by kernel_rfl)) (by kernel_rfl) ?_
  refine vc_seq ?_
  obtain ⟨r1, hr1, h⟩ := bind_some h
  refine vc_reg (S := ⟨[(4, bv (decide (r1 ≥ 0)))], [], []⟩) (APath.chunk 2 (by kernel_rfl) (APath.one (.call (some 7) 88 [.t 5, .t 6]) (by kernel_rfl) (st_call (by kernel_rfl) (slices_Index__int_int_ok N a0_ a1_ r1 hr1)) (APath.fin (by kernel_rfl)))) (by kernel_rfl) ?_
  refine vc_ret ?_
  obtain rfl := some_inj h
  exact ret_of (by kernel_rfl)
theorem topo_sound_1_ok (N : Nat) (a0_ : Int) (c0_ : api_Topo) (k0_ : Nat) (H : List HO) (hH : HP H [.cel k0_ (c_api_Topo c0_)]) (r : Bool) (h : topo_sound_1 N a0_ c0_ = some r) : ACall Try.prog 82 [iv a0_, .ptr k0_ 0] H (bv r) H := by
  unfold topo_sound_1 at h
  refine acall_ofW chk82 rfl rfl rfl (vc_sound _ _ _ ?_)
  refine vc_seq ?_
  refine vc_reg (S := ⟨[(0, iv a0_), (1, .ptr k0_ 0)], [], H⟩) (APath.fin (by kernel_rfl)) (by kernel_rfl) ?_
  refine vc_seq ?_
  have hlc1 := HP.get hH 0 rfl
  obtain ⟨e2, he2, h⟩ := bind_some h
  refine vc_reg (S := ⟨[(1, .ptr k0_ 0), (4, .loc 4 0)], [(4, (c_api_Link e2))], H⟩) (APath.chunk 1 (by kernel_rfl) (APath.one (.load 6 (.t 5) 1 false) (by kernel_rfl) (st_loadC (H := H) (id := k0_) (off := 2) (cs := (c_api_Topo c0_)) (c := [s_e_api_Link false c0_.Links]) (r := s_e_api_Link false c0_.Links) (by kernel_rfl) (by kernel_rfl) hlc1 (by kernel_rfl) (by kernel_rfl) (by kernel_rfl)) (APath.chunk 1 (by kernel_rfl) (APath.one (.val 8 (.iaddrS 4) [.t 6, .t 7]) (by kernel_rfl) (st_val (ys := [s_e_api_Link false c0_.Links, iv a0_]) (by kernel_rfl) (vexec_iaddrS e_api_Link he2)) (APath.one (.load 9 (.t 8) 4 true) (by kernel_rfl) (st_loadP (sz := 4) (off := 0) (cs := [.int .i64 e2.A, .int .i64 e2.B, .int .i64 e2.Per, .int .i64 e2.Delay]) (r := .agg (c_api_Link e2)) e_api_Link he2 (by kernel_rfl) (by kernel_rfl) (by kernel_rfl)) (APath.fin (by kernel_rfl))))))) (by kernel_rfl) ?_
  refine vc_seq ?_
  obtain ⟨j11, hj, h⟩ := bind_some h
  refine vc_regXR (fun s => s = ⟨[(3, bv j11)], [], H⟩) ?_ ?_
  · clear h
    have hlc3 := HP.get hH 0 rfl
    obtain ⟨r4, hr4, hj⟩ := bind_some hj
    rcases ite_some hj with ⟨hc5, hj⟩ | ⟨hc10, hj⟩
    · have hlc6 := HP.get hH 0 rfl
      obtain ⟨r7, hr7, hj⟩ := bind_some hj
      rcases ite_some hj with ⟨hc8, hj⟩ | ⟨hc9, hj⟩
      · obtain rfl := some_inj hj
        exact ⟨_, (APath.one (.load 10 (.t 1) 3 true) (by kernel_rfl) (st_loadC (H := H) (id := k0_) (off := 0) (cs := (c_api_Topo c0_)) (c := (c_api_Topo c0_)) (r := .agg (c_api_Topo c0_)) (by kernel_rfl) (by kernel_rfl) hlc3 (by kernel_rfl) (by kernel_rfl) (by kernel_rfl)) (APath.chunk 2 (by kernel_rfl) (APath.one (.call (some 13) 83 [.t 10, .t 12]) (by kernel_rfl) (st_callB (by kernel_rfl) (topo_node_ok N c0_ e2.A r4 hr4) hc5) (APath.chunk 1 (by kernel_rfl) (APath.oneG (.load 15 (.t 1) 3 true) 14 true (by kernel_rfl) (by kernel_rfl) (st_loadC (H := H) (id := k0_) (off := 0) (cs := (c_api_Topo c0_)) (c := (c_api_Topo c0_)) (r := .agg (c_api_Topo c0_)) (by kernel_rfl) (by kernel_rfl) hlc6 (by kernel_rfl) (by kernel_rfl) (by kernel_rfl)) (APath.chunk 2 (by kernel_rfl) (APath.oneG (.call (some 18) 83 [.t 15, .t 17]) 14 true (by kernel_rfl) (by kernel_rfl) (st_callB (by kernel_rfl) (topo_node_ok N c0_ e2.B r7 hr7) hc8) (APath.fin (by kernel_rfl))))))))), (by show _ = _; kernel_rfl)⟩
      · obtain rfl := some_inj hj
        exact ⟨_, (APath.one (.load 10 (.t 1) 3 true) (by kernel_rfl) (st_loadC (H := H) (id := k0_) (off := 0) (cs := (c_api_Topo c0_)) (c := (c_api_Topo c0_)) (r := .agg (c_api_Topo c0_)) (by kernel_rfl) (by kernel_rfl) hlc3 (by kernel_rfl) (by kernel_rfl) (by kernel_rfl)) (APath.chunk 2 (by kernel_rfl) (APath.one (.call (some 13) 83 [.t 10, .t 12]) (by kernel_rfl) (st_callB (by kernel_rfl) (topo_node_ok N c0_ e2.A r4 hr4) hc5) (APath.chunk 1 (by kernel_rfl) (APath.oneG (.load 15 (.t 1) 3 true) 14 true (by kernel_rfl) (by kernel_rfl) (st_loadC (H := H) (id := k0_) (off := 0) (cs := (c_api_Topo c0_)) (c := (c_api_Topo c0_)) (r := .agg (c_api_Topo c0_)) (by kernel_rfl) (by kernel_rfl) hlc6 (by kernel_rfl) (by kernel_rfl) (by kernel_rfl)) (APath.chunk 2 (by kernel_rfl) (APath.oneG (.call (some 18) 83 [.t 15, .t 17]) 14 true (by kernel_rfl) (by kernel_rfl) (st_callB (by kernel_rfl) (topo_node_ok N c0_ e2.B r7 hr7) hc9) (APath.fin (by kernel_rfl))))))))), (by show _ = _; kernel_rfl)⟩
    · obtain rfl := some_inj hj
      exact ⟨_, (APath.one (.load 10 (.t 1) 3 true) (by kernel_rfl) (st_loadC (H := H) (id := k0_) (off := 0) (cs := (c_api_Topo c0_)) (c := (c_api_Topo c0_)) (r := .agg (c_api_Topo c0_)) (by kernel_rfl) (by kernel_rfl) hlc3 (by kernel_rfl) (by kernel_rfl) (by kernel_rfl)) (APath.chunk 2 (by kernel_rfl) (APath.one (.call (some 13) 83 [.t 10, .t 12]) (by kernel_rfl) (st_callB (by kernel_rfl) (topo_node_ok N c0_ e2.A r4 hr4) hc10) (APath.fin (by kernel_rfl))))), (by show _ = _; kernel_rfl)⟩
  · clear hj
    rintro s hR
    obtain rfl := hR
    refine vc_ret ?_
    obtain rfl := some_inj h
    exact ret_ofAW (by kernel_rfl) (by kernel_rfl)
theorem ref21_Ports_ok (N : Nat) (a0_ : api_Topo) (a1_ : (List (List Int))) (r : (List Int)) (h : ref21_Ports N a0_ a1_ = some r) : PCall Try.prog 29 [.agg (c_api_Topo a0_), s_eSl_1_eI64 false a1_] (s_eI64 false r) := by
  unfold ref21_Ports at h
  have hH : HP ([] : List HO) [] := trivial
  refine pcall_of chk29 rfl rfl (vc_sound _ _ _ ?_) rfl
  refine vc_seq ?_
  refine vc_reg (S := ⟨[(1, s_eSl_1_eI64 false a1_), (2, .loc 2 0)], [(2, (c_api_Topo a0_))], []⟩) (APath.fin (by kernel_rfl)) (by kernel_rfl) ?_
  refine vc_seq ?_
  refine vc_reg (S := ⟨[(1, s_eSl_1_eI64 false a1_), (2, .loc 2 0), (5, s_eI64 true [])], [(2, (c_api_Topo a0_))], []⟩) (APath.fin (by kernel_rfl)) (by kernel_rfl) ?_
  refine vc_seq ?_
  refine vc_seq ?_
  refine vc_reg (S := ⟨[(1, s_eSl_1_eI64 false a1_), (2, .loc 2 0), (5, s_eI64 true []), (6, iv 0)], [(2, (c_api_Topo a0_))], []⟩) (APath.fin (by kernel_rfl)) (by kernel_rfl) ?_
  refine vc_block ?_
  obtain ⟨o1016, ho1016, h⟩ := bind_some h
  refine vc_loop ((loop_sim (fun (x : Int × (List Int)) s => ∃ (a1 : AV) (H2 : List HO), s = ⟨[(1, s_eSl_1_eI64 false a1_), (2, .loc 2 0), (5, a1), (6, iv x.1)], [(2, (c_api_Topo a0_))], H2⟩ ∧ HP H2 [.arr a1 1 false (List.map eI64 x.2)]) (fun x : Int × (List Int) => ref21_Ports_L1 N a0_ a1_ x.1 x.2) (fun (p : (List Int)) e s => e = .exit 0 ∧ (∃ (a505 : AV) (H506 : List HO), s = ⟨[(5, a505)], [], H506⟩ ∧ HP H506 [.arr a505 1 false (List.map eI64 p)])) ?_ N _ o1016 _ ho1016 ⟨(.p (.sl 1 true [])), [], (by show _ = _; kernel_rfl), (HP.pick (HP.nilArr hH 1 false) [0] rfl)⟩).mono ?_)
  · clear h ho1016
    rintro ⟨i3, l4⟩ o s h hR
    obtain ⟨a1, H2, rfl, hH⟩ := hR
    replace hH : HP H2 [.arr a1 1 false (List.map eI64 l4)] := hH
    have hfa1 := own_form (HP.get hH 0 rfl)
    replace h : ref21_Ports_L1 N a0_ a1_ i3 l4 = some o := h
    unfold ref21_Ports_L1 at h
    refine vc_seq ?_
    refine vc_seq ?_
    refine vc_reg (S := ⟨[(1, s_eSl_1_eI64 false a1_), (2, .loc 2 0), (5, a1), (6, iv i3), (12, bv (decide (i3 < (w64 (2 * ((List.length a0_.Links : Nat) : Int))))))], [(2, (c_api_Topo a0_))], H2⟩) (APath.chunk 3 (by rcases hfa1 with ha1e | ⟨_, _, ha1e⟩ <;> subst ha1e <;> kernel_rfl) (APath.one (.val 10 .len [.t 9]) (by kernel_rfl) (st_val (ys := [s_e_api_Link false a0_.Links]) (by rcases hfa1 with ha1e | ⟨_, _, ha1e⟩ <;> subst ha1e <;> kernel_rfl) (vexec_len e_api_Link)) (APath.fin (by rcases hfa1 with ha1e | ⟨_, _, ha1e⟩ <;> subst ha1e <;> kernel_rfl)))) (by rcases hfa1 with ha1e | ⟨_, _, ha1e⟩ <;> subst ha1e <;> kernel_rfl) ?_
    refine vc_ite (by kernel_rfl) h (fun hc507 h => ?_) (fun hc507 h => ?_)
    · refine vc_skip ?_
      refine vc_kp ?_
      obtain ⟨j1010, hj1010, h⟩ := bind_some h
      refine vc_joinK [1, 2, 5, 6] (fun s => ∃ (a1008 : AV) (H1009 : List HO), s = ⟨[(1, s_eSl_1_eI64 false a1_), (2, .loc 2 0), (5, a1008), (6, iv i3)], [(2, (c_api_Topo a0_))], H1009⟩ ∧ HP H1009 [.arr a1008 1 false (List.map eI64 j1010)]) ?_ ?_
      · clear h
        have h := hj1010
        refine vc_block ?_
        refine vc_seq ?_
        obtain ⟨r1011, hr1011, h⟩ := bind_some h
        refine vc_reg (S := ⟨[(1, s_eSl_1_eI64 false a1_), (2, .loc 2 0), (5, a1), (6, iv i3), (17, bv r1011)], [(2, (c_api_Topo a0_))], H2⟩) (APath.chunk 2 (by rcases hfa1 with ha1e | ⟨_, _, ha1e⟩ <;> subst ha1e <;> kernel_rfl) (APath.one (.call (some 17) 63 [.t 15, .t 16]) (by kernel_rfl) (st_call (by rcases hfa1 with ha1e | ⟨_, _, ha1e⟩ <;> subst ha1e <;> kernel_rfl) (ref21_uses_ok N a1_ i3 r1011 hr1011)) APath.done)) (by rcases hfa1 with ha1e | ⟨_, _, ha1e⟩ <;> subst ha1e <;> kernel_rfl) ?_
        refine vc_ite (by kernel_rfl) h (fun hc1012 h => ?_) (fun hc1012 h => ?_)
        · obtain ⟨l1015, hl1015, h⟩ := bind_some h
          obtain ⟨a1013, H1014, ha1013, hH⟩ := HP.app (k := 0) (a := a1) (sz := 1) (frz := false) eI64 hH rfl hl1015
          replace hH : HP H1014 [.arr a1013 1 false (List.map eI64 l1015)] := hH
          have hfa1013 := own_form (HP.get hH 0 rfl)
          refine vc_reg (S := ⟨[(1, s_eSl_1_eI64 false a1_), (2, .loc 2 0), (5, a1013), (6, iv i3)], [(2, (c_api_Topo a0_))], H1014⟩) (APath.chunk 3 (by rcases hfa1 with ha1e | ⟨_, _, ha1e⟩ <;> rcases hfa1013 with ha1013e | ⟨_, _, ha1013e⟩ <;> subst ha1e ha1013e <;> kernel_rfl) (APath.one (.app 21 (.t 18) (.t 20) 1 8) (by kernel_rfl) (st_app (H := H2) (a := a1) (b := s_eI64 true [i3]) (by rcases hfa1 with ha1e | ⟨_, _, ha1e⟩ <;> rcases hfa1013 with ha1013e | ⟨_, _, ha1013e⟩ <;> subst ha1e ha1013e <;> kernel_rfl) (by rcases hfa1 with ha1e | ⟨_, _, ha1e⟩ <;> rcases hfa1013 with ha1013e | ⟨_, _, ha1013e⟩ <;> subst ha1e ha1013e <;> kernel_rfl) (by rcases hfa1 with ha1e | ⟨_, _, ha1e⟩ <;> rcases hfa1013 with ha1013e | ⟨_, _, ha1013e⟩ <;> subst ha1e ha1013e <;> kernel_rfl) (by rcases hfa1 with ha1e | ⟨_, _, ha1e⟩ <;> rcases hfa1013 with ha1013e | ⟨_, _, ha1013e⟩ <;> subst ha1e ha1013e <;> kernel_rfl) ha1013) (APath.fin (by rcases hfa1 with ha1e | ⟨_, _, ha1e⟩ <;> rcases hfa1013 with ha1013e | ⟨_, _, ha1013e⟩ <;> subst ha1e ha1013e <;> kernel_rfl)))) (by rcases hfa1 with ha1e | ⟨_, _, ha1e⟩ <;> rcases hfa1013 with ha1013e | ⟨_, _, ha1013e⟩ <;> subst ha1e ha1013e <;> kernel_rfl) ?_
          obtain rfl := some_inj h
          exact ⟨rfl, ⟨a1013, H1014, (by show _ = _; rcases hfa1013 with ha1013e | ⟨_, _, ha1013e⟩ <;> subst ha1013e <;> kernel_rfl), (HP.pick hH [0] rfl)⟩⟩
        · refine vc_skip ?_
          obtain rfl := some_inj h
          exact ⟨rfl, ⟨a1, H2, (by show _ = _; rcases hfa1 with ha1e | ⟨_, _, ha1e⟩ <;> subst ha1e <;> kernel_rfl), (HP.pick hH [0] rfl)⟩⟩
      · clear hj1010
        rintro s hR
        obtain ⟨a1008, H1009, rfl, hH⟩ := hR
        replace hH : HP H1009 [.arr a1008 1 false (List.map eI64 j1010)] := hH
        have hfa1008 := own_form (HP.get hH 0 rfl)
        refine vc_reg (S := ⟨[(1, s_eSl_1_eI64 false a1_), (2, .loc 2 0), (5, a1008), (6, iv (w64 (i3 + 1)))], [(2, (c_api_Topo a0_))], H1009⟩) (APath.fin (by rcases hfa1008 with ha1008e | ⟨_, _, ha1008e⟩ <;> subst ha1008e <;> kernel_rfl)) (by rcases hfa1008 with ha1008e | ⟨_, _, ha1008e⟩ <;> subst ha1008e <;> kernel_rfl) ?_
        obtain rfl := some_inj h
        exact ⟨_, rfl, ⟨a1008, H1009, (by show _ = _; rcases hfa1008 with ha1008e | ⟨_, _, ha1008e⟩ <;> subst ha1008e <;> kernel_rfl), (HP.pick hH [0] rfl)⟩⟩
    · refine vc_kp ?_
      try show vc _ _ _ _ _
      refine vc_exit ?_
      try show vc _ _ _ _ _
      obtain rfl := some_inj h
      exact ⟨_, rfl, rfl, ⟨a1, H2, (by show _ = _; rcases hfa1 with ha1e | ⟨_, _, ha1e⟩ <;> subst ha1e <;> kernel_rfl), (HP.pick hH [0] rfl)⟩⟩
  · rintro e s hq
    obtain ⟨rfl, hR⟩ := hq
    obtain ⟨a505, H506, rfl, hH⟩ := hR
    replace hH : HP H506 [.arr a505 1 false (List.map eI64 o1016)] := hH
    have hfa505 := own_form (HP.get hH 0 rfl)
    try show vc _ _ _ _ _
    refine vc_seq ?_
    refine vc_reg (S := ⟨[(4, a505)], [], H506⟩) (APath.fin (by rcases hfa505 with ha505e | ⟨_, _, ha505e⟩ <;> subst ha505e <;> kernel_rfl)) (by rcases hfa505 with ha505e | ⟨_, _, ha505e⟩ <;> subst ha505e <;> kernel_rfl) ?_
    refine vc_ret ?_
    obtain rfl := some_inj h
    exact ret_own (H := H506) (ys := [a505]) (xs := [.p (.sl 1 false (List.map eI64 o1016))]) (by rcases hfa505 with ha505e | ⟨_, _, ha505e⟩ <;> subst ha505e <;> kernel_rfl) (by rcases hfa505 with ha505e | ⟨_, _, ha505e⟩ <;> subst ha505e <;> kernel_rfl) (pureVL_cons (HP.pure (k := 0) (frz := false) eI64 hH rfl).2 pureVL_nil) (by kernel_rfl)
theorem ref21_Tree_ok (N : Nat) (a0_ : api_Topo) (a1_ : (List (List Int))) (r : Bool) (h : ref21_Tree N a0_ a1_ = some r) : PCall Try.prog 30 [.agg (c_api_Topo a0_), s_eSl_1_eI64 false a1_] (bv r) := by
  unfold ref21_Tree at h
  have hH : HP ([] : List HO) [] := trivial
  refine pcall_of chk30 rfl rfl (vc_sound _ _ _ ?_) rfl
  refine vc_seq ?_
  refine vc_reg (S := ⟨[(1, s_eSl_1_eI64 false a1_), (2, .loc 2 0)], [(2, (c_api_Topo a0_))], []⟩) (APath.fin (by kernel_rfl)) (by kernel_rfl) ?_
  refine vc_seq ?_
  refine vc_seq ?_
  refine vc_reg (S := ⟨[(1, s_eSl_1_eI64 false a1_), (2, .loc 2 0), (5, iv 0)], [(2, (c_api_Topo a0_))], []⟩) (APath.fin (by kernel_rfl)) (by kernel_rfl) ?_
  refine vc_block ?_
  obtain ⟨o510, ho510, h⟩ := bind_some h
  refine vc_loop ((loop_sim (fun (x : Int) s => s = ⟨[(1, s_eSl_1_eI64 false a1_), (2, .loc 2 0), (5, iv x)], [(2, (c_api_Topo a0_))], []⟩) (fun x : Int => ref21_Tree_L1 N a0_ a1_ x) (fun (p : (Unit) ⊕ (Bool)) e s => match p with | (.inl p) => e = .exit 0 ∧ (s = ⟨[(1, s_eSl_1_eI64 false a1_), (2, .loc 2 0)], [(2, (c_api_Topo a0_))], []⟩) | (.inr p) => e = .ret ∧ ∃ xs, resL s i30.res = some xs ∧ tupOf xs = bv p) ?_ N _ o510 _ ho510 (by show _ = _; kernel_rfl)).mono ?_)
  · clear h ho510
    rintro i1 o s h hR
    obtain rfl := hR
    replace h : ref21_Tree_L1 N a0_ a1_ i1 = some o := h
    unfold ref21_Tree_L1 at h
    refine vc_seq ?_
    refine vc_seq ?_
    refine vc_reg (S := ⟨[(1, s_eSl_1_eI64 false a1_), (2, .loc 2 0), (5, iv i1), (12, bv (decide (i1 < ((List.length a1_ : Nat) : Int))))], [(2, (c_api_Topo a0_))], []⟩) (APath.chunk 2 (by kernel_rfl) (APath.one (.val 11 .len [.t 10]) (by kernel_rfl) (st_val (ys := [s_eSl_1_eI64 false a1_]) (by kernel_rfl) (vexec_len (eSl 1 eI64))) (APath.fin (by kernel_rfl)))) (by kernel_rfl) ?_
    refine vc_ite (by kernel_rfl) h (fun hc502 h => ?_) (fun hc502 h => ?_)
    · refine vc_skip ?_
      refine vc_kp ?_
      refine vc_seq ?_
      refine vc_block ?_
      refine vc_seq ?_
      obtain ⟨e503, he503, h⟩ := bind_some h
      obtain ⟨e504, he504, h⟩ := bind_some h
      obtain ⟨r505, hr505, h⟩ := bind_some h
      obtain ⟨e506, he506, h⟩ := bind_some h
      obtain ⟨e507, he507, h⟩ := bind_some h
      obtain ⟨r508, hr508, h⟩ := bind_some h
      refine vc_regD (S := ⟨[(1, s_eSl_1_eI64 false a1_), (2, .loc 2 0), (5, iv i1), (30, bv (r505 != r508))], [(2, (c_api_Topo a0_))], []⟩) (by kernel_rfl) (APath.chunk 3 (by kernel_rfl) (APath.one (.val 18 (.iaddrS 1) [.t 16, .t 17]) (by kernel_rfl) (st_val (ys := [s_eSl_1_eI64 false a1_, iv i1]) (by kernel_rfl) (vexec_iaddrS (eSl 1 eI64) he503)) (APath.one (.load 19 (.t 18) 1 false) (by kernel_rfl) (st_loadP (sz := 1) (off := 0) (cs := [.sl 1 false (List.map eI64 e503)]) (r := s_eI64 false e503) (eSl 1 eI64) he503 (by kernel_rfl) (by kernel_rfl) (by kernel_rfl)) (APath.one (.val 20 (.iaddrS 1) [.t 19, .k (.p (.int .i64 0))]) (by kernel_rfl) (st_val (ys := [s_eI64 false e503, iv 0]) (by kernel_rfl) (vexec_iaddrS eI64 he504)) (APath.one (.load 21 (.t 20) 1 false) (by kernel_rfl) (st_loadP (sz := 1) (off := 0) (cs := [.int .i64 e504]) (r := iv e504) eI64 he504 (by kernel_rfl) (by kernel_rfl) (by kernel_rfl)) (APath.one (.callP 22 52 [.t 15, .t 21]) (by kernel_rfl) (st_callP (by kernel_rfl) (ref16_From_ok N a0_ e504 r505 hr505)) (APath.chunk 2 (by kernel_rfl) (APath.one (.val 25 (.iaddrS 1) [.t 24, .k (.p (.int .i64 0))]) (by kernel_rfl) (st_val (ys := [s_eSl_1_eI64 false a1_, iv 0]) (by kernel_rfl) (vexec_iaddrS (eSl 1 eI64) he506)) (APath.one (.load 26 (.t 25) 1 false) (by kernel_rfl) (st_loadP (sz := 1) (off := 0) (cs := [.sl 1 false (List.map eI64 e506)]) (r := s_eI64 false e506) (eSl 1 eI64) he506 (by kernel_rfl) (by kernel_rfl) (by kernel_rfl)) (APath.one (.val 27 (.iaddrS 1) [.t 26, .k (.p (.int .i64 0))]) (by kernel_rfl) (st_val (ys := [s_eI64 false e506, iv 0]) (by kernel_rfl) (vexec_iaddrS eI64 he507)) (APath.one (.load 28 (.t 27) 1 false) (by kernel_rfl) (st_loadP (sz := 1) (off := 0) (cs := [.int .i64 e507]) (r := iv e507) eI64 he507 (by kernel_rfl) (by kernel_rfl) (by kernel_rfl)) (APath.one (.callP 29 52 [.t 23, .t 28]) (by kernel_rfl) (st_callP (by kernel_rfl) (ref16_From_ok N a0_ e507 r508 hr508)) (APath.fin (by kernel_rfl)))))))))))))) (by kernel_rfl) ?_
      refine vc_ite (by kernel_rfl) h (fun hc509 h => ?_) (fun hc509 h => ?_)
      · refine vc_seq ?_
        refine vc_reg (S := ⟨[(4, bv false)], [], []⟩) (APath.fin (by kernel_rfl)) (by kernel_rfl) ?_
        refine vc_ret ?_
        obtain rfl := some_inj h
        exact ⟨_, rfl, rfl, ret_of (by kernel_rfl)⟩
      · refine vc_skip ?_
        refine vc_kp ?_
        refine vc_reg (S := ⟨[(1, s_eSl_1_eI64 false a1_), (2, .loc 2 0), (5, iv (w64 (i1 + 1)))], [(2, (c_api_Topo a0_))], []⟩) (APath.fin (by kernel_rfl)) (by kernel_rfl) ?_
        obtain rfl := some_inj h
        exact ⟨_, rfl, (by show _ = _; kernel_rfl)⟩
    · refine vc_kp ?_
      try show vc _ _ _ _ _
      refine vc_exit ?_
      try show vc _ _ _ _ _
      obtain rfl := some_inj h
      exact ⟨_, rfl, rfl, (by show _ = _; kernel_rfl)⟩
  · rintro e s hq
    rcases o510 with p511 | p1528
    · dsimp only at h hq
      obtain ⟨rfl, hR⟩ := hq
      obtain rfl := hR
      try show vc _ _ _ _ _
      refine vc_seq ?_
      obtain ⟨r512, hr512, h⟩ := bind_some h
      refine vc_reg (S := ⟨[(2, .loc 2 0), (6, s_eI64 false r512)], [(2, (c_api_Topo a0_))], []⟩) (APath.chunk 2 (by kernel_rfl) (APath.one (.call (some 33) 29 [.t 31, .t 32]) (by kernel_rfl) (st_call (by kernel_rfl) (ref21_Ports_ok N a0_ a1_ r512 hr512)) (APath.fin (by kernel_rfl)))) (by kernel_rfl) ?_
      refine vc_seq ?_
      refine vc_seq ?_
      refine vc_reg (S := ⟨[(2, .loc 2 0), (6, s_eI64 false r512), (7, iv 0)], [(2, (c_api_Topo a0_))], []⟩) (APath.fin (by kernel_rfl)) (by kernel_rfl) ?_
      refine vc_block ?_
      obtain ⟨o1525, ho1525, h⟩ := bind_some h
      refine vc_loop ((loop_sim (fun (x : Int) s => s = ⟨[(2, .loc 2 0), (6, s_eI64 false r512), (7, iv x)], [(2, (c_api_Topo a0_))], []⟩) (fun x : Int => ref21_Tree_L2 N a0_ r512 x) (fun (p : (Unit) ⊕ (Bool)) e s => match p with | (.inl p) => e = .exit 2 ∧ (s = ⟨[], [], []⟩) | (.inr p) => e = .ret ∧ ∃ xs, resL s i30.res = some xs ∧ tupOf xs = bv p) ?_ N _ o1525 _ ho1525 (by show _ = _; kernel_rfl)).mono ?_)
      · clear h ho1525
        rintro i513 o s h hR
        obtain rfl := hR
        replace h : ref21_Tree_L2 N a0_ r512 i513 = some o := h
        unfold ref21_Tree_L2 at h
        refine vc_seq ?_
        refine vc_seq ?_
        refine vc_reg (S := ⟨[(2, .loc 2 0), (6, s_eI64 false r512), (7, iv i513), (37, bv (decide (i513 < ((List.length r512 : Nat) : Int))))], [(2, (c_api_Topo a0_))], []⟩) (APath.chunk 2 (by kernel_rfl) (APath.one (.val 36 .len [.t 35]) (by kernel_rfl) (st_val (ys := [s_eI64 false r512]) (by kernel_rfl) (vexec_len eI64)) (APath.fin (by kernel_rfl)))) (by kernel_rfl) ?_
        refine vc_ite (by kernel_rfl) h (fun hc1014 h => ?_) (fun hc1014 h => ?_)
        · refine vc_skip ?_
          refine vc_kp ?_
          refine vc_seq ?_
          refine vc_block ?_
          refine vc_seq ?_
          refine vc_reg (S := ⟨[(2, .loc 2 0), (6, s_eI64 false r512), (7, iv i513), (8, iv 0)], [(2, (c_api_Topo a0_))], []⟩) (APath.fin (by kernel_rfl)) (by kernel_rfl) ?_
          refine vc_block ?_
          obtain ⟨o1522, ho1522, h⟩ := bind_some h
          refine vc_loop ((loop_sim (fun (x : Int) s => s = ⟨[(2, .loc 2 0), (6, s_eI64 false r512), (7, iv i513), (8, iv x)], [(2, (c_api_Topo a0_))], []⟩) (fun x : Int => ref21_Tree_L3 N a0_ r512 i513 x) (fun (p : (Unit) ⊕ (Bool)) e s => match p with | (.inl p) => e = .exit 4 ∧ (s = ⟨[(2, .loc 2 0), (6, s_eI64 false r512), (7, iv i513)], [(2, (c_api_Topo a0_))], []⟩) | (.inr p) => e = .ret ∧ ∃ xs, resL s i30.res = some xs ∧ tupOf xs = bv p) ?_ N _ o1522 _ ho1522 (by show _ = _; kernel_rfl)).mono ?_)
          · clear h ho1522
            rintro i1015 o s h hR
            obtain rfl := hR
            replace h : ref21_Tree_L3 N a0_ r512 i513 i1015 = some o := h
            unfold ref21_Tree_L3 at h
            refine vc_seq ?_
            refine vc_seq ?_
            refine vc_reg (S := ⟨[(2, .loc 2 0), (6, s_eI64 false r512), (7, iv i513), (8, iv i1015), (42, bv (decide (i1015 < i513)))], [(2, (c_api_Topo a0_))], []⟩) (APath.fin (by kernel_rfl)) (by kernel_rfl) ?_
            refine vc_ite (by kernel_rfl) h (fun hc1516 h => ?_) (fun hc1516 h => ?_)
            · refine vc_skip ?_
              refine vc_kp ?_
              refine vc_seq ?_
              refine vc_block ?_
              refine vc_seq ?_
              obtain ⟨e1517, he1517, h⟩ := bind_some h
              obtain ⟨r1518, hr1518, h⟩ := bind_some h
              obtain ⟨e1519, he1519, h⟩ := bind_some h
              obtain ⟨r1520, hr1520, h⟩ := bind_some h
              refine vc_regD (S := ⟨[(2, .loc 2 0), (6, s_eI64 false r512), (7, iv i513), (8, iv i1015), (57, bv (r1518 == r1520))], [(2, (c_api_Topo a0_))], []⟩) (by kernel_rfl) (APath.chunk 3 (by kernel_rfl) (APath.one (.val 48 (.iaddrS 1) [.t 46, .t 47]) (by kernel_rfl) (st_val (ys := [s_eI64 false r512, iv i513]) (by kernel_rfl) (vexec_iaddrS eI64 he1517)) (APath.one (.load 49 (.t 48) 1 false) (by kernel_rfl) (st_loadP (sz := 1) (off := 0) (cs := [.int .i64 e1517]) (r := iv e1517) eI64 he1517 (by kernel_rfl) (by kernel_rfl) (by kernel_rfl)) (APath.one (.callP 50 53 [.t 45, .t 49]) (by kernel_rfl) (st_callP (by kernel_rfl) (ref16_To_ok N a0_ e1517 r1518 hr1518)) (APath.chunk 3 (by kernel_rfl) (APath.one (.val 54 (.iaddrS 1) [.t 52, .t 53]) (by kernel_rfl) (st_val (ys := [s_eI64 false r512, iv i1015]) (by kernel_rfl) (vexec_iaddrS eI64 he1519)) (APath.one (.load 55 (.t 54) 1 false) (by kernel_rfl) (st_loadP (sz := 1) (off := 0) (cs := [.int .i64 e1519]) (r := iv e1519) eI64 he1519 (by kernel_rfl) (by kernel_rfl) (by kernel_rfl)) (APath.one (.callP 56 53 [.t 51, .t 55]) (by kernel_rfl) (st_callP (by kernel_rfl) (ref16_To_ok N a0_ e1519 r1520 hr1520)) (APath.fin (by kernel_rfl)))))))))) (by kernel_rfl) ?_
              refine vc_ite (by kernel_rfl) h (fun hc1521 h => ?_) (fun hc1521 h => ?_)
              · refine vc_seq ?_
                refine vc_reg (S := ⟨[(4, bv false)], [], []⟩) (APath.fin (by kernel_rfl)) (by kernel_rfl) ?_
                refine vc_ret ?_
                obtain rfl := some_inj h
                exact ⟨_, rfl, rfl, ret_of (by kernel_rfl)⟩
              · refine vc_skip ?_
                refine vc_kp ?_
                refine vc_reg (S := ⟨[(2, .loc 2 0), (6, s_eI64 false r512), (7, iv i513), (8, iv (w64 (i1015 + 1)))], [(2, (c_api_Topo a0_))], []⟩) (APath.fin (by kernel_rfl)) (by kernel_rfl) ?_
                obtain rfl := some_inj h
                exact ⟨_, rfl, (by show _ = _; kernel_rfl)⟩
            · refine vc_kp ?_
              try show vc _ _ _ _ _
              refine vc_exit ?_
              try show vc _ _ _ _ _
              obtain rfl := some_inj h
              exact ⟨_, rfl, rfl, (by show _ = _; kernel_rfl)⟩
          · rintro e s hq
            rcases o1522 with p1523 | p1524
            · dsimp only at h hq
              obtain ⟨rfl, hR⟩ := hq
              obtain rfl := hR
              try show vc _ _ _ _ _
              refine vc_reg (S := ⟨[(2, .loc 2 0), (6, s_eI64 false r512), (7, iv (w64 (i513 + 1)))], [(2, (c_api_Topo a0_))], []⟩) (APath.fin (by kernel_rfl)) (by kernel_rfl) ?_
              obtain rfl := some_inj h
              exact ⟨_, rfl, (by show _ = _; kernel_rfl)⟩
            · dsimp only at h hq
              obtain ⟨rfl, hq⟩ := hq
              obtain rfl := some_inj h
              exact ⟨_, rfl, rfl, hq⟩
        · refine vc_kp ?_
          try show vc _ _ _ _ _
          refine vc_exit ?_
          try show vc _ _ _ _ _
          obtain rfl := some_inj h
          exact ⟨_, rfl, rfl, (by show _ = _; kernel_rfl)⟩
      · rintro e s hq
        rcases o1525 with p1526 | p1527
        · dsimp only at h hq
          obtain ⟨rfl, hR⟩ := hq
          obtain rfl := hR
          try show vc _ _ _ _ _
          refine vc_seq ?_
          refine vc_reg (S := ⟨[(4, bv true)], [], []⟩) (APath.fin (by kernel_rfl)) (by kernel_rfl) ?_
          refine vc_ret ?_
          obtain rfl := some_inj h
          exact ret_of (by kernel_rfl)
        · dsimp only at h hq
          obtain ⟨rfl, hq⟩ := hq
          obtain rfl := some_inj h
          exact hq
    · dsimp only at h hq
      obtain ⟨rfl, hq⟩ := hq
      obtain rfl := some_inj h
      exact hq
theorem route_Nodes_1_ok (N : Nat) (a0_ : route_walk) (c0_ : (List Int)) (k0_ : Nat) (H : List HO) (hH : HP H [.cel k0_ [s_eI64 false c0_]]) (r : (List Int) × Int) (h : route_Nodes_1 N a0_ c0_ = some r) : ACall Try.prog 36 [.agg (c_api_Topo a0_.Topo), .ptr k0_ 0] H (.tup [s_eI64 false r.1, iv r.2]) H := by
  unfold route_Nodes_1 at h
  refine acall_ofW chk36 rfl rfl rfl (vc_sound _ _ _ ?_)
  refine vc_seq ?_
  refine vc_reg (S := ⟨[(1, .ptr k0_ 0), (2, .loc 2 0)], [(2, (c_api_Topo a0_.Topo))], H⟩) (APath.fin (by kernel_rfl)) (by kernel_rfl) ?_
  refine vc_seq ?_
  have hlc1 := HP.get hH 0 rfl
  obtain ⟨r2, hr2, h⟩ := bind_some h
  refine vc_reg (S := ⟨[(3, s_eI64 false r2), (4, iv 0)], [], H⟩) (APath.chunk 1 (by kernel_rfl) (APath.one (.load 6 (.t 1) 1 false) (by kernel_rfl) (st_loadC (H := H) (id := k0_) (off := 0) (cs := [s_eI64 false c0_]) (c := [s_eI64 false c0_]) (r := s_eI64 false c0_) (by kernel_rfl) (by kernel_rfl) hlc1 (by kernel_rfl) (by kernel_rfl) (by kernel_rfl)) (APath.one (.call (some 7) 37 [.t 5, .t 6]) (by kernel_rfl) (st_call (by kernel_rfl) (route_walk_nodes_ok N a0_ c0_ r2 hr2)) (APath.fin (by kernel_rfl))))) (by kernel_rfl) ?_
  replace hH : HP H [] := HP.pick hH [] rfl
  refine vc_ret ?_
  obtain rfl := some_inj h
  exact ret_ofAW (by kernel_rfl) (by kernel_rfl)
theorem ref16_Right_ok (N : Nat) (a0_ : api_Topo) (r : Bool) (h : ref16_Right N a0_ = some r) : PCall Try.prog 48 [.agg (c_api_Topo a0_)] (bv r) := by
  unfold ref16_Right at h
  have hH : HP ([] : List HO) [] := trivial
  refine pcall_of chk48 rfl rfl (vc_sound _ _ _ ?_) rfl
  refine vc_seq ?_
  refine vc_reg (S := ⟨[(1, .loc 1 0)], [(1, (c_api_Topo a0_))], []⟩) (APath.fin (by kernel_rfl)) (by kernel_rfl) ?_
  refine vc_seq ?_
  refine vc_seq ?_
  refine vc_regX ⟨[(1, .loc 1 0), (30, bv ((decide (a0_.Nodes < 2)) || ((decide (a0_.Nodes > 12)) || ((((List.length a0_.Station : Nat) : Int) != a0_.Nodes) || (decide (((List.length a0_.Links : Nat) : Int) > 24))))))], [(1, (c_api_Topo a0_))], []⟩ ?_ ?_
  · rcases Bool.eq_false_or_eq_true (decide (a0_.Nodes < 2)) with hc1 | hc2
    · exact ⟨_, (APath.chunk 2 (by kernel_rfl) (APath.one (.val 11 (.bin .lss) [.t 10, .k (.p (.int .i64 2))]) (by kernel_rfl) (st_bool (c := (decide (a0_.Nodes < 2))) (by kernel_rfl) hc1) (APath.fin (by kernel_rfl)))), by simp only [hc1]; kernel_rfl⟩
    · rcases Bool.eq_false_or_eq_true (decide (a0_.Nodes > 12)) with hc3 | hc4
      · exact ⟨_, (APath.chunk 2 (by kernel_rfl) (APath.one (.val 11 (.bin .lss) [.t 10, .k (.p (.int .i64 2))]) (by kernel_rfl) (st_bool (c := (decide (a0_.Nodes < 2))) (by kernel_rfl) hc2) (APath.chunk 3 (by kernel_rfl) (APath.oneG (.val 15 (.bin .gtr) [.t 14, .k (.p (.int .i64 12))]) 12 false (by kernel_rfl) (by kernel_rfl) (st_bool (c := (decide (a0_.Nodes > 12))) (by kernel_rfl) hc3) (APath.fin (by kernel_rfl)))))), by simp only [hc2, hc3]; kernel_rfl⟩
      · rcases Bool.eq_false_or_eq_true (((List.length a0_.Station : Nat) : Int) != a0_.Nodes) with hc5 | hc6
        · exact ⟨_, (APath.chunk 2 (by kernel_rfl) (APath.one (.val 11 (.bin .lss) [.t 10, .k (.p (.int .i64 2))]) (by kernel_rfl) (st_bool (c := (decide (a0_.Nodes < 2))) (by kernel_rfl) hc2) (APath.chunk 3 (by kernel_rfl) (APath.oneG (.val 15 (.bin .gtr) [.t 14, .k (.p (.int .i64 12))]) 12 false (by kernel_rfl) (by kernel_rfl) (st_bool (c := (decide (a0_.Nodes > 12))) (by kernel_rfl) hc4) (APath.chunk 4 (by kernel_rfl) (APath.oneG (.val 20 .len [.t 19]) 17 false (by kernel_rfl) (by kernel_rfl) (st_val (ys := [s_eB false a0_.Station]) (by kernel_rfl) (vexec_len eB)) (APath.chunk 2 (by kernel_rfl) (APath.oneG (.val 23 (.bin .neq) [.t 20, .t 22]) 17 false (by kernel_rfl) (by kernel_rfl) (st_bool (c := (((List.length a0_.Station : Nat) : Int) != a0_.Nodes)) (by kernel_rfl) hc5) (APath.fin (by kernel_rfl)))))))))), by simp only [hc2, hc4, hc5]; kernel_rfl⟩
        · exact ⟨_, (APath.chunk 2 (by kernel_rfl) (APath.one (.val 11 (.bin .lss) [.t 10, .k (.p (.int .i64 2))]) (by kernel_rfl) (st_bool (c := (decide (a0_.Nodes < 2))) (by kernel_rfl) hc2) (APath.chunk 3 (by kernel_rfl) (APath.oneG (.val 15 (.bin .gtr) [.t 14, .k (.p (.int .i64 12))]) 12 false (by kernel_rfl) (by kernel_rfl) (st_bool (c := (decide (a0_.Nodes > 12))) (by kernel_rfl) hc4) (APath.chunk 4 (by kernel_rfl) (APath.oneG (.val 20 .len [.t 19]) 17 false (by kernel_rfl) (by kernel_rfl) (st_val (ys := [s_eB false a0_.Station]) (by kernel_rfl) (vexec_len eB)) (APath.chunk 2 (by kernel_rfl) (APath.oneG (.val 23 (.bin .neq) [.t 20, .t 22]) 17 false (by kernel_rfl) (by kernel_rfl) (st_bool (c := (((List.length a0_.Station : Nat) : Int) != a0_.Nodes)) (by kernel_rfl) hc6) (APath.chunk 4 (by kernel_rfl) (APath.oneG (.val 28 .len [.t 27]) 25 false (by kernel_rfl) (by kernel_rfl) (st_val (ys := [s_e_api_Link false a0_.Links]) (by kernel_rfl) (vexec_len e_api_Link)) (APath.fin (by kernel_rfl)))))))))))), by simp only [hc2, hc4, hc6]; kernel_rfl⟩
  · refine vc_ite (by kernel_rfl) h (fun hc7 h => ?_) (fun hc7 h => ?_)
    · refine vc_seq ?_
      refine vc_reg (S := ⟨[(2, bv false)], [], []⟩) (APath.fin (by kernel_rfl)) (by kernel_rfl) ?_
      refine vc_ret ?_
      obtain rfl := some_inj h
      exact ret_of (by kernel_rfl)
    · refine vc_skip ?_
      refine vc_kp ?_
      refine vc_seq ?_
      obtain ⟨l10, hl10, h⟩ := bind_some h
      obtain ⟨a8, H9, ha8, hH9, ha8b, hH⟩ := HP.make eI64 hH hl10
      replace hH : HP H9 [.arr a8 1 false (List.map eI64 l10)] := hH
      have hfa8 := own_form (HP.get hH 0 rfl)
      refine vc_reg (S := ⟨[(1, .loc 1 0), (3, a8)], [(1, (c_api_Topo a0_))], H9⟩) (APath.chunk 2 (by rcases hfa8 with ha8e | ⟨_, _, ha8e⟩ <;> subst ha8e <;> kernel_rfl) (APath.one (.mkSl 33 (.t 32) (.t 32) [.int .i64 0] 8) (by kernel_rfl) (st_make (H := []) (zero := [.int .i64 0]) (bytes := 8) (by rcases hfa8 with ha8e | ⟨_, _, ha8e⟩ <;> subst ha8e <;> kernel_rfl) (by rcases hfa8 with ha8e | ⟨_, _, ha8e⟩ <;> subst ha8e <;> kernel_rfl) (by rcases hfa8 with ha8e | ⟨_, _, ha8e⟩ <;> subst ha8e <;> kernel_rfl) ha8 hH9 ha8b) (APath.fin (by rcases hfa8 with ha8e | ⟨_, _, ha8e⟩ <;> subst ha8e <;> kernel_rfl)))) (by rcases hfa8 with ha8e | ⟨_, _, ha8e⟩ <;> subst ha8e <;> kernel_rfl) ?_
      refine vc_seq ?_
      refine vc_seq ?_
      refine vc_reg (S := ⟨[(1, .loc 1 0), (3, a8), (4, iv 0)], [(1, (c_api_Topo a0_))], H9⟩) (APath.fin (by rcases hfa8 with ha8e | ⟨_, _, ha8e⟩ <;> subst ha8e <;> kernel_rfl)) (by rcases hfa8 with ha8e | ⟨_, _, ha8e⟩ <;> subst ha8e <;> kernel_rfl) ?_
      refine vc_block ?_
      obtain ⟨o1043, ho1043, h⟩ := bind_some h
      refine vc_loop ((loop_sim (fun (x : Int × (List Int)) s => ∃ (a11 : AV) (H12 : List HO), s = ⟨[(1, .loc 1 0), (3, a11), (4, iv x.1)], [(1, (c_api_Topo a0_))], H12⟩ ∧ HP H12 [.arr a11 1 false (List.map eI64 x.2)]) (fun x : Int × (List Int) => ref16_Right_L1 N a0_ x.1 x.2) (fun (p : ((List Int)) ⊕ (Bool)) e s => match p with | (.inl p) => e = .exit 0 ∧ (∃ (a515 : AV) (H516 : List HO), s = ⟨[(1, .loc 1 0), (3, a515)], [(1, (c_api_Topo a0_))], H516⟩ ∧ HP H516 [.arr a515 1 false (List.map eI64 p)]) | (.inr p) => e = .ret ∧ ∃ xs, resL s i48.res = some xs ∧ tupOf xs = bv p) ?_ N _ o1043 _ ho1043 ⟨a8, H9, (by show _ = _; rcases hfa8 with ha8e | ⟨_, _, ha8e⟩ <;> subst ha8e <;> kernel_rfl), (HP.pick hH [0] rfl)⟩).mono ?_)
      · clear h ho1043
        rintro ⟨i13, l14⟩ o s h hR
        obtain ⟨a11, H12, rfl, hH⟩ := hR
        replace hH : HP H12 [.arr a11 1 false (List.map eI64 l14)] := hH
        have hfa11 := own_form (HP.get hH 0 rfl)
        replace h : ref16_Right_L1 N a0_ i13 l14 = some o := h
        unfold ref16_Right_L1 at h
        refine vc_seq ?_
        refine vc_seq ?_
        refine vc_reg (S := ⟨[(1, .loc 1 0), (3, a11), (4, iv i13), (38, bv (decide (i13 < ((List.length a0_.Links : Nat) : Int))))], [(1, (c_api_Topo a0_))], H12⟩) (APath.chunk 3 (by rcases hfa11 with ha11e | ⟨_, _, ha11e⟩ <;> subst ha11e <;> kernel_rfl) (APath.one (.val 37 .len [.t 36]) (by kernel_rfl) (st_val (ys := [s_e_api_Link false a0_.Links]) (by rcases hfa11 with ha11e | ⟨_, _, ha11e⟩ <;> subst ha11e <;> kernel_rfl) (vexec_len e_api_Link)) (APath.fin (by rcases hfa11 with ha11e | ⟨_, _, ha11e⟩ <;> subst ha11e <;> kernel_rfl)))) (by rcases hfa11 with ha11e | ⟨_, _, ha11e⟩ <;> subst ha11e <;> kernel_rfl) ?_
        refine vc_ite (by kernel_rfl) h (fun hc517 h => ?_) (fun hc517 h => ?_)
        · refine vc_skip ?_
          refine vc_kp ?_
          refine vc_seq ?_
          refine vc_block ?_
          refine vc_seq ?_
          obtain ⟨e518, he518, h⟩ := bind_some h
          refine vc_reg (S := ⟨[(1, .loc 1 0), (3, a11), (4, iv i13), (5, .loc 5 0)], [(1, (c_api_Topo a0_)), (5, (c_api_Link e518))], H12⟩) (APath.chunk 3 (by rcases hfa11 with ha11e | ⟨_, _, ha11e⟩ <;> subst ha11e <;> kernel_rfl) (APath.one (.val 44 (.iaddrS 4) [.t 42, .t 43]) (by kernel_rfl) (st_val (ys := [s_e_api_Link false a0_.Links, iv i13]) (by rcases hfa11 with ha11e | ⟨_, _, ha11e⟩ <;> subst ha11e <;> kernel_rfl) (vexec_iaddrS e_api_Link he518)) (APath.one (.load 45 (.t 44) 4 true) (by kernel_rfl) (st_loadP (sz := 4) (off := 0) (cs := [.int .i64 e518.A, .int .i64 e518.B, .int .i64 e518.Per, .int .i64 e518.Delay]) (r := .agg (c_api_Link e518)) e_api_Link he518 (by rcases hfa11 with ha11e | ⟨_, _, ha11e⟩ <;> subst ha11e <;> kernel_rfl) (by rcases hfa11 with ha11e | ⟨_, _, ha11e⟩ <;> subst ha11e <;> kernel_rfl) (by rcases hfa11 with ha11e | ⟨_, _, ha11e⟩ <;> subst ha11e <;> kernel_rfl)) (APath.fin (by rcases hfa11 with ha11e | ⟨_, _, ha11e⟩ <;> subst ha11e <;> kernel_rfl))))) (by rcases hfa11 with ha11e | ⟨_, _, ha11e⟩ <;> subst ha11e <;> kernel_rfl) ?_
          refine vc_seq ?_
          refine vc_seq ?_
          obtain ⟨r519, hr519, h⟩ := bind_some h
          refine vc_reg (S := ⟨[(1, .loc 1 0), (3, a11), (4, iv i13), (5, .loc 5 0), (49, bv (!r519))], [(1, (c_api_Topo a0_)), (5, (c_api_Link e518))], H12⟩) (APath.chunk 2 (by rcases hfa11 with ha11e | ⟨_, _, ha11e⟩ <;> subst ha11e <;> kernel_rfl) (APath.one (.call (some 48) 70 [.t 46, .t 47]) (by kernel_rfl) (st_call (by rcases hfa11 with ha11e | ⟨_, _, ha11e⟩ <;> subst ha11e <;> kernel_rfl) (ref16_link_ok N a0_ e518 r519 hr519)) (APath.fin (by rcases hfa11 with ha11e | ⟨_, _, ha11e⟩ <;> subst ha11e <;> kernel_rfl)))) (by rcases hfa11 with ha11e | ⟨_, _, ha11e⟩ <;> subst ha11e <;> kernel_rfl) ?_
          refine vc_ite (by kernel_rfl) h (fun hc520 h => ?_) (fun hc520 h => ?_)
          · refine vc_seq ?_
            refine vc_reg (S := ⟨[(2, bv false)], [], H12⟩) (APath.fin (by rcases hfa11 with ha11e | ⟨_, _, ha11e⟩ <;> subst ha11e <;> kernel_rfl)) (by rcases hfa11 with ha11e | ⟨_, _, ha11e⟩ <;> subst ha11e <;> kernel_rfl) ?_
            replace hH : HP H12 [] := HP.pick hH [] rfl
            refine vc_ret ?_
            obtain rfl := some_inj h
            exact ⟨_, rfl, rfl, ret_of (by kernel_rfl)⟩
          · refine vc_skip ?_
            refine vc_kp ?_
            refine vc_seq ?_
            refine vc_seq ?_
            refine vc_reg (S := ⟨[(1, .loc 1 0), (3, a11), (4, iv i13), (5, .loc 5 0), (6, iv 0)], [(1, (c_api_Topo a0_)), (5, (c_api_Link e518))], H12⟩) (APath.fin (by rcases hfa11 with ha11e | ⟨_, _, ha11e⟩ <;> subst ha11e <;> kernel_rfl)) (by rcases hfa11 with ha11e | ⟨_, _, ha11e⟩ <;> subst ha11e <;> kernel_rfl) ?_
            refine vc_block ?_
            obtain ⟨o1026, ho1026, h⟩ := bind_some h
            refine vc_loop ((loop_sim (fun (x : Int) s => s = ⟨[(1, .loc 1 0), (3, a11), (4, iv i13), (5, .loc 5 0), (6, iv x)], [(1, (c_api_Topo a0_)), (5, (c_api_Link e518))], H12⟩) (fun x : Int => ref16_Right_L2 N a0_ i13 e518 x) (fun (p : (Unit) ⊕ (Bool)) e s => match p with | (.inl p) => e = .exit 2 ∧ (s = ⟨[(1, .loc 1 0), (3, a11), (4, iv i13), (5, .loc 5 0)], [(1, (c_api_Topo a0_)), (5, (c_api_Link e518))], H12⟩) | (.inr p) => e = .ret ∧ ∃ xs, resL s i48.res = some xs ∧ tupOf xs = bv p) ?_ N _ o1026 _ ho1026 (by show _ = _; rcases hfa11 with ha11e | ⟨_, _, ha11e⟩ <;> subst ha11e <;> kernel_rfl)).mono ?_)
            · clear h ho1026
              rintro i521 o s h hR
              obtain rfl := hR
              replace h : ref16_Right_L2 N a0_ i13 e518 i521 = some o := h
              unfold ref16_Right_L2 at h
              refine vc_seq ?_
              refine vc_seq ?_
              refine vc_reg (S := ⟨[(1, .loc 1 0), (3, a11), (4, iv i13), (5, .loc 5 0), (6, iv i521), (52, bv (decide (i521 < i13)))], [(1, (c_api_Topo a0_)), (5, (c_api_Link e518))], H12⟩) (APath.fin (by rcases hfa11 with ha11e | ⟨_, _, ha11e⟩ <;> subst ha11e <;> kernel_rfl)) (by rcases hfa11 with ha11e | ⟨_, _, ha11e⟩ <;> subst ha11e <;> kernel_rfl) ?_
              refine vc_ite (by kernel_rfl) h (fun hc1022 h => ?_) (fun hc1022 h => ?_)
              · refine vc_skip ?_
                refine vc_kp ?_
                refine vc_seq ?_
                refine vc_block ?_
                refine vc_seq ?_
                obtain ⟨e1023, he1023, h⟩ := bind_some h
                obtain ⟨r1024, hr1024, h⟩ := bind_some h
                refine vc_regD (S := ⟨[(1, .loc 1 0), (3, a11), (4, iv i13), (5, .loc 5 0), (6, iv i521), (64, bv r1024)], [(1, (c_api_Topo a0_)), (5, (c_api_Link e518))], H12⟩) (by rcases hfa11 with ha11e | ⟨_, _, ha11e⟩ <;> subst ha11e <;> kernel_rfl) (APath.chunk 3 (by rcases hfa11 with ha11e | ⟨_, _, ha11e⟩ <;> subst ha11e <;> kernel_rfl) (APath.one (.val 58 (.iaddrS 4) [.t 56, .t 57]) (by kernel_rfl) (st_val (ys := [s_e_api_Link false a0_.Links, iv i521]) (by rcases hfa11 with ha11e | ⟨_, _, ha11e⟩ <;> subst ha11e <;> kernel_rfl) (vexec_iaddrS e_api_Link he1023)) (APath.one (.load 59 (.t 58) 4 true) (by kernel_rfl) (st_loadP (sz := 4) (off := 0) (cs := [.int .i64 e1023.A, .int .i64 e1023.B, .int .i64 e1023.Per, .int .i64 e1023.Delay]) (r := .agg (c_api_Link e1023)) e_api_Link he1023 (by rcases hfa11 with ha11e | ⟨_, _, ha11e⟩ <;> subst ha11e <;> kernel_rfl) (by rcases hfa11 with ha11e | ⟨_, _, ha11e⟩ <;> subst ha11e <;> kernel_rfl) (by rcases hfa11 with ha11e | ⟨_, _, ha11e⟩ <;> subst ha11e <;> kernel_rfl)) (APath.chunk 4 (by rcases hfa11 with ha11e | ⟨_, _, ha11e⟩ <;> subst ha11e <;> kernel_rfl) (APath.one (.callP 64 71 [.t 59, .t 61, .t 63]) (by kernel_rfl) (st_callP (by rcases hfa11 with ha11e | ⟨_, _, ha11e⟩ <;> subst ha11e <;> kernel_rfl) (ref16_Joins_ok N e1023 e518.A e518.B r1024 hr1024)) APath.done))))) (by rcases hfa11 with ha11e | ⟨_, _, ha11e⟩ <;> subst ha11e <;> kernel_rfl) ?_
                refine vc_ite (by kernel_rfl) h (fun hc1025 h => ?_) (fun hc1025 h => ?_)
                · refine vc_seq ?_
                  refine vc_reg (S := ⟨[(2, bv false)], [], H12⟩) (APath.fin (by rcases hfa11 with ha11e | ⟨_, _, ha11e⟩ <;> subst ha11e <;> kernel_rfl)) (by rcases hfa11 with ha11e | ⟨_, _, ha11e⟩ <;> subst ha11e <;> kernel_rfl) ?_
                  replace hH : HP H12 [] := HP.pick hH [] rfl
                  refine vc_ret ?_
                  obtain rfl := some_inj h
                  exact ⟨_, rfl, rfl, ret_of (by kernel_rfl)⟩
                · refine vc_skip ?_
                  refine vc_kp ?_
                  refine vc_reg (S := ⟨[(1, .loc 1 0), (3, a11), (4, iv i13), (5, .loc 5 0), (6, iv (w64 (i521 + 1)))], [(1, (c_api_Topo a0_)), (5, (c_api_Link e518))], H12⟩) (APath.fin (by rcases hfa11 with ha11e | ⟨_, _, ha11e⟩ <;> subst ha11e <;> kernel_rfl)) (by rcases hfa11 with ha11e | ⟨_, _, ha11e⟩ <;> subst ha11e <;> kernel_rfl) ?_
                  obtain rfl := some_inj h
                  exact ⟨_, rfl, (by show _ = _; rcases hfa11 with ha11e | ⟨_, _, ha11e⟩ <;> subst ha11e <;> kernel_rfl)⟩
              · refine vc_kp ?_
                try show vc _ _ _ _ _
                refine vc_exit ?_
                try show vc _ _ _ _ _
                obtain rfl := some_inj h
                exact ⟨_, rfl, rfl, (by show _ = _; rcases hfa11 with ha11e | ⟨_, _, ha11e⟩ <;> subst ha11e <;> kernel_rfl)⟩
            · rintro e s hq
              rcases o1026 with p1027 | p1042
              · dsimp only at h hq
                obtain ⟨rfl, hR⟩ := hq
                obtain rfl := hR
                try show vc _ _ _ _ _
                refine vc_seq ?_
                obtain ⟨e1028, he1028, h⟩ := bind_some h
                obtain ⟨id1029, ver1030, _, hid1029f, hid1029, hid1029a, hid1029v⟩ := HP.elem (k := 0) (a := a11) (sz := 1) (frz := false) eI64 hH rfl he1028
                obtain ⟨e1031, he1031, h⟩ := bind_some h
                obtain ⟨id1032, ver1033, _, hid1032f, hid1032, hid1032a, hid1032v⟩ := HP.elem (k := 0) (a := a11) (sz := 1) (frz := false) eI64 hH rfl he1031
                obtain ⟨H1034, hH1034, hH⟩ := HP.setRow (k := 0) (off := 0) (cs := [iv (w64 (e1028 + 1))]) (ps := [.int .i64 (w64 (e1028 + 1))]) (e' := (w64 (e1028 + 1))) eI64 hH rfl hid1032a hid1032 (hid1032f rfl) he1031 (by kernel_rfl) (by kernel_rfl)
                replace hH : HP H1034 [.arr a11 1 false (List.map eI64 (List.set l14 (Int.toNat e518.A) (w64 (e1028 + 1))))] := hH
                refine vc_regD (S := ⟨[(1, .loc 1 0), (3, a11), (4, iv i13), (5, .loc 5 0)], [(1, (c_api_Topo a0_)), (5, (c_api_Link e518))], H1034⟩) (by rcases hfa11 with ha11e | ⟨_, _, ha11e⟩ <;> subst ha11e <;> kernel_rfl) (APath.chunk 6 (by rcases hfa11 with ha11e | ⟨_, _, ha11e⟩ <;> subst ha11e <;> kernel_rfl) (APath.one (.val 71 (.iaddrS 1) [.t 68, .t 70]) (by kernel_rfl) (st_val (ys := [a11, iv e518.A]) (by rcases hfa11 with ha11e | ⟨_, _, ha11e⟩ <;> subst ha11e <;> kernel_rfl) (hid1029v .i64)) (APath.one (.load 72 (.t 71) 1 false) (by kernel_rfl) (st_loadO (H := H12) (off := 0) (cs := [.int .i64 e1028]) (r := iv e1028) eI64 he1028 hid1029 (by rcases hfa11 with ha11e | ⟨_, _, ha11e⟩ <;> subst ha11e <;> kernel_rfl) (by rcases hfa11 with ha11e | ⟨_, _, ha11e⟩ <;> subst ha11e <;> kernel_rfl) (by rcases hfa11 with ha11e | ⟨_, _, ha11e⟩ <;> subst ha11e <;> kernel_rfl) (by rcases hfa11 with ha11e | ⟨_, _, ha11e⟩ <;> subst ha11e <;> kernel_rfl)) (APath.chunk 1 (by rcases hfa11 with ha11e | ⟨_, _, ha11e⟩ <;> subst ha11e <;> kernel_rfl) (APath.one (.val 74 (.iaddrS 1) [.t 65, .t 67]) (by kernel_rfl) (st_val (ys := [a11, iv e518.A]) (by rcases hfa11 with ha11e | ⟨_, _, ha11e⟩ <;> subst ha11e <;> kernel_rfl) (hid1032v .i64)) (APath.one (.storeH (.t 74) (.t 73) 1) (by kernel_rfl) (st_toH (st_storeH (H := H12) (v := iv (w64 (e1028 + 1))) (by rcases hfa11 with ha11e | ⟨_, _, ha11e⟩ <;> subst ha11e <;> kernel_rfl) (by rcases hfa11 with ha11e | ⟨_, _, ha11e⟩ <;> subst ha11e <;> kernel_rfl) (by rcases hfa11 with ha11e | ⟨_, _, ha11e⟩ <;> subst ha11e <;> kernel_rfl) (by rcases hfa11 with ha11e | ⟨_, _, ha11e⟩ <;> subst ha11e <;> kernel_rfl) hH1034) (by rcases hfa11 with ha11e | ⟨_, _, ha11e⟩ <;> subst ha11e <;> kernel_rfl)) APath.done)))))) (by rcases hfa11 with ha11e | ⟨_, _, ha11e⟩ <;> subst ha11e <;> kernel_rfl) ?_
                obtain ⟨e1035, he1035, h⟩ := bind_some h
                obtain ⟨id1036, ver1037, _, hid1036f, hid1036, hid1036a, hid1036v⟩ := HP.elem (k := 0) (a := a11) (sz := 1) (frz := false) eI64 hH rfl he1035
                obtain ⟨e1038, he1038, h⟩ := bind_some h
                obtain ⟨id1039, ver1040, _, hid1039f, hid1039, hid1039a, hid1039v⟩ := HP.elem (k := 0) (a := a11) (sz := 1) (frz := false) eI64 hH rfl he1038
                obtain ⟨H1041, hH1041, hH⟩ := HP.setRow (k := 0) (off := 0) (cs := [iv (w64 (e1035 + 1))]) (ps := [.int .i64 (w64 (e1035 + 1))]) (e' := (w64 (e1035 + 1))) eI64 hH rfl hid1039a hid1039 (hid1039f rfl) he1038 (by kernel_rfl) (by kernel_rfl)
                replace hH : HP H1041 [.arr a11 1 false (List.map eI64 (List.set (List.set l14 (Int.toNat e518.A) (w64 (e1028 + 1))) (Int.toNat e518.B) (w64 (e1035 + 1))))] := hH
                refine vc_regD (S := ⟨[(1, .loc 1 0), (3, a11), (4, iv i13)], [(1, (c_api_Topo a0_))], H1041⟩) (by rcases hfa11 with ha11e | ⟨_, _, ha11e⟩ <;> subst ha11e <;> kernel_rfl) (APath.chunk 6 (by rcases hfa11 with ha11e | ⟨_, _, ha11e⟩ <;> subst ha11e <;> kernel_rfl) (APath.one (.val 81 (.iaddrS 1) [.t 78, .t 80]) (by kernel_rfl) (st_val (ys := [a11, iv e518.B]) (by rcases hfa11 with ha11e | ⟨_, _, ha11e⟩ <;> subst ha11e <;> kernel_rfl) (hid1036v .i64)) (APath.one (.load 82 (.t 81) 1 false) (by kernel_rfl) (st_loadO (H := H1034) (off := 0) (cs := [.int .i64 e1035]) (r := iv e1035) eI64 he1035 hid1036 (by rcases hfa11 with ha11e | ⟨_, _, ha11e⟩ <;> subst ha11e <;> kernel_rfl) (by rcases hfa11 with ha11e | ⟨_, _, ha11e⟩ <;> subst ha11e <;> kernel_rfl) (by rcases hfa11 with ha11e | ⟨_, _, ha11e⟩ <;> subst ha11e <;> kernel_rfl) (by rcases hfa11 with ha11e | ⟨_, _, ha11e⟩ <;> subst ha11e <;> kernel_rfl)) (APath.chunk 1 (by rcases hfa11 with ha11e | ⟨_, _, ha11e⟩ <;> subst ha11e <;> kernel_rfl) (APath.one (.val 84 (.iaddrS 1) [.t 75, .t 77]) (by kernel_rfl) (st_val (ys := [a11, iv e518.B]) (by rcases hfa11 with ha11e | ⟨_, _, ha11e⟩ <;> subst ha11e <;> kernel_rfl) (hid1039v .i64)) (APath.one (.storeH (.t 84) (.t 83) 1) (by kernel_rfl) (st_toH (st_storeH (H := H1034) (v := iv (w64 (e1035 + 1))) (by rcases hfa11 with ha11e | ⟨_, _, ha11e⟩ <;> subst ha11e <;> kernel_rfl) (by rcases hfa11 with ha11e | ⟨_, _, ha11e⟩ <;> subst ha11e <;> kernel_rfl) (by rcases hfa11 with ha11e | ⟨_, _, ha11e⟩ <;> subst ha11e <;> kernel_rfl) (by rcases hfa11 with ha11e | ⟨_, _, ha11e⟩ <;> subst ha11e <;> kernel_rfl) hH1041) (by rcases hfa11 with ha11e | ⟨_, _, ha11e⟩ <;> subst ha11e <;> kernel_rfl)) APath.done)))))) (by rcases hfa11 with ha11e | ⟨_, _, ha11e⟩ <;> subst ha11e <;> kernel_rfl) ?_
                refine vc_kp ?_
                refine vc_reg (S := ⟨[(1, .loc 1 0), (3, a11), (4, iv (w64 (i13 + 1)))], [(1, (c_api_Topo a0_))], H1041⟩) (APath.fin (by rcases hfa11 with ha11e | ⟨_, _, ha11e⟩ <;> subst ha11e <;> kernel_rfl)) (by rcases hfa11 with ha11e | ⟨_, _, ha11e⟩ <;> subst ha11e <;> kernel_rfl) ?_
                obtain rfl := some_inj h
                exact ⟨_, rfl, ⟨a11, H1041, (by show _ = _; rcases hfa11 with ha11e | ⟨_, _, ha11e⟩ <;> subst ha11e <;> kernel_rfl), (HP.pick hH [0] rfl)⟩⟩
              · dsimp only at h hq
                obtain ⟨rfl, hq⟩ := hq
                obtain rfl := some_inj h
                exact ⟨_, rfl, rfl, hq⟩
        · refine vc_kp ?_
          try show vc _ _ _ _ _
          refine vc_exit ?_
          try show vc _ _ _ _ _
          obtain rfl := some_inj h
          exact ⟨_, rfl, rfl, ⟨a11, H12, (by show _ = _; rcases hfa11 with ha11e | ⟨_, _, ha11e⟩ <;> subst ha11e <;> kernel_rfl), (HP.pick hH [0] rfl)⟩⟩
      · rintro e s hq
        rcases o1043 with p1044 | p1567
        · dsimp only at h hq
          obtain ⟨rfl, hR⟩ := hq
          obtain ⟨a515, H516, rfl, hH⟩ := hR
          replace hH : HP H516 [.arr a515 1 false (List.map eI64 p1044)] := hH
          have hfa515 := own_form (HP.get hH 0 rfl)
          try show vc _ _ _ _ _
          refine vc_seq ?_
          obtain ⟨r1045, hr1045, h⟩ := bind_some h
          refine vc_reg (S := ⟨[(1, .loc 1 0), (3, a515), (7, s_eB false r1045)], [(1, (c_api_Topo a0_))], H516⟩) (APath.chunk 1 (by rcases hfa515 with ha515e | ⟨_, _, ha515e⟩ <;> subst ha515e <;> kernel_rfl) (APath.one (.call (some 86) 72 [.t 85, .k (.p (.int .i64 0)), .k (.p (.sl 1 true []))]) (by kernel_rfl) (st_call (by rcases hfa515 with ha515e | ⟨_, _, ha515e⟩ <;> subst ha515e <;> kernel_rfl) (ref16_Reach_ok N a0_ 0 ([]) r1045 hr1045)) (APath.fin (by rcases hfa515 with ha515e | ⟨_, _, ha515e⟩ <;> subst ha515e <;> kernel_rfl)))) (by rcases hfa515 with ha515e | ⟨_, _, ha515e⟩ <;> subst ha515e <;> kernel_rfl) ?_
          refine vc_seq ?_
          refine vc_seq ?_
          refine vc_reg (S := ⟨[(1, .loc 1 0), (3, a515), (7, s_eB false r1045), (8, iv 0)], [(1, (c_api_Topo a0_))], H516⟩) (APath.fin (by rcases hfa515 with ha515e | ⟨_, _, ha515e⟩ <;> subst ha515e <;> kernel_rfl)) (by rcases hfa515 with ha515e | ⟨_, _, ha515e⟩ <;> subst ha515e <;> kernel_rfl) ?_
          refine vc_block ?_
          obtain ⟨o1564, ho1564, h⟩ := bind_some h
          refine vc_loop ((loop_sim (fun (x : Int) s => s = ⟨[(1, .loc 1 0), (3, a515), (7, s_eB false r1045), (8, iv x)], [(1, (c_api_Topo a0_))], H516⟩) (fun x : Int => ref16_Right_L3 N a0_ p1044 r1045 x) (fun (p : (Unit) ⊕ (Bool)) e s => match p with | (.inl p) => e = .exit 4 ∧ (s = ⟨[], [], H516⟩) | (.inr p) => e = .ret ∧ ∃ xs, resL s i48.res = some xs ∧ tupOf xs = bv p) ?_ N _ o1564 _ ho1564 (by show _ = _; rcases hfa515 with ha515e | ⟨_, _, ha515e⟩ <;> subst ha515e <;> kernel_rfl)).mono ?_)
          · clear h ho1564
            rintro i1046 o s h hR
            obtain rfl := hR
            replace h : ref16_Right_L3 N a0_ p1044 r1045 i1046 = some o := h
            unfold ref16_Right_L3 at h
            refine vc_seq ?_
            refine vc_seq ?_
            refine vc_reg (S := ⟨[(1, .loc 1 0), (3, a515), (7, s_eB false r1045), (8, iv i1046), (90, bv (decide (i1046 < a0_.Nodes)))], [(1, (c_api_Topo a0_))], H516⟩) (APath.fin (by rcases hfa515 with ha515e | ⟨_, _, ha515e⟩ <;> subst ha515e <;> kernel_rfl)) (by rcases hfa515 with ha515e | ⟨_, _, ha515e⟩ <;> subst ha515e <;> kernel_rfl) ?_
            refine vc_ite (by kernel_rfl) h (fun hc1547 h => ?_) (fun hc1547 h => ?_)
            · refine vc_skip ?_
              refine vc_kp ?_
              refine vc_seq ?_
              refine vc_block ?_
              refine vc_seq ?_
              obtain ⟨j1562, hj, h⟩ := bind_some h
              refine vc_regXR (fun s => s = ⟨[(1, .loc 1 0), (3, a515), (7, s_eB false r1045), (8, iv i1046), (118, bv j1562)], [(1, (c_api_Topo a0_))], H516⟩) ?_ ?_
              · clear h
                obtain ⟨e1548, he1548, hj⟩ := bind_some hj
                rcases ite_some hj with ⟨hc1549, hj⟩ | ⟨hc1550, hj⟩
                · obtain rfl := some_inj hj
                  exact ⟨_, (APath.chunk 2 (by rcases hfa515 with ha515e | ⟨_, _, ha515e⟩ <;> subst ha515e <;> kernel_rfl) (APath.one (.val 95 (.iaddrS 1) [.t 93, .t 94]) (by kernel_rfl) (st_val (ys := [s_eB false r1045, iv i1046]) (by rcases hfa515 with ha515e | ⟨_, _, ha515e⟩ <;> subst ha515e <;> kernel_rfl) (vexec_iaddrS eB he1548)) (APath.one (.load 96 (.t 95) 1 false) (by kernel_rfl) (st_loadP (sz := 1) (off := 0) (cs := [.bool e1548]) (r := bv e1548) eB he1548 (by rcases hfa515 with ha515e | ⟨_, _, ha515e⟩ <;> subst ha515e <;> kernel_rfl) (by rcases hfa515 with ha515e | ⟨_, _, ha515e⟩ <;> subst ha515e <;> kernel_rfl) (by rcases hfa515 with ha515e | ⟨_, _, ha515e⟩ <;> subst ha515e <;> kernel_rfl)) (APath.one (.val 97 .not [.t 96]) (by kernel_rfl) (st_bool (c := (!e1548)) (by rcases hfa515 with ha515e | ⟨_, _, ha515e⟩ <;> subst ha515e <;> kernel_rfl) hc1549) (APath.fin (by rcases hfa515 with ha515e | ⟨_, _, ha515e⟩ <;> subst ha515e <;> kernel_rfl)))))), (by show _ = _; rcases hfa515 with ha515e | ⟨_, _, ha515e⟩ <;> subst ha515e <;> kernel_rfl)⟩
                · obtain ⟨e1551, he1551, hj⟩ := bind_some hj
                  rcases ite_some hj with ⟨hc1552, hj⟩ | ⟨hc1561, hj⟩
                  · obtain ⟨e1553, he1553, hj⟩ := bind_some hj
                    obtain ⟨id1554, ver1555, _, hid1554f, hid1554, hid1554a, hid1554v⟩ := HP.elem (k := 0) (a := a515) (sz := 1) (frz := false) eI64 hH rfl he1553
                    rcases ite_some hj with ⟨hc1556, hj⟩ | ⟨hc1557, hj⟩
                    · obtain rfl := some_inj hj
                      exact ⟨_, (APath.chunk 2 (by rcases hfa515 with ha515e | ⟨_, _, ha515e⟩ <;> subst ha515e <;> kernel_rfl) (APath.one (.val 95 (.iaddrS 1) [.t 93, .t 94]) (by kernel_rfl) (st_val (ys := [s_eB false r1045, iv i1046]) (by rcases hfa515 with ha515e | ⟨_, _, ha515e⟩ <;> subst ha515e <;> kernel_rfl) (vexec_iaddrS eB he1548)) (APath.one (.load 96 (.t 95) 1 false) (by kernel_rfl) (st_loadP (sz := 1) (off := 0) (cs := [.bool e1548]) (r := bv e1548) eB he1548 (by rcases hfa515 with ha515e | ⟨_, _, ha515e⟩ <;> subst ha515e <;> kernel_rfl) (by rcases hfa515 with ha515e | ⟨_, _, ha515e⟩ <;> subst ha515e <;> kernel_rfl) (by rcases hfa515 with ha515e | ⟨_, _, ha515e⟩ <;> subst ha515e <;> kernel_rfl)) (APath.one (.val 97 .not [.t 96]) (by kernel_rfl) (st_bool (c := (!e1548)) (by rcases hfa515 with ha515e | ⟨_, _, ha515e⟩ <;> subst ha515e <;> kernel_rfl) hc1550) (APath.chunk 4 (by rcases hfa515 with ha515e | ⟨_, _, ha515e⟩ <;> subst ha515e <;> kernel_rfl) (APath.oneG (.val 102 (.iaddrS 1) [.t 100, .t 101]) 98 false (by kernel_rfl) (by rcases hfa515 with ha515e | ⟨_, _, ha515e⟩ <;> subst ha515e <;> kernel_rfl) (st_val (ys := [s_eB false a0_.Station, iv i1046]) (by rcases hfa515 with ha515e | ⟨_, _, ha515e⟩ <;> subst ha515e <;> kernel_rfl) (vexec_iaddrS eB he1551)) (APath.oneG (.load 103 (.t 102) 1 false) 98 false (by kernel_rfl) (by rcases hfa515 with ha515e | ⟨_, _, ha515e⟩ <;> subst ha515e <;> kernel_rfl) (AStep.bool (st_loadP (sz := 1) (off := 0) (cs := [.bool e1551]) (r := bv e1551) eB he1551 (by rcases hfa515 with ha515e | ⟨_, _, ha515e⟩ <;> subst ha515e <;> kernel_rfl) (by rcases hfa515 with ha515e | ⟨_, _, ha515e⟩ <;> subst ha515e <;> kernel_rfl) (by rcases hfa515 with ha515e | ⟨_, _, ha515e⟩ <;> subst ha515e <;> kernel_rfl)) hc1552) (APath.chunk 3 (by rcases hfa515 with ha515e | ⟨_, _, ha515e⟩ <;> subst ha515e <;> kernel_rfl) (APath.oneG (.val 107 (.iaddrS 1) [.t 105, .t 106]) 104 true (by kernel_rfl) (by rcases hfa515 with ha515e | ⟨_, _, ha515e⟩ <;> subst ha515e <;> kernel_rfl) (st_val (ys := [a515, iv i1046]) (by rcases hfa515 with ha515e | ⟨_, _, ha515e⟩ <;> subst ha515e <;> kernel_rfl) (hid1554v .i64)) (APath.oneG (.load 108 (.t 107) 1 false) 104 true (by kernel_rfl) (by rcases hfa515 with ha515e | ⟨_, _, ha515e⟩ <;> subst ha515e <;> kernel_rfl) (st_loadO (H := H516) (off := 0) (cs := [.int .i64 e1553]) (r := iv e1553) eI64 he1553 hid1554 (by rcases hfa515 with ha515e | ⟨_, _, ha515e⟩ <;> subst ha515e <;> kernel_rfl) (by rcases hfa515 with ha515e | ⟨_, _, ha515e⟩ <;> subst ha515e <;> kernel_rfl) (by rcases hfa515 with ha515e | ⟨_, _, ha515e⟩ <;> subst ha515e <;> kernel_rfl) (by rcases hfa515 with ha515e | ⟨_, _, ha515e⟩ <;> subst ha515e <;> kernel_rfl)) (APath.oneG (.val 109 (.bin .lss) [.t 108, .k (.p (.int .i64 1))]) 104 true (by kernel_rfl) (by rcases hfa515 with ha515e | ⟨_, _, ha515e⟩ <;> subst ha515e <;> kernel_rfl) (st_bool (c := (decide (e1553 < 1))) (by rcases hfa515 with ha515e | ⟨_, _, ha515e⟩ <;> subst ha515e <;> kernel_rfl) hc1556) (APath.fin (by rcases hfa515 with ha515e | ⟨_, _, ha515e⟩ <;> subst ha515e <;> kernel_rfl))))))))))))), (by show _ = _; rcases hfa515 with ha515e | ⟨_, _, ha515e⟩ <;> subst ha515e <;> kernel_rfl)⟩
                    · obtain ⟨e1558, he1558, hj⟩ := bind_some hj
                      obtain ⟨id1559, ver1560, _, hid1559f, hid1559, hid1559a, hid1559v⟩ := HP.elem (k := 0) (a := a515) (sz := 1) (frz := false) eI64 hH rfl he1558
                      obtain rfl := some_inj hj
                      exact ⟨_, (APath.chunk 2 (by rcases hfa515 with ha515e | ⟨_, _, ha515e⟩ <;> subst ha515e <;> kernel_rfl) (APath.one (.val 95 (.iaddrS 1) [.t 93, .t 94]) (by kernel_rfl) (st_val (ys := [s_eB false r1045, iv i1046]) (by rcases hfa515 with ha515e | ⟨_, _, ha515e⟩ <;> subst ha515e <;> kernel_rfl) (vexec_iaddrS eB he1548)) (APath.one (.load 96 (.t 95) 1 false) (by kernel_rfl) (st_loadP (sz := 1) (off := 0) (cs := [.bool e1548]) (r := bv e1548) eB he1548 (by rcases hfa515 with ha515e | ⟨_, _, ha515e⟩ <;> subst ha515e <;> kernel_rfl) (by rcases hfa515 with ha515e | ⟨_, _, ha515e⟩ <;> subst ha515e <;> kernel_rfl) (by rcases hfa515 with ha515e | ⟨_, _, ha515e⟩ <;> subst ha515e <;> kernel_rfl)) (APath.one (.val 97 .not [.t 96]) (by kernel_rfl) (st_bool (c := (!e1548)) (by rcases hfa515 with ha515e | ⟨_, _, ha515e⟩ <;> subst ha515e <;> kernel_rfl) hc1550) (APath.chunk 4 (by rcases hfa515 with ha515e | ⟨_, _, ha515e⟩ <;> subst ha515e <;> kernel_rfl) (APath.oneG (.val 102 (.iaddrS 1) [.t 100, .t 101]) 98 false (by kernel_rfl) (by rcases hfa515 with ha515e | ⟨_, _, ha515e⟩ <;> subst ha515e <;> kernel_rfl) (st_val (ys := [s_eB false a0_.Station, iv i1046]) (by rcases hfa515 with ha515e | ⟨_, _, ha515e⟩ <;> subst ha515e <;> kernel_rfl) (vexec_iaddrS eB he1551)) (APath.oneG (.load 103 (.t 102) 1 false) 98 false (by kernel_rfl) (by rcases hfa515 with ha515e | ⟨_, _, ha515e⟩ <;> subst ha515e <;> kernel_rfl) (AStep.bool (st_loadP (sz := 1) (off := 0) (cs := [.bool e1551]) (r := bv e1551) eB he1551 (by rcases hfa515 with ha515e | ⟨_, _, ha515e⟩ <;> subst ha515e <;> kernel_rfl) (by rcases hfa515 with ha515e | ⟨_, _, ha515e⟩ <;> subst ha515e <;> kernel_rfl) (by rcases hfa515 with ha515e | ⟨_, _, ha515e⟩ <;> subst ha515e <;> kernel_rfl)) hc1552) (APath.chunk 3 (by rcases hfa515 with ha515e | ⟨_, _, ha515e⟩ <;> subst ha515e <;> kernel_rfl) (APath.oneG (.val 107 (.iaddrS 1) [.t 105, .t 106]) 104 true (by kernel_rfl) (by rcases hfa515 with ha515e | ⟨_, _, ha515e⟩ <;> subst ha515e <;> kernel_rfl) (st_val (ys := [a515, iv i1046]) (by rcases hfa515 with ha515e | ⟨_, _, ha515e⟩ <;> subst ha515e <;> kernel_rfl) (hid1554v .i64)) (APath.oneG (.load 108 (.t 107) 1 false) 104 true (by kernel_rfl) (by rcases hfa515 with ha515e | ⟨_, _, ha515e⟩ <;> subst ha515e <;> kernel_rfl) (st_loadO (H := H516) (off := 0) (cs := [.int .i64 e1553]) (r := iv e1553) eI64 he1553 hid1554 (by rcases hfa515 with ha515e | ⟨_, _, ha515e⟩ <;> subst ha515e <;> kernel_rfl) (by rcases hfa515 with ha515e | ⟨_, _, ha515e⟩ <;> subst ha515e <;> kernel_rfl) (by rcases hfa515 with ha515e | ⟨_, _, ha515e⟩ <;> subst ha515e <;> kernel_rfl) (by rcases hfa515 with ha515e | ⟨_, _, ha515e⟩ <;> subst ha515e <;> kernel_rfl)) (APath.oneG (.val 109 (.bin .lss) [.t 108, .k (.p (.int .i64 1))]) 104 true (by kernel_rfl) (by rcases hfa515 with ha515e | ⟨_, _, ha515e⟩ <;> subst ha515e <;> kernel_rfl) (st_bool (c := (decide (e1553 < 1))) (by rcases hfa515 with ha515e | ⟨_, _, ha515e⟩ <;> subst ha515e <;> kernel_rfl) hc1557) (APath.chunk 3 (by rcases hfa515 with ha515e | ⟨_, _, ha515e⟩ <;> subst ha515e <;> kernel_rfl) (APath.oneG (.val 113 (.iaddrS 1) [.t 111, .t 112]) 110 false (by kernel_rfl) (by rcases hfa515 with ha515e | ⟨_, _, ha515e⟩ <;> subst ha515e <;> kernel_rfl) (st_val (ys := [a515, iv i1046]) (by rcases hfa515 with ha515e | ⟨_, _, ha515e⟩ <;> subst ha515e <;> kernel_rfl) (hid1559v .i64)) (APath.oneG (.load 114 (.t 113) 1 false) 110 false (by kernel_rfl) (by rcases hfa515 with ha515e | ⟨_, _, ha515e⟩ <;> subst ha515e <;> kernel_rfl) (st_loadO (H := H516) (off := 0) (cs := [.int .i64 e1558]) (r := iv e1558) eI64 he1558 hid1559 (by rcases hfa515 with ha515e | ⟨_, _, ha515e⟩ <;> subst ha515e <;> kernel_rfl) (by rcases hfa515 with ha515e | ⟨_, _, ha515e⟩ <;> subst ha515e <;> kernel_rfl) (by rcases hfa515 with ha515e | ⟨_, _, ha515e⟩ <;> subst ha515e <;> kernel_rfl) (by rcases hfa515 with ha515e | ⟨_, _, ha515e⟩ <;> subst ha515e <;> kernel_rfl)) (APath.fin (by rcases hfa515 with ha515e | ⟨_, _, ha515e⟩ <;> subst ha515e <;> kernel_rfl)))))))))))))))), (by show _ = _; rcases hfa515 with ha515e | ⟨_, _, ha515e⟩ <;> subst ha515e <;> kernel_rfl)⟩
                  · obtain rfl := some_inj hj
                    exact ⟨_, (APath.chunk 2 (by rcases hfa515 with ha515e | ⟨_, _, ha515e⟩ <;> subst ha515e <;> kernel_rfl) (APath.one (.val 95 (.iaddrS 1) [.t 93, .t 94]) (by kernel_rfl) (st_val (ys := [s_eB false r1045, iv i1046]) (by rcases hfa515 with ha515e | ⟨_, _, ha515e⟩ <;> subst ha515e <;> kernel_rfl) (vexec_iaddrS eB he1548)) (APath.one (.load 96 (.t 95) 1 false) (by kernel_rfl) (st_loadP (sz := 1) (off := 0) (cs := [.bool e1548]) (r := bv e1548) eB he1548 (by rcases hfa515 with ha515e | ⟨_, _, ha515e⟩ <;> subst ha515e <;> kernel_rfl) (by rcases hfa515 with ha515e | ⟨_, _, ha515e⟩ <;> subst ha515e <;> kernel_rfl) (by rcases hfa515 with ha515e | ⟨_, _, ha515e⟩ <;> subst ha515e <;> kernel_rfl)) (APath.one (.val 97 .not [.t 96]) (by kernel_rfl) (st_bool (c := (!e1548)) (by rcases hfa515 with ha515e | ⟨_, _, ha515e⟩ <;> subst ha515e <;> kernel_rfl) hc1550) (APath.chunk 4 (by rcases hfa515 with ha515e | ⟨_, _, ha515e⟩ <;> subst ha515e <;> kernel_rfl) (APath.oneG (.val 102 (.iaddrS 1) [.t 100, .t 101]) 98 false (by kernel_rfl) (by rcases hfa515 with ha515e | ⟨_, _, ha515e⟩ <;> subst ha515e <;> kernel_rfl) (st_val (ys := [s_eB false a0_.Station, iv i1046]) (by rcases hfa515 with ha515e | ⟨_, _, ha515e⟩ <;> subst ha515e <;> kernel_rfl) (vexec_iaddrS eB he1551)) (APath.oneG (.load 103 (.t 102) 1 false) 98 false (by kernel_rfl) (by rcases hfa515 with ha515e | ⟨_, _, ha515e⟩ <;> subst ha515e <;> kernel_rfl) (AStep.bool (st_loadP (sz := 1) (off := 0) (cs := [.bool e1551]) (r := bv e1551) eB he1551 (by rcases hfa515 with ha515e | ⟨_, _, ha515e⟩ <;> subst ha515e <;> kernel_rfl) (by rcases hfa515 with ha515e | ⟨_, _, ha515e⟩ <;> subst ha515e <;> kernel_rfl) (by rcases hfa515 with ha515e | ⟨_, _, ha515e⟩ <;> subst ha515e <;> kernel_rfl)) hc1561) (APath.fin (by rcases hfa515 with ha515e | ⟨_, _, ha515e⟩ <;> subst ha515e <;> kernel_rfl))))))))), (by show _ = _; rcases hfa515 with ha515e | ⟨_, _, ha515e⟩ <;> subst ha515e <;> kernel_rfl)⟩
              · clear hj
                rintro s hR
                obtain rfl := hR
                refine vc_ite (by kernel_rfl) h (fun hc1563 h => ?_) (fun hc1563 h => ?_)
                · refine vc_seq ?_
                  refine vc_reg (S := ⟨[(2, bv false)], [], H516⟩) (APath.fin (by rcases hfa515 with ha515e | ⟨_, _, ha515e⟩ <;> subst ha515e <;> kernel_rfl)) (by rcases hfa515 with ha515e | ⟨_, _, ha515e⟩ <;> subst ha515e <;> kernel_rfl) ?_
                  replace hH : HP H516 [] := HP.pick hH [] rfl
                  refine vc_ret ?_
                  obtain rfl := some_inj h
                  exact ⟨_, rfl, rfl, ret_of (by kernel_rfl)⟩
                · refine vc_skip ?_
                  refine vc_kp ?_
                  refine vc_reg (S := ⟨[(1, .loc 1 0), (3, a515), (7, s_eB false r1045), (8, iv (w64 (i1046 + 1)))], [(1, (c_api_Topo a0_))], H516⟩) (APath.fin (by rcases hfa515 with ha515e | ⟨_, _, ha515e⟩ <;> subst ha515e <;> kernel_rfl)) (by rcases hfa515 with ha515e | ⟨_, _, ha515e⟩ <;> subst ha515e <;> kernel_rfl) ?_
                  obtain rfl := some_inj h
                  exact ⟨_, rfl, (by show _ = _; rcases hfa515 with ha515e | ⟨_, _, ha515e⟩ <;> subst ha515e <;> kernel_rfl)⟩
            · refine vc_kp ?_
              try show vc _ _ _ _ _
              replace hH : HP H516 [] := HP.pick hH [] rfl
              refine vc_exit ?_
              try show vc _ _ _ _ _
              obtain rfl := some_inj h
              exact ⟨_, rfl, rfl, (by show _ = _; kernel_rfl)⟩
          · rintro e s hq
            rcases o1564 with p1565 | p1566
            · dsimp only at h hq
              obtain ⟨rfl, hR⟩ := hq
              obtain rfl := hR
              try show vc _ _ _ _ _
              refine vc_seq ?_
              refine vc_reg (S := ⟨[(2, bv true)], [], H516⟩) (APath.fin (by kernel_rfl)) (by kernel_rfl) ?_
              refine vc_ret ?_
              obtain rfl := some_inj h
              exact ret_of (by kernel_rfl)
            · dsimp only at h hq
              obtain ⟨rfl, hq⟩ := hq
              obtain rfl := some_inj h
              exact hq
        · dsimp only at h hq
          obtain ⟨rfl, hq⟩ := hq
          obtain rfl := some_inj h
          exact hq
theorem route_walk_meets_ok (N : Nat) (a0_ : route_walk) (a1_ : (List Int)) (a2_ : (List Int)) (r : Bool) (h : route_walk_meets N a0_ a1_ a2_ = some r) : PCall Try.prog 60 [.agg (c_api_Topo a0_.Topo), s_eI64 false a1_, s_eI64 false a2_] (bv r) := by
  unfold route_walk_meets at h
  have hH : HP ([] : List HO) [] := trivial
  refine pcall_of chk60 rfl rfl (vc_sound _ _ _ ?_) rfl
  refine vc_seq ?_
  refine vc_reg (S := ⟨[(1, s_eI64 false a1_), (2, s_eI64 false a2_), (3, .loc 3 0)], [(3, (c_api_Topo a0_.Topo))], []⟩) (APath.fin (by kernel_rfl)) (by kernel_rfl) ?_
  refine vc_seq ?_
  obtain ⟨r1, hr1, h⟩ := bind_some h
  refine vc_reg (S := ⟨[(2, s_eI64 false a2_), (3, .loc 3 0), (7, s_eI64 false r1)], [(3, (c_api_Topo a0_.Topo))], []⟩) (APath.chunk 2 (by kernel_rfl) (APath.one (.call (some 14) 37 [.t 12, .t 13]) (by kernel_rfl) (st_call (by kernel_rfl) (route_walk_nodes_ok N a0_ a1_ r1 hr1)) (APath.fin (by kernel_rfl)))) (by kernel_rfl) ?_
  refine vc_seq ?_
  refine vc_reg (S := ⟨[(2, s_eI64 false a2_), (3, .loc 3 0), (7, s_eI64 false r1), (8, iv (w64 (((List.length r1 : Nat) : Int) - 1)))], [(3, (c_api_Topo a0_.Topo))], []⟩) (APath.chunk 1 (by kernel_rfl) (APath.one (.val 16 .len [.t 15]) (by kernel_rfl) (st_val (ys := [s_eI64 false r1]) (by kernel_rfl) (vexec_len eI64)) (APath.fin (by kernel_rfl)))) (by kernel_rfl) ?_
  refine vc_seq ?_
  obtain ⟨r2, hr2, h⟩ := bind_some h
  refine vc_reg (S := ⟨[(7, s_eI64 false r1), (8, iv (w64 (((List.length r1 : Nat) : Int) - 1))), (9, s_eI64 false r2)], [], []⟩) (APath.chunk 2 (by kernel_rfl) (APath.one (.call (some 20) 37 [.t 18, .t 19]) (by kernel_rfl) (st_call (by kernel_rfl) (route_walk_nodes_ok N a0_ a2_ r2 hr2)) (APath.fin (by kernel_rfl)))) (by kernel_rfl) ?_
  refine vc_seq ?_
  refine vc_seq ?_
  obtain ⟨l3, hl3, h⟩ := bind_some h
  refine vc_reg (S := ⟨[(9, s_eI64 false r2), (24, s_eI64 true l3), (25, iv ((List.length l3 : Nat) : Int)), (26, iv 0)], [], []⟩) (APath.chunk 3 (by kernel_rfl) (APath.one (.val 24 (.slice 1 true true true) [.t 21, .k (.p (.int .i64 1)), .t 22, .t 23]) (by kernel_rfl) (st_val (ys := [s_eI64 false r1, iv 1, iv (w64 (((List.length r1 : Nat) : Int) - 1)), iv (w64 (((List.length r1 : Nat) : Int) - 1))]) (by kernel_rfl) (vexec_slice3 eI64 hl3)) (APath.one (.val 25 .len [.t 24]) (by kernel_rfl) (st_val (ys := [s_eI64 true l3]) (by kernel_rfl) (vexec_len eI64)) (APath.fin (by kernel_rfl))))) (by kernel_rfl) ?_
  refine vc_block ?_
  obtain ⟨o509, ho509, h⟩ := bind_some h
  refine vc_loop ((loop_sim (fun (x : Int) s => s = ⟨[(9, s_eI64 false r2), (24, s_eI64 true l3), (25, iv ((List.length l3 : Nat) : Int)), (26, iv x)], [], []⟩) (fun x : Int => route_walk_meets_L1 N r2 l3 x) (fun (p : (Unit) ⊕ (Bool)) e s => match p with | (.inl p) => e = .exit 0 ∧ (s = ⟨[], [], []⟩) | (.inr p) => e = .ret ∧ ∃ xs, resL s i60.res = some xs ∧ tupOf xs = bv p) ?_ N _ o509 _ ho509 (by show _ = _; kernel_rfl)).mono ?_)
  · clear h ho509
    rintro i4 o s h hR
    obtain rfl := hR
    replace h : route_walk_meets_L1 N r2 l3 i4 = some o := h
    unfold route_walk_meets_L1 at h
    refine vc_seq ?_
    refine vc_reg (S := ⟨[(9, s_eI64 false r2), (24, s_eI64 true l3), (25, iv ((List.length l3 : Nat) : Int)), (26, iv i4), (27, bv (decide (i4 < ((List.length l3 : Nat) : Int))))], [], []⟩) (APath.fin (by kernel_rfl)) (by kernel_rfl) ?_
    refine vc_seq ?_
    refine vc_ite (by kernel_rfl) h (fun hc505 h => ?_) (fun hc505 h => ?_)
    · refine vc_skip ?_
      refine vc_kp ?_
      refine vc_seq ?_
      refine vc_block ?_
      refine vc_seq ?_
      obtain ⟨e506, he506, h⟩ := bind_some h
      refine vc_reg (S := ⟨[(9, s_eI64 false r2), (11, iv e506), (24, s_eI64 true l3), (25, iv ((List.length l3 : Nat) : Int)), (26, iv i4)], [], []⟩) (APath.one (.val 28 (.iaddrS 1) [.t 24, .t 26]) (by kernel_rfl) (st_val (ys := [s_eI64 true l3, iv i4]) (by kernel_rfl) (vexec_iaddrS eI64 he506)) (APath.one (.load 29 (.t 28) 1 false) (by kernel_rfl) (st_loadP (sz := 1) (off := 0) (cs := [.int .i64 e506]) (r := iv e506) eI64 he506 (by kernel_rfl) (by kernel_rfl) (by kernel_rfl)) (APath.fin (by kernel_rfl)))) (by kernel_rfl) ?_
      refine vc_seq ?_
      obtain ⟨r507, hr507, h⟩ := bind_some h
      refine vc_reg (S := ⟨[(9, s_eI64 false r2), (24, s_eI64 true l3), (25, iv ((List.length l3 : Nat) : Int)), (26, iv i4), (32, bv r507)], [], []⟩) (APath.chunk 2 (by kernel_rfl) (APath.one (.call (some 32) 77 [.t 30, .t 31]) (by kernel_rfl) (st_call (by kernel_rfl) (slices_Contains__int_int_ok N r2 e506 r507 hr507)) APath.done)) (by kernel_rfl) ?_
      refine vc_ite (by kernel_rfl) h (fun hc508 h => ?_) (fun hc508 h => ?_)
      · refine vc_seq ?_
        refine vc_reg (S := ⟨[(6, bv true)], [], []⟩) (APath.fin (by kernel_rfl)) (by kernel_rfl) ?_
        refine vc_ret ?_
        obtain rfl := some_inj h
        exact ⟨_, rfl, rfl, ret_of (by kernel_rfl)⟩
      · refine vc_skip ?_
        refine vc_kp ?_
        refine vc_reg (S := ⟨[(9, s_eI64 false r2), (24, s_eI64 true l3), (25, iv ((List.length l3 : Nat) : Int)), (26, iv (w64 (i4 + 1)))], [], []⟩) (APath.fin (by kernel_rfl)) (by kernel_rfl) ?_
        obtain rfl := some_inj h
        exact ⟨_, rfl, (by show _ = _; kernel_rfl)⟩
    · refine vc_kp ?_
      try show vc _ _ _ _ _
      refine vc_exit ?_
      try show vc _ _ _ _ _
      obtain rfl := some_inj h
      exact ⟨_, rfl, rfl, (by show _ = _; kernel_rfl)⟩
  · rintro e s hq
    rcases o509 with p510 | p511
    · dsimp only at h hq
      obtain ⟨rfl, hR⟩ := hq
      obtain rfl := hR
      try show vc _ _ _ _ _
      refine vc_seq ?_
      refine vc_reg (S := ⟨[(6, bv false)], [], []⟩) (APath.fin (by kernel_rfl)) (by kernel_rfl) ?_
      refine vc_ret ?_
      obtain rfl := some_inj h
      exact ret_of (by kernel_rfl)
    · dsimp only at h hq
      obtain ⟨rfl, hq⟩ := hq
      obtain rfl := some_inj h
      exact hq
theorem topo_sound_ok (N : Nat) (a0_ : api_Topo) (r : Bool) (h : topo_sound N a0_ = some r) : PCall Try.prog 74 [.agg (c_api_Topo a0_)] (bv r) := by
  unfold topo_sound at h
  have hH : HP ([] : List HO) [] := trivial
  refine pcall_of chk74 rfl rfl (vc_sound _ _ _ ?_) rfl
  refine vc_seq ?_
  obtain ⟨id1, H2, hid1, hH2, hH⟩ := HP.newCell hH (c_api_Topo a0_)
  replace hH : HP H2 [.cel id1 (c_api_Topo a0_)] := hH
  refine vc_reg (S := ⟨[(1, .ptr id1 0)], [], H2⟩) (APath.one (.boxH 1 (.t 0)) (by kernel_rfl) (st_boxH (H := []) (v := .agg (c_api_Topo a0_)) (by kernel_rfl) (by kernel_rfl) (by kernel_rfl) hid1 hH2) (APath.fin (by kernel_rfl))) (by kernel_rfl) ?_
  refine vc_seq ?_
  refine vc_reg (S := ⟨[(1, .ptr id1 0), (3, .loc 3 0)], [(3, [.fn 82 [] [.ptr id1 0], .fn 84 [] [.ptr id1 0], .fn 85 [] [.ptr id1 0], .fn 86 [] [.ptr id1 0]])], H2⟩) (APath.fin (by kernel_rfl)) (by kernel_rfl) ?_
  refine vc_seq ?_
  refine vc_seq ?_
  have hlc3 := HP.get hH 0 rfl
  refine vc_reg (S := ⟨[(3, .loc 3 0), (14, iv ((List.length a0_.Links : Nat) : Int)), (15, iv 0)], [(3, [.fn 82 [] [.ptr id1 0], .fn 84 [] [.ptr id1 0], .fn 85 [] [.ptr id1 0], .fn 86 [] [.ptr id1 0]])], H2⟩) (APath.chunk 1 (by kernel_rfl) (APath.one (.load 13 (.t 12) 1 false) (by kernel_rfl) (st_loadC (H := H2) (id := id1) (off := 2) (cs := (c_api_Topo a0_)) (c := [s_e_api_Link false a0_.Links]) (r := s_e_api_Link false a0_.Links) (by kernel_rfl) (by kernel_rfl) hlc3 (by kernel_rfl) (by kernel_rfl) (by kernel_rfl)) (APath.one (.val 14 .len [.t 13]) (by kernel_rfl) (st_val (ys := [s_e_api_Link false a0_.Links]) (by kernel_rfl) (vexec_len e_api_Link)) (APath.fin (by kernel_rfl))))) (by kernel_rfl) ?_
  refine vc_block ?_
  obtain ⟨o514, ho514, h⟩ := bind_some h
  refine vc_loop ((loop_sim (fun (x : Int) s => s = ⟨[(3, .loc 3 0), (14, iv ((List.length a0_.Links : Nat) : Int)), (15, iv x)], [(3, [.fn 82 [] [.ptr id1 0], .fn 84 [] [.ptr id1 0], .fn 85 [] [.ptr id1 0], .fn 86 [] [.ptr id1 0]])], H2⟩) (fun x : Int => topo_sound_L1 N a0_ x) (fun (p : (Unit) ⊕ (Bool)) e s => match p with | (.inl p) => e = .exit 0 ∧ (s = ⟨[], [], H2⟩) | (.inr p) => e = .ret ∧ ∃ xs, resL s i74.res = some xs ∧ tupOf xs = bv p) ?_ N _ o514 _ ho514 (by show _ = _; kernel_rfl)).mono ?_)
  · clear h ho514
    rintro i4 o s h hR
    obtain rfl := hR
    replace h : topo_sound_L1 N a0_ i4 = some o := h
    unfold topo_sound_L1 at h
    refine vc_seq ?_
    refine vc_reg (S := ⟨[(3, .loc 3 0), (14, iv ((List.length a0_.Links : Nat) : Int)), (15, iv i4), (16, bv (decide (i4 < ((List.length a0_.Links : Nat) : Int))))], [(3, [.fn 82 [] [.ptr id1 0], .fn 84 [] [.ptr id1 0], .fn 85 [] [.ptr id1 0], .fn 86 [] [.ptr id1 0]])], H2⟩) (APath.fin (by kernel_rfl)) (by kernel_rfl) ?_
    refine vc_seq ?_
    refine vc_ite (by kernel_rfl) h (fun hc505 h => ?_) (fun hc505 h => ?_)
    · refine vc_skip ?_
      refine vc_kp ?_
      refine vc_seq ?_
      refine vc_block ?_
      refine vc_seq ?_
      refine vc_reg (S := ⟨[(3, .loc 3 0), (4, iv i4), (14, iv ((List.length a0_.Links : Nat) : Int)), (15, iv i4)], [(3, [.fn 82 [] [.ptr id1 0], .fn 84 [] [.ptr id1 0], .fn 85 [] [.ptr id1 0], .fn 86 [] [.ptr id1 0]])], H2⟩) (APath.fin (by kernel_rfl)) (by kernel_rfl) ?_
      refine vc_seq ?_
      refine vc_reg (S := ⟨[(3, .loc 3 0), (4, iv i4), (14, iv ((List.length a0_.Links : Nat) : Int)), (15, iv i4), (18, .agg [.fn 82 [] [.ptr id1 0], .fn 84 [] [.ptr id1 0], .fn 85 [] [.ptr id1 0], .fn 86 [] [.ptr id1 0]]), (19, iv 0)], [(3, [.fn 82 [] [.ptr id1 0], .fn 84 [] [.ptr id1 0], .fn 85 [] [.ptr id1 0], .fn 86 [] [.ptr id1 0]])], H2⟩) (APath.fin (by kernel_rfl)) (by kernel_rfl) ?_
      refine vc_block ?_
      refine vc_unroll 18 ?_
      refine unr_step ?_
      refine vc_seq ?_
      refine vc_reg (S := ⟨[(3, .loc 3 0), (4, iv i4), (14, iv ((List.length a0_.Links : Nat) : Int)), (15, iv i4), (18, .agg [.fn 82 [] [.ptr id1 0], .fn 84 [] [.ptr id1 0], .fn 85 [] [.ptr id1 0], .fn 86 [] [.ptr id1 0]]), (19, iv 0), (20, bv true)], [(3, [.fn 82 [] [.ptr id1 0], .fn 84 [] [.ptr id1 0], .fn 85 [] [.ptr id1 0], .fn 86 [] [.ptr id1 0]])], H2⟩) (APath.fin (by kernel_rfl)) (by kernel_rfl) ?_
      refine vc_seq ?_
      refine vc_true (by kernel_rfl) ?_
      refine vc_skip ?_
      refine vc_kp ?_
      refine vc_seq ?_
      refine vc_block ?_
      refine vc_seq ?_
      refine vc_reg (S := ⟨[(3, .loc 3 0), (4, iv i4), (6, .fn 82 [] [.ptr id1 0]), (14, iv ((List.length a0_.Links : Nat) : Int)), (15, iv i4), (18, .agg [.fn 82 [] [.ptr id1 0], .fn 84 [] [.ptr id1 0], .fn 85 [] [.ptr id1 0], .fn 86 [] [.ptr id1 0]]), (19, iv 0)], [(3, [.fn 82 [] [.ptr id1 0], .fn 84 [] [.ptr id1 0], .fn 85 [] [.ptr id1 0], .fn 86 [] [.ptr id1 0]])], H2⟩) (APath.fin (by kernel_rfl)) (by kernel_rfl) ?_
      refine vc_seq ?_
      obtain ⟨r506, hr506, h⟩ := bind_some h
      have hvr506 := (topo_sound_1_ok N i4 a0_ id1 H2 (HP.now (HP.pick hH [0] rfl)) r506 hr506)
      refine vc_reg (S := ⟨[(3, .loc 3 0), (4, iv i4), (14, iv ((List.length a0_.Links : Nat) : Int)), (15, iv i4), (18, .agg [.fn 82 [] [.ptr id1 0], .fn 84 [] [.ptr id1 0], .fn 85 [] [.ptr id1 0], .fn 86 [] [.ptr id1 0]]), (19, iv 0), (25, bv (!r506))], [(3, [.fn 82 [] [.ptr id1 0], .fn 84 [] [.ptr id1 0], .fn 85 [] [.ptr id1 0], .fn 86 [] [.ptr id1 0]])], H2⟩) (APath.chunk 2 (by kernel_rfl) (APath.one (.callV (some 24) (.t 22) [.t 23]) (by kernel_rfl) (st_callV (H := H2) (fv := .fn 82 [] [.ptr id1 0]) (ys := [iv i4]) (by kernel_rfl) (by kernel_rfl) (by kernel_rfl) (VCall.of (by kernel_rfl) hvr506)) (APath.fin (by kernel_rfl)))) (by kernel_rfl) ?_
      refine vc_ite (by kernel_rfl) h (fun hc507 h => ?_) (fun hc507 h => ?_)
      · refine vc_seq ?_
        refine vc_reg (S := ⟨[(2, bv false)], [], H2⟩) (APath.fin (by kernel_rfl)) (by kernel_rfl) ?_
        replace hH : HP H2 [] := HP.pick hH [] rfl
        refine vc_ret ?_
        obtain rfl := some_inj h
        exact ⟨_, rfl, rfl, ret_of (by kernel_rfl)⟩
      · refine vc_skip ?_
        refine vc_kp ?_
        refine vc_reg (S := ⟨[(3, .loc 3 0), (4, iv i4), (14, iv ((List.length a0_.Links : Nat) : Int)), (15, iv i4), (18, .agg [.fn 82 [] [.ptr id1 0], .fn 84 [] [.ptr id1 0], .fn 85 [] [.ptr id1 0], .fn 86 [] [.ptr id1 0]]), (19, iv 1)], [(3, [.fn 82 [] [.ptr id1 0], .fn 84 [] [.ptr id1 0], .fn 85 [] [.ptr id1 0], .fn 86 [] [.ptr id1 0]])], H2⟩) (APath.fin (by kernel_rfl)) (by kernel_rfl) ?_
        refine unr_step ?_
        refine vc_seq ?_
        refine vc_reg (S := ⟨[(3, .loc 3 0), (4, iv i4), (14, iv ((List.length a0_.Links : Nat) : Int)), (15, iv i4), (18, .agg [.fn 82 [] [.ptr id1 0], .fn 84 [] [.ptr id1 0], .fn 85 [] [.ptr id1 0], .fn 86 [] [.ptr id1 0]]), (19, iv 1), (20, bv true)], [(3, [.fn 82 [] [.ptr id1 0], .fn 84 [] [.ptr id1 0], .fn 85 [] [.ptr id1 0], .fn 86 [] [.ptr id1 0]])], H2⟩) (APath.fin (by kernel_rfl)) (by kernel_rfl) ?_
        refine vc_seq ?_
        refine vc_true (by kernel_rfl) ?_
        refine vc_skip ?_
        refine vc_kp ?_
        refine vc_seq ?_
        refine vc_block ?_
        refine vc_seq ?_
        refine vc_reg (S := ⟨[(3, .loc 3 0), (4, iv i4), (6, .fn 84 [] [.ptr id1 0]), (14, iv ((List.length a0_.Links : Nat) : Int)), (15, iv i4), (18, .agg [.fn 82 [] [.ptr id1 0], .fn 84 [] [.ptr id1 0], .fn 85 [] [.ptr id1 0], .fn 86 [] [.ptr id1 0]]), (19, iv 1)], [(3, [.fn 82 [] [.ptr id1 0], .fn 84 [] [.ptr id1 0], .fn 85 [] [.ptr id1 0], .fn 86 [] [.ptr id1 0]])], H2⟩) (APath.fin (by kernel_rfl)) (by kernel_rfl) ?_
        refine vc_seq ?_
        obtain ⟨r508, hr508, h⟩ := bind_some h
        have hvr508 := (topo_sound_2_ok N i4 a0_ id1 H2 (HP.now (HP.pick hH [0] rfl)) r508 hr508)
        refine vc_reg (S := ⟨[(3, .loc 3 0), (4, iv i4), (14, iv ((List.length a0_.Links : Nat) : Int)), (15, iv i4), (18, .agg [.fn 82 [] [.ptr id1 0], .fn 84 [] [.ptr id1 0], .fn 85 [] [.ptr id1 0], .fn 86 [] [.ptr id1 0]]), (19, iv 1), (25, bv (!r508))], [(3, [.fn 82 [] [.ptr id1 0], .fn 84 [] [.ptr id1 0], .fn 85 [] [.ptr id1 0], .fn 86 [] [.ptr id1 0]])], H2⟩) (APath.chunk 2 (by kernel_rfl) (APath.one (.callV (some 24) (.t 22) [.t 23]) (by kernel_rfl) (st_callV (H := H2) (fv := .fn 84 [] [.ptr id1 0]) (ys := [iv i4]) (by kernel_rfl) (by kernel_rfl) (by kernel_rfl) (VCall.of (by kernel_rfl) hvr508)) (APath.fin (by kernel_rfl)))) (by kernel_rfl) ?_
        refine vc_ite (by kernel_rfl) h (fun hc509 h => ?_) (fun hc509 h => ?_)
        · refine vc_seq ?_
          refine vc_reg (S := ⟨[(2, bv false)], [], H2⟩) (APath.fin (by kernel_rfl)) (by kernel_rfl) ?_
          replace hH : HP H2 [] := HP.pick hH [] rfl
          refine vc_ret ?_
          obtain rfl := some_inj h
          exact ⟨_, rfl, rfl, ret_of (by kernel_rfl)⟩
        · refine vc_skip ?_
          refine vc_kp ?_
          refine vc_reg (S := ⟨[(3, .loc 3 0), (4, iv i4), (14, iv ((List.length a0_.Links : Nat) : Int)), (15, iv i4), (18, .agg [.fn 82 [] [.ptr id1 0], .fn 84 [] [.ptr id1 0], .fn 85 [] [.ptr id1 0], .fn 86 [] [.ptr id1 0]]), (19, iv 2)], [(3, [.fn 82 [] [.ptr id1 0], .fn 84 [] [.ptr id1 0], .fn 85 [] [.ptr id1 0], .fn 86 [] [.ptr id1 0]])], H2⟩) (APath.fin (by kernel_rfl)) (by kernel_rfl) ?_
          refine unr_step ?_
          refine vc_seq ?_
          refine vc_reg (S := ⟨[(3, .loc 3 0), (4, iv i4), (14, iv ((List.length a0_.Links : Nat) : Int)), (15, iv i4), (18, .agg [.fn 82 [] [.ptr id1 0], .fn 84 [] [.ptr id1 0], .fn 85 [] [.ptr id1 0], .fn 86 [] [.ptr id1 0]]), (19, iv 2), (20, bv true)], [(3, [.fn 82 [] [.ptr id1 0], .fn 84 [] [.ptr id1 0], .fn 85 [] [.ptr id1 0], .fn 86 [] [.ptr id1 0]])], H2⟩) (APath.fin (by kernel_rfl)) (by kernel_rfl) ?_
          refine vc_seq ?_
          refine vc_true (by kernel_rfl) ?_
          refine vc_skip ?_
          refine vc_kp ?_
          refine vc_seq ?_
          refine vc_block ?_
          refine vc_seq ?_
          refine vc_reg (S := ⟨[(3, .loc 3 0), (4, iv i4), (6, .fn 85 [] [.ptr id1 0]), (14, iv ((List.length a0_.Links : Nat) : Int)), (15, iv i4), (18, .agg [.fn 82 [] [.ptr id1 0], .fn 84 [] [.ptr id1 0], .fn 85 [] [.ptr id1 0], .fn 86 [] [.ptr id1 0]]), (19, iv 2)], [(3, [.fn 82 [] [.ptr id1 0], .fn 84 [] [.ptr id1 0], .fn 85 [] [.ptr id1 0], .fn 86 [] [.ptr id1 0]])], H2⟩) (APath.fin (by kernel_rfl)) (by kernel_rfl) ?_
          refine vc_seq ?_
          obtain ⟨r510, hr510, h⟩ := bind_some h
          have hvr510 := (topo_sound_3_ok N i4 a0_ id1 H2 (HP.now (HP.pick hH [0] rfl)) r510 hr510)
          refine vc_reg (S := ⟨[(3, .loc 3 0), (4, iv i4), (14, iv ((List.length a0_.Links : Nat) : Int)), (15, iv i4), (18, .agg [.fn 82 [] [.ptr id1 0], .fn 84 [] [.ptr id1 0], .fn 85 [] [.ptr id1 0], .fn 86 [] [.ptr id1 0]]), (19, iv 2), (25, bv (!r510))], [(3, [.fn 82 [] [.ptr id1 0], .fn 84 [] [.ptr id1 0], .fn 85 [] [.ptr id1 0], .fn 86 [] [.ptr id1 0]])], H2⟩) (APath.chunk 2 (by kernel_rfl) (APath.one (.callV (some 24) (.t 22) [.t 23]) (by kernel_rfl) (st_callV (H := H2) (fv := .fn 85 [] [.ptr id1 0]) (ys := [iv i4]) (by kernel_rfl) (by kernel_rfl) (by kernel_rfl) (VCall.of (by kernel_rfl) hvr510)) (APath.fin (by kernel_rfl)))) (by kernel_rfl) ?_
          refine vc_ite (by kernel_rfl) h (fun hc511 h => ?_) (fun hc511 h => ?_)
          · refine vc_seq ?_
            refine vc_reg (S := ⟨[(2, bv false)], [], H2⟩) (APath.fin (by kernel_rfl)) (by kernel_rfl) ?_
            replace hH : HP H2 [] := HP.pick hH [] rfl
            refine vc_ret ?_
            obtain rfl := some_inj h
            exact ⟨_, rfl, rfl, ret_of (by kernel_rfl)⟩
          · refine vc_skip ?_
            refine vc_kp ?_
            refine vc_reg (S := ⟨[(3, .loc 3 0), (4, iv i4), (14, iv ((List.length a0_.Links : Nat) : Int)), (15, iv i4), (18, .agg [.fn 82 [] [.ptr id1 0], .fn 84 [] [.ptr id1 0], .fn 85 [] [.ptr id1 0], .fn 86 [] [.ptr id1 0]]), (19, iv 3)], [(3, [.fn 82 [] [.ptr id1 0], .fn 84 [] [.ptr id1 0], .fn 85 [] [.ptr id1 0], .fn 86 [] [.ptr id1 0]])], H2⟩) (APath.fin (by kernel_rfl)) (by kernel_rfl) ?_
            refine unr_step ?_
            refine vc_seq ?_
            refine vc_reg (S := ⟨[(3, .loc 3 0), (4, iv i4), (14, iv ((List.length a0_.Links : Nat) : Int)), (15, iv i4), (18, .agg [.fn 82 [] [.ptr id1 0], .fn 84 [] [.ptr id1 0], .fn 85 [] [.ptr id1 0], .fn 86 [] [.ptr id1 0]]), (19, iv 3), (20, bv true)], [(3, [.fn 82 [] [.ptr id1 0], .fn 84 [] [.ptr id1 0], .fn 85 [] [.ptr id1 0], .fn 86 [] [.ptr id1 0]])], H2⟩) (APath.fin (by kernel_rfl)) (by kernel_rfl) ?_
            refine vc_seq ?_
            refine vc_true (by kernel_rfl) ?_
            refine vc_skip ?_
            refine vc_kp ?_
            refine vc_seq ?_
            refine vc_block ?_
            refine vc_seq ?_
            refine vc_reg (S := ⟨[(3, .loc 3 0), (4, iv i4), (6, .fn 86 [] [.ptr id1 0]), (14, iv ((List.length a0_.Links : Nat) : Int)), (15, iv i4), (18, .agg [.fn 82 [] [.ptr id1 0], .fn 84 [] [.ptr id1 0], .fn 85 [] [.ptr id1 0], .fn 86 [] [.ptr id1 0]]), (19, iv 3)], [(3, [.fn 82 [] [.ptr id1 0], .fn 84 [] [.ptr id1 0], .fn 85 [] [.ptr id1 0], .fn 86 [] [.ptr id1 0]])], H2⟩) (APath.fin (by kernel_rfl)) (by kernel_rfl) ?_
            refine vc_seq ?_
            obtain ⟨r512, hr512, h⟩ := bind_some h
            have hvr512 := (topo_sound_4_ok N i4 a0_ id1 H2 (HP.now (HP.pick hH [0] rfl)) r512 hr512)
            refine vc_reg (S := ⟨[(3, .loc 3 0), (4, iv i4), (14, iv ((List.length a0_.Links : Nat) : Int)), (15, iv i4), (18, .agg [.fn 82 [] [.ptr id1 0], .fn 84 [] [.ptr id1 0], .fn 85 [] [.ptr id1 0], .fn 86 [] [.ptr id1 0]]), (19, iv 3), (25, bv (!r512))], [(3, [.fn 82 [] [.ptr id1 0], .fn 84 [] [.ptr id1 0], .fn 85 [] [.ptr id1 0], .fn 86 [] [.ptr id1 0]])], H2⟩) (APath.chunk 2 (by kernel_rfl) (APath.one (.callV (some 24) (.t 22) [.t 23]) (by kernel_rfl) (st_callV (H := H2) (fv := .fn 86 [] [.ptr id1 0]) (ys := [iv i4]) (by kernel_rfl) (by kernel_rfl) (by kernel_rfl) (VCall.of (by kernel_rfl) hvr512)) (APath.fin (by kernel_rfl)))) (by kernel_rfl) ?_
            refine vc_ite (by kernel_rfl) h (fun hc513 h => ?_) (fun hc513 h => ?_)
            · refine vc_seq ?_
              refine vc_reg (S := ⟨[(2, bv false)], [], H2⟩) (APath.fin (by kernel_rfl)) (by kernel_rfl) ?_
              replace hH : HP H2 [] := HP.pick hH [] rfl
              refine vc_ret ?_
              obtain rfl := some_inj h
              exact ⟨_, rfl, rfl, ret_of (by kernel_rfl)⟩
            · refine vc_skip ?_
              refine vc_kp ?_
              refine vc_reg (S := ⟨[(3, .loc 3 0), (4, iv i4), (14, iv ((List.length a0_.Links : Nat) : Int)), (15, iv i4), (18, .agg [.fn 82 [] [.ptr id1 0], .fn 84 [] [.ptr id1 0], .fn 85 [] [.ptr id1 0], .fn 86 [] [.ptr id1 0]]), (19, iv 4)], [(3, [.fn 82 [] [.ptr id1 0], .fn 84 [] [.ptr id1 0], .fn 85 [] [.ptr id1 0], .fn 86 [] [.ptr id1 0]])], H2⟩) (APath.fin (by kernel_rfl)) (by kernel_rfl) ?_
              refine unr_step ?_
              refine vc_seq ?_
              refine vc_reg (S := ⟨[(3, .loc 3 0), (4, iv i4), (14, iv ((List.length a0_.Links : Nat) : Int)), (15, iv i4), (18, .agg [.fn 82 [] [.ptr id1 0], .fn 84 [] [.ptr id1 0], .fn 85 [] [.ptr id1 0], .fn 86 [] [.ptr id1 0]]), (19, iv 4), (20, bv false)], [(3, [.fn 82 [] [.ptr id1 0], .fn 84 [] [.ptr id1 0], .fn 85 [] [.ptr id1 0], .fn 86 [] [.ptr id1 0]])], H2⟩) (APath.fin (by kernel_rfl)) (by kernel_rfl) ?_
              refine vc_seq ?_
              refine vc_false (by kernel_rfl) ?_
              refine vc_kp ?_
              try show vc _ _ _ _ _
              refine vc_exit ?_
              try show vc _ _ _ _ _
              refine vc_reg (S := ⟨[(3, .loc 3 0), (14, iv ((List.length a0_.Links : Nat) : Int)), (15, iv (w64 (i4 + 1)))], [(3, [.fn 82 [] [.ptr id1 0], .fn 84 [] [.ptr id1 0], .fn 85 [] [.ptr id1 0], .fn 86 [] [.ptr id1 0]])], H2⟩) (APath.fin (by kernel_rfl)) (by kernel_rfl) ?_
              obtain rfl := some_inj h
              exact ⟨_, rfl, (by show _ = _; kernel_rfl)⟩
    · refine vc_kp ?_
      try show vc _ _ _ _ _
      replace hH : HP H2 [] := HP.pick hH [] rfl
      refine vc_exit ?_
      try show vc _ _ _ _ _
      obtain rfl := some_inj h
      exact ⟨_, rfl, rfl, (by show _ = _; kernel_rfl)⟩
  · rintro e s hq
    rcases o514 with p515 | p516
    · dsimp only at h hq
      obtain ⟨rfl, hR⟩ := hq
      obtain rfl := hR
      try show vc _ _ _ _ _
      refine vc_seq ?_
      refine vc_reg (S := ⟨[(2, bv true)], [], H2⟩) (APath.fin (by kernel_rfl)) (by kernel_rfl) ?_
      refine vc_ret ?_
      obtain rfl := some_inj h
      exact ret_of (by kernel_rfl)
    · dsimp only at h hq
      obtain ⟨rfl, hq⟩ := hq
      obtain rfl := some_inj h
      exact hq
theorem law21_want_ok (N : Nat) (a0_ : api_Topo) (a1_ : (List (List Int))) (r : Int) (h : law21_want N a0_ a1_ = some r) : PCall Try.prog 18 [.agg (c_api_Topo a0_), s_eSl_1_eI64 false a1_] (iv r) := by
  unfold law21_want at h
  have hH : HP ([] : List HO) [] := trivial
  refine pcall_of chk18 rfl rfl (vc_sound _ _ _ ?_) rfl
  refine vc_seq ?_
  refine vc_reg (S := ⟨[(1, s_eSl_1_eI64 false a1_), (2, .loc 2 0)], [(2, (c_api_Topo a0_))], []⟩) (APath.fin (by kernel_rfl)) (by kernel_rfl) ?_
  refine vc_seq ?_
  refine vc_seq ?_
  obtain ⟨r1, hr1, h⟩ := bind_some h
  refine vc_reg (S := ⟨[(1, s_eSl_1_eI64 false a1_), (2, .loc 2 0), (9, bv (!r1))], [(2, (c_api_Topo a0_))], []⟩) (APath.chunk 1 (by kernel_rfl) (APath.one (.call (some 8) 48 [.t 7]) (by kernel_rfl) (st_call (by kernel_rfl) (ref16_Right_ok N a0_ r1 hr1)) (APath.fin (by kernel_rfl)))) (by kernel_rfl) ?_
  refine vc_ite (by kernel_rfl) h (fun hc2 h => ?_) (fun hc2 h => ?_)
  · refine vc_seq ?_
    refine vc_reg (S := ⟨[(4, iv 260)], [], []⟩) (APath.fin (by kernel_rfl)) (by kernel_rfl) ?_
    refine vc_ret ?_
    obtain rfl := some_inj h
    exact ret_of (by kernel_rfl)
  · refine vc_skip ?_
    refine vc_kp ?_
    refine vc_seq ?_
    refine vc_seq ?_
    refine vc_reg (S := ⟨[(2, .loc 2 0), (10, s_eSl_1_eI64 false a1_), (11, iv ((List.length a1_ : Nat) : Int)), (12, iv 0)], [(2, (c_api_Topo a0_))], []⟩) (APath.chunk 1 (by kernel_rfl) (APath.one (.val 11 .len [.t 10]) (by kernel_rfl) (st_val (ys := [s_eSl_1_eI64 false a1_]) (by kernel_rfl) (vexec_len (eSl 1 eI64))) (APath.fin (by kernel_rfl)))) (by kernel_rfl) ?_
    refine vc_block ?_
    obtain ⟨o508, ho508, h⟩ := bind_some h
    refine vc_loop ((loop_sim (fun (x : Int) s => s = ⟨[(2, .loc 2 0), (10, s_eSl_1_eI64 false a1_), (11, iv ((List.length a1_ : Nat) : Int)), (12, iv x)], [(2, (c_api_Topo a0_))], []⟩) (fun x : Int => law21_want_L1 N a0_ a1_ x) (fun (p : (Unit) ⊕ (Int)) e s => match p with | (.inl p) => e = .exit 0 ∧ (s = ⟨[], [], []⟩) | (.inr p) => e = .ret ∧ ∃ xs, resL s i18.res = some xs ∧ tupOf xs = iv p) ?_ N _ o508 _ ho508 (by show _ = _; kernel_rfl)).mono ?_)
    · clear h ho508
      rintro i3 o s h hR
      obtain rfl := hR
      replace h : law21_want_L1 N a0_ a1_ i3 = some o := h
      unfold law21_want_L1 at h
      refine vc_seq ?_
      refine vc_reg (S := ⟨[(2, .loc 2 0), (10, s_eSl_1_eI64 false a1_), (11, iv ((List.length a1_ : Nat) : Int)), (12, iv i3), (13, bv (decide (i3 < ((List.length a1_ : Nat) : Int))))], [(2, (c_api_Topo a0_))], []⟩) (APath.fin (by kernel_rfl)) (by kernel_rfl) ?_
      refine vc_seq ?_
      refine vc_ite (by kernel_rfl) h (fun hc504 h => ?_) (fun hc504 h => ?_)
      · refine vc_skip ?_
        refine vc_kp ?_
        refine vc_seq ?_
        refine vc_block ?_
        refine vc_seq ?_
        obtain ⟨e505, he505, h⟩ := bind_some h
        refine vc_reg (S := ⟨[(2, .loc 2 0), (6, s_eI64 false e505), (10, s_eSl_1_eI64 false a1_), (11, iv ((List.length a1_ : Nat) : Int)), (12, iv i3)], [(2, (c_api_Topo a0_))], []⟩) (APath.one (.val 14 (.iaddrS 1) [.t 10, .t 12]) (by kernel_rfl) (st_val (ys := [s_eSl_1_eI64 false a1_, iv i3]) (by kernel_rfl) (vexec_iaddrS (eSl 1 eI64) he505)) (APath.one (.load 15 (.t 14) 1 false) (by kernel_rfl) (st_loadP (sz := 1) (off := 0) (cs := [.sl 1 false (List.map eI64 e505)]) (r := s_eI64 false e505) (eSl 1 eI64) he505 (by kernel_rfl) (by kernel_rfl) (by kernel_rfl)) (APath.fin (by kernel_rfl)))) (by kernel_rfl) ?_
        refine vc_seq ?_
        obtain ⟨r506, hr506, h⟩ := bind_some h
        refine vc_reg (S := ⟨[(2, .loc 2 0), (10, s_eSl_1_eI64 false a1_), (11, iv ((List.length a1_ : Nat) : Int)), (12, iv i3), (19, bv (!r506))], [(2, (c_api_Topo a0_))], []⟩) (APath.chunk 2 (by kernel_rfl) (APath.one (.call (some 18) 49 [.t 16, .t 17]) (by kernel_rfl) (st_call (by kernel_rfl) (ref21_Right_ok N a0_ e505 r506 hr506)) (APath.fin (by kernel_rfl)))) (by kernel_rfl) ?_
        refine vc_ite (by kernel_rfl) h (fun hc507 h => ?_) (fun hc507 h => ?_)
        · refine vc_seq ?_
          refine vc_reg (S := ⟨[(4, iv 310)], [], []⟩) (APath.fin (by kernel_rfl)) (by kernel_rfl) ?_
          refine vc_ret ?_
          obtain rfl := some_inj h
          exact ⟨_, rfl, rfl, ret_of (by kernel_rfl)⟩
        · refine vc_skip ?_
          refine vc_kp ?_
          refine vc_reg (S := ⟨[(2, .loc 2 0), (10, s_eSl_1_eI64 false a1_), (11, iv ((List.length a1_ : Nat) : Int)), (12, iv (w64 (i3 + 1)))], [(2, (c_api_Topo a0_))], []⟩) (APath.fin (by kernel_rfl)) (by kernel_rfl) ?_
          obtain rfl := some_inj h
          exact ⟨_, rfl, (by show _ = _; kernel_rfl)⟩
      · refine vc_kp ?_
        try show vc _ _ _ _ _
        refine vc_exit ?_
        try show vc _ _ _ _ _
        obtain rfl := some_inj h
        exact ⟨_, rfl, rfl, (by show _ = _; kernel_rfl)⟩
    · rintro e s hq
      rcases o508 with p509 | p510
      · dsimp only at h hq
        obtain ⟨rfl, hR⟩ := hq
        obtain rfl := hR
        try show vc _ _ _ _ _
        refine vc_seq ?_
        refine vc_reg (S := ⟨[(4, iv 0)], [], []⟩) (APath.fin (by kernel_rfl)) (by kernel_rfl) ?_
        refine vc_ret ?_
        obtain rfl := some_inj h
        exact ret_of (by kernel_rfl)
      · dsimp only at h hq
        obtain ⟨rfl, hq⟩ := hq
        obtain rfl := some_inj h
        exact hq
theorem topo_Check_ok (N : Nat) (a0_ : api_Topo) (r : Int) (h : topo_Check N a0_ = some r) : PCall Try.prog 50 [.agg (c_api_Topo a0_)] (iv r) := by
  unfold topo_Check at h
  have hH : HP ([] : List HO) [] := trivial
  refine pcall_of chk50 rfl rfl (vc_sound _ _ _ ?_) rfl
  refine vc_seq ?_
  refine vc_reg (S := ⟨[(1, .loc 1 0)], [(1, (c_api_Topo a0_))], []⟩) (APath.fin (by kernel_rfl)) (by kernel_rfl) ?_
  refine vc_seq ?_
  refine vc_seq ?_
  refine vc_regX ⟨[(1, .loc 1 0), (23, bv ((decide (a0_.Nodes < 2)) || ((decide (a0_.Nodes > 12)) || (((List.length a0_.Station : Nat) : Int) != a0_.Nodes))))], [(1, (c_api_Topo a0_))], []⟩ ?_ ?_
  · rcases Bool.eq_false_or_eq_true (decide (a0_.Nodes < 2)) with hc1 | hc2
    · exact ⟨_, (APath.chunk 2 (by kernel_rfl) (APath.one (.val 10 (.bin .lss) [.t 9, .k (.p (.int .i64 2))]) (by kernel_rfl) (st_bool (c := (decide (a0_.Nodes < 2))) (by kernel_rfl) hc1) (APath.fin (by kernel_rfl)))), by simp only [hc1]; kernel_rfl⟩
    · rcases Bool.eq_false_or_eq_true (decide (a0_.Nodes > 12)) with hc3 | hc4
      · exact ⟨_, (APath.chunk 2 (by kernel_rfl) (APath.one (.val 10 (.bin .lss) [.t 9, .k (.p (.int .i64 2))]) (by kernel_rfl) (st_bool (c := (decide (a0_.Nodes < 2))) (by kernel_rfl) hc2) (APath.chunk 3 (by kernel_rfl) (APath.oneG (.val 14 (.bin .gtr) [.t 13, .k (.p (.int .i64 12))]) 11 false (by kernel_rfl) (by kernel_rfl) (st_bool (c := (decide (a0_.Nodes > 12))) (by kernel_rfl) hc3) (APath.fin (by kernel_rfl)))))), by simp only [hc2, hc3]; kernel_rfl⟩
      · exact ⟨_, (APath.chunk 2 (by kernel_rfl) (APath.one (.val 10 (.bin .lss) [.t 9, .k (.p (.int .i64 2))]) (by kernel_rfl) (st_bool (c := (decide (a0_.Nodes < 2))) (by kernel_rfl) hc2) (APath.chunk 3 (by kernel_rfl) (APath.oneG (.val 14 (.bin .gtr) [.t 13, .k (.p (.int .i64 12))]) 11 false (by kernel_rfl) (by kernel_rfl) (st_bool (c := (decide (a0_.Nodes > 12))) (by kernel_rfl) hc4) (APath.chunk 4 (by kernel_rfl) (APath.oneG (.val 19 .len [.t 18]) 16 false (by kernel_rfl) (by kernel_rfl) (st_val (ys := [s_eB false a0_.Station]) (by kernel_rfl) (vexec_len eB)) (APath.fin (by kernel_rfl)))))))), by simp only [hc2, hc4]; kernel_rfl⟩
  · refine vc_ite (by kernel_rfl) h (fun hc5 h => ?_) (fun hc5 h => ?_)
    · refine vc_seq ?_
      refine vc_reg (S := ⟨[(2, iv 260)], [], []⟩) (APath.fin (by kernel_rfl)) (by kernel_rfl) ?_
      refine vc_ret ?_
      obtain rfl := some_inj h
      exact ret_of (by kernel_rfl)
    · refine vc_skip ?_
      refine vc_kp ?_
      refine vc_seq ?_
      refine vc_seq ?_
      obtain ⟨j9, hj, h⟩ := bind_some h
      refine vc_regXR (fun s => s = ⟨[(1, .loc 1 0), (32, bv j9)], [(1, (c_api_Topo a0_))], []⟩) ?_ ?_
      · clear h
        rcases ite_some hj with ⟨hc6, hj⟩ | ⟨hc7, hj⟩
        · obtain rfl := some_inj hj
          exact ⟨_, (APath.chunk 2 (by kernel_rfl) (APath.one (.val 26 .len [.t 25]) (by kernel_rfl) (st_val (ys := [s_e_api_Link false a0_.Links]) (by kernel_rfl) (vexec_len e_api_Link)) (APath.one (.val 27 (.bin .gtr) [.t 26, .k (.p (.int .i64 24))]) (by kernel_rfl) (st_bool (c := (decide (((List.length a0_.Links : Nat) : Int) > 24))) (by kernel_rfl) hc6) (APath.fin (by kernel_rfl))))), (by show _ = _; kernel_rfl)⟩
        · obtain ⟨r8, hr8, hj⟩ := bind_some hj
          obtain rfl := some_inj hj
          exact ⟨_, (APath.chunk 2 (by kernel_rfl) (APath.one (.val 26 .len [.t 25]) (by kernel_rfl) (st_val (ys := [s_e_api_Link false a0_.Links]) (by kernel_rfl) (vexec_len e_api_Link)) (APath.one (.val 27 (.bin .gtr) [.t 26, .k (.p (.int .i64 24))]) (by kernel_rfl) (st_bool (c := (decide (((List.length a0_.Links : Nat) : Int) > 24))) (by kernel_rfl) hc7) (APath.chunk 2 (by kernel_rfl) (APath.oneG (.call (some 30) 74 [.t 29]) 28 false (by kernel_rfl) (by kernel_rfl) (st_call (by kernel_rfl) (topo_sound_ok N a0_ r8 hr8)) (APath.fin (by kernel_rfl))))))), (by show _ = _; kernel_rfl)⟩
      · clear hj
        rintro s hR
        obtain rfl := hR
        refine vc_ite (by kernel_rfl) h (fun hc10 h => ?_) (fun hc10 h => ?_)
        · refine vc_seq ?_
          refine vc_reg (S := ⟨[(2, iv 260)], [], []⟩) (APath.fin (by kernel_rfl)) (by kernel_rfl) ?_
          refine vc_ret ?_
          obtain rfl := some_inj h
          exact ret_of (by kernel_rfl)
        · refine vc_skip ?_
          refine vc_kp ?_
          refine vc_seq ?_
          obtain ⟨l13, hl13, h⟩ := bind_some h
          obtain ⟨a11, H12, ha11, hH12, ha11b, hH⟩ := HP.make eI64 hH hl13
          replace hH : HP H12 [.arr a11 1 false (List.map eI64 l13)] := hH
          have hfa11 := own_form (HP.get hH 0 rfl)
          refine vc_reg (S := ⟨[(1, .loc 1 0), (3, a11)], [(1, (c_api_Topo a0_))], H12⟩) (APath.chunk 2 (by rcases hfa11 with ha11e | ⟨_, _, ha11e⟩ <;> subst ha11e <;> kernel_rfl) (APath.one (.mkSl 35 (.t 34) (.t 34) [.int .i64 0] 8) (by kernel_rfl) (st_make (H := []) (zero := [.int .i64 0]) (bytes := 8) (by rcases hfa11 with ha11e | ⟨_, _, ha11e⟩ <;> subst ha11e <;> kernel_rfl) (by rcases hfa11 with ha11e | ⟨_, _, ha11e⟩ <;> subst ha11e <;> kernel_rfl) (by rcases hfa11 with ha11e | ⟨_, _, ha11e⟩ <;> subst ha11e <;> kernel_rfl) ha11 hH12 ha11b) (APath.fin (by rcases hfa11 with ha11e | ⟨_, _, ha11e⟩ <;> subst ha11e <;> kernel_rfl)))) (by rcases hfa11 with ha11e | ⟨_, _, ha11e⟩ <;> subst ha11e <;> kernel_rfl) ?_
          refine vc_seq ?_
          refine vc_seq ?_
          refine vc_reg (S := ⟨[(1, .loc 1 0), (3, a11), (37, s_e_api_Link false a0_.Links), (38, iv ((List.length a0_.Links : Nat) : Int)), (39, iv 0)], [(1, (c_api_Topo a0_))], H12⟩) (APath.chunk 2 (by rcases hfa11 with ha11e | ⟨_, _, ha11e⟩ <;> subst ha11e <;> kernel_rfl) (APath.one (.val 38 .len [.t 37]) (by kernel_rfl) (st_val (ys := [s_e_api_Link false a0_.Links]) (by rcases hfa11 with ha11e | ⟨_, _, ha11e⟩ <;> subst ha11e <;> kernel_rfl) (vexec_len e_api_Link)) (APath.fin (by rcases hfa11 with ha11e | ⟨_, _, ha11e⟩ <;> subst ha11e <;> kernel_rfl)))) (by rcases hfa11 with ha11e | ⟨_, _, ha11e⟩ <;> subst ha11e <;> kernel_rfl) ?_
          refine vc_block ?_
          obtain ⟨o536, ho536, h⟩ := bind_some h
          refine vc_loop ((loop_sim (fun (x : Int × (List Int)) s => ∃ (a14 : AV) (H15 : List HO), s = ⟨[(1, .loc 1 0), (3, a14), (37, s_e_api_Link false a0_.Links), (38, iv ((List.length a0_.Links : Nat) : Int)), (39, iv x.1)], [(1, (c_api_Topo a0_))], H15⟩ ∧ HP H15 [.arr a14 1 false (List.map eI64 x.2)]) (fun x : Int × (List Int) => topo_Check_L1 N a0_ x.1 x.2) (fun (p : (List Int)) e s => e = .exit 0 ∧ (∃ (a518 : AV) (H519 : List HO), s = ⟨[(1, .loc 1 0), (3, a518)], [(1, (c_api_Topo a0_))], H519⟩ ∧ HP H519 [.arr a518 1 false (List.map eI64 p)])) ?_ N _ o536 _ ho536 ⟨a11, H12, (by show _ = _; rcases hfa11 with ha11e | ⟨_, _, ha11e⟩ <;> subst ha11e <;> kernel_rfl), (HP.pick hH [0] rfl)⟩).mono ?_)
          · clear h ho536
            rintro ⟨i16, l17⟩ o s h hR
            obtain ⟨a14, H15, rfl, hH⟩ := hR
            replace hH : HP H15 [.arr a14 1 false (List.map eI64 l17)] := hH
            have hfa14 := own_form (HP.get hH 0 rfl)
            replace h : topo_Check_L1 N a0_ i16 l17 = some o := h
            unfold topo_Check_L1 at h
            refine vc_seq ?_
            refine vc_reg (S := ⟨[(1, .loc 1 0), (3, a14), (37, s_e_api_Link false a0_.Links), (38, iv ((List.length a0_.Links : Nat) : Int)), (39, iv i16), (40, bv (decide (i16 < ((List.length a0_.Links : Nat) : Int))))], [(1, (c_api_Topo a0_))], H15⟩) (APath.fin (by rcases hfa14 with ha14e | ⟨_, _, ha14e⟩ <;> subst ha14e <;> kernel_rfl)) (by rcases hfa14 with ha14e | ⟨_, _, ha14e⟩ <;> subst ha14e <;> kernel_rfl) ?_
            refine vc_seq ?_
            refine vc_ite (by kernel_rfl) h (fun hc520 h => ?_) (fun hc520 h => ?_)
            · refine vc_skip ?_
              refine vc_kp ?_
              refine vc_seq ?_
              refine vc_block ?_
              refine vc_seq ?_
              obtain ⟨e521, he521, h⟩ := bind_some h
              refine vc_reg (S := ⟨[(1, .loc 1 0), (3, a14), (5, .loc 5 0), (37, s_e_api_Link false a0_.Links), (38, iv ((List.length a0_.Links : Nat) : Int)), (39, iv i16)], [(1, (c_api_Topo a0_)), (5, (c_api_Link e521))], H15⟩) (APath.one (.val 41 (.iaddrS 4) [.t 37, .t 39]) (by kernel_rfl) (st_val (ys := [s_e_api_Link false a0_.Links, iv i16]) (by rcases hfa14 with ha14e | ⟨_, _, ha14e⟩ <;> subst ha14e <;> kernel_rfl) (vexec_iaddrS e_api_Link he521)) (APath.one (.load 42 (.t 41) 4 true) (by kernel_rfl) (st_loadP (sz := 4) (off := 0) (cs := [.int .i64 e521.A, .int .i64 e521.B, .int .i64 e521.Per, .int .i64 e521.Delay]) (r := .agg (c_api_Link e521)) e_api_Link he521 (by rcases hfa14 with ha14e | ⟨_, _, ha14e⟩ <;> subst ha14e <;> kernel_rfl) (by rcases hfa14 with ha14e | ⟨_, _, ha14e⟩ <;> subst ha14e <;> kernel_rfl) (by rcases hfa14 with ha14e | ⟨_, _, ha14e⟩ <;> subst ha14e <;> kernel_rfl)) (APath.fin (by rcases hfa14 with ha14e | ⟨_, _, ha14e⟩ <;> subst ha14e <;> kernel_rfl)))) (by rcases hfa14 with ha14e | ⟨_, _, ha14e⟩ <;> subst ha14e <;> kernel_rfl) ?_
              refine vc_seq ?_
              obtain ⟨e522, he522, h⟩ := bind_some h
              obtain ⟨id523, ver524, _, hid523f, hid523, hid523a, hid523v⟩ := HP.elem (k := 0) (a := a14) (sz := 1) (frz := false) eI64 hH rfl he522
              obtain ⟨e525, he525, h⟩ := bind_some h
              obtain ⟨id526, ver527, _, hid526f, hid526, hid526a, hid526v⟩ := HP.elem (k := 0) (a := a14) (sz := 1) (frz := false) eI64 hH rfl he525
              obtain ⟨H528, hH528, hH⟩ := HP.setRow (k := 0) (off := 0) (cs := [iv (w64 (e522 + 1))]) (ps := [.int .i64 (w64 (e522 + 1))]) (e' := (w64 (e522 + 1))) eI64 hH rfl hid526a hid526 (hid526f rfl) he525 (by kernel_rfl) (by kernel_rfl)
              replace hH : HP H528 [.arr a14 1 false (List.map eI64 (List.set l17 (Int.toNat e521.A) (w64 (e522 + 1))))] := hH
              refine vc_reg (S := ⟨[(1, .loc 1 0), (3, a14), (5, .loc 5 0), (37, s_e_api_Link false a0_.Links), (38, iv ((List.length a0_.Links : Nat) : Int)), (39, iv i16)], [(1, (c_api_Topo a0_)), (5, (c_api_Link e521))], H528⟩) (APath.chunk 3 (by rcases hfa14 with ha14e | ⟨_, _, ha14e⟩ <;> subst ha14e <;> kernel_rfl) (APath.one (.val 46 (.iaddrS 1) [.t 43, .t 45]) (by kernel_rfl) (st_val (ys := [a14, iv e521.A]) (by rcases hfa14 with ha14e | ⟨_, _, ha14e⟩ <;> subst ha14e <;> kernel_rfl) (hid523v .i64)) (APath.one (.load 47 (.t 46) 1 false) (by kernel_rfl) (st_loadO (H := H15) (off := 0) (cs := [.int .i64 e522]) (r := iv e522) eI64 he522 hid523 (by rcases hfa14 with ha14e | ⟨_, _, ha14e⟩ <;> subst ha14e <;> kernel_rfl) (by rcases hfa14 with ha14e | ⟨_, _, ha14e⟩ <;> subst ha14e <;> kernel_rfl) (by rcases hfa14 with ha14e | ⟨_, _, ha14e⟩ <;> subst ha14e <;> kernel_rfl) (by rcases hfa14 with ha14e | ⟨_, _, ha14e⟩ <;> subst ha14e <;> kernel_rfl)) (APath.chunk 1 (by rcases hfa14 with ha14e | ⟨_, _, ha14e⟩ <;> subst ha14e <;> kernel_rfl) (APath.one (.val 49 (.iaddrS 1) [.t 43, .t 45]) (by kernel_rfl) (st_val (ys := [a14, iv e521.A]) (by rcases hfa14 with ha14e | ⟨_, _, ha14e⟩ <;> subst ha14e <;> kernel_rfl) (hid526v .i64)) (APath.one (.store (.t 49) (.t 48) 1) (by kernel_rfl) (st_storeH (H := H15) (v := iv (w64 (e522 + 1))) (by rcases hfa14 with ha14e | ⟨_, _, ha14e⟩ <;> subst ha14e <;> kernel_rfl) (by rcases hfa14 with ha14e | ⟨_, _, ha14e⟩ <;> subst ha14e <;> kernel_rfl) (by rcases hfa14 with ha14e | ⟨_, _, ha14e⟩ <;> subst ha14e <;> kernel_rfl) (by rcases hfa14 with ha14e | ⟨_, _, ha14e⟩ <;> subst ha14e <;> kernel_rfl) hH528) APath.done)))))) (by rcases hfa14 with ha14e | ⟨_, _, ha14e⟩ <;> subst ha14e <;> kernel_rfl) ?_
              obtain ⟨e529, he529, h⟩ := bind_some h
              obtain ⟨id530, ver531, _, hid530f, hid530, hid530a, hid530v⟩ := HP.elem (k := 0) (a := a14) (sz := 1) (frz := false) eI64 hH rfl he529
              obtain ⟨e532, he532, h⟩ := bind_some h
              obtain ⟨id533, ver534, _, hid533f, hid533, hid533a, hid533v⟩ := HP.elem (k := 0) (a := a14) (sz := 1) (frz := false) eI64 hH rfl he532
              obtain ⟨H535, hH535, hH⟩ := HP.setRow (k := 0) (off := 0) (cs := [iv (w64 (e529 + 1))]) (ps := [.int .i64 (w64 (e529 + 1))]) (e' := (w64 (e529 + 1))) eI64 hH rfl hid533a hid533 (hid533f rfl) he532 (by kernel_rfl) (by kernel_rfl)
              replace hH : HP H535 [.arr a14 1 false (List.map eI64 (List.set (List.set l17 (Int.toNat e521.A) (w64 (e522 + 1))) (Int.toNat e521.B) (w64 (e529 + 1))))] := hH
              refine vc_reg (S := ⟨[(1, .loc 1 0), (3, a14), (37, s_e_api_Link false a0_.Links), (38, iv ((List.length a0_.Links : Nat) : Int)), (39, iv i16)], [(1, (c_api_Topo a0_))], H535⟩) (APath.chunk 3 (by rcases hfa14 with ha14e | ⟨_, _, ha14e⟩ <;> subst ha14e <;> kernel_rfl) (APath.one (.val 53 (.iaddrS 1) [.t 50, .t 52]) (by kernel_rfl) (st_val (ys := [a14, iv e521.B]) (by rcases hfa14 with ha14e | ⟨_, _, ha14e⟩ <;> subst ha14e <;> kernel_rfl) (hid530v .i64)) (APath.one (.load 54 (.t 53) 1 false) (by kernel_rfl) (st_loadO (H := H528) (off := 0) (cs := [.int .i64 e529]) (r := iv e529) eI64 he529 hid530 (by rcases hfa14 with ha14e | ⟨_, _, ha14e⟩ <;> subst ha14e <;> kernel_rfl) (by rcases hfa14 with ha14e | ⟨_, _, ha14e⟩ <;> subst ha14e <;> kernel_rfl) (by rcases hfa14 with ha14e | ⟨_, _, ha14e⟩ <;> subst ha14e <;> kernel_rfl) (by rcases hfa14 with ha14e | ⟨_, _, ha14e⟩ <;> subst ha14e <;> kernel_rfl)) (APath.chunk 1 (by rcases hfa14 with ha14e | ⟨_, _, ha14e⟩ <;> subst ha14e <;> kernel_rfl) (APath.one (.val 56 (.iaddrS 1) [.t 50, .t 52]) (by kernel_rfl) (st_val (ys := [a14, iv e521.B]) (by rcases hfa14 with ha14e | ⟨_, _, ha14e⟩ <;> subst ha14e <;> kernel_rfl) (hid533v .i64)) (APath.one (.store (.t 56) (.t 55) 1) (by kernel_rfl) (st_storeH (H := H528) (v := iv (w64 (e529 + 1))) (by rcases hfa14 with ha14e | ⟨_, _, ha14e⟩ <;> subst ha14e <;> kernel_rfl) (by rcases hfa14 with ha14e | ⟨_, _, ha14e⟩ <;> subst ha14e <;> kernel_rfl) (by rcases hfa14 with ha14e | ⟨_, _, ha14e⟩ <;> subst ha14e <;> kernel_rfl) (by rcases hfa14 with ha14e | ⟨_, _, ha14e⟩ <;> subst ha14e <;> kernel_rfl) hH535) APath.done)))))) (by rcases hfa14 with ha14e | ⟨_, _, ha14e⟩ <;> subst ha14e <;> kernel_rfl) ?_
              refine vc_reg (S := ⟨[(1, .loc 1 0), (3, a14), (37, s_e_api_Link false a0_.Links), (38, iv ((List.length a0_.Links : Nat) : Int)), (39, iv (w64 (i16 + 1)))], [(1, (c_api_Topo a0_))], H535⟩) (APath.fin (by rcases hfa14 with ha14e | ⟨_, _, ha14e⟩ <;> subst ha14e <;> kernel_rfl)) (by rcases hfa14 with ha14e | ⟨_, _, ha14e⟩ <;> subst ha14e <;> kernel_rfl) ?_
              obtain rfl := some_inj h
              exact ⟨_, rfl, ⟨a14, H535, (by show _ = _; rcases hfa14 with ha14e | ⟨_, _, ha14e⟩ <;> subst ha14e <;> kernel_rfl), (HP.pick hH [0] rfl)⟩⟩
            · refine vc_kp ?_
              try show vc _ _ _ _ _
              refine vc_exit ?_
              try show vc _ _ _ _ _
              obtain rfl := some_inj h
              exact ⟨_, rfl, rfl, ⟨a14, H15, (by show _ = _; rcases hfa14 with ha14e | ⟨_, _, ha14e⟩ <;> subst ha14e <;> kernel_rfl), (HP.pick hH [0] rfl)⟩⟩
          · rintro e s hq
            obtain ⟨rfl, hR⟩ := hq
            obtain ⟨a518, H519, rfl, hH⟩ := hR
            replace hH : HP H519 [.arr a518 1 false (List.map eI64 o536)] := hH
            have hfa518 := own_form (HP.get hH 0 rfl)
            try show vc _ _ _ _ _
            refine vc_seq ?_
            refine vc_seq ?_
            refine vc_reg (S := ⟨[(1, .loc 1 0), (3, a518), (59, s_eB false a0_.Station), (60, iv ((List.length a0_.Station : Nat) : Int)), (61, iv 0)], [(1, (c_api_Topo a0_))], H519⟩) (APath.chunk 2 (by rcases hfa518 with ha518e | ⟨_, _, ha518e⟩ <;> subst ha518e <;> kernel_rfl) (APath.one (.val 60 .len [.t 59]) (by kernel_rfl) (st_val (ys := [s_eB false a0_.Station]) (by rcases hfa518 with ha518e | ⟨_, _, ha518e⟩ <;> subst ha518e <;> kernel_rfl) (vexec_len eB)) (APath.fin (by rcases hfa518 with ha518e | ⟨_, _, ha518e⟩ <;> subst ha518e <;> kernel_rfl)))) (by rcases hfa518 with ha518e | ⟨_, _, ha518e⟩ <;> subst ha518e <;> kernel_rfl) ?_
            refine vc_block ?_
            obtain ⟨o1052, ho1052, h⟩ := bind_some h
            refine vc_loop ((loop_sim (fun (x : Int) s => s = ⟨[(1, .loc 1 0), (3, a518), (59, s_eB false a0_.Station), (60, iv ((List.length a0_.Station : Nat) : Int)), (61, iv x)], [(1, (c_api_Topo a0_))], H519⟩) (fun x : Int => topo_Check_L2 N a0_ o536 x) (fun (p : (Unit) ⊕ (Int)) e s => match p with | (.inl p) => e = .exit 2 ∧ (s = ⟨[(1, .loc 1 0)], [(1, (c_api_Topo a0_))], H519⟩) | (.inr p) => e = .ret ∧ ∃ xs, resL s i50.res = some xs ∧ tupOf xs = iv p) ?_ N _ o1052 _ ho1052 (by show _ = _; rcases hfa518 with ha518e | ⟨_, _, ha518e⟩ <;> subst ha518e <;> kernel_rfl)).mono ?_)
            · clear h ho1052
              rintro i537 o s h hR
              obtain rfl := hR
              replace h : topo_Check_L2 N a0_ o536 i537 = some o := h
              unfold topo_Check_L2 at h
              refine vc_seq ?_
              refine vc_reg (S := ⟨[(1, .loc 1 0), (3, a518), (59, s_eB false a0_.Station), (60, iv ((List.length a0_.Station : Nat) : Int)), (61, iv i537), (62, bv (decide (i537 < ((List.length a0_.Station : Nat) : Int))))], [(1, (c_api_Topo a0_))], H519⟩) (APath.fin (by rcases hfa518 with ha518e | ⟨_, _, ha518e⟩ <;> subst ha518e <;> kernel_rfl)) (by rcases hfa518 with ha518e | ⟨_, _, ha518e⟩ <;> subst ha518e <;> kernel_rfl) ?_
              refine vc_seq ?_
              refine vc_ite (by kernel_rfl) h (fun hc1038 h => ?_) (fun hc1038 h => ?_)
              · refine vc_skip ?_
                refine vc_kp ?_
                refine vc_seq ?_
                refine vc_block ?_
                refine vc_seq ?_
                obtain ⟨e1039, he1039, h⟩ := bind_some h
                refine vc_reg (S := ⟨[(1, .loc 1 0), (3, a518), (6, iv i537), (7, bv e1039), (59, s_eB false a0_.Station), (60, iv ((List.length a0_.Station : Nat) : Int)), (61, iv i537)], [(1, (c_api_Topo a0_))], H519⟩) (APath.chunk 1 (by rcases hfa518 with ha518e | ⟨_, _, ha518e⟩ <;> subst ha518e <;> kernel_rfl) (APath.one (.val 64 (.iaddrS 1) [.t 59, .t 61]) (by kernel_rfl) (st_val (ys := [s_eB false a0_.Station, iv i537]) (by rcases hfa518 with ha518e | ⟨_, _, ha518e⟩ <;> subst ha518e <;> kernel_rfl) (vexec_iaddrS eB he1039)) (APath.one (.load 65 (.t 64) 1 false) (by kernel_rfl) (st_loadP (sz := 1) (off := 0) (cs := [.bool e1039]) (r := bv e1039) eB he1039 (by rcases hfa518 with ha518e | ⟨_, _, ha518e⟩ <;> subst ha518e <;> kernel_rfl) (by rcases hfa518 with ha518e | ⟨_, _, ha518e⟩ <;> subst ha518e <;> kernel_rfl) (by rcases hfa518 with ha518e | ⟨_, _, ha518e⟩ <;> subst ha518e <;> kernel_rfl)) (APath.fin (by rcases hfa518 with ha518e | ⟨_, _, ha518e⟩ <;> subst ha518e <;> kernel_rfl))))) (by rcases hfa518 with ha518e | ⟨_, _, ha518e⟩ <;> subst ha518e <;> kernel_rfl) ?_
                refine vc_seq ?_
                obtain ⟨j1050, hj, h⟩ := bind_some h
                refine vc_regXR (fun s => s = ⟨[(1, .loc 1 0), (3, a518), (59, s_eB false a0_.Station), (60, iv ((List.length a0_.Station : Nat) : Int)), (61, iv i537), (80, bv j1050)], [(1, (c_api_Topo a0_))], H519⟩) ?_ ?_
                · clear h
                  rcases ite_some hj with ⟨hc1040, hj⟩ | ⟨hc1049, hj⟩
                  · obtain ⟨e1041, he1041, hj⟩ := bind_some hj
                    obtain ⟨id1042, ver1043, _, hid1042f, hid1042, hid1042a, hid1042v⟩ := HP.elem (k := 0) (a := a518) (sz := 1) (frz := false) eI64 hH rfl he1041
                    rcases ite_some hj with ⟨hc1044, hj⟩ | ⟨hc1045, hj⟩
                    · obtain rfl := some_inj hj
                      exact ⟨_, (APath.one (.val 66 .mov [.t 7]) (by kernel_rfl) (st_bool (c := e1039) (by rcases hfa518 with ha518e | ⟨_, _, ha518e⟩ <;> subst ha518e <;> kernel_rfl) hc1040) (APath.chunk 3 (by rcases hfa518 with ha518e | ⟨_, _, ha518e⟩ <;> subst ha518e <;> kernel_rfl) (APath.oneG (.val 70 (.iaddrS 1) [.t 68, .t 69]) 67 true (by kernel_rfl) (by rcases hfa518 with ha518e | ⟨_, _, ha518e⟩ <;> subst ha518e <;> kernel_rfl) (st_val (ys := [a518, iv i537]) (by rcases hfa518 with ha518e | ⟨_, _, ha518e⟩ <;> subst ha518e <;> kernel_rfl) (hid1042v .i64)) (APath.oneG (.load 71 (.t 70) 1 false) 67 true (by kernel_rfl) (by rcases hfa518 with ha518e | ⟨_, _, ha518e⟩ <;> subst ha518e <;> kernel_rfl) (st_loadO (H := H519) (off := 0) (cs := [.int .i64 e1041]) (r := iv e1041) eI64 he1041 hid1042 (by rcases hfa518 with ha518e | ⟨_, _, ha518e⟩ <;> subst ha518e <;> kernel_rfl) (by rcases hfa518 with ha518e | ⟨_, _, ha518e⟩ <;> subst ha518e <;> kernel_rfl) (by rcases hfa518 with ha518e | ⟨_, _, ha518e⟩ <;> subst ha518e <;> kernel_rfl) (by rcases hfa518 with ha518e | ⟨_, _, ha518e⟩ <;> subst ha518e <;> kernel_rfl)) (APath.oneG (.val 72 (.bin .lss) [.t 71, .k (.p (.int .i64 1))]) 67 true (by kernel_rfl) (by rcases hfa518 with ha518e | ⟨_, _, ha518e⟩ <;> subst ha518e <;> kernel_rfl) (st_bool (c := (decide (e1041 < 1))) (by rcases hfa518 with ha518e | ⟨_, _, ha518e⟩ <;> subst ha518e <;> kernel_rfl) hc1044) (APath.fin (by rcases hfa518 with ha518e | ⟨_, _, ha518e⟩ <;> subst ha518e <;> kernel_rfl))))))), (by show _ = _; rcases hfa518 with ha518e | ⟨_, _, ha518e⟩ <;> subst ha518e <;> kernel_rfl)⟩
                    · obtain ⟨e1046, he1046, hj⟩ := bind_some hj
                      obtain ⟨id1047, ver1048, _, hid1047f, hid1047, hid1047a, hid1047v⟩ := HP.elem (k := 0) (a := a518) (sz := 1) (frz := false) eI64 hH rfl he1046
                      obtain rfl := some_inj hj
                      exact ⟨_, (APath.one (.val 66 .mov [.t 7]) (by kernel_rfl) (st_bool (c := e1039) (by rcases hfa518 with ha518e | ⟨_, _, ha518e⟩ <;> subst ha518e <;> kernel_rfl) hc1040) (APath.chunk 3 (by rcases hfa518 with ha518e | ⟨_, _, ha518e⟩ <;> subst ha518e <;> kernel_rfl) (APath.oneG (.val 70 (.iaddrS 1) [.t 68, .t 69]) 67 true (by kernel_rfl) (by rcases hfa518 with ha518e | ⟨_, _, ha518e⟩ <;> subst ha518e <;> kernel_rfl) (st_val (ys := [a518, iv i537]) (by rcases hfa518 with ha518e | ⟨_, _, ha518e⟩ <;> subst ha518e <;> kernel_rfl) (hid1042v .i64)) (APath.oneG (.load 71 (.t 70) 1 false) 67 true (by kernel_rfl) (by rcases hfa518 with ha518e | ⟨_, _, ha518e⟩ <;> subst ha518e <;> kernel_rfl) (st_loadO (H := H519) (off := 0) (cs := [.int .i64 e1041]) (r := iv e1041) eI64 he1041 hid1042 (by rcases hfa518 with ha518e | ⟨_, _, ha518e⟩ <;> subst ha518e <;> kernel_rfl) (by rcases hfa518 with ha518e | ⟨_, _, ha518e⟩ <;> subst ha518e <;> kernel_rfl) (by rcases hfa518 with ha518e | ⟨_, _, ha518e⟩ <;> subst ha518e <;> kernel_rfl) (by rcases hfa518 with ha518e | ⟨_, _, ha518e⟩ <;> subst ha518e <;> kernel_rfl)) (APath.oneG (.val 72 (.bin .lss) [.t 71, .k (.p (.int .i64 1))]) 67 true (by kernel_rfl) (by rcases hfa518 with ha518e | ⟨_, _, ha518e⟩ <;> subst ha518e <;> kernel_rfl) (st_bool (c := (decide (e1041 < 1))) (by rcases hfa518 with ha518e | ⟨_, _, ha518e⟩ <;> subst ha518e <;> kernel_rfl) hc1045) (APath.chunk 3 (by rcases hfa518 with ha518e | ⟨_, _, ha518e⟩ <;> subst ha518e <;> kernel_rfl) (APath.oneG (.val 76 (.iaddrS 1) [.t 74, .t 75]) 73 false (by kernel_rfl) (by rcases hfa518 with ha518e | ⟨_, _, ha518e⟩ <;> subst ha518e <;> kernel_rfl) (st_val (ys := [a518, iv i537]) (by rcases hfa518 with ha518e | ⟨_, _, ha518e⟩ <;> subst ha518e <;> kernel_rfl) (hid1047v .i64)) (APath.oneG (.load 77 (.t 76) 1 false) 73 false (by kernel_rfl) (by rcases hfa518 with ha518e | ⟨_, _, ha518e⟩ <;> subst ha518e <;> kernel_rfl) (st_loadO (H := H519) (off := 0) (cs := [.int .i64 e1046]) (r := iv e1046) eI64 he1046 hid1047 (by rcases hfa518 with ha518e | ⟨_, _, ha518e⟩ <;> subst ha518e <;> kernel_rfl) (by rcases hfa518 with ha518e | ⟨_, _, ha518e⟩ <;> subst ha518e <;> kernel_rfl) (by rcases hfa518 with ha518e | ⟨_, _, ha518e⟩ <;> subst ha518e <;> kernel_rfl) (by rcases hfa518 with ha518e | ⟨_, _, ha518e⟩ <;> subst ha518e <;> kernel_rfl)) (APath.fin (by rcases hfa518 with ha518e | ⟨_, _, ha518e⟩ <;> subst ha518e <;> kernel_rfl)))))))))), (by show _ = _; rcases hfa518 with ha518e | ⟨_, _, ha518e⟩ <;> subst ha518e <;> kernel_rfl)⟩
                  · obtain rfl := some_inj hj
                    exact ⟨_, (APath.one (.val 66 .mov [.t 7]) (by kernel_rfl) (st_bool (c := e1039) (by rcases hfa518 with ha518e | ⟨_, _, ha518e⟩ <;> subst ha518e <;> kernel_rfl) hc1049) (APath.fin (by rcases hfa518 with ha518e | ⟨_, _, ha518e⟩ <;> subst ha518e <;> kernel_rfl))), (by show _ = _; rcases hfa518 with ha518e | ⟨_, _, ha518e⟩ <;> subst ha518e <;> kernel_rfl)⟩
                · clear hj
                  rintro s hR
                  obtain rfl := hR
                  refine vc_ite (by kernel_rfl) h (fun hc1051 h => ?_) (fun hc1051 h => ?_)
                  · refine vc_seq ?_
                    refine vc_reg (S := ⟨[(2, iv 260)], [], H519⟩) (APath.fin (by rcases hfa518 with ha518e | ⟨_, _, ha518e⟩ <;> subst ha518e <;> kernel_rfl)) (by rcases hfa518 with ha518e | ⟨_, _, ha518e⟩ <;> subst ha518e <;> kernel_rfl) ?_
                    replace hH : HP H519 [] := HP.pick hH [] rfl
                    refine vc_ret ?_
                    obtain rfl := some_inj h
                    exact ⟨_, rfl, rfl, ret_of (by kernel_rfl)⟩
                  · refine vc_skip ?_
                    refine vc_kp ?_
                    refine vc_reg (S := ⟨[(1, .loc 1 0), (3, a518), (59, s_eB false a0_.Station), (60, iv ((List.length a0_.Station : Nat) : Int)), (61, iv (w64 (i537 + 1)))], [(1, (c_api_Topo a0_))], H519⟩) (APath.fin (by rcases hfa518 with ha518e | ⟨_, _, ha518e⟩ <;> subst ha518e <;> kernel_rfl)) (by rcases hfa518 with ha518e | ⟨_, _, ha518e⟩ <;> subst ha518e <;> kernel_rfl) ?_
                    obtain rfl := some_inj h
                    exact ⟨_, rfl, (by show _ = _; rcases hfa518 with ha518e | ⟨_, _, ha518e⟩ <;> subst ha518e <;> kernel_rfl)⟩
              · refine vc_kp ?_
                try show vc _ _ _ _ _
                replace hH : HP H519 [] := HP.pick hH [] rfl
                refine vc_exit ?_
                try show vc _ _ _ _ _
                obtain rfl := some_inj h
                exact ⟨_, rfl, rfl, (by show _ = _; kernel_rfl)⟩
            · rintro e s hq
              rcases o1052 with p1053 | p1057
              · dsimp only at h hq
                obtain ⟨rfl, hR⟩ := hq
                obtain rfl := hR
                try show vc _ _ _ _ _
                refine vc_seq ?_
                refine vc_seq ?_
                obtain ⟨r1054, hr1054, h⟩ := bind_some h
                obtain ⟨r1055, hr1055, h⟩ := bind_some h
                refine vc_reg (S := ⟨[(85, bv r1055)], [], H519⟩) (APath.chunk 2 (by kernel_rfl) (APath.one (.call (some 84) 76 [.t 82, .k (.p (.int .i64 0)), .t 83]) (by kernel_rfl) (st_call (by kernel_rfl) (topo_reach_ok N a0_ 0 (Arr24_Bool.mk false false false false false false false false false false false false false false false false false false false false false false false false) r1054 hr1054)) (APath.one (.call (some 85) 75 [.t 84, .k (.p (.bool false))]) (by kernel_rfl) (st_call (by kernel_rfl) (slices_Contains__bool_bool_ok N r1054 false r1055 hr1055)) APath.done))) (by kernel_rfl) ?_
                refine vc_ite (by kernel_rfl) h (fun hc1056 h => ?_) (fun hc1056 h => ?_)
                · refine vc_seq ?_
                  refine vc_reg (S := ⟨[(2, iv 260)], [], H519⟩) (APath.fin (by kernel_rfl)) (by kernel_rfl) ?_
                  refine vc_ret ?_
                  obtain rfl := some_inj h
                  exact ret_of (by kernel_rfl)
                · refine vc_skip ?_
                  refine vc_kp ?_
                  refine vc_seq ?_
                  refine vc_reg (S := ⟨[(2, iv 0)], [], H519⟩) (APath.fin (by kernel_rfl)) (by kernel_rfl) ?_
                  refine vc_ret ?_
                  obtain rfl := some_inj h
                  exact ret_of (by kernel_rfl)
              · dsimp only at h hq
                obtain ⟨rfl, hq⟩ := hq
                obtain rfl := some_inj h
                exact hq
theorem route_Apart_1_ok (N : Nat) (a0_ : route_walk) (c0_ : (List Int)) (c1_ : (List Int)) (k0_ : Nat) (k1_ : Nat) (H : List HO) (hH : HP H [.cel k0_ [s_eI64 false c0_], .cel k1_ [s_eI64 false c1_]]) (r : Bool × Int) (h : route_Apart_1 N a0_ c0_ c1_ = some r) : ACall Try.prog 58 [.agg (c_api_Topo a0_.Topo), .ptr k0_ 0, .ptr k1_ 0] H (.tup [bv r.1, iv r.2]) H := by
  unfold route_Apart_1 at h
  refine acall_ofW chk58 rfl rfl rfl (vc_sound _ _ _ ?_)
  refine vc_seq ?_
  refine vc_reg (S := ⟨[(1, .ptr k0_ 0), (2, .ptr k1_ 0), (3, .loc 3 0)], [(3, (c_api_Topo a0_.Topo))], H⟩) (APath.fin (by kernel_rfl)) (by kernel_rfl) ?_
  refine vc_seq ?_
  refine vc_seq ?_
  have hlc1 := HP.get hH 0 rfl
  obtain ⟨r2, hr2, h⟩ := bind_some h
  refine vc_reg (S := ⟨[(1, .ptr k0_ 0), (2, .ptr k1_ 0), (3, .loc 3 0), (9, bv (!r2))], [(3, (c_api_Topo a0_.Topo))], H⟩) (APath.chunk 1 (by kernel_rfl) (APath.one (.load 7 (.t 1) 1 false) (by kernel_rfl) (st_loadC (H := H) (id := k0_) (off := 0) (cs := [s_eI64 false c0_]) (c := [s_eI64 false c0_]) (r := s_eI64 false c0_) (by kernel_rfl) (by kernel_rfl) hlc1 (by kernel_rfl) (by kernel_rfl) (by kernel_rfl)) (APath.one (.call (some 8) 51 [.t 6, .t 7]) (by kernel_rfl) (st_call (by kernel_rfl) (route_walk_valid_ok N a0_ c0_ r2 hr2)) (APath.fin (by kernel_rfl))))) (by kernel_rfl) ?_
  refine vc_ite (by kernel_rfl) h (fun hc3 h => ?_) (fun hc3 h => ?_)
  · refine vc_seq ?_
    refine vc_reg (S := ⟨[(4, bv false), (5, iv 310)], [], H⟩) (APath.fin (by kernel_rfl)) (by kernel_rfl) ?_
    replace hH : HP H [] := HP.pick hH [] rfl
    refine vc_ret ?_
    obtain rfl := some_inj h
    exact ret_ofAW (by kernel_rfl) (by kernel_rfl)
  · refine vc_skip ?_
    refine vc_kp ?_
    refine vc_seq ?_
    obtain ⟨j17, hj, h⟩ := bind_some h
    refine vc_regXR (fun s => s = ⟨[(4, bv j17), (5, iv 0)], [], H⟩) ?_ ?_
    · clear h
      have hlc4 := HP.get hH 1 rfl
      have hlc5 := HP.get hH 0 rfl
      obtain ⟨r6, hr6, hj⟩ := bind_some hj
      rcases ite_some hj with ⟨hc7, hj⟩ | ⟨hc16, hj⟩
      · have hlc8 := HP.get hH 1 rfl
        have hlc9 := HP.get hH 0 rfl
        obtain ⟨r10, hr10, hj⟩ := bind_some hj
        rcases ite_some hj with ⟨hc11, hj⟩ | ⟨hc15, hj⟩
        · have hlc12 := HP.get hH 0 rfl
          have hlc13 := HP.get hH 1 rfl
          obtain ⟨r14, hr14, hj⟩ := bind_some hj
          obtain rfl := some_inj hj
          exact ⟨_, (APath.one (.load 10 (.t 2) 1 false) (by kernel_rfl) (st_loadC (H := H) (id := k1_) (off := 0) (cs := [s_eI64 false c1_]) (c := [s_eI64 false c1_]) (r := s_eI64 false c1_) (by kernel_rfl) (by kernel_rfl) hlc4 (by kernel_rfl) (by kernel_rfl) (by kernel_rfl)) (APath.one (.load 11 (.t 1) 1 false) (by kernel_rfl) (st_loadC (H := H) (id := k0_) (off := 0) (cs := [s_eI64 false c0_]) (c := [s_eI64 false c0_]) (r := s_eI64 false c0_) (by kernel_rfl) (by kernel_rfl) hlc5 (by kernel_rfl) (by kernel_rfl) (by kernel_rfl)) (APath.one (.call (some 12) 59 [.t 10, .t 11]) (by kernel_rfl) (st_call (by kernel_rfl) (route_shares_ok N c1_ c0_ r6 hr6)) (APath.one (.val 13 .not [.t 12]) (by kernel_rfl) (st_bool (c := (!r6)) (by kernel_rfl) hc7) (APath.chunk 2 (by kernel_rfl) (APath.oneG (.load 16 (.t 2) 1 false) 14 true (by kernel_rfl) (by kernel_rfl) (st_loadC (H := H) (id := k1_) (off := 0) (cs := [s_eI64 false c1_]) (c := [s_eI64 false c1_]) (r := s_eI64 false c1_) (by kernel_rfl) (by kernel_rfl) hlc8 (by kernel_rfl) (by kernel_rfl) (by kernel_rfl)) (APath.oneG (.load 17 (.t 1) 1 false) 14 true (by kernel_rfl) (by kernel_rfl) (st_loadC (H := H) (id := k0_) (off := 0) (cs := [s_eI64 false c0_]) (c := [s_eI64 false c0_]) (r := s_eI64 false c0_) (by kernel_rfl) (by kernel_rfl) hlc9 (by kernel_rfl) (by kernel_rfl) (by kernel_rfl)) (APath.oneG (.call (some 18) 60 [.t 15, .t 16, .t 17]) 14 true (by kernel_rfl) (by kernel_rfl) (st_call (by kernel_rfl) (route_walk_meets_ok N a0_ c1_ c0_ r10 hr10)) (APath.oneG (.val 19 .not [.t 18]) 14 true (by kernel_rfl) (by kernel_rfl) (st_bool (c := (!r10)) (by kernel_rfl) hc11) (APath.chunk 3 (by kernel_rfl) (APath.oneG (.load 23 (.t 1) 1 false) 21 true (by kernel_rfl) (by kernel_rfl) (st_loadC (H := H) (id := k0_) (off := 0) (cs := [s_eI64 false c0_]) (c := [s_eI64 false c0_]) (r := s_eI64 false c0_) (by kernel_rfl) (by kernel_rfl) hlc12 (by kernel_rfl) (by kernel_rfl) (by kernel_rfl)) (APath.oneG (.load 24 (.t 2) 1 false) 21 true (by kernel_rfl) (by kernel_rfl) (st_loadC (H := H) (id := k1_) (off := 0) (cs := [s_eI64 false c1_]) (c := [s_eI64 false c1_]) (r := s_eI64 false c1_) (by kernel_rfl) (by kernel_rfl) hlc13 (by kernel_rfl) (by kernel_rfl) (by kernel_rfl)) (APath.oneG (.call (some 25) 60 [.t 22, .t 23, .t 24]) 21 true (by kernel_rfl) (by kernel_rfl) (st_call (by kernel_rfl) (route_walk_meets_ok N a0_ c0_ c1_ r14 hr14)) (APath.fin (by kernel_rfl))))))))))))))), (by show _ = _; kernel_rfl)⟩
        · obtain rfl := some_inj hj
          exact ⟨_, (APath.one (.load 10 (.t 2) 1 false) (by kernel_rfl) (st_loadC (H := H) (id := k1_) (off := 0) (cs := [s_eI64 false c1_]) (c := [s_eI64 false c1_]) (r := s_eI64 false c1_) (by kernel_rfl) (by kernel_rfl) hlc4 (by kernel_rfl) (by kernel_rfl) (by kernel_rfl)) (APath.one (.load 11 (.t 1) 1 false) (by kernel_rfl) (st_loadC (H := H) (id := k0_) (off := 0) (cs := [s_eI64 false c0_]) (c := [s_eI64 false c0_]) (r := s_eI64 false c0_) (by kernel_rfl) (by kernel_rfl) hlc5 (by kernel_rfl) (by kernel_rfl) (by kernel_rfl)) (APath.one (.call (some 12) 59 [.t 10, .t 11]) (by kernel_rfl) (st_call (by kernel_rfl) (route_shares_ok N c1_ c0_ r6 hr6)) (APath.one (.val 13 .not [.t 12]) (by kernel_rfl) (st_bool (c := (!r6)) (by kernel_rfl) hc7) (APath.chunk 2 (by kernel_rfl) (APath.oneG (.load 16 (.t 2) 1 false) 14 true (by kernel_rfl) (by kernel_rfl) (st_loadC (H := H) (id := k1_) (off := 0) (cs := [s_eI64 false c1_]) (c := [s_eI64 false c1_]) (r := s_eI64 false c1_) (by kernel_rfl) (by kernel_rfl) hlc8 (by kernel_rfl) (by kernel_rfl) (by kernel_rfl)) (APath.oneG (.load 17 (.t 1) 1 false) 14 true (by kernel_rfl) (by kernel_rfl) (st_loadC (H := H) (id := k0_) (off := 0) (cs := [s_eI64 false c0_]) (c := [s_eI64 false c0_]) (r := s_eI64 false c0_) (by kernel_rfl) (by kernel_rfl) hlc9 (by kernel_rfl) (by kernel_rfl) (by kernel_rfl)) (APath.oneG (.call (some 18) 60 [.t 15, .t 16, .t 17]) 14 true (by kernel_rfl) (by kernel_rfl) (st_call (by kernel_rfl) (route_walk_meets_ok N a0_ c1_ c0_ r10 hr10)) (APath.oneG (.val 19 .not [.t 18]) 14 true (by kernel_rfl) (by kernel_rfl) (st_bool (c := (!r10)) (by kernel_rfl) hc15) (APath.fin (by kernel_rfl))))))))))), (by show _ = _; kernel_rfl)⟩
      · obtain rfl := some_inj hj
        exact ⟨_, (APath.one (.load 10 (.t 2) 1 false) (by kernel_rfl) (st_loadC (H := H) (id := k1_) (off := 0) (cs := [s_eI64 false c1_]) (c := [s_eI64 false c1_]) (r := s_eI64 false c1_) (by kernel_rfl) (by kernel_rfl) hlc4 (by kernel_rfl) (by kernel_rfl) (by kernel_rfl)) (APath.one (.load 11 (.t 1) 1 false) (by kernel_rfl) (st_loadC (H := H) (id := k0_) (off := 0) (cs := [s_eI64 false c0_]) (c := [s_eI64 false c0_]) (r := s_eI64 false c0_) (by kernel_rfl) (by kernel_rfl) hlc5 (by kernel_rfl) (by kernel_rfl) (by kernel_rfl)) (APath.one (.call (some 12) 59 [.t 10, .t 11]) (by kernel_rfl) (st_call (by kernel_rfl) (route_shares_ok N c1_ c0_ r6 hr6)) (APath.one (.val 13 .not [.t 12]) (by kernel_rfl) (st_bool (c := (!r6)) (by kernel_rfl) hc16) (APath.fin (by kernel_rfl)))))), (by show _ = _; kernel_rfl)⟩
    · clear hj
      rintro s hR
      obtain rfl := hR
      refine vc_ret ?_
      obtain rfl := some_inj h
      exact ret_ofAW (by kernel_rfl) (by kernel_rfl)
theorem topo_ask_int_ok (N : Nat) (a0_ : api_Topo) (a1_ : Int) (a2_ : topo_end → Option (Int)) (a2_f : Nat) (a2_p a2_c : List AV) (ha2_n : (noLocL a2_p && noLocL a2_c) = true) (its : List Thing) (ha2_ : ∀ (H : List HO) (x0 : topo_end) (r : Int), HP H its → a2_ x0 = some r → VCall Try.prog (.fn a2_f a2_p a2_c) [.agg [iv x0.Link.A, iv x0.Link.B, iv x0.Link.Per, iv x0.Link.Delay, iv x0.port]] H (iv r) H) (H : List HO) (hH : HP H (its)) (r : Int × Int) (h : topo_ask_int N a0_ a1_ a2_ = some r) : ACall Try.prog 79 [.agg (c_api_Topo a0_), iv a1_, .fn a2_f a2_p a2_c] H (.tup [iv r.1, iv r.2]) H := by
  unfold topo_ask_int at h
  refine acall_ofW chk79 rfl (by simpa [noLocL, noLoc.noLocL, noLoc] using ha2_n) rfl (vc_sound _ _ _ ?_)
  refine vc_seq ?_
  refine vc_reg (S := ⟨[(1, iv a1_), (2, .fn a2_f a2_p a2_c), (3, .loc 3 0)], [(3, (c_api_Topo a0_))], H⟩) (APath.fin (by kernel_rfl)) (by kernel_rfl) ?_
  refine vc_seq ?_
  refine vc_reg (S := ⟨[(1, iv a1_), (2, .fn a2_f a2_p a2_c), (3, .loc 3 0), (8, iv 0)], [(3, (c_api_Topo a0_))], H⟩) (APath.fin (by kernel_rfl)) (by kernel_rfl) ?_
  refine vc_seq ?_
  refine vc_seq ?_
  obtain ⟨r1, hr1, h⟩ := bind_some h
  refine vc_reg (S := ⟨[(1, iv a1_), (2, .fn a2_f a2_p a2_c), (3, .loc 3 0), (8, iv 0), (9, iv r1)], [(3, (c_api_Topo a0_))], H⟩) (APath.chunk 1 (by kernel_rfl) (APath.one (.call (some 11) 50 [.t 10]) (by kernel_rfl) (st_call (by kernel_rfl) (topo_Check_ok N a0_ r1 hr1)) (APath.fin (by kernel_rfl)))) (by kernel_rfl) ?_
  refine vc_seq ?_
  refine vc_reg (S := ⟨[(1, iv a1_), (2, .fn a2_f a2_p a2_c), (3, .loc 3 0), (8, iv 0), (9, iv r1), (13, bv (r1 != 0))], [(3, (c_api_Topo a0_))], H⟩) (APath.fin (by kernel_rfl)) (by kernel_rfl) ?_
  refine vc_ite (by kernel_rfl) h (fun hc2 h => ?_) (fun hc2 h => ?_)
  · refine vc_seq ?_
    refine vc_reg (S := ⟨[(6, iv 0), (7, iv r1)], [], H⟩) (APath.fin (by kernel_rfl)) (by kernel_rfl) ?_
    refine vc_ret ?_
    obtain rfl := some_inj h
    exact ret_ofAW (by kernel_rfl) (by kernel_rfl)
  · refine vc_skip ?_
    refine vc_kp ?_
    refine vc_seq ?_
    refine vc_seq ?_
    refine vc_regX ⟨[(1, iv a1_), (2, .fn a2_f a2_p a2_c), (3, .loc 3 0), (8, iv 0), (25, bv ((decide (a1_ < 0)) || (decide (a1_ ≥ (w64 (2 * ((List.length a0_.Links : Nat) : Int)))))))], [(3, (c_api_Topo a0_))], H⟩ ?_ ?_
    · rcases Bool.eq_false_or_eq_true (decide (a1_ < 0)) with hc3 | hc4
      · exact ⟨_, (APath.chunk 1 (by kernel_rfl) (APath.one (.val 17 (.bin .lss) [.t 16, .k (.p (.int .i64 0))]) (by kernel_rfl) (st_bool (c := (decide (a1_ < 0))) (by kernel_rfl) hc3) (APath.fin (by kernel_rfl)))), by simp only [hc3]; kernel_rfl⟩
      · exact ⟨_, (APath.chunk 1 (by kernel_rfl) (APath.one (.val 17 (.bin .lss) [.t 16, .k (.p (.int .i64 0))]) (by kernel_rfl) (st_bool (c := (decide (a1_ < 0))) (by kernel_rfl) hc4) (APath.chunk 4 (by kernel_rfl) (APath.oneG (.val 22 .len [.t 21]) 18 false (by kernel_rfl) (by kernel_rfl) (st_val (ys := [s_e_api_Link false a0_.Links]) (by kernel_rfl) (vexec_len e_api_Link)) (APath.fin (by kernel_rfl)))))), by simp only [hc4]; kernel_rfl⟩
    · refine vc_ite (by kernel_rfl) h (fun hc5 h => ?_) (fun hc5 h => ?_)
      · refine vc_seq ?_
        refine vc_reg (S := ⟨[(6, iv 0), (7, iv 2)], [], H⟩) (APath.fin (by kernel_rfl)) (by kernel_rfl) ?_
        refine vc_ret ?_
        obtain rfl := some_inj h
        exact ret_ofAW (by kernel_rfl) (by kernel_rfl)
      · refine vc_skip ?_
        refine vc_kp ?_
        refine vc_seq ?_
        obtain ⟨e6, he6, h⟩ := bind_some h
        obtain ⟨r7, hr7, h⟩ := bind_some h
        have hvr7 := ha2_ _ (topo_end.mk e6 a1_) _ hH hr7
        refine vc_reg (S := ⟨[(6, iv r7), (7, iv 0)], [], H⟩) (APath.chunk 5 (by kernel_rfl) (APath.one (.val 32 (.iaddrS 4) [.t 29, .t 31]) (by kernel_rfl) (st_val (ys := [s_e_api_Link false a0_.Links, iv (w64 (Int.tdiv a1_ 2))]) (by kernel_rfl) (vexec_iaddrS e_api_Link he6)) (APath.one (.load 33 (.t 32) 4 true) (by kernel_rfl) (st_loadP (sz := 4) (off := 0) (cs := [.int .i64 e6.A, .int .i64 e6.B, .int .i64 e6.Per, .int .i64 e6.Delay]) (r := .agg (c_api_Link e6)) e_api_Link he6 (by kernel_rfl) (by kernel_rfl) (by kernel_rfl)) (APath.chunk 2 (by kernel_rfl) (APath.one (.callV (some 36) (.t 27) [.t 35]) (by kernel_rfl) (st_callV (H := H) (ys := [.agg [iv e6.A, iv e6.B, iv e6.Per, iv e6.Delay, iv a1_]]) (by kernel_rfl) (by kernel_rfl) (by kernel_rfl) hvr7) (APath.fin (by kernel_rfl))))))) (by kernel_rfl) ?_
        refine vc_ret ?_
        obtain rfl := some_inj h
        exact ret_ofAW (by kernel_rfl) (by kernel_rfl)
theorem route_Check_ok (N : Nat) (a0_ : api_Topo) (a1_ : (List Int)) (r : Int) (h : route_Check N a0_ a1_ = some r) : PCall Try.prog 19 [.agg (c_api_Topo a0_), s_eI64 false a1_] (iv r) := by
  unfold route_Check at h
  have hH : HP ([] : List HO) [] := trivial
  refine pcall_of chk19 rfl rfl (vc_sound _ _ _ ?_) rfl
  refine vc_seq ?_
  refine vc_reg (S := ⟨[(1, s_eI64 false a1_), (2, .loc 2 0)], [(2, (c_api_Topo a0_))], []⟩) (APath.fin (by kernel_rfl)) (by kernel_rfl) ?_
  refine vc_seq ?_
  refine vc_seq ?_
  obtain ⟨r1, hr1, h⟩ := bind_some h
  refine vc_reg (S := ⟨[(1, s_eI64 false a1_), (2, .loc 2 0), (5, iv r1)], [(2, (c_api_Topo a0_))], []⟩) (APath.chunk 1 (by kernel_rfl) (APath.one (.call (some 7) 50 [.t 6]) (by kernel_rfl) (st_call (by kernel_rfl) (topo_Check_ok N a0_ r1 hr1)) (APath.fin (by kernel_rfl)))) (by kernel_rfl) ?_
  refine vc_seq ?_
  refine vc_reg (S := ⟨[(1, s_eI64 false a1_), (2, .loc 2 0), (5, iv r1), (9, bv (r1 != 0))], [(2, (c_api_Topo a0_))], []⟩) (APath.fin (by kernel_rfl)) (by kernel_rfl) ?_
  refine vc_ite (by kernel_rfl) h (fun hc2 h => ?_) (fun hc2 h => ?_)
  · refine vc_seq ?_
    refine vc_reg (S := ⟨[(4, iv r1)], [], []⟩) (APath.fin (by kernel_rfl)) (by kernel_rfl) ?_
    refine vc_ret ?_
    obtain rfl := some_inj h
    exact ret_of (by kernel_rfl)
  · refine vc_skip ?_
    refine vc_kp ?_
    refine vc_seq ?_
    refine vc_seq ?_
    obtain ⟨r3, hr3, h⟩ := bind_some h
    refine vc_reg (S := ⟨[(15, bv (!r3))], [], []⟩) (APath.chunk 3 (by kernel_rfl) (APath.one (.call (some 14) 51 [.t 12, .t 13]) (by kernel_rfl) (st_call (by kernel_rfl) (route_walk_valid_ok N (route_walk.mk a0_) a1_ r3 hr3)) (APath.fin (by kernel_rfl)))) (by kernel_rfl) ?_
    refine vc_ite (by kernel_rfl) h (fun hc4 h => ?_) (fun hc4 h => ?_)
    · refine vc_seq ?_
      refine vc_reg (S := ⟨[(4, iv 310)], [], []⟩) (APath.fin (by kernel_rfl)) (by kernel_rfl) ?_
      refine vc_ret ?_
      obtain rfl := some_inj h
      exact ret_of (by kernel_rfl)
    · refine vc_skip ?_
      refine vc_kp ?_
      refine vc_seq ?_
      refine vc_reg (S := ⟨[(4, iv 0)], [], []⟩) (APath.fin (by kernel_rfl)) (by kernel_rfl) ?_
      refine vc_ret ?_
      obtain rfl := some_inj h
      exact ret_of (by kernel_rfl)
end Go.Sh

