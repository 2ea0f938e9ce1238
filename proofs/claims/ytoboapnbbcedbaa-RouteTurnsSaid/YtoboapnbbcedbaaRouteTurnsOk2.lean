/- Part of the proof; written by a program out of the texts in wip/. -/
import Derived.Test.YtoboapnbbcedbaaRouteTurnsOk1
namespace Go.Sh
open Go Go.Eng Go.Proofs
set_option linter.unusedVariables false
set_option linter.unusedSimpArgs false
set_option maxRecDepth 100000
set_option maxHeartbeats 4000000
attribute [local irreducible] vc ev keepS opsD opsF dropX upd updH updO
theorem route_walk_meets_ok (N : Nat) (a0_ : route_walk) (a1_ : (List Int)) (a2_ : (List Int)) (r : Bool) (h : route_walk_meets N a0_ a1_ a2_ = some r) : PCall Try.prog 60 [.agg (c_api_Topo a0_.Topo), s_eI64 false a1_, s_eI64 false a2_] (bv r) := by
  unfold route_walk_meets at h
  have hH : HP ([] : List HO) [] := trivial
  refine pcall_of chk60 rfl rfl (vc_sound _ _ _ ?_) rfl
  refine sq (rg APath.f ?_)
  refine tq (sq ?_)
  obtain ⟨r1, hr1, h⟩ := bs h
  refine rg (APath.v 2 (st_call (by kernel_rfl) (route_walk_nodes_ok N a0_ a1_ r1 hr1)) APath.f) (tq ?_)
  refine sq (rg (APath.u 1 (st_val (ys := [s_eI64 false r1]) (by kernel_rfl) (vexec_len eI64)) APath.f) ?_)
  refine tq (sq ?_)
  obtain ⟨r2, hr2, h⟩ := bs h
  refine rg (APath.v 2 (st_call (by kernel_rfl) (route_walk_nodes_ok N a0_ a2_ r2 hr2)) APath.f) (tq ?_)
  refine sq (sq ?_)
  obtain ⟨l3, hl3, h⟩ := bs h
  refine rg (APath.u 3 (st_val (ys := [s_eI64 false r1, iv 1, iv (w64 (((List.length r1 : Nat) : Int) - 1)), iv (w64 (((List.length r1 : Nat) : Int) - 1))]) (by kernel_rfl) (vexec_slice3 eI64 hl3)) (APath.u 0 (st_val (ys := [s_eI64 true l3]) (by kernel_rfl) (vexec_len eI64)) APath.f)) (tq ?_)
  refine bk ?_
  obtain ⟨o509, ho509, h⟩ := bs h
  refine vc_loop ((loop_sim (fun (x : Int) s => s = ⟨[(9, s_eI64 false r2), (24, s_eI64 true l3), (25, iv ((List.length l3 : Nat) : Int)), (26, iv x)], [], []⟩) (fun x : Int => route_walk_meets_L1 N r2 l3 x) (fun (p : (Unit) ⊕ (Bool)) e s => match p with | (.inl p) => e = .exit 0 ∧ (s = ⟨[], [], []⟩) | (.inr p) => e = .ret ∧ ∃ xs, resL s i60.res = some xs ∧ tupOf xs = bv p) ?_ N _ o509 _ ho509 (by show _ = _; kernel_rfl)).mono ?_)
  · clear h ho509
    rintro i4 o s h hR
    obtain rfl := hR
    replace h : route_walk_meets_L1 N r2 l3 i4 = some o := h
    unfold route_walk_meets_L1 at h
    refine sq (rg APath.f ?_)
    refine tq (sq ?_)
    refine it h (fun hc505 h => ?_) (fun hc505 h => ?_)
    · refine sk (tq ?_)
      refine kq (sq ?_)
      refine bk (sq ?_)
      obtain ⟨e506, he506, h⟩ := bs h
      refine rg (APath.u 0 (st_val (ys := [s_eI64 true l3, iv i4]) (by kernel_rfl) (vexec_iaddrS eI64 he506)) (APath.u 0 (st_loadP (sz := 1) (off := 0) (cs := [.int .i64 e506]) (r := iv e506) eI64 he506 (by kernel_rfl) (by kernel_rfl) (by kernel_rfl)) APath.f)) (tq ?_)
      refine sq ?_
      obtain ⟨r507, hr507, h⟩ := bs h
      refine rg (APath.v 2 (st_call (by kernel_rfl) (slices_Contains__int_int_ok N r2 e506 r507 hr507)) APath.f) (tq ?_)
      refine it h (fun hc508 h => ?_) (fun hc508 h => ?_)
      · refine sq (rg APath.f ?_)
        refine tq (rt ?_)
        refine br (tr ?_)
        obtain rfl := some_inj h
        exact ⟨_, rfl, rfl, ret_of (by kernel_rfl)⟩
      refine sk (bn ?_)
      refine tq (kq ?_)
      refine rg APath.f ?_
      obtain rfl := some_inj h
      exact ⟨_, rfl, (by show _ = _; kernel_rfl)⟩
    refine kq (xq ?_)
    refine tx ?_
    obtain rfl := some_inj h
    exact ⟨_, rfl, rfl, (by show _ = _; kernel_rfl)⟩
  rintro e s hq
  rcases o509 with p510 | p511
  · dsimp only at h hq
    obtain ⟨rfl, hR⟩ := hq
    obtain rfl := hR
    refine bx (tq ?_)
    refine sq (rg APath.f ?_)
    refine tq (rt ?_)
    obtain rfl := some_inj h
    exact ret_of (by kernel_rfl)
  dsimp only at h hq
  obtain ⟨rfl, hq⟩ := hq
  refine br (tr ?_)
  obtain rfl := some_inj h
  exact hq
theorem ref16_Draft_with_ok (N : Nat) (a0_ : ref16_Draft) (a1_ : api_Topo) (a2_ : Int) (a3_ : Int) (bp1_1_ : AV) (bp1_2_ : AV) (H : List HO) (hH : HP H [.arr bp1_1_ 1 true (List.map eB a1_.Station), .arr bp1_2_ 4 true (List.map e_api_Link a1_.Links)]) (r : api_Topo) (h : ref16_Draft_with N a0_ a1_ a2_ a3_ = some r) : ∃ (or_0_1_ : AV) (or_0_2_ : AV) (H' : List HO), ACall Try.prog 64 [.agg (c_ref16_Draft a0_), .agg [iv a1_.Nodes, bp1_1_, bp1_2_], iv a2_, iv a3_] H (.agg [iv r.Nodes, or_0_1_, or_0_2_]) H' ∧ Fp H H' [.arr bp1_1_ 1 true (List.map eB a1_.Station), .arr bp1_2_ 4 true (List.map e_api_Link a1_.Links)] [.arr or_0_1_ 1 true (List.map eB r.Station), .arr or_0_2_ 4 true (List.map e_api_Link r.Links)] := by
  suffices hs : ∃ r' H', ACall Try.prog 64 [.agg (c_ref16_Draft a0_), .agg [iv a1_.Nodes, bp1_1_, bp1_2_], iv a2_, iv a3_] H r' H' ∧ ∃ (or_0_1_ : AV) (or_0_2_ : AV), r' = .agg [iv r.Nodes, or_0_1_, or_0_2_] ∧ Fp H H' [.arr bp1_1_ 1 true (List.map eB a1_.Station), .arr bp1_2_ 4 true (List.map e_api_Link a1_.Links)] [.arr or_0_1_ 1 true (List.map eB r.Station), .arr or_0_2_ 4 true (List.map e_api_Link r.Links)] by
    obtain ⟨_, H', h1, or_0_1_, or_0_2_, he, h2⟩ := hs
    exact ⟨or_0_1_, or_0_2_, H', he ▸ h1, h2⟩
  unfold ref16_Draft_with at h
  replace hH := Fp.refl hH
  have hfbp1_1_ := own_form (Fp.get hH 0 rfl)
  have hfbp1_2_ := own_form (Fp.get hH 1 rfl)
  refine acall_detRW chk64 [] (fun r' H' => ∃ (or_0_1_ : AV) (or_0_2_ : AV), r' = .agg [iv r.Nodes, or_0_1_, or_0_2_] ∧ Fp H H' [.arr bp1_1_ 1 true (List.map eB a1_.Station), .arr bp1_2_ 4 true (List.map e_api_Link a1_.Links)] [.arr or_0_1_ 1 true (List.map eB r.Station), .arr or_0_2_ 4 true (List.map e_api_Link r.Links)]) (fun r' H' q => by obtain ⟨or_0_1_, or_0_2_, e, hp⟩ := q; subst e; have hfor_0_1_ := own_form (Fp.get hp 0 rfl); have hfor_0_2_ := own_form (Fp.get hp 1 rfl); show noLoc _ = true; rcases hfor_0_1_ with hor_0_1_e | ⟨_, _, hor_0_1_e⟩ <;> rcases hfor_0_2_ with hor_0_2_e | ⟨_, _, hor_0_2_e⟩ <;> subst hor_0_1_e hor_0_2_e <;> rfl) rfl (by rcases hfbp1_1_ with hbp1_1_e | ⟨_, _, hbp1_1_e⟩ <;> rcases hfbp1_2_ with hbp1_2_e | ⟨_, _, hbp1_2_e⟩ <;> subst hbp1_1_e hbp1_2_e <;> kernel_rfl) ?_
  refine sq (rgS ⟨[(2, iv a2_), (3, iv a3_), (4, .loc 4 0), (5, .loc 5 0), (8, .loc 8 0)], [(4, (c_ref16_Draft a0_)), (5, [iv a1_.Nodes, bp1_1_, bp1_2_]), (8, [iv 0, s_eB true [], s_e_api_Link true []])], H⟩ (APath.f (h := (by rcases hfbp1_1_ with hbp1_1_e | ⟨_, _, hbp1_1_e⟩ <;> rcases hfbp1_2_ with hbp1_2_e | ⟨_, _, hbp1_2_e⟩ <;> subst hbp1_1_e hbp1_2_e <;> kernel_rfl))) (by rcases hfbp1_1_ with hbp1_1_e | ⟨_, _, hbp1_1_e⟩ <;> rcases hfbp1_2_ with hbp1_2_e | ⟨_, _, hbp1_2_e⟩ <;> subst hbp1_1_e hbp1_2_e <;> kernel_rfl) ?_)
  refine tq (sq ?_)
  have hln1 := Fp.len (k := 1) (a := bp1_2_) (sz := 4) (frz := true) (l := a1_.Links) e_api_Link hH rfl
  refine rgS ⟨[(2, iv a2_), (3, iv a3_), (4, .loc 4 0), (5, .loc 5 0), (8, .loc 8 0), (9, iv ((List.length a1_.Links : Nat) : Int))], [(4, (c_ref16_Draft a0_)), (5, [iv a1_.Nodes, bp1_1_, bp1_2_]), (8, [iv 0, s_eB true [], s_e_api_Link true []])], H⟩ (APath.u (hm := (by rcases hfbp1_1_ with hbp1_1_e | ⟨_, _, hbp1_1_e⟩ <;> rcases hfbp1_2_ with hbp1_2_e | ⟨_, _, hbp1_2_e⟩ <;> subst hbp1_1_e hbp1_2_e <;> kernel_rfl)) 2 (st_val (ys := [bp1_2_]) (by rcases hfbp1_1_ with hbp1_1_e | ⟨_, _, hbp1_1_e⟩ <;> rcases hfbp1_2_ with hbp1_2_e | ⟨_, _, hbp1_2_e⟩ <;> subst hbp1_1_e hbp1_2_e <;> kernel_rfl) hln1) (APath.f (h := (by rcases hfbp1_1_ with hbp1_1_e | ⟨_, _, hbp1_1_e⟩ <;> rcases hfbp1_2_ with hbp1_2_e | ⟨_, _, hbp1_2_e⟩ <;> subst hbp1_1_e hbp1_2_e <;> kernel_rfl)))) (by rcases hfbp1_1_ with hbp1_1_e | ⟨_, _, hbp1_1_e⟩ <;> rcases hfbp1_2_ with hbp1_2_e | ⟨_, _, hbp1_2_e⟩ <;> subst hbp1_1_e hbp1_2_e <;> kernel_rfl) ?_
  refine tq (sq ?_)
  obtain ⟨r2, hr2, h⟩ := bs h
  obtain ⟨r3, hr3, h⟩ := bs h
  refine rqS ⟨[(2, iv a2_), (3, iv a3_), (5, .loc 5 0), (8, .loc 8 0), (9, iv ((List.length a1_.Links : Nat) : Int)), (10, .loc 10 0)], [(5, [iv a1_.Nodes, bp1_1_, bp1_2_]), (8, [iv 0, s_eB true [], s_e_api_Link true []]), (10, [iv a2_, iv a3_, iv (w64 (1 + (Int.tmod r2 20))), iv (Int.tmod r3 50)])], H⟩ (APath.u 5 (st_callP (by kernel_rfl) (ref16_pick_ok N a0_.Pers ((List.length a1_.Links : Nat) : Int) r2 hr2)) (APath.u 5 (st_callP (by kernel_rfl) (ref16_pick_ok N a0_.Delays ((List.length a1_.Links : Nat) : Int) r3 hr3)) APath.f)) (by rcases hfbp1_1_ with hbp1_1_e | ⟨_, _, hbp1_1_e⟩ <;> rcases hfbp1_2_ with hbp1_2_e | ⟨_, _, hbp1_2_e⟩ <;> subst hbp1_1_e hbp1_2_e <;> kernel_rfl) ?_
  refine tq (sq ?_)
  refine sq ?_
  obtain ⟨j12, hj, h⟩ := bs h
  refine rgR (fun s => ∃ (a9 : AV) (a10 : AV) (H11 : List HO), s = ⟨[(2, iv a2_), (3, iv a3_), (5, .loc 5 0), (8, .loc 8 0), (9, iv ((List.length a1_.Links : Nat) : Int)), (10, .loc 10 0), (36, bv j12)], [(5, [iv a1_.Nodes, a9, a10]), (8, [iv 0, s_eB true [], s_e_api_Link true []]), (10, [iv a2_, iv a3_, iv (w64 (1 + (Int.tmod r2 20))), iv (Int.tmod r3 50)])], H11⟩ ∧ Fp H H11 [.arr bp1_1_ 1 true (List.map eB a1_.Station), .arr bp1_2_ 4 true (List.map e_api_Link a1_.Links)] [.arr a9 1 true (List.map eB a1_.Station), .arr a10 4 true (List.map e_api_Link a1_.Links)]) ?_ ?_
  · clear h
    rcases ite_some hj with ⟨hc4, hj⟩ | ⟨hc5, hj⟩
    · obtain rfl := some_inj hj
      exact (EP.u 1 (st_bool (c := (((List.length a1_.Links : Nat) : Int) == 24)) (by kernel_rfl) hc4) (EP.f ⟨bp1_1_, bp1_2_, H, (by show _ = _; rcases hfbp1_1_ with hbp1_1_e | ⟨_, _, hbp1_1_e⟩ <;> rcases hfbp1_2_ with hbp1_2_e | ⟨_, _, hbp1_2_e⟩ <;> subst hbp1_1_e hbp1_2_e <;> kernel_rfl), (Fp.pick hH [0, 1] rfl)⟩))
    refine (EP.u 1 (st_bool (c := (((List.length a1_.Links : Nat) : Int) == 24)) (by kernel_rfl) hc5) ?_)
    obtain ⟨r6, hr6, hj⟩ := bs hj
    obtain ⟨H7, hzH7, hzH7v, hH⟩ := Fp.frz (k := 0) (a := bp1_1_) (sz := 1) (frz := true) eB hH rfl
    replace hH : Fp H H7 [.arr bp1_1_ 1 true (List.map eB a1_.Station), .arr bp1_2_ 4 true (List.map e_api_Link a1_.Links)] [.arr bp1_1_ 1 true (List.map eB a1_.Station), .arr bp1_2_ 4 true (List.map e_api_Link a1_.Links)] := hH
    obtain ⟨H8, hzH8, hzH8v, hH⟩ := Fp.frz (k := 1) (a := bp1_2_) (sz := 4) (frz := true) e_api_Link hH rfl
    replace hH : Fp H H8 [.arr bp1_1_ 1 true (List.map eB a1_.Station), .arr bp1_2_ 4 true (List.map e_api_Link a1_.Links)] [.arr bp1_1_ 1 true (List.map eB a1_.Station), .arr bp1_2_ 4 true (List.map e_api_Link a1_.Links)] := hH
    obtain rfl := some_inj hj
    exact (EP.v (hm := (by rcases hfbp1_1_ with hbp1_1_e | ⟨_, _, hbp1_1_e⟩ <;> rcases hfbp1_2_ with hbp1_2_e | ⟨_, _, hbp1_2_e⟩ <;> subst hbp1_1_e hbp1_2_e <;> kernel_rfl)) 3 (st_callF (H := H) (ys := [.agg [iv a1_.Nodes, bp1_1_, bp1_2_], .agg [iv a2_, iv a3_, iv (w64 (1 + (Int.tmod r2 20))), iv (Int.tmod r3 50)]]) (by rcases hfbp1_1_ with hbp1_1_e | ⟨_, _, hbp1_1_e⟩ <;> rcases hfbp1_2_ with hbp1_2_e | ⟨_, _, hbp1_2_e⟩ <;> subst hbp1_1_e hbp1_2_e <;> kernel_rfl) (by rcases hfbp1_1_ with hbp1_1_e | ⟨_, _, hbp1_1_e⟩ <;> rcases hfbp1_2_ with hbp1_2_e | ⟨_, _, hbp1_2_e⟩ <;> subst hbp1_1_e hbp1_2_e <;> kernel_rfl) (frzL_cons (frzV_agg (frzC_cons rfl (frzC_cons hzH7 (frzC_cons hzH8 frzC_nil)))) (frzL_cons rfl frzL_nil)) (ref16_link_ok N a1_ (api_Link.mk a2_ a3_ (w64 (1 + (Int.tmod r2 20))) (Int.tmod r3 50)) r6 hr6)) (EP.f ⟨bp1_1_, bp1_2_, H8, (by show _ = _; rcases hfbp1_1_ with hbp1_1_e | ⟨_, _, hbp1_1_e⟩ <;> rcases hfbp1_2_ with hbp1_2_e | ⟨_, _, hbp1_2_e⟩ <;> subst hbp1_1_e hbp1_2_e <;> kernel_rfl), (Fp.pick hH [0, 1] rfl)⟩ (h := (by rcases hfbp1_1_ with hbp1_1_e | ⟨_, _, hbp1_1_e⟩ <;> rcases hfbp1_2_ with hbp1_2_e | ⟨_, _, hbp1_2_e⟩ <;> subst hbp1_1_e hbp1_2_e <;> kernel_rfl))))
  clear hj
  rintro s hR
  obtain ⟨a9, a10, H11, rfl, hH⟩ := hR
  replace hH : Fp H H11 [.arr bp1_1_ 1 true (List.map eB a1_.Station), .arr bp1_2_ 4 true (List.map e_api_Link a1_.Links)] [.arr a9 1 true (List.map eB a1_.Station), .arr a10 4 true (List.map e_api_Link a1_.Links)] := hH
  have hfa9 := own_form (Fp.get hH 0 rfl)
  have hfa10 := own_form (Fp.get hH 1 rfl)
  refine tq (it h (fun hc13 h => ?_) (fun hc13 h => ?_))
  · refine sq (rgS ⟨[(8, .loc 8 0)], [(8, [iv a1_.Nodes, a9, a10])], H11⟩ (APath.f (h := (by rcases hfa10 with ha10e | ⟨_, _, ha10e⟩ <;> rcases hfa9 with ha9e | ⟨_, _, ha9e⟩ <;> subst ha10e ha9e <;> kernel_rfl))) (by rcases hfa10 with ha10e | ⟨_, _, ha10e⟩ <;> rcases hfa9 with ha9e | ⟨_, _, ha9e⟩ <;> subst ha10e ha9e <;> kernel_rfl) ?_)
    refine tq (rt ?_)
    refine tr ?_
    obtain rfl := some_inj h
    exact ⟨[.agg [iv a1_.Nodes, a9, a10]], (by rcases hfa10 with ha10e | ⟨_, _, ha10e⟩ <;> rcases hfa9 with ha9e | ⟨_, _, ha9e⟩ <;> subst ha10e ha9e <;> kernel_rfl), a9, a10, (by rcases hfa10 with ha10e | ⟨_, _, ha10e⟩ <;> rcases hfa9 with ha9e | ⟨_, _, ha9e⟩ <;> subst ha10e ha9e <;> kernel_rfl), Fp.pk hH [0, 1] rfl⟩
  refine sk (tq ?_)
  refine kq (sq ?_)
  refine sq (rgS ⟨[(2, iv a2_), (3, iv a3_), (5, .loc 5 0), (8, .loc 8 0), (9, iv ((List.length a1_.Links : Nat) : Int)), (10, .loc 10 0), (11, iv 0)], [(5, [iv a1_.Nodes, a9, a10]), (8, [iv 0, s_eB true [], s_e_api_Link true []]), (10, [iv a2_, iv a3_, iv (w64 (1 + (Int.tmod r2 20))), iv (Int.tmod r3 50)])], H11⟩ APath.f (by rcases hfa10 with ha10e | ⟨_, _, ha10e⟩ <;> rcases hfa9 with ha9e | ⟨_, _, ha9e⟩ <;> subst ha10e ha9e <;> kernel_rfl) ?_)
  refine tq (bk ?_)
  obtain ⟨o521, ho521, h⟩ := bs h
  refine vc_loop ((loop_sim (fun (x : Int) s => s = ⟨[(2, iv a2_), (3, iv a3_), (5, .loc 5 0), (8, .loc 8 0), (9, iv ((List.length a1_.Links : Nat) : Int)), (10, .loc 10 0), (11, iv x)], [(5, [iv a1_.Nodes, a9, a10]), (8, [iv 0, s_eB true [], s_e_api_Link true []]), (10, [iv a2_, iv a3_, iv (w64 (1 + (Int.tmod r2 20))), iv (Int.tmod r3 50)])], H11⟩) (fun x : Int => ref16_Draft_with_L1 N a1_ a2_ a3_ x) (fun (p : (Unit) ⊕ (api_Topo)) e s => match p with | (.inl p) => e = .exit 0 ∧ (s = ⟨[(5, .loc 5 0), (8, .loc 8 0), (10, .loc 10 0)], [(5, [iv a1_.Nodes, a9, a10]), (8, [iv 0, s_eB true [], s_e_api_Link true []]), (10, [iv a2_, iv a3_, iv (w64 (1 + (Int.tmod r2 20))), iv (Int.tmod r3 50)])], H11⟩) | (.inr p) => e = .ret ∧ ∃ xs, rawL (wS [] s) i64.res = some xs ∧ ∃ (or_0_1_ : AV) (or_0_2_ : AV), tupOf xs = .agg [iv p.Nodes, or_0_1_, or_0_2_] ∧ Fp H (weakH [] s.H) [.arr bp1_1_ 1 true (List.map eB a1_.Station), .arr bp1_2_ 4 true (List.map e_api_Link a1_.Links)] [.arr or_0_1_ 1 true (List.map eB p.Station), .arr or_0_2_ 4 true (List.map e_api_Link p.Links)]) ?_ N _ o521 _ ho521 (by show _ = _; rcases hfa10 with ha10e | ⟨_, _, ha10e⟩ <;> rcases hfa9 with ha9e | ⟨_, _, ha9e⟩ <;> subst ha10e ha9e <;> kernel_rfl)).mono ?_)
  · clear h ho521
    rintro i14 o s h hR
    obtain rfl := hR
    replace h : ref16_Draft_with_L1 N a1_ a2_ a3_ i14 = some o := h
    unfold ref16_Draft_with_L1 at h
    refine sq (sq ?_)
    refine rgS ⟨[(2, iv a2_), (3, iv a3_), (5, .loc 5 0), (8, .loc 8 0), (9, iv ((List.length a1_.Links : Nat) : Int)), (10, .loc 10 0), (11, iv i14), (40, bv (decide (i14 < ((List.length a1_.Links : Nat) : Int))))], [(5, [iv a1_.Nodes, a9, a10]), (8, [iv 0, s_eB true [], s_e_api_Link true []]), (10, [iv a2_, iv a3_, iv (w64 (1 + (Int.tmod r2 20))), iv (Int.tmod r3 50)])], H11⟩ APath.f (by rcases hfa10 with ha10e | ⟨_, _, ha10e⟩ <;> rcases hfa9 with ha9e | ⟨_, _, ha9e⟩ <;> subst ha10e ha9e <;> kernel_rfl) ?_
    refine tq (it h (fun hc515 h => ?_) (fun hc515 h => ?_))
    · refine sk (tq ?_)
      refine kq (sq ?_)
      refine bk (sq ?_)
      obtain ⟨e516, he516, h⟩ := bs h
      obtain ⟨id517, ver518, _, hid517f, hid517, hid517a, hid517v⟩ := Fp.elem (k := 1) (a := a10) (sz := 4) (frz := true) e_api_Link hH rfl he516
      obtain ⟨r519, hr519, h⟩ := bs h
      refine rgS ⟨[(2, iv a2_), (3, iv a3_), (5, .loc 5 0), (8, .loc 8 0), (9, iv ((List.length a1_.Links : Nat) : Int)), (10, .loc 10 0), (11, iv i14), (50, bv r519)], [(5, [iv a1_.Nodes, a9, a10]), (8, [iv 0, s_eB true [], s_e_api_Link true []]), (10, [iv a2_, iv a3_, iv (w64 (1 + (Int.tmod r2 20))), iv (Int.tmod r3 50)])], H11⟩ (APath.u (hm := (by rcases hfa10 with ha10e | ⟨_, _, ha10e⟩ <;> rcases hfa9 with ha9e | ⟨_, _, ha9e⟩ <;> subst ha10e ha9e <;> kernel_rfl)) 3 (st_val (ys := [a10, iv i14]) (by rcases hfa10 with ha10e | ⟨_, _, ha10e⟩ <;> rcases hfa9 with ha9e | ⟨_, _, ha9e⟩ <;> subst ha10e ha9e <;> kernel_rfl) (hid517v .i64)) (APath.u (hm := (by rcases hfa10 with ha10e | ⟨_, _, ha10e⟩ <;> rcases hfa9 with ha9e | ⟨_, _, ha9e⟩ <;> subst ha10e ha9e <;> kernel_rfl)) 0 (st_loadO (H := H11) (off := 0) (cs := [.int .i64 e516.A, .int .i64 e516.B, .int .i64 e516.Per, .int .i64 e516.Delay]) (r := .agg (c_api_Link e516)) e_api_Link he516 hid517 (by rcases hfa10 with ha10e | ⟨_, _, ha10e⟩ <;> rcases hfa9 with ha9e | ⟨_, _, ha9e⟩ <;> subst ha10e ha9e <;> kernel_rfl) (by rcases hfa10 with ha10e | ⟨_, _, ha10e⟩ <;> rcases hfa9 with ha9e | ⟨_, _, ha9e⟩ <;> subst ha10e ha9e <;> kernel_rfl) (by rcases hfa10 with ha10e | ⟨_, _, ha10e⟩ <;> rcases hfa9 with ha9e | ⟨_, _, ha9e⟩ <;> subst ha10e ha9e <;> kernel_rfl) (by rcases hfa10 with ha10e | ⟨_, _, ha10e⟩ <;> rcases hfa9 with ha9e | ⟨_, _, ha9e⟩ <;> subst ha10e ha9e <;> kernel_rfl)) (APath.v (hm := (by rcases hfa10 with ha10e | ⟨_, _, ha10e⟩ <;> rcases hfa9 with ha9e | ⟨_, _, ha9e⟩ <;> subst ha10e ha9e <;> kernel_rfl)) 2 (st_call (by rcases hfa10 with ha10e | ⟨_, _, ha10e⟩ <;> rcases hfa9 with ha9e | ⟨_, _, ha9e⟩ <;> subst ha10e ha9e <;> kernel_rfl) (ref16_Joins_ok N e516 a2_ a3_ r519 hr519)) APath.f))) (by rcases hfa10 with ha10e | ⟨_, _, ha10e⟩ <;> rcases hfa9 with ha9e | ⟨_, _, ha9e⟩ <;> subst ha10e ha9e <;> kernel_rfl) ?_
      refine tq (it h (fun hc520 h => ?_) (fun hc520 h => ?_))
      · refine sq (rgS ⟨[(8, .loc 8 0)], [(8, [iv a1_.Nodes, a9, a10])], H11⟩ (APath.f (h := (by rcases hfa10 with ha10e | ⟨_, _, ha10e⟩ <;> rcases hfa9 with ha9e | ⟨_, _, ha9e⟩ <;> subst ha10e ha9e <;> kernel_rfl))) (by rcases hfa10 with ha10e | ⟨_, _, ha10e⟩ <;> rcases hfa9 with ha9e | ⟨_, _, ha9e⟩ <;> subst ha10e ha9e <;> kernel_rfl) ?_)
        refine tq (rt ?_)
        refine br (tr ?_)
        obtain rfl := some_inj h
        exact ⟨_, rfl, rfl, ⟨[.agg [iv a1_.Nodes, a9, a10]], (by rcases hfa10 with ha10e | ⟨_, _, ha10e⟩ <;> rcases hfa9 with ha9e | ⟨_, _, ha9e⟩ <;> subst ha10e ha9e <;> kernel_rfl), a9, a10, (by rcases hfa10 with ha10e | ⟨_, _, ha10e⟩ <;> rcases hfa9 with ha9e | ⟨_, _, ha9e⟩ <;> subst ha10e ha9e <;> kernel_rfl), Fp.pk hH [0, 1] rfl⟩⟩
      refine sk (bn ?_)
      refine tq (kq ?_)
      refine rgS ⟨[(2, iv a2_), (3, iv a3_), (5, .loc 5 0), (8, .loc 8 0), (9, iv ((List.length a1_.Links : Nat) : Int)), (10, .loc 10 0), (11, iv (w64 (i14 + 1)))], [(5, [iv a1_.Nodes, a9, a10]), (8, [iv 0, s_eB true [], s_e_api_Link true []]), (10, [iv a2_, iv a3_, iv (w64 (1 + (Int.tmod r2 20))), iv (Int.tmod r3 50)])], H11⟩ APath.f (by rcases hfa10 with ha10e | ⟨_, _, ha10e⟩ <;> rcases hfa9 with ha9e | ⟨_, _, ha9e⟩ <;> subst ha10e ha9e <;> kernel_rfl) ?_
      obtain rfl := some_inj h
      exact ⟨_, rfl, (by show _ = _; rcases hfa10 with ha10e | ⟨_, _, ha10e⟩ <;> rcases hfa9 with ha9e | ⟨_, _, ha9e⟩ <;> subst ha10e ha9e <;> kernel_rfl)⟩
    refine kq (xq ?_)
    refine tx ?_
    obtain rfl := some_inj h
    exact ⟨_, rfl, rfl, (by show _ = _; rcases hfa10 with ha10e | ⟨_, _, ha10e⟩ <;> rcases hfa9 with ha9e | ⟨_, _, ha9e⟩ <;> subst ha10e ha9e <;> kernel_rfl)⟩
  rintro e s hq
  rcases o521 with p522 | p526
  · dsimp only at h hq
    obtain ⟨rfl, hR⟩ := hq
    obtain rfl := hR
    refine bx (tq ?_)
    refine sq ?_
    obtain ⟨l525, hl525, h⟩ := bs h
    obtain ⟨a523, H524, ha523, hH⟩ := Fp.app (k := 1) (a := a10) (sz := 4) (frz := true) e_api_Link hH rfl hl525
    replace hH : Fp H H524 [.arr bp1_1_ 1 true (List.map eB a1_.Station), .arr bp1_2_ 4 true (List.map e_api_Link a1_.Links)] [.arr a9 1 true (List.map eB a1_.Station), .arr a523 4 true (List.map e_api_Link l525)] := hH
    have hfa523 := own_form (Fp.get hH 1 rfl)
    refine rgS ⟨[(5, .loc 5 0), (8, .loc 8 0)], [(5, [iv a1_.Nodes, a9, a523]), (8, [iv 0, s_eB true [], s_e_api_Link true []])], H524⟩ (APath.h (hm := (by rcases hfa10 with ha10e | ⟨_, _, ha10e⟩ <;> rcases hfa9 with ha9e | ⟨_, _, ha9e⟩ <;> subst ha10e ha9e <;> kernel_rfl)) 4 (st_app (H := H11) (a := a10) (b := s_e_api_Link true [(api_Link.mk a2_ a3_ (w64 (1 + (Int.tmod r2 20))) (Int.tmod r3 50))]) (by rcases hfa10 with ha10e | ⟨_, _, ha10e⟩ <;> rcases hfa9 with ha9e | ⟨_, _, ha9e⟩ <;> subst ha10e ha9e <;> kernel_rfl) (by rcases hfa10 with ha10e | ⟨_, _, ha10e⟩ <;> rcases hfa9 with ha9e | ⟨_, _, ha9e⟩ <;> subst ha10e ha9e <;> kernel_rfl) (by rcases hfa10 with ha10e | ⟨_, _, ha10e⟩ <;> rcases hfa9 with ha9e | ⟨_, _, ha9e⟩ <;> subst ha10e ha9e <;> kernel_rfl) (by rcases hfa10 with ha10e | ⟨_, _, ha10e⟩ <;> rcases hfa9 with ha9e | ⟨_, _, ha9e⟩ <;> subst ha10e ha9e <;> kernel_rfl) ha523) (APath.f (h := (by rcases hfa10 with ha10e | ⟨_, _, ha10e⟩ <;> rcases hfa523 with ha523e | ⟨_, _, ha523e⟩ <;> rcases hfa9 with ha9e | ⟨_, _, ha9e⟩ <;> subst ha10e ha523e ha9e <;> kernel_rfl)))) (by rcases hfa10 with ha10e | ⟨_, _, ha10e⟩ <;> rcases hfa523 with ha523e | ⟨_, _, ha523e⟩ <;> rcases hfa9 with ha9e | ⟨_, _, ha9e⟩ <;> subst ha10e ha523e ha9e <;> kernel_rfl) ?_
    refine tq (sq ?_)
    refine rgS ⟨[(8, .loc 8 0)], [(8, [iv a1_.Nodes, a9, a523])], H524⟩ (APath.f (h := (by rcases hfa523 with ha523e | ⟨_, _, ha523e⟩ <;> rcases hfa9 with ha9e | ⟨_, _, ha9e⟩ <;> subst ha523e ha9e <;> kernel_rfl))) (by rcases hfa523 with ha523e | ⟨_, _, ha523e⟩ <;> rcases hfa9 with ha9e | ⟨_, _, ha9e⟩ <;> subst ha523e ha9e <;> kernel_rfl) ?_
    refine tq (rt ?_)
    obtain rfl := some_inj h
    exact ⟨[.agg [iv a1_.Nodes, a9, a523]], (by rcases hfa523 with ha523e | ⟨_, _, ha523e⟩ <;> rcases hfa9 with ha9e | ⟨_, _, ha9e⟩ <;> subst ha523e ha9e <;> kernel_rfl), a9, a523, (by rcases hfa523 with ha523e | ⟨_, _, ha523e⟩ <;> rcases hfa9 with ha9e | ⟨_, _, ha9e⟩ <;> subst ha523e ha9e <;> kernel_rfl), Fp.pk hH [0, 1] rfl⟩
  dsimp only at h hq
  obtain ⟨rfl, hq⟩ := hq
  refine br (tr ?_)
  obtain rfl := some_inj h
  exact hq
theorem topo_sound_ok (N : Nat) (a0_ : api_Topo) (r : Bool) (h : topo_sound N a0_ = some r) : PCall Try.prog 74 [.agg (c_api_Topo a0_)] (bv r) := by
  unfold topo_sound at h
  have hH : HP ([] : List HO) [] := trivial
  refine pcall_of chk74 rfl rfl (vc_sound _ _ _ ?_) rfl
  refine sq ?_
  obtain ⟨id1, H2, hid1, hH2, hH⟩ := HP.newCell hH (c_api_Topo a0_)
  replace hH : HP H2 [.cel id1 (c_api_Topo a0_)] := hH
  refine rg (APath.h 0 (st_boxH (H := []) (v := .agg (c_api_Topo a0_)) (by kernel_rfl) (by kernel_rfl) (by kernel_rfl) hid1 hH2) APath.f) (tq ?_)
  refine sq (rg APath.f ?_)
  refine tq (sq ?_)
  refine sq ?_
  have hlc3 := HP.get hH 0 rfl
  refine rg (APath.u 1 (st_loadC (H := H2) (id := id1) (off := 2) (cs := (c_api_Topo a0_)) (c := [s_e_api_Link false a0_.Links]) (r := s_e_api_Link false a0_.Links) (by kernel_rfl) (by kernel_rfl) hlc3 (by kernel_rfl) (by kernel_rfl) (by kernel_rfl)) (APath.u 0 (st_val (ys := [s_e_api_Link false a0_.Links]) (by kernel_rfl) (vexec_len e_api_Link)) APath.f)) (tq ?_)
  refine bk ?_
  obtain ⟨o514, ho514, h⟩ := bs h
  refine vc_loop ((loop_sim (fun (x : Int) s => s = ⟨[(3, .loc 3 0), (14, iv ((List.length a0_.Links : Nat) : Int)), (15, iv x)], [(3, [.fn 82 [] [.ptr id1 0], .fn 84 [] [.ptr id1 0], .fn 85 [] [.ptr id1 0], .fn 86 [] [.ptr id1 0]])], H2⟩) (fun x : Int => topo_sound_L1 N a0_ x) (fun (p : (Unit) ⊕ (Bool)) e s => match p with | (.inl p) => e = .exit 0 ∧ (s = ⟨[], [], H2⟩) | (.inr p) => e = .ret ∧ ∃ xs, resL s i74.res = some xs ∧ tupOf xs = bv p) ?_ N _ o514 _ ho514 (by show _ = _; kernel_rfl)).mono ?_)
  · clear h ho514
    rintro i4 o s h hR
    obtain rfl := hR
    replace h : topo_sound_L1 N a0_ i4 = some o := h
    unfold topo_sound_L1 at h
    refine sq (rg APath.f ?_)
    refine tq (sq ?_)
    refine it h (fun hc505 h => ?_) (fun hc505 h => ?_)
    · refine sk (tq ?_)
      refine kq (sq ?_)
      refine bk (sq ?_)
      refine rg APath.f (tq ?_)
      refine sq (rg APath.f ?_)
      refine tq (bk ?_)
      refine vc_unroll 18 ?_
      refine unr_step ?_
      refine sq (rg APath.f ?_)
      refine tq (sq ?_)
      refine vc_true (by kernel_rfl) ?_
      refine sk (tq ?_)
      refine kq (sq ?_)
      refine bk (sq ?_)
      refine rg APath.f (tq ?_)
      refine sq ?_
      obtain ⟨r506, hr506, h⟩ := bs h
      have hvr506 := (topo_sound_1_ok N i4 a0_ id1 H2 (HP.now (HP.pick hH [0] rfl)) r506 hr506)
      refine rg (APath.v 2 (st_callV (H := H2) (fv := .fn 82 [] [.ptr id1 0]) (ys := [iv i4]) (by kernel_rfl) (by kernel_rfl) (by kernel_rfl) (VCall.of (by kernel_rfl) hvr506)) APath.f) (tq ?_)
      refine it h (fun hc507 h => ?_) (fun hc507 h => ?_)
      · refine sq (rg APath.f ?_)
        replace hH : HP H2 [] := HP.pick hH [] rfl
        refine tq (rt ?_)
        refine br (tr ?_)
        refine tr (br ?_)
        refine br (tr ?_)
        obtain rfl := some_inj h
        exact ⟨_, rfl, rfl, ret_of (by kernel_rfl)⟩
      refine sk (bn ?_)
      refine tq (kq ?_)
      refine rg APath.f (tq ?_)
      refine unr_step ?_
      refine sq (rg APath.f ?_)
      refine tq (sq ?_)
      refine vc_true (by kernel_rfl) ?_
      refine sk (tq ?_)
      refine kq (sq ?_)
      refine bk (sq ?_)
      refine rg APath.f (tq ?_)
      refine sq ?_
      obtain ⟨r508, hr508, h⟩ := bs h
      have hvr508 := (topo_sound_2_ok N i4 a0_ id1 H2 (HP.now (HP.pick hH [0] rfl)) r508 hr508)
      refine rg (APath.v 2 (st_callV (H := H2) (fv := .fn 84 [] [.ptr id1 0]) (ys := [iv i4]) (by kernel_rfl) (by kernel_rfl) (by kernel_rfl) (VCall.of (by kernel_rfl) hvr508)) APath.f) (tq ?_)
      refine it h (fun hc509 h => ?_) (fun hc509 h => ?_)
      · refine sq (rg APath.f ?_)
        replace hH : HP H2 [] := HP.pick hH [] rfl
        refine tq (rt ?_)
        refine br (tr ?_)
        refine tr (br ?_)
        refine br (tr ?_)
        obtain rfl := some_inj h
        exact ⟨_, rfl, rfl, ret_of (by kernel_rfl)⟩
      refine sk (bn ?_)
      refine tq (kq ?_)
      refine rg APath.f (tq ?_)
      refine unr_step ?_
      refine sq (rg APath.f ?_)
      refine tq (sq ?_)
      refine vc_true (by kernel_rfl) ?_
      refine sk (tq ?_)
      refine kq (sq ?_)
      refine bk (sq ?_)
      refine rg APath.f (tq ?_)
      refine sq ?_
      obtain ⟨r510, hr510, h⟩ := bs h
      have hvr510 := (topo_sound_3_ok N i4 a0_ id1 H2 (HP.now (HP.pick hH [0] rfl)) r510 hr510)
      refine rg (APath.v 2 (st_callV (H := H2) (fv := .fn 85 [] [.ptr id1 0]) (ys := [iv i4]) (by kernel_rfl) (by kernel_rfl) (by kernel_rfl) (VCall.of (by kernel_rfl) hvr510)) APath.f) (tq ?_)
      refine it h (fun hc511 h => ?_) (fun hc511 h => ?_)
      · refine sq (rg APath.f ?_)
        replace hH : HP H2 [] := HP.pick hH [] rfl
        refine tq (rt ?_)
        refine br (tr ?_)
        refine tr (br ?_)
        refine br (tr ?_)
        obtain rfl := some_inj h
        exact ⟨_, rfl, rfl, ret_of (by kernel_rfl)⟩
      refine sk (bn ?_)
      refine tq (kq ?_)
      refine rg APath.f (tq ?_)
      refine unr_step ?_
      refine sq (rg APath.f ?_)
      refine tq (sq ?_)
      refine vc_true (by kernel_rfl) ?_
      refine sk (tq ?_)
      refine kq (sq ?_)
      refine bk (sq ?_)
      refine rg APath.f (tq ?_)
      refine sq ?_
      obtain ⟨r512, hr512, h⟩ := bs h
      have hvr512 := (topo_sound_4_ok N i4 a0_ id1 H2 (HP.now (HP.pick hH [0] rfl)) r512 hr512)
      refine rg (APath.v 2 (st_callV (H := H2) (fv := .fn 86 [] [.ptr id1 0]) (ys := [iv i4]) (by kernel_rfl) (by kernel_rfl) (by kernel_rfl) (VCall.of (by kernel_rfl) hvr512)) APath.f) (tq ?_)
      refine it h (fun hc513 h => ?_) (fun hc513 h => ?_)
      · refine sq (rg APath.f ?_)
        replace hH : HP H2 [] := HP.pick hH [] rfl
        refine tq (rt ?_)
        refine br (tr ?_)
        refine tr (br ?_)
        refine br (tr ?_)
        obtain rfl := some_inj h
        exact ⟨_, rfl, rfl, ret_of (by kernel_rfl)⟩
      refine sk (bn ?_)
      refine tq (kq ?_)
      refine rg APath.f (tq ?_)
      refine unr_step ?_
      refine sq (rg APath.f ?_)
      refine tq (sq ?_)
      refine vc_false (by kernel_rfl) ?_
      refine kq (xq ?_)
      refine tx (tx ?_)
      refine bx (bn ?_)
      refine tq (rg APath.f ?_)
      obtain rfl := some_inj h
      exact ⟨_, rfl, (by show _ = _; kernel_rfl)⟩
    refine kq ?_
    replace hH : HP H2 [] := HP.pick hH [] rfl
    refine xq (tx ?_)
    obtain rfl := some_inj h
    exact ⟨_, rfl, rfl, (by show _ = _; kernel_rfl)⟩
  rintro e s hq
  rcases o514 with p515 | p516
  · dsimp only at h hq
    obtain ⟨rfl, hR⟩ := hq
    obtain rfl := hR
    refine bx (tq ?_)
    refine sq (rg APath.f ?_)
    refine tq (rt ?_)
    obtain rfl := some_inj h
    exact ret_of (by kernel_rfl)
  dsimp only at h hq
  obtain ⟨rfl, hq⟩ := hq
  refine br (tr ?_)
  obtain rfl := some_inj h
  exact hq
theorem ref16_Draft_Topo_ok (N : Nat) (a0_ : ref16_Draft) (r : api_Topo) (h : ref16_Draft_Topo N a0_ = some r) : PCall Try.prog 31 [.agg (c_ref16_Draft a0_)] (.agg [iv r.Nodes, s_eB false r.Station, s_e_api_Link false r.Links]) := by
  unfold ref16_Draft_Topo at h
  have hH : HP ([] : List HO) [] := trivial
  refine pcall_of chk31 rfl rfl (vc_sound _ _ _ ?_) rfl
  refine sq (rg APath.f ?_)
  refine tq (sq ?_)
  refine rg APath.f (tq ?_)
  refine sq (rg APath.f ?_)
  refine tq (sq ?_)
  refine rg APath.f (tq ?_)
  refine sq (sq ?_)
  refine rg APath.f (tq ?_)
  refine bk ?_
  obtain ⟨o511, ho511, h⟩ := bs h
  refine vc_loop ((loop_sim (fun (x : Int × (List Bool)) s => ∃ (a1 : AV) (H2 : List HO), s = ⟨[(1, .loc 1 0), (2, .loc 2 0), (3, iv (w64 (1 + (w64 ((Int.tmod a0_.Bridges 6)))))), (4, iv (w64 (2 + (w64 ((Int.tmod a0_.Stations 5)))))), (5, .loc 5 0), (6, iv x.1)], [(1, (c_ref16_Draft a0_)), (2, [iv 0, s_eB true [], s_e_api_Link true []]), (5, [iv (w64 ((w64 (1 + (w64 ((Int.tmod a0_.Bridges 6))))) + (w64 (2 + (w64 ((Int.tmod a0_.Stations 5))))))), a1, s_e_api_Link true []])], H2⟩ ∧ HP H2 [.arr a1 1 false (List.map eB x.2)]) (fun x : Int × (List Bool) => ref16_Draft_Topo_L1 N a0_ x.1 x.2) (fun (p : (List Bool)) e s => e = .exit 0 ∧ (∃ (a505 : AV) (H506 : List HO), s = ⟨[(1, .loc 1 0), (2, .loc 2 0), (3, iv (w64 (1 + (w64 ((Int.tmod a0_.Bridges 6)))))), (4, iv (w64 (2 + (w64 ((Int.tmod a0_.Stations 5)))))), (5, .loc 5 0)], [(1, (c_ref16_Draft a0_)), (2, [iv 0, s_eB true [], s_e_api_Link true []]), (5, [iv (w64 ((w64 (1 + (w64 ((Int.tmod a0_.Bridges 6))))) + (w64 (2 + (w64 ((Int.tmod a0_.Stations 5))))))), a505, s_e_api_Link true []])], H506⟩ ∧ HP H506 [.arr a505 1 false (List.map eB p)])) ?_ N _ o511 _ ho511 ⟨(.p (.sl 1 true [])), [], (by show _ = _; kernel_rfl), (HP.pick (HP.nilArr hH 1 false) [0] rfl)⟩).mono ?_)
  · clear h ho511
    rintro ⟨i3, l4⟩ o s h hR
    obtain ⟨a1, H2, rfl, hH⟩ := hR
    replace hH : HP H2 [.arr a1 1 false (List.map eB l4)] := hH
    have hfa1 := own_form (HP.get hH 0 rfl)
    replace h : ref16_Draft_Topo_L1 N a0_ i3 l4 = some o := h
    unfold ref16_Draft_Topo_L1 at h
    refine sq (sq ?_)
    refine rgS ⟨[(1, .loc 1 0), (2, .loc 2 0), (3, iv (w64 (1 + (w64 ((Int.tmod a0_.Bridges 6)))))), (4, iv (w64 (2 + (w64 ((Int.tmod a0_.Stations 5)))))), (5, .loc 5 0), (6, iv i3), (28, bv (decide (i3 < (w64 ((w64 (1 + (w64 ((Int.tmod a0_.Bridges 6))))) + (w64 (2 + (w64 ((Int.tmod a0_.Stations 5))))))))))], [(1, (c_ref16_Draft a0_)), (2, [iv 0, s_eB true [], s_e_api_Link true []]), (5, [iv (w64 ((w64 (1 + (w64 ((Int.tmod a0_.Bridges 6))))) + (w64 (2 + (w64 ((Int.tmod a0_.Stations 5))))))), a1, s_e_api_Link true []])], H2⟩ (APath.f (h := (by rcases hfa1 with ha1e | ⟨_, _, ha1e⟩ <;> subst ha1e <;> kernel_rfl))) (by rcases hfa1 with ha1e | ⟨_, _, ha1e⟩ <;> subst ha1e <;> kernel_rfl) ?_
    refine tq (it h (fun hc507 h => ?_) (fun hc507 h => ?_))
    · refine sk (tq ?_)
      refine kq (sq ?_)
      refine bk ?_
      obtain ⟨l510, hl510, h⟩ := bs h
      obtain ⟨a508, H509, ha508, hH⟩ := HP.app (k := 0) (a := a1) (sz := 1) (frz := false) eB hH rfl hl510
      replace hH : HP H509 [.arr a508 1 false (List.map eB l510)] := hH
      have hfa508 := own_form (HP.get hH 0 rfl)
      refine rgS ⟨[(1, .loc 1 0), (2, .loc 2 0), (3, iv (w64 (1 + (w64 ((Int.tmod a0_.Bridges 6)))))), (4, iv (w64 (2 + (w64 ((Int.tmod a0_.Stations 5)))))), (5, .loc 5 0), (6, iv i3)], [(1, (c_ref16_Draft a0_)), (2, [iv 0, s_eB true [], s_e_api_Link true []]), (5, [iv (w64 ((w64 (1 + (w64 ((Int.tmod a0_.Bridges 6))))) + (w64 (2 + (w64 ((Int.tmod a0_.Stations 5))))))), a508, s_e_api_Link true []])], H509⟩ (APath.h (hm := (by rcases hfa1 with ha1e | ⟨_, _, ha1e⟩ <;> subst ha1e <;> kernel_rfl)) 6 (st_app (H := H2) (a := a1) (b := s_eB true [(decide (i3 ≥ (w64 (1 + (w64 ((Int.tmod a0_.Bridges 6)))))))]) (by rcases hfa1 with ha1e | ⟨_, _, ha1e⟩ <;> subst ha1e <;> kernel_rfl) (by rcases hfa1 with ha1e | ⟨_, _, ha1e⟩ <;> subst ha1e <;> kernel_rfl) (by rcases hfa1 with ha1e | ⟨_, _, ha1e⟩ <;> subst ha1e <;> kernel_rfl) (by rcases hfa1 with ha1e | ⟨_, _, ha1e⟩ <;> subst ha1e <;> kernel_rfl) ha508) (APath.f (h := (by rcases hfa1 with ha1e | ⟨_, _, ha1e⟩ <;> rcases hfa508 with ha508e | ⟨_, _, ha508e⟩ <;> subst ha1e ha508e <;> kernel_rfl)))) (by rcases hfa1 with ha1e | ⟨_, _, ha1e⟩ <;> rcases hfa508 with ha508e | ⟨_, _, ha508e⟩ <;> subst ha1e ha508e <;> kernel_rfl) ?_
      refine bn (tq ?_)
      refine rgS ⟨[(1, .loc 1 0), (2, .loc 2 0), (3, iv (w64 (1 + (w64 ((Int.tmod a0_.Bridges 6)))))), (4, iv (w64 (2 + (w64 ((Int.tmod a0_.Stations 5)))))), (5, .loc 5 0), (6, iv (w64 (i3 + 1)))], [(1, (c_ref16_Draft a0_)), (2, [iv 0, s_eB true [], s_e_api_Link true []]), (5, [iv (w64 ((w64 (1 + (w64 ((Int.tmod a0_.Bridges 6))))) + (w64 (2 + (w64 ((Int.tmod a0_.Stations 5))))))), a508, s_e_api_Link true []])], H509⟩ APath.f (by rcases hfa508 with ha508e | ⟨_, _, ha508e⟩ <;> subst ha508e <;> kernel_rfl) ?_
      obtain rfl := some_inj h
      exact ⟨_, rfl, ⟨a508, H509, (by show _ = _; rcases hfa508 with ha508e | ⟨_, _, ha508e⟩ <;> subst ha508e <;> kernel_rfl), (HP.pick hH [0] rfl)⟩⟩
    refine kq (xq ?_)
    refine tx ?_
    obtain rfl := some_inj h
    exact ⟨_, rfl, rfl, ⟨a1, H2, (by show _ = _; rcases hfa1 with ha1e | ⟨_, _, ha1e⟩ <;> subst ha1e <;> kernel_rfl), (HP.pick hH [0] rfl)⟩⟩
  rintro e s hq
  obtain ⟨rfl, hR⟩ := hq
  obtain ⟨a505, H506, rfl, hH⟩ := hR
  replace hH : HP H506 [.arr a505 1 false (List.map eB o511)] := hH
  have hfa505 := own_form (HP.get hH 0 rfl)
  refine bx (tq ?_)
  refine sq (sq ?_)
  refine rgS ⟨[(1, .loc 1 0), (2, .loc 2 0), (3, iv (w64 (1 + (w64 ((Int.tmod a0_.Bridges 6)))))), (4, iv (w64 (2 + (w64 ((Int.tmod a0_.Stations 5)))))), (5, .loc 5 0), (7, iv 1)], [(1, (c_ref16_Draft a0_)), (2, [iv 0, s_eB true [], s_e_api_Link true []]), (5, [iv (w64 ((w64 (1 + (w64 ((Int.tmod a0_.Bridges 6))))) + (w64 (2 + (w64 ((Int.tmod a0_.Stations 5))))))), a505, s_e_api_Link true []])], H506⟩ APath.f (by rcases hfa505 with ha505e | ⟨_, _, ha505e⟩ <;> subst ha505e <;> kernel_rfl) ?_
  refine tq (bk ?_)
  obtain ⟨o1027, ho1027, h⟩ := bs h
  refine vc_loop ((loop_sim (fun (x : Int × Int × (List Bool) × (List api_Link)) s => ∃ (a512 : AV) (a513 : AV) (H514 : List HO), s = ⟨[(1, .loc 1 0), (2, .loc 2 0), (3, iv (w64 (1 + (w64 ((Int.tmod a0_.Bridges 6)))))), (4, iv (w64 (2 + (w64 ((Int.tmod a0_.Stations 5)))))), (5, .loc 5 0), (7, iv x.1)], [(1, (c_ref16_Draft a0_)), (2, [iv 0, s_eB true [], s_e_api_Link true []]), (5, [iv x.2.1, a512, a513])], H514⟩ ∧ HP H514 [.arr a512 1 true (List.map eB x.2.2.1), .arr a513 4 true (List.map e_api_Link x.2.2.2)]) (fun x : Int × Int × (List Bool) × (List api_Link) => ref16_Draft_Topo_L2 N a0_ x.1 x.2.1 x.2.2.1 x.2.2.2) (fun (p : Int × (List Bool) × (List api_Link)) e s => e = .exit 2 ∧ (∃ (a1019 : AV) (a1020 : AV) (H1021 : List HO), s = ⟨[(1, .loc 1 0), (2, .loc 2 0), (3, iv (w64 (1 + (w64 ((Int.tmod a0_.Bridges 6)))))), (4, iv (w64 (2 + (w64 ((Int.tmod a0_.Stations 5)))))), (5, .loc 5 0)], [(1, (c_ref16_Draft a0_)), (2, [iv 0, s_eB true [], s_e_api_Link true []]), (5, [iv p.1, a1019, a1020])], H1021⟩ ∧ HP H1021 [.arr a1019 1 true (List.map eB p.2.1), .arr a1020 4 true (List.map e_api_Link p.2.2)])) ?_ N _ o1027 _ ho1027 ⟨a505, (.p (.sl 4 true [])), H506, (by show _ = _; rcases hfa505 with ha505e | ⟨_, _, ha505e⟩ <;> subst ha505e <;> kernel_rfl), (HP.frzUp (k := 0) (HP.pick (HP.nilArr hH 4 true) [1, 0] rfl) rfl)⟩).mono ?_)
  · clear h ho1027
    rintro ⟨i515, i516, l517, l518⟩ o s h hR
    obtain ⟨a512, a513, H514, rfl, hH⟩ := hR
    replace hH : HP H514 [.arr a512 1 true (List.map eB l517), .arr a513 4 true (List.map e_api_Link l518)] := hH
    have hfa512 := own_form (HP.get hH 0 rfl)
    have hfa513 := own_form (HP.get hH 1 rfl)
    replace h : ref16_Draft_Topo_L2 N a0_ i515 i516 l517 l518 = some o := h
    unfold ref16_Draft_Topo_L2 at h
    refine sq (sq ?_)
    refine rgS ⟨[(1, .loc 1 0), (2, .loc 2 0), (3, iv (w64 (1 + (w64 ((Int.tmod a0_.Bridges 6)))))), (4, iv (w64 (2 + (w64 ((Int.tmod a0_.Stations 5)))))), (5, .loc 5 0), (7, iv i515), (41, bv (decide (i515 < (w64 (1 + (w64 ((Int.tmod a0_.Bridges 6))))))))], [(1, (c_ref16_Draft a0_)), (2, [iv 0, s_eB true [], s_e_api_Link true []]), (5, [iv i516, a512, a513])], H514⟩ APath.f (by rcases hfa512 with ha512e | ⟨_, _, ha512e⟩ <;> rcases hfa513 with ha513e | ⟨_, _, ha513e⟩ <;> subst ha512e ha513e <;> kernel_rfl) ?_
    refine tq (it h (fun hc1022 h => ?_) (fun hc1022 h => ?_))
    · refine sk (tq ?_)
      refine kq (sq ?_)
      refine bk ?_
      obtain ⟨r1023, hr1023, h⟩ := bs h
      have hl_a512 := HP.get hH 0 rfl
      have hl_a513 := HP.get hH 1 rfl
      obtain ⟨a1024, a1025, H1026, hvr1023, hpr1023⟩ := ref16_Draft_with_ok N a0_ (api_Topo.mk i516 l517 l518) (w64 (i515 - 1)) i515   a512 a513 H514 (HP.now (HP.pick hH [0, 1] rfl)) r1023 hr1023
      replace hH : HP H1026 [.arr a1024 1 true (List.map eB r1023.Station), .arr a1025 4 true (List.map e_api_Link r1023.Links)] := HP.callee (fp := [.arr a512 1 true (List.map eB l517), .arr a513 4 true (List.map e_api_Link l518)]) (rest := []) (HP.pick hH [0, 1] rfl) hpr1023
      have hfa1024 := own_form (HP.get hH 0 rfl)
      have hfa1025 := own_form (HP.get hH 1 rfl)
      refine rgS ⟨[(1, .loc 1 0), (2, .loc 2 0), (3, iv (w64 (1 + (w64 ((Int.tmod a0_.Bridges 6)))))), (4, iv (w64 (2 + (w64 ((Int.tmod a0_.Stations 5)))))), (5, .loc 5 0), (7, iv i515)], [(1, (c_ref16_Draft a0_)), (2, [iv 0, s_eB true [], s_e_api_Link true []]), (5, [iv r1023.Nodes, a1024, a1025])], H1026⟩ (APath.v (hm := (by rcases hfa512 with ha512e | ⟨_, _, ha512e⟩ <;> rcases hfa513 with ha513e | ⟨_, _, ha513e⟩ <;> subst ha512e ha513e <;> kernel_rfl)) 5 (st_callL (H := H514) (ys := [.agg (c_ref16_Draft a0_), .agg [iv i516, a512, a513], iv (w64 (i515 - 1)), iv i515]) (by rcases hfa512 with ha512e | ⟨_, _, ha512e⟩ <;> rcases hfa513 with ha513e | ⟨_, _, ha513e⟩ <;> subst ha512e ha513e <;> kernel_rfl) (by rcases hfa512 with ha512e | ⟨_, _, ha512e⟩ <;> rcases hfa513 with ha513e | ⟨_, _, ha513e⟩ <;> subst ha512e ha513e <;> kernel_rfl) [[], [false, true, true], [], []] (passL_cons (passV_frz rfl) (passL_cons (passV_agg (passC_cons (pass1_frz rfl) (passC_cons (pass1_raw (own_noLoc hl_a512)) (passC_cons (pass1_raw (own_noLoc hl_a513)) passC_nil')))) (passL_cons (passV_frz rfl) (passL_cons (passV_frz rfl) passL_nil')))) hvr1023) (APath.f (h := (by rcases hfa1024 with ha1024e | ⟨_, _, ha1024e⟩ <;> rcases hfa1025 with ha1025e | ⟨_, _, ha1025e⟩ <;> rcases hfa512 with ha512e | ⟨_, _, ha512e⟩ <;> rcases hfa513 with ha513e | ⟨_, _, ha513e⟩ <;> subst ha1024e ha1025e ha512e ha513e <;> kernel_rfl)))) (by rcases hfa1024 with ha1024e | ⟨_, _, ha1024e⟩ <;> rcases hfa1025 with ha1025e | ⟨_, _, ha1025e⟩ <;> rcases hfa512 with ha512e | ⟨_, _, ha512e⟩ <;> rcases hfa513 with ha513e | ⟨_, _, ha513e⟩ <;> subst ha1024e ha1025e ha512e ha513e <;> kernel_rfl) ?_
      refine bn (tq ?_)
      refine rgS ⟨[(1, .loc 1 0), (2, .loc 2 0), (3, iv (w64 (1 + (w64 ((Int.tmod a0_.Bridges 6)))))), (4, iv (w64 (2 + (w64 ((Int.tmod a0_.Stations 5)))))), (5, .loc 5 0), (7, iv (w64 (i515 + 1)))], [(1, (c_ref16_Draft a0_)), (2, [iv 0, s_eB true [], s_e_api_Link true []]), (5, [iv r1023.Nodes, a1024, a1025])], H1026⟩ APath.f (by rcases hfa1024 with ha1024e | ⟨_, _, ha1024e⟩ <;> rcases hfa1025 with ha1025e | ⟨_, _, ha1025e⟩ <;> subst ha1024e ha1025e <;> kernel_rfl) ?_
      obtain rfl := some_inj h
      exact ⟨_, rfl, ⟨a1024, a1025, H1026, (by show _ = _; rcases hfa1024 with ha1024e | ⟨_, _, ha1024e⟩ <;> rcases hfa1025 with ha1025e | ⟨_, _, ha1025e⟩ <;> subst ha1024e ha1025e <;> kernel_rfl), (HP.pick hH [0, 1] rfl)⟩⟩
    refine kq (xq ?_)
    refine tx ?_
    obtain rfl := some_inj h
    exact ⟨_, rfl, rfl, ⟨a512, a513, H514, (by show _ = _; rcases hfa512 with ha512e | ⟨_, _, ha512e⟩ <;> rcases hfa513 with ha513e | ⟨_, _, ha513e⟩ <;> subst ha512e ha513e <;> kernel_rfl), (HP.pick hH [0, 1] rfl)⟩⟩
  rintro e s hq
  obtain ⟨rfl, hR⟩ := hq
  obtain ⟨a1019, a1020, H1021, rfl, hH⟩ := hR
  replace hH : HP H1021 [.arr a1019 1 true (List.map eB o1027.2.1), .arr a1020 4 true (List.map e_api_Link o1027.2.2)] := hH
  have hfa1019 := own_form (HP.get hH 0 rfl)
  have hfa1020 := own_form (HP.get hH 1 rfl)
  refine bx (tq ?_)
  refine sq (sq ?_)
  refine rgS ⟨[(1, .loc 1 0), (2, .loc 2 0), (3, iv (w64 (1 + (w64 ((Int.tmod a0_.Bridges 6)))))), (4, iv (w64 (2 + (w64 ((Int.tmod a0_.Stations 5)))))), (5, .loc 5 0), (8, iv 0)], [(1, (c_ref16_Draft a0_)), (2, [iv 0, s_eB true [], s_e_api_Link true []]), (5, [iv o1027.1, a1019, a1020])], H1021⟩ APath.f (by rcases hfa1019 with ha1019e | ⟨_, _, ha1019e⟩ <;> rcases hfa1020 with ha1020e | ⟨_, _, ha1020e⟩ <;> subst ha1019e ha1020e <;> kernel_rfl) ?_
  refine tq (bk ?_)
  obtain ⟨o1545, ho1545, h⟩ := bs h
  refine vc_loop ((loop_sim (fun (x : Int × Int × (List Bool) × (List api_Link)) s => ∃ (a1028 : AV) (a1029 : AV) (H1030 : List HO), s = ⟨[(1, .loc 1 0), (2, .loc 2 0), (3, iv (w64 (1 + (w64 ((Int.tmod a0_.Bridges 6)))))), (4, iv (w64 (2 + (w64 ((Int.tmod a0_.Stations 5)))))), (5, .loc 5 0), (8, iv x.1)], [(1, (c_ref16_Draft a0_)), (2, [iv 0, s_eB true [], s_e_api_Link true []]), (5, [iv x.2.1, a1028, a1029])], H1030⟩ ∧ HP H1030 [.arr a1028 1 true (List.map eB x.2.2.1), .arr a1029 4 true (List.map e_api_Link x.2.2.2)]) (fun x : Int × Int × (List Bool) × (List api_Link) => ref16_Draft_Topo_L3 N a0_ x.1 x.2.1 x.2.2.1 x.2.2.2) (fun (p : Int × (List Bool) × (List api_Link)) e s => e = .exit 4 ∧ (∃ (a1535 : AV) (a1536 : AV) (H1537 : List HO), s = ⟨[(1, .loc 1 0), (2, .loc 2 0), (3, iv (w64 (1 + (w64 ((Int.tmod a0_.Bridges 6)))))), (4, iv (w64 (2 + (w64 ((Int.tmod a0_.Stations 5)))))), (5, .loc 5 0)], [(1, (c_ref16_Draft a0_)), (2, [iv 0, s_eB true [], s_e_api_Link true []]), (5, [iv p.1, a1535, a1536])], H1537⟩ ∧ HP H1537 [.arr a1535 1 true (List.map eB p.2.1), .arr a1536 4 true (List.map e_api_Link p.2.2)])) ?_ N _ o1545 _ ho1545 ⟨a1019, a1020, H1021, (by show _ = _; rcases hfa1019 with ha1019e | ⟨_, _, ha1019e⟩ <;> rcases hfa1020 with ha1020e | ⟨_, _, ha1020e⟩ <;> subst ha1019e ha1020e <;> kernel_rfl), (HP.pick hH [0, 1] rfl)⟩).mono ?_)
  · clear h ho1545
    rintro ⟨i1031, i1032, l1033, l1034⟩ o s h hR
    obtain ⟨a1028, a1029, H1030, rfl, hH⟩ := hR
    replace hH : HP H1030 [.arr a1028 1 true (List.map eB l1033), .arr a1029 4 true (List.map e_api_Link l1034)] := hH
    have hfa1028 := own_form (HP.get hH 0 rfl)
    have hfa1029 := own_form (HP.get hH 1 rfl)
    replace h : ref16_Draft_Topo_L3 N a0_ i1031 i1032 l1033 l1034 = some o := h
    unfold ref16_Draft_Topo_L3 at h
    refine sq (sq ?_)
    refine rgS ⟨[(1, .loc 1 0), (2, .loc 2 0), (3, iv (w64 (1 + (w64 ((Int.tmod a0_.Bridges 6)))))), (4, iv (w64 (2 + (w64 ((Int.tmod a0_.Stations 5)))))), (5, .loc 5 0), (8, iv i1031), (52, bv (decide (i1031 < (w64 (2 + (w64 ((Int.tmod a0_.Stations 5))))))))], [(1, (c_ref16_Draft a0_)), (2, [iv 0, s_eB true [], s_e_api_Link true []]), (5, [iv i1032, a1028, a1029])], H1030⟩ APath.f (by rcases hfa1028 with ha1028e | ⟨_, _, ha1028e⟩ <;> rcases hfa1029 with ha1029e | ⟨_, _, ha1029e⟩ <;> subst ha1028e ha1029e <;> kernel_rfl) ?_
    refine tq (it h (fun hc1538 h => ?_) (fun hc1538 h => ?_))
    · refine sk (tq ?_)
      refine kq (sq ?_)
      refine bk ?_
      obtain ⟨r1539, hr1539, h⟩ := bs h
      obtain ⟨m1540, hm1540, h⟩ := bs h
      obtain ⟨r1541, hr1541, h⟩ := bs h
      have hl_a1028 := HP.get hH 0 rfl
      have hl_a1029 := HP.get hH 1 rfl
      obtain ⟨a1542, a1543, H1544, hvr1541, hpr1541⟩ := ref16_Draft_with_ok N a0_ (api_Topo.mk i1032 l1033 l1034) (w64 ((w64 (1 + (w64 ((Int.tmod a0_.Bridges 6))))) + i1031)) m1540   a1028 a1029 H1030 (HP.now (HP.pick hH [0, 1] rfl)) r1541 hr1541
      replace hH : HP H1544 [.arr a1542 1 true (List.map eB r1541.Station), .arr a1543 4 true (List.map e_api_Link r1541.Links)] := HP.callee (fp := [.arr a1028 1 true (List.map eB l1033), .arr a1029 4 true (List.map e_api_Link l1034)]) (rest := []) (HP.pick hH [0, 1] rfl) hpr1541
      have hfa1542 := own_form (HP.get hH 0 rfl)
      have hfa1543 := own_form (HP.get hH 1 rfl)
      refine rqS ⟨[(1, .loc 1 0), (2, .loc 2 0), (3, iv (w64 (1 + (w64 ((Int.tmod a0_.Bridges 6)))))), (4, iv (w64 (2 + (w64 ((Int.tmod a0_.Stations 5)))))), (5, .loc 5 0), (8, iv i1031)], [(1, (c_ref16_Draft a0_)), (2, [iv 0, s_eB true [], s_e_api_Link true []]), (5, [iv r1541.Nodes, a1542, a1543])], H1544⟩ (APath.u (hm := (by rcases hfa1028 with ha1028e | ⟨_, _, ha1028e⟩ <;> rcases hfa1029 with ha1029e | ⟨_, _, ha1029e⟩ <;> subst ha1028e ha1029e <;> kernel_rfl)) 9 (st_callP (by rcases hfa1028 with ha1028e | ⟨_, _, ha1028e⟩ <;> rcases hfa1029 with ha1029e | ⟨_, _, ha1029e⟩ <;> subst ha1028e ha1029e <;> kernel_rfl) (ref16_pick_ok N a0_.Homes (w64 (2 * i1031)) r1539 hr1539)) (APath.u (hm := (by rcases hfa1028 with ha1028e | ⟨_, _, ha1028e⟩ <;> rcases hfa1029 with ha1029e | ⟨_, _, ha1029e⟩ <;> subst ha1028e ha1029e <;> kernel_rfl)) 1 (st_val (ys := [iv r1539, iv (w64 (1 + (w64 ((Int.tmod a0_.Bridges 6)))))]) (by rcases hfa1028 with ha1028e | ⟨_, _, ha1028e⟩ <;> rcases hfa1029 with ha1029e | ⟨_, _, ha1029e⟩ <;> subst ha1028e ha1029e <;> kernel_rfl) (vexec_rem hm1540)) (APath.v (hm := (by rcases hfa1028 with ha1028e | ⟨_, _, ha1028e⟩ <;> rcases hfa1029 with ha1029e | ⟨_, _, ha1029e⟩ <;> subst ha1028e ha1029e <;> kernel_rfl)) 0 (st_callL (H := H1030) (ys := [.agg (c_ref16_Draft a0_), .agg [iv i1032, a1028, a1029], iv (w64 ((w64 (1 + (w64 ((Int.tmod a0_.Bridges 6))))) + i1031)), iv m1540]) (by rcases hfa1028 with ha1028e | ⟨_, _, ha1028e⟩ <;> rcases hfa1029 with ha1029e | ⟨_, _, ha1029e⟩ <;> subst ha1028e ha1029e <;> kernel_rfl) (by rcases hfa1028 with ha1028e | ⟨_, _, ha1028e⟩ <;> rcases hfa1029 with ha1029e | ⟨_, _, ha1029e⟩ <;> subst ha1028e ha1029e <;> kernel_rfl) [[], [false, true, true], [], []] (passL_cons (passV_frz rfl) (passL_cons (passV_agg (passC_cons (pass1_frz rfl) (passC_cons (pass1_raw (own_noLoc hl_a1028)) (passC_cons (pass1_raw (own_noLoc hl_a1029)) passC_nil')))) (passL_cons (passV_frz rfl) (passL_cons (passV_frz rfl) passL_nil')))) hvr1541) (APath.f (h := (by rcases hfa1028 with ha1028e | ⟨_, _, ha1028e⟩ <;> rcases hfa1029 with ha1029e | ⟨_, _, ha1029e⟩ <;> rcases hfa1542 with ha1542e | ⟨_, _, ha1542e⟩ <;> rcases hfa1543 with ha1543e | ⟨_, _, ha1543e⟩ <;> subst ha1028e ha1029e ha1542e ha1543e <;> kernel_rfl)))))) (by rcases hfa1028 with ha1028e | ⟨_, _, ha1028e⟩ <;> rcases hfa1029 with ha1029e | ⟨_, _, ha1029e⟩ <;> rcases hfa1542 with ha1542e | ⟨_, _, ha1542e⟩ <;> rcases hfa1543 with ha1543e | ⟨_, _, ha1543e⟩ <;> subst ha1028e ha1029e ha1542e ha1543e <;> kernel_rfl) ?_
      refine bn (tq ?_)
      refine rgS ⟨[(1, .loc 1 0), (2, .loc 2 0), (3, iv (w64 (1 + (w64 ((Int.tmod a0_.Bridges 6)))))), (4, iv (w64 (2 + (w64 ((Int.tmod a0_.Stations 5)))))), (5, .loc 5 0), (8, iv (w64 (i1031 + 1)))], [(1, (c_ref16_Draft a0_)), (2, [iv 0, s_eB true [], s_e_api_Link true []]), (5, [iv r1541.Nodes, a1542, a1543])], H1544⟩ APath.f (by rcases hfa1542 with ha1542e | ⟨_, _, ha1542e⟩ <;> rcases hfa1543 with ha1543e | ⟨_, _, ha1543e⟩ <;> subst ha1542e ha1543e <;> kernel_rfl) ?_
      obtain rfl := some_inj h
      exact ⟨_, rfl, ⟨a1542, a1543, H1544, (by show _ = _; rcases hfa1542 with ha1542e | ⟨_, _, ha1542e⟩ <;> rcases hfa1543 with ha1543e | ⟨_, _, ha1543e⟩ <;> subst ha1542e ha1543e <;> kernel_rfl), (HP.pick hH [0, 1] rfl)⟩⟩
    refine kq (xq ?_)
    refine tx ?_
    obtain rfl := some_inj h
    exact ⟨_, rfl, rfl, ⟨a1028, a1029, H1030, (by show _ = _; rcases hfa1028 with ha1028e | ⟨_, _, ha1028e⟩ <;> rcases hfa1029 with ha1029e | ⟨_, _, ha1029e⟩ <;> subst ha1028e ha1029e <;> kernel_rfl), (HP.pick hH [0, 1] rfl)⟩⟩
  rintro e s hq
  obtain ⟨rfl, hR⟩ := hq
  obtain ⟨a1535, a1536, H1537, rfl, hH⟩ := hR
  replace hH : HP H1537 [.arr a1535 1 true (List.map eB o1545.2.1), .arr a1536 4 true (List.map e_api_Link o1545.2.2)] := hH
  have hfa1535 := own_form (HP.get hH 0 rfl)
  have hfa1536 := own_form (HP.get hH 1 rfl)
  refine bx (tq ?_)
  obtain ⟨j2049, hj2049, h⟩ := bs h
  refine vc_joinK [1, 2, 3, 4, 5] (fun s => ∃ (a2046 : AV) (a2047 : AV) (H2048 : List HO), s = ⟨[(1, .loc 1 0), (2, .loc 2 0), (3, iv (w64 (1 + (w64 ((Int.tmod a0_.Bridges 6)))))), (4, iv (w64 (2 + (w64 ((Int.tmod a0_.Stations 5)))))), (5, .loc 5 0)], [(1, (c_ref16_Draft a0_)), (2, [iv 0, s_eB true [], s_e_api_Link true []]), (5, [iv j2049.1, a2046, a2047])], H2048⟩ ∧ HP H2048 [.arr a2046 1 true (List.map eB j2049.2.1), .arr a2047 4 true (List.map e_api_Link j2049.2.2)]) ?_ ?_
  · clear h
    have h := hj2049
    refine sq (rgX ⟨[(1, .loc 1 0), (2, .loc 2 0), (3, iv (w64 (1 + (w64 ((Int.tmod a0_.Bridges 6)))))), (4, iv (w64 (2 + (w64 ((Int.tmod a0_.Stations 5)))))), (5, .loc 5 0), (75, bv ((decide ((w64 (1 + (w64 ((Int.tmod a0_.Bridges 6))))) > 2)) && ((Int.tmod a0_.Bridges 2) == 0)))], [(1, (c_ref16_Draft a0_)), (2, [iv 0, s_eB true [], s_e_api_Link true []]), (5, [iv o1545.1, a1535, a1536])], H1537⟩ ?_ ?_)
    · rcases Bool.eq_false_or_eq_true (decide ((w64 (1 + (w64 ((Int.tmod a0_.Bridges 6))))) > 2)) with hc2050 | hc2051
      · exact (EP.u 1 (st_bool (c := (decide ((w64 (1 + (w64 ((Int.tmod a0_.Bridges 6))))) > 2))) (by kernel_rfl) hc2050) (EP.f (by simp only [hc2050]; rcases hfa1535 with ha1535e | ⟨_, _, ha1535e⟩ <;> rcases hfa1536 with ha1536e | ⟨_, _, ha1536e⟩ <;> subst ha1535e ha1536e <;> kernel_rfl)))
      exact (EP.u 1 (st_bool (c := (decide ((w64 (1 + (w64 ((Int.tmod a0_.Bridges 6))))) > 2))) (by kernel_rfl) hc2051) (EP.f (by simp only [hc2051]; rcases hfa1535 with ha1535e | ⟨_, _, ha1535e⟩ <;> rcases hfa1536 with ha1536e | ⟨_, _, ha1536e⟩ <;> subst ha1535e ha1536e <;> kernel_rfl)))
    refine tq (it h (fun hc2052 h => ?_) (fun hc2052 h => ?_))
    · obtain ⟨r2053, hr2053, h⟩ := bs h
      have hl_a1535 := HP.get hH 0 rfl
      have hl_a1536 := HP.get hH 1 rfl
      obtain ⟨a2054, a2055, H2056, hvr2053, hpr2053⟩ := ref16_Draft_with_ok N a0_ (api_Topo.mk o1545.1 o1545.2.1 o1545.2.2) (w64 ((w64 (1 + (w64 ((Int.tmod a0_.Bridges 6))))) - 1)) 0   a1535 a1536 H1537 (HP.now (HP.pick hH [0, 1] rfl)) r2053 hr2053
      replace hH : HP H2056 [.arr a2054 1 true (List.map eB r2053.Station), .arr a2055 4 true (List.map e_api_Link r2053.Links)] := HP.callee (fp := [.arr a1535 1 true (List.map eB o1545.2.1), .arr a1536 4 true (List.map e_api_Link o1545.2.2)]) (rest := []) (HP.pick hH [0, 1] rfl) hpr2053
      have hfa2054 := own_form (HP.get hH 0 rfl)
      have hfa2055 := own_form (HP.get hH 1 rfl)
      refine rgS ⟨[(1, .loc 1 0), (2, .loc 2 0), (3, iv (w64 (1 + (w64 ((Int.tmod a0_.Bridges 6)))))), (4, iv (w64 (2 + (w64 ((Int.tmod a0_.Stations 5)))))), (5, .loc 5 0)], [(1, (c_ref16_Draft a0_)), (2, [iv 0, s_eB true [], s_e_api_Link true []]), (5, [iv r2053.Nodes, a2054, a2055])], H2056⟩ (APath.v (hm := (by rcases hfa1535 with ha1535e | ⟨_, _, ha1535e⟩ <;> rcases hfa1536 with ha1536e | ⟨_, _, ha1536e⟩ <;> subst ha1535e ha1536e <;> kernel_rfl)) 4 (st_callL (H := H1537) (ys := [.agg (c_ref16_Draft a0_), .agg [iv o1545.1, a1535, a1536], iv (w64 ((w64 (1 + (w64 ((Int.tmod a0_.Bridges 6))))) - 1)), iv 0]) (by rcases hfa1535 with ha1535e | ⟨_, _, ha1535e⟩ <;> rcases hfa1536 with ha1536e | ⟨_, _, ha1536e⟩ <;> subst ha1535e ha1536e <;> kernel_rfl) (by rcases hfa1535 with ha1535e | ⟨_, _, ha1535e⟩ <;> rcases hfa1536 with ha1536e | ⟨_, _, ha1536e⟩ <;> subst ha1535e ha1536e <;> kernel_rfl) [[], [false, true, true], [], []] (passL_cons (passV_frz rfl) (passL_cons (passV_agg (passC_cons (pass1_frz rfl) (passC_cons (pass1_raw (own_noLoc hl_a1535)) (passC_cons (pass1_raw (own_noLoc hl_a1536)) passC_nil')))) (passL_cons (passV_frz rfl) (passL_cons (passV_frz rfl) passL_nil')))) hvr2053) (APath.f (h := (by rcases hfa1535 with ha1535e | ⟨_, _, ha1535e⟩ <;> rcases hfa1536 with ha1536e | ⟨_, _, ha1536e⟩ <;> rcases hfa2054 with ha2054e | ⟨_, _, ha2054e⟩ <;> rcases hfa2055 with ha2055e | ⟨_, _, ha2055e⟩ <;> subst ha1535e ha1536e ha2054e ha2055e <;> kernel_rfl)))) (by rcases hfa1535 with ha1535e | ⟨_, _, ha1535e⟩ <;> rcases hfa1536 with ha1536e | ⟨_, _, ha1536e⟩ <;> rcases hfa2054 with ha2054e | ⟨_, _, ha2054e⟩ <;> rcases hfa2055 with ha2055e | ⟨_, _, ha2055e⟩ <;> subst ha1535e ha1536e ha2054e ha2055e <;> kernel_rfl) ?_
      obtain rfl := some_inj h
      exact ⟨rfl, ⟨a2054, a2055, H2056, (by show _ = _; rcases hfa2054 with ha2054e | ⟨_, _, ha2054e⟩ <;> rcases hfa2055 with ha2055e | ⟨_, _, ha2055e⟩ <;> subst ha2054e ha2055e <;> kernel_rfl), (HP.pick hH [0, 1] rfl)⟩⟩
    refine sk ?_
    obtain rfl := some_inj h
    exact ⟨rfl, ⟨a1535, a1536, H1537, (by show _ = _; rcases hfa1535 with ha1535e | ⟨_, _, ha1535e⟩ <;> rcases hfa1536 with ha1536e | ⟨_, _, ha1536e⟩ <;> subst ha1535e ha1536e <;> kernel_rfl), (HP.pick hH [0, 1] rfl)⟩⟩
  clear hj2049
  rintro s hR
  obtain ⟨a2046, a2047, H2048, rfl, hH⟩ := hR
  replace hH : HP H2048 [.arr a2046 1 true (List.map eB j2049.2.1), .arr a2047 4 true (List.map e_api_Link j2049.2.2)] := hH
  have hfa2046 := own_form (HP.get hH 0 rfl)
  have hfa2047 := own_form (HP.get hH 1 rfl)
  refine sq (sq ?_)
  refine rgS ⟨[(1, .loc 1 0), (2, .loc 2 0), (3, iv (w64 (1 + (w64 ((Int.tmod a0_.Bridges 6)))))), (4, iv (w64 (2 + (w64 ((Int.tmod a0_.Stations 5)))))), (5, .loc 5 0), (9, iv 0)], [(1, (c_ref16_Draft a0_)), (2, [iv 0, s_eB true [], s_e_api_Link true []]), (5, [iv j2049.1, a2046, a2047])], H2048⟩ APath.f (by rcases hfa2046 with ha2046e | ⟨_, _, ha2046e⟩ <;> rcases hfa2047 with ha2047e | ⟨_, _, ha2047e⟩ <;> subst ha2046e ha2047e <;> kernel_rfl) ?_
  refine tq (bk ?_)
  obtain ⟨o3080, ho3080, h⟩ := bs h
  refine vc_loop ((loop_sim (fun (x : Int × Int × (List Bool) × (List api_Link)) s => ∃ (a2057 : AV) (a2058 : AV) (H2059 : List HO), s = ⟨[(1, .loc 1 0), (2, .loc 2 0), (3, iv (w64 (1 + (w64 ((Int.tmod a0_.Bridges 6)))))), (4, iv (w64 (2 + (w64 ((Int.tmod a0_.Stations 5)))))), (5, .loc 5 0), (9, iv x.1)], [(1, (c_ref16_Draft a0_)), (2, [iv 0, s_eB true [], s_e_api_Link true []]), (5, [iv x.2.1, a2057, a2058])], H2059⟩ ∧ HP H2059 [.arr a2057 1 true (List.map eB x.2.2.1), .arr a2058 4 true (List.map e_api_Link x.2.2.2)]) (fun x : Int × Int × (List Bool) × (List api_Link) => ref16_Draft_Topo_L4 N a0_ x.1 x.2.1 x.2.2.1 x.2.2.2) (fun (p : Int × (List Bool) × (List api_Link)) e s => e = .exit 6 ∧ (∃ (a2564 : AV) (a2565 : AV) (H2566 : List HO), s = ⟨[(1, .loc 1 0), (2, .loc 2 0), (3, iv (w64 (1 + (w64 ((Int.tmod a0_.Bridges 6)))))), (5, .loc 5 0)], [(1, (c_ref16_Draft a0_)), (2, [iv 0, s_eB true [], s_e_api_Link true []]), (5, [iv p.1, a2564, a2565])], H2566⟩ ∧ HP H2566 [.arr a2564 1 true (List.map eB p.2.1), .arr a2565 4 true (List.map e_api_Link p.2.2)])) ?_ N _ o3080 _ ho3080 ⟨a2046, a2047, H2048, (by show _ = _; rcases hfa2046 with ha2046e | ⟨_, _, ha2046e⟩ <;> rcases hfa2047 with ha2047e | ⟨_, _, ha2047e⟩ <;> subst ha2046e ha2047e <;> kernel_rfl), (HP.pick hH [0, 1] rfl)⟩).mono ?_)
  · clear h ho3080
    rintro ⟨i2060, i2061, l2062, l2063⟩ o s h hR
    obtain ⟨a2057, a2058, H2059, rfl, hH⟩ := hR
    replace hH : HP H2059 [.arr a2057 1 true (List.map eB l2062), .arr a2058 4 true (List.map e_api_Link l2063)] := hH
    have hfa2057 := own_form (HP.get hH 0 rfl)
    have hfa2058 := own_form (HP.get hH 1 rfl)
    replace h : ref16_Draft_Topo_L4 N a0_ i2060 i2061 l2062 l2063 = some o := h
    unfold ref16_Draft_Topo_L4 at h
    refine sq (sq ?_)
    refine rgS ⟨[(1, .loc 1 0), (2, .loc 2 0), (3, iv (w64 (1 + (w64 ((Int.tmod a0_.Bridges 6)))))), (4, iv (w64 (2 + (w64 ((Int.tmod a0_.Stations 5)))))), (5, .loc 5 0), (9, iv i2060), (83, bv (decide (i2060 < (w64 (2 + (w64 ((Int.tmod a0_.Stations 5))))))))], [(1, (c_ref16_Draft a0_)), (2, [iv 0, s_eB true [], s_e_api_Link true []]), (5, [iv i2061, a2057, a2058])], H2059⟩ APath.f (by rcases hfa2057 with ha2057e | ⟨_, _, ha2057e⟩ <;> rcases hfa2058 with ha2058e | ⟨_, _, ha2058e⟩ <;> subst ha2057e ha2058e <;> kernel_rfl) ?_
    refine tq (it h (fun hc2567 h => ?_) (fun hc2567 h => ?_))
    · refine sk (tq ?_)
      refine kq ?_
      obtain ⟨j3071, hj3071, h⟩ := bs h
      refine vc_joinK [1, 2, 3, 4, 5, 9] (fun s => ∃ (a3068 : AV) (a3069 : AV) (H3070 : List HO), s = ⟨[(1, .loc 1 0), (2, .loc 2 0), (3, iv (w64 (1 + (w64 ((Int.tmod a0_.Bridges 6)))))), (4, iv (w64 (2 + (w64 ((Int.tmod a0_.Stations 5)))))), (5, .loc 5 0), (9, iv i2060)], [(1, (c_ref16_Draft a0_)), (2, [iv 0, s_eB true [], s_e_api_Link true []]), (5, [iv j3071.1, a3068, a3069])], H3070⟩ ∧ HP H3070 [.arr a3068 1 true (List.map eB j3071.2.1), .arr a3069 4 true (List.map e_api_Link j3071.2.2)]) ?_ ?_
      · clear h
        have h := hj3071
        refine bk (sq ?_)
        obtain ⟨r3072, hr3072, h⟩ := bs h
        refine rgS ⟨[(1, .loc 1 0), (2, .loc 2 0), (3, iv (w64 (1 + (w64 ((Int.tmod a0_.Bridges 6)))))), (4, iv (w64 (2 + (w64 ((Int.tmod a0_.Stations 5)))))), (5, .loc 5 0), (9, iv i2060), (93, bv (decide ((Int.tmod r3072 3) > 0)))], [(1, (c_ref16_Draft a0_)), (2, [iv 0, s_eB true [], s_e_api_Link true []]), (5, [iv i2061, a2057, a2058])], H2059⟩ (APath.v 5 (st_call (by kernel_rfl) (ref16_pick_ok N a0_.Homes (w64 ((w64 (2 * i2060)) + 1)) r3072 hr3072)) APath.f) (by rcases hfa2057 with ha2057e | ⟨_, _, ha2057e⟩ <;> rcases hfa2058 with ha2058e | ⟨_, _, ha2058e⟩ <;> subst ha2057e ha2058e <;> kernel_rfl) ?_
        refine tq (it h (fun hc3073 h => ?_) (fun hc3073 h => ?_))
        · obtain ⟨r3074, hr3074, h⟩ := bs h
          obtain ⟨m3075, hm3075, h⟩ := bs h
          obtain ⟨r3076, hr3076, h⟩ := bs h
          have hl_a2057 := HP.get hH 0 rfl
          have hl_a2058 := HP.get hH 1 rfl
          obtain ⟨a3077, a3078, H3079, hvr3076, hpr3076⟩ := ref16_Draft_with_ok N a0_ (api_Topo.mk i2061 l2062 l2063) (w64 ((w64 (1 + (w64 ((Int.tmod a0_.Bridges 6))))) + i2060)) m3075   a2057 a2058 H2059 (HP.now (HP.pick hH [0, 1] rfl)) r3076 hr3076
          replace hH : HP H3079 [.arr a3077 1 true (List.map eB r3076.Station), .arr a3078 4 true (List.map e_api_Link r3076.Links)] := HP.callee (fp := [.arr a2057 1 true (List.map eB l2062), .arr a2058 4 true (List.map e_api_Link l2063)]) (rest := []) (HP.pick hH [0, 1] rfl) hpr3076
          have hfa3077 := own_form (HP.get hH 0 rfl)
          have hfa3078 := own_form (HP.get hH 1 rfl)
          refine rqS ⟨[(1, .loc 1 0), (2, .loc 2 0), (3, iv (w64 (1 + (w64 ((Int.tmod a0_.Bridges 6)))))), (4, iv (w64 (2 + (w64 ((Int.tmod a0_.Stations 5)))))), (5, .loc 5 0), (9, iv i2060)], [(1, (c_ref16_Draft a0_)), (2, [iv 0, s_eB true [], s_e_api_Link true []]), (5, [iv r3076.Nodes, a3077, a3078])], H3079⟩ (APath.u (hm := (by rcases hfa2057 with ha2057e | ⟨_, _, ha2057e⟩ <;> rcases hfa2058 with ha2058e | ⟨_, _, ha2058e⟩ <;> subst ha2057e ha2058e <;> kernel_rfl)) 10 (st_callP (by rcases hfa2057 with ha2057e | ⟨_, _, ha2057e⟩ <;> rcases hfa2058 with ha2058e | ⟨_, _, ha2058e⟩ <;> subst ha2057e ha2058e <;> kernel_rfl) (ref16_pick_ok N a0_.Homes (w64 ((w64 (2 * i2060)) + 1)) r3074 hr3074)) (APath.u (hm := (by rcases hfa2057 with ha2057e | ⟨_, _, ha2057e⟩ <;> rcases hfa2058 with ha2058e | ⟨_, _, ha2058e⟩ <;> subst ha2057e ha2058e <;> kernel_rfl)) 1 (st_val (ys := [iv r3074, iv (w64 (1 + (w64 ((Int.tmod a0_.Bridges 6)))))]) (by rcases hfa2057 with ha2057e | ⟨_, _, ha2057e⟩ <;> rcases hfa2058 with ha2058e | ⟨_, _, ha2058e⟩ <;> subst ha2057e ha2058e <;> kernel_rfl) (vexec_rem hm3075)) (APath.v (hm := (by rcases hfa2057 with ha2057e | ⟨_, _, ha2057e⟩ <;> rcases hfa2058 with ha2058e | ⟨_, _, ha2058e⟩ <;> subst ha2057e ha2058e <;> kernel_rfl)) 0 (st_callL (H := H2059) (ys := [.agg (c_ref16_Draft a0_), .agg [iv i2061, a2057, a2058], iv (w64 ((w64 (1 + (w64 ((Int.tmod a0_.Bridges 6))))) + i2060)), iv m3075]) (by rcases hfa2057 with ha2057e | ⟨_, _, ha2057e⟩ <;> rcases hfa2058 with ha2058e | ⟨_, _, ha2058e⟩ <;> subst ha2057e ha2058e <;> kernel_rfl) (by rcases hfa2057 with ha2057e | ⟨_, _, ha2057e⟩ <;> rcases hfa2058 with ha2058e | ⟨_, _, ha2058e⟩ <;> subst ha2057e ha2058e <;> kernel_rfl) [[], [false, true, true], [], []] (passL_cons (passV_frz rfl) (passL_cons (passV_agg (passC_cons (pass1_frz rfl) (passC_cons (pass1_raw (own_noLoc hl_a2057)) (passC_cons (pass1_raw (own_noLoc hl_a2058)) passC_nil')))) (passL_cons (passV_frz rfl) (passL_cons (passV_frz rfl) passL_nil')))) hvr3076) (APath.f (h := (by rcases hfa2057 with ha2057e | ⟨_, _, ha2057e⟩ <;> rcases hfa2058 with ha2058e | ⟨_, _, ha2058e⟩ <;> rcases hfa3077 with ha3077e | ⟨_, _, ha3077e⟩ <;> rcases hfa3078 with ha3078e | ⟨_, _, ha3078e⟩ <;> subst ha2057e ha2058e ha3077e ha3078e <;> kernel_rfl)))))) (by rcases hfa2057 with ha2057e | ⟨_, _, ha2057e⟩ <;> rcases hfa2058 with ha2058e | ⟨_, _, ha2058e⟩ <;> rcases hfa3077 with ha3077e | ⟨_, _, ha3077e⟩ <;> rcases hfa3078 with ha3078e | ⟨_, _, ha3078e⟩ <;> subst ha2057e ha2058e ha3077e ha3078e <;> kernel_rfl) ?_
          refine bn ?_
          obtain rfl := some_inj h
          exact ⟨rfl, ⟨a3077, a3078, H3079, (by show _ = _; rcases hfa3077 with ha3077e | ⟨_, _, ha3077e⟩ <;> rcases hfa3078 with ha3078e | ⟨_, _, ha3078e⟩ <;> subst ha3077e ha3078e <;> kernel_rfl), (HP.pick hH [0, 1] rfl)⟩⟩
        refine sk (bn ?_)
        obtain rfl := some_inj h
        exact ⟨rfl, ⟨a2057, a2058, H2059, (by show _ = _; rcases hfa2057 with ha2057e | ⟨_, _, ha2057e⟩ <;> rcases hfa2058 with ha2058e | ⟨_, _, ha2058e⟩ <;> subst ha2057e ha2058e <;> kernel_rfl), (HP.pick hH [0, 1] rfl)⟩⟩
      clear hj3071
      rintro s hR
      obtain ⟨a3068, a3069, H3070, rfl, hH⟩ := hR
      replace hH : HP H3070 [.arr a3068 1 true (List.map eB j3071.2.1), .arr a3069 4 true (List.map e_api_Link j3071.2.2)] := hH
      have hfa3068 := own_form (HP.get hH 0 rfl)
      have hfa3069 := own_form (HP.get hH 1 rfl)
      refine rgS ⟨[(1, .loc 1 0), (2, .loc 2 0), (3, iv (w64 (1 + (w64 ((Int.tmod a0_.Bridges 6)))))), (4, iv (w64 (2 + (w64 ((Int.tmod a0_.Stations 5)))))), (5, .loc 5 0), (9, iv (w64 (i2060 + 1)))], [(1, (c_ref16_Draft a0_)), (2, [iv 0, s_eB true [], s_e_api_Link true []]), (5, [iv j3071.1, a3068, a3069])], H3070⟩ APath.f (by rcases hfa3068 with ha3068e | ⟨_, _, ha3068e⟩ <;> rcases hfa3069 with ha3069e | ⟨_, _, ha3069e⟩ <;> subst ha3068e ha3069e <;> kernel_rfl) ?_
      obtain rfl := some_inj h
      exact ⟨_, rfl, ⟨a3068, a3069, H3070, (by show _ = _; rcases hfa3068 with ha3068e | ⟨_, _, ha3068e⟩ <;> rcases hfa3069 with ha3069e | ⟨_, _, ha3069e⟩ <;> subst ha3068e ha3069e <;> kernel_rfl), (HP.pick hH [0, 1] rfl)⟩⟩
    refine kq (xq ?_)
    refine tx ?_
    obtain rfl := some_inj h
    exact ⟨_, rfl, rfl, ⟨a2057, a2058, H2059, (by show _ = _; rcases hfa2057 with ha2057e | ⟨_, _, ha2057e⟩ <;> rcases hfa2058 with ha2058e | ⟨_, _, ha2058e⟩ <;> subst ha2057e ha2058e <;> kernel_rfl), (HP.pick hH [0, 1] rfl)⟩⟩
  rintro e s hq
  obtain ⟨rfl, hR⟩ := hq
  obtain ⟨a2564, a2565, H2566, rfl, hH⟩ := hR
  replace hH : HP H2566 [.arr a2564 1 true (List.map eB o3080.2.1), .arr a2565 4 true (List.map e_api_Link o3080.2.2)] := hH
  have hfa2564 := own_form (HP.get hH 0 rfl)
  have hfa2565 := own_form (HP.get hH 1 rfl)
  refine bx (tq ?_)
  refine sq (sq ?_)
  refine rgS ⟨[(1, .loc 1 0), (2, .loc 2 0), (3, iv (w64 (1 + (w64 ((Int.tmod a0_.Bridges 6)))))), (5, .loc 5 0), (10, iv 0)], [(1, (c_ref16_Draft a0_)), (2, [iv 0, s_eB true [], s_e_api_Link true []]), (5, [iv o3080.1, a2564, a2565])], H2566⟩ APath.f (by rcases hfa2564 with ha2564e | ⟨_, _, ha2564e⟩ <;> rcases hfa2565 with ha2565e | ⟨_, _, ha2565e⟩ <;> subst ha2564e ha2565e <;> kernel_rfl) ?_
  refine tq (bk ?_)
  obtain ⟨o3602, ho3602, h⟩ := bs h
  refine vc_loop ((loop_sim (fun (x : Int × Int × (List Bool) × (List api_Link)) s => ∃ (a3081 : AV) (a3082 : AV) (H3083 : List HO), s = ⟨[(1, .loc 1 0), (2, .loc 2 0), (3, iv (w64 (1 + (w64 ((Int.tmod a0_.Bridges 6)))))), (5, .loc 5 0), (10, iv x.1)], [(1, (c_ref16_Draft a0_)), (2, [iv 0, s_eB true [], s_e_api_Link true []]), (5, [iv x.2.1, a3081, a3082])], H3083⟩ ∧ HP H3083 [.arr a3081 1 true (List.map eB x.2.2.1), .arr a3082 4 true (List.map e_api_Link x.2.2.2)]) (fun x : Int × Int × (List Bool) × (List api_Link) => ref16_Draft_Topo_L5 N a0_ x.1 x.2.1 x.2.2.1 x.2.2.2) (fun (p : Int × (List Bool) × (List api_Link)) e s => e = .exit 8 ∧ (∃ (a3588 : AV) (a3589 : AV) (H3590 : List HO), s = ⟨[(2, .loc 2 0), (5, .loc 5 0)], [(2, [iv 0, s_eB true [], s_e_api_Link true []]), (5, [iv p.1, a3588, a3589])], H3590⟩ ∧ HP H3590 [.arr a3588 1 true (List.map eB p.2.1), .arr a3589 4 true (List.map e_api_Link p.2.2)])) ?_ N _ o3602 _ ho3602 ⟨a2564, a2565, H2566, (by show _ = _; rcases hfa2564 with ha2564e | ⟨_, _, ha2564e⟩ <;> rcases hfa2565 with ha2565e | ⟨_, _, ha2565e⟩ <;> subst ha2564e ha2565e <;> kernel_rfl), (HP.pick hH [0, 1] rfl)⟩).mono ?_)
  · clear h ho3602
    rintro ⟨i3084, i3085, l3086, l3087⟩ o s h hR
    obtain ⟨a3081, a3082, H3083, rfl, hH⟩ := hR
    replace hH : HP H3083 [.arr a3081 1 true (List.map eB l3086), .arr a3082 4 true (List.map e_api_Link l3087)] := hH
    have hfa3081 := own_form (HP.get hH 0 rfl)
    have hfa3082 := own_form (HP.get hH 1 rfl)
    replace h : ref16_Draft_Topo_L5 N a0_ i3084 i3085 l3086 l3087 = some o := h
    unfold ref16_Draft_Topo_L5 at h
    refine sq (sq ?_)
    refine rgX ⟨[(1, .loc 1 0), (2, .loc 2 0), (3, iv (w64 (1 + (w64 ((Int.tmod a0_.Bridges 6)))))), (5, .loc 5 0), (10, iv i3084), (117, bv ((decide ((w64 (i3084 + 1)) < ((List.length a0_.Chords : Nat) : Int))) && (decide (i3084 < 12))))], [(1, (c_ref16_Draft a0_)), (2, [iv 0, s_eB true [], s_e_api_Link true []]), (5, [iv i3085, a3081, a3082])], H3083⟩ ?_ ?_
    · refine (EP.u 4 (st_val (ys := [s_eI_u8 false a0_.Chords]) (by kernel_rfl) (vexec_len (eI .u8))) ?_)
      rcases Bool.eq_false_or_eq_true (decide ((w64 (i3084 + 1)) < ((List.length a0_.Chords : Nat) : Int))) with hc3591 | hc3592
      · exact (EP.u 0 (st_bool (c := (decide ((w64 (i3084 + 1)) < ((List.length a0_.Chords : Nat) : Int)))) (by kernel_rfl) hc3591) (EP.f (by simp only [hc3591]; rcases hfa3081 with ha3081e | ⟨_, _, ha3081e⟩ <;> rcases hfa3082 with ha3082e | ⟨_, _, ha3082e⟩ <;> subst ha3081e ha3082e <;> kernel_rfl)))
      exact (EP.u 0 (st_bool (c := (decide ((w64 (i3084 + 1)) < ((List.length a0_.Chords : Nat) : Int)))) (by kernel_rfl) hc3592) (EP.f (by simp only [hc3592]; rcases hfa3081 with ha3081e | ⟨_, _, ha3081e⟩ <;> rcases hfa3082 with ha3082e | ⟨_, _, ha3082e⟩ <;> subst ha3081e ha3082e <;> kernel_rfl)))
    refine tq (it h (fun hc3593 h => ?_) (fun hc3593 h => ?_))
    · refine sk (tq ?_)
      refine kq (sq ?_)
      refine bk ?_
      obtain ⟨e3594, he3594, h⟩ := bs h
      obtain ⟨m3595, hm3595, h⟩ := bs h
      obtain ⟨e3596, he3596, h⟩ := bs h
      obtain ⟨m3597, hm3597, h⟩ := bs h
      obtain ⟨r3598, hr3598, h⟩ := bs h
      have hl_a3081 := HP.get hH 0 rfl
      have hl_a3082 := HP.get hH 1 rfl
      obtain ⟨a3599, a3600, H3601, hvr3598, hpr3598⟩ := ref16_Draft_with_ok N a0_ (api_Topo.mk i3085 l3086 l3087) m3595 m3597   a3081 a3082 H3083 (HP.now (HP.pick hH [0, 1] rfl)) r3598 hr3598
      replace hH : HP H3601 [.arr a3599 1 true (List.map eB r3598.Station), .arr a3600 4 true (List.map e_api_Link r3598.Links)] := HP.callee (fp := [.arr a3081 1 true (List.map eB l3086), .arr a3082 4 true (List.map e_api_Link l3087)]) (rest := []) (HP.pick hH [0, 1] rfl) hpr3598
      have hfa3599 := own_form (HP.get hH 0 rfl)
      have hfa3600 := own_form (HP.get hH 1 rfl)
      refine rqS ⟨[(1, .loc 1 0), (2, .loc 2 0), (3, iv (w64 (1 + (w64 ((Int.tmod a0_.Bridges 6)))))), (5, .loc 5 0), (10, iv i3084)], [(1, (c_ref16_Draft a0_)), (2, [iv 0, s_eB true [], s_e_api_Link true []]), (5, [iv r3598.Nodes, a3599, a3600])], H3601⟩ (APath.u (hm := (by rcases hfa3081 with ha3081e | ⟨_, _, ha3081e⟩ <;> rcases hfa3082 with ha3082e | ⟨_, _, ha3082e⟩ <;> subst ha3081e ha3082e <;> kernel_rfl)) 5 (st_val (ys := [s_eI_u8 false a0_.Chords, iv i3084]) (by rcases hfa3081 with ha3081e | ⟨_, _, ha3081e⟩ <;> rcases hfa3082 with ha3082e | ⟨_, _, ha3082e⟩ <;> subst ha3081e ha3082e <;> kernel_rfl) (vexec_iaddrS (eI .u8) he3594)) (APath.u (hm := (by rcases hfa3081 with ha3081e | ⟨_, _, ha3081e⟩ <;> rcases hfa3082 with ha3082e | ⟨_, _, ha3082e⟩ <;> subst ha3081e ha3082e <;> kernel_rfl)) 0 (st_toLH (st_loadP (sz := 1) (off := 0) (cs := [.int .u8 e3594]) (r := .p (.int .u8 e3594)) (eI .u8) he3594 (by rcases hfa3081 with ha3081e | ⟨_, _, ha3081e⟩ <;> rcases hfa3082 with ha3082e | ⟨_, _, ha3082e⟩ <;> subst ha3081e ha3082e <;> kernel_rfl) (by rcases hfa3081 with ha3081e | ⟨_, _, ha3081e⟩ <;> rcases hfa3082 with ha3082e | ⟨_, _, ha3082e⟩ <;> subst ha3081e ha3082e <;> kernel_rfl) (by rcases hfa3081 with ha3081e | ⟨_, _, ha3081e⟩ <;> rcases hfa3082 with ha3082e | ⟨_, _, ha3082e⟩ <;> subst ha3081e ha3082e <;> kernel_rfl)) (by rcases hfa3081 with ha3081e | ⟨_, _, ha3081e⟩ <;> rcases hfa3082 with ha3082e | ⟨_, _, ha3082e⟩ <;> subst ha3081e ha3082e <;> kernel_rfl)) (APath.u (hm := (by rcases hfa3081 with ha3081e | ⟨_, _, ha3081e⟩ <;> rcases hfa3082 with ha3082e | ⟨_, _, ha3082e⟩ <;> subst ha3081e ha3082e <;> kernel_rfl)) 2 (st_val (ys := [iv (w64 (e3594)), iv (w64 (1 + (w64 ((Int.tmod a0_.Bridges 6)))))]) (by rcases hfa3081 with ha3081e | ⟨_, _, ha3081e⟩ <;> rcases hfa3082 with ha3082e | ⟨_, _, ha3082e⟩ <;> subst ha3081e ha3082e <;> kernel_rfl) (vexec_rem hm3595)) (APath.u (hm := (by rcases hfa3081 with ha3081e | ⟨_, _, ha3081e⟩ <;> rcases hfa3082 with ha3082e | ⟨_, _, ha3082e⟩ <;> subst ha3081e ha3082e <;> kernel_rfl)) 4 (st_val (ys := [s_eI_u8 false a0_.Chords, iv (w64 (i3084 + 1))]) (by rcases hfa3081 with ha3081e | ⟨_, _, ha3081e⟩ <;> rcases hfa3082 with ha3082e | ⟨_, _, ha3082e⟩ <;> subst ha3081e ha3082e <;> kernel_rfl) (vexec_iaddrS (eI .u8) he3596)) (APath.u (hm := (by rcases hfa3081 with ha3081e | ⟨_, _, ha3081e⟩ <;> rcases hfa3082 with ha3082e | ⟨_, _, ha3082e⟩ <;> subst ha3081e ha3082e <;> kernel_rfl)) 0 (st_toLH (st_loadP (sz := 1) (off := 0) (cs := [.int .u8 e3596]) (r := .p (.int .u8 e3596)) (eI .u8) he3596 (by rcases hfa3081 with ha3081e | ⟨_, _, ha3081e⟩ <;> rcases hfa3082 with ha3082e | ⟨_, _, ha3082e⟩ <;> subst ha3081e ha3082e <;> kernel_rfl) (by rcases hfa3081 with ha3081e | ⟨_, _, ha3081e⟩ <;> rcases hfa3082 with ha3082e | ⟨_, _, ha3082e⟩ <;> subst ha3081e ha3082e <;> kernel_rfl) (by rcases hfa3081 with ha3081e | ⟨_, _, ha3081e⟩ <;> rcases hfa3082 with ha3082e | ⟨_, _, ha3082e⟩ <;> subst ha3081e ha3082e <;> kernel_rfl)) (by rcases hfa3081 with ha3081e | ⟨_, _, ha3081e⟩ <;> rcases hfa3082 with ha3082e | ⟨_, _, ha3082e⟩ <;> subst ha3081e ha3082e <;> kernel_rfl)) (APath.u (hm := (by rcases hfa3081 with ha3081e | ⟨_, _, ha3081e⟩ <;> rcases hfa3082 with ha3082e | ⟨_, _, ha3082e⟩ <;> subst ha3081e ha3082e <;> kernel_rfl)) 2 (st_val (ys := [iv (w64 (e3596)), iv (w64 (1 + (w64 ((Int.tmod a0_.Bridges 6)))))]) (by rcases hfa3081 with ha3081e | ⟨_, _, ha3081e⟩ <;> rcases hfa3082 with ha3082e | ⟨_, _, ha3082e⟩ <;> subst ha3081e ha3082e <;> kernel_rfl) (vexec_rem hm3597)) (APath.v (hm := (by rcases hfa3081 with ha3081e | ⟨_, _, ha3081e⟩ <;> rcases hfa3082 with ha3082e | ⟨_, _, ha3082e⟩ <;> subst ha3081e ha3082e <;> kernel_rfl)) 0 (st_callL (H := H3083) (ys := [.agg (c_ref16_Draft a0_), .agg [iv i3085, a3081, a3082], iv m3595, iv m3597]) (by rcases hfa3081 with ha3081e | ⟨_, _, ha3081e⟩ <;> rcases hfa3082 with ha3082e | ⟨_, _, ha3082e⟩ <;> subst ha3081e ha3082e <;> kernel_rfl) (by rcases hfa3081 with ha3081e | ⟨_, _, ha3081e⟩ <;> rcases hfa3082 with ha3082e | ⟨_, _, ha3082e⟩ <;> subst ha3081e ha3082e <;> kernel_rfl) [[], [false, true, true], [], []] (passL_cons (passV_frz rfl) (passL_cons (passV_agg (passC_cons (pass1_frz rfl) (passC_cons (pass1_raw (own_noLoc hl_a3081)) (passC_cons (pass1_raw (own_noLoc hl_a3082)) passC_nil')))) (passL_cons (passV_frz rfl) (passL_cons (passV_frz rfl) passL_nil')))) hvr3598) (APath.f (h := (by rcases hfa3081 with ha3081e | ⟨_, _, ha3081e⟩ <;> rcases hfa3082 with ha3082e | ⟨_, _, ha3082e⟩ <;> rcases hfa3599 with ha3599e | ⟨_, _, ha3599e⟩ <;> rcases hfa3600 with ha3600e | ⟨_, _, ha3600e⟩ <;> subst ha3081e ha3082e ha3599e ha3600e <;> kernel_rfl)))))))))) (by rcases hfa3081 with ha3081e | ⟨_, _, ha3081e⟩ <;> rcases hfa3082 with ha3082e | ⟨_, _, ha3082e⟩ <;> rcases hfa3599 with ha3599e | ⟨_, _, ha3599e⟩ <;> rcases hfa3600 with ha3600e | ⟨_, _, ha3600e⟩ <;> subst ha3081e ha3082e ha3599e ha3600e <;> kernel_rfl) ?_
      refine bn (tq ?_)
      refine rgS ⟨[(1, .loc 1 0), (2, .loc 2 0), (3, iv (w64 (1 + (w64 ((Int.tmod a0_.Bridges 6)))))), (5, .loc 5 0), (10, iv (w64 (i3084 + 2)))], [(1, (c_ref16_Draft a0_)), (2, [iv 0, s_eB true [], s_e_api_Link true []]), (5, [iv r3598.Nodes, a3599, a3600])], H3601⟩ APath.f (by rcases hfa3599 with ha3599e | ⟨_, _, ha3599e⟩ <;> rcases hfa3600 with ha3600e | ⟨_, _, ha3600e⟩ <;> subst ha3599e ha3600e <;> kernel_rfl) ?_
      obtain rfl := some_inj h
      exact ⟨_, rfl, ⟨a3599, a3600, H3601, (by show _ = _; rcases hfa3599 with ha3599e | ⟨_, _, ha3599e⟩ <;> rcases hfa3600 with ha3600e | ⟨_, _, ha3600e⟩ <;> subst ha3599e ha3600e <;> kernel_rfl), (HP.pick hH [0, 1] rfl)⟩⟩
    refine kq (xq ?_)
    refine tx ?_
    obtain rfl := some_inj h
    exact ⟨_, rfl, rfl, ⟨a3081, a3082, H3083, (by show _ = _; rcases hfa3081 with ha3081e | ⟨_, _, ha3081e⟩ <;> rcases hfa3082 with ha3082e | ⟨_, _, ha3082e⟩ <;> subst ha3081e ha3082e <;> kernel_rfl), (HP.pick hH [0, 1] rfl)⟩⟩
  rintro e s hq
  obtain ⟨rfl, hR⟩ := hq
  obtain ⟨a3588, a3589, H3590, rfl, hH⟩ := hR
  replace hH : HP H3590 [.arr a3588 1 true (List.map eB o3602.2.1), .arr a3589 4 true (List.map e_api_Link o3602.2.2)] := hH
  have hfa3588 := own_form (HP.get hH 0 rfl)
  have hfa3589 := own_form (HP.get hH 1 rfl)
  refine bx (tq ?_)
  refine sq (rgS ⟨[(2, .loc 2 0)], [(2, [iv o3602.1, a3588, a3589])], H3590⟩ (APath.f (h := (by rcases hfa3588 with ha3588e | ⟨_, _, ha3588e⟩ <;> rcases hfa3589 with ha3589e | ⟨_, _, ha3589e⟩ <;> subst ha3588e ha3589e <;> kernel_rfl))) (by rcases hfa3588 with ha3588e | ⟨_, _, ha3588e⟩ <;> rcases hfa3589 with ha3589e | ⟨_, _, ha3589e⟩ <;> subst ha3588e ha3589e <;> kernel_rfl) ?_)
  refine tq (rt ?_)
  obtain rfl := some_inj h
  exact ret_own (H := H3590) (ys := [.agg [iv o3602.1, a3588, a3589]]) (xs := [.agg [iv o3602.1, .p (.sl 1 false (List.map eB o3602.2.1)), .p (.sl 4 false (List.map e_api_Link o3602.2.2))]]) (by rcases hfa3588 with ha3588e | ⟨_, _, ha3588e⟩ <;> rcases hfa3589 with ha3589e | ⟨_, _, ha3589e⟩ <;> subst ha3588e ha3589e <;> kernel_rfl) (by rcases hfa3588 with ha3588e | ⟨_, _, ha3588e⟩ <;> rcases hfa3589 with ha3589e | ⟨_, _, ha3589e⟩ <;> subst ha3588e ha3589e <;> kernel_rfl) (pureVL_cons (pureV_agg (pureL_cons rfl (pureL_cons (HP.pure (k := 0) (frz := true) eB hH rfl).1 (pureL_cons (HP.pure (k := 1) (frz := true) e_api_Link hH rfl).1 pureL_nil)))) pureVL_nil) (by kernel_rfl)
theorem topo_Check_ok (N : Nat) (a0_ : api_Topo) (r : Int) (h : topo_Check N a0_ = some r) : PCall Try.prog 50 [.agg (c_api_Topo a0_)] (iv r) := by
  unfold topo_Check at h
  have hH : HP ([] : List HO) [] := trivial
  refine pcall_of chk50 rfl rfl (vc_sound _ _ _ ?_) rfl
  refine sq (rg APath.f ?_)
  refine tq (sq ?_)
  refine sq (rgX ⟨[(1, .loc 1 0), (23, bv ((decide (a0_.Nodes < 2)) || ((decide (a0_.Nodes > 12)) || (((List.length a0_.Station : Nat) : Int) != a0_.Nodes))))], [(1, (c_api_Topo a0_))], []⟩ ?_ ?_)
  · rcases Bool.eq_false_or_eq_true (decide (a0_.Nodes < 2)) with hc1 | hc2
    · exact (EP.u 2 (st_bool (c := (decide (a0_.Nodes < 2))) (by kernel_rfl) hc1) (EP.f (by simp only [hc1]; kernel_rfl)))
    refine (EP.u 2 (st_bool (c := (decide (a0_.Nodes < 2))) (by kernel_rfl) hc2) ?_)
    rcases Bool.eq_false_or_eq_true (decide (a0_.Nodes > 12)) with hc3 | hc4
    · exact (EP.u 3 (st_bool (c := (decide (a0_.Nodes > 12))) (by kernel_rfl) hc3) (EP.f (by simp only [hc2, hc3]; kernel_rfl)))
    exact (EP.u 3 (st_bool (c := (decide (a0_.Nodes > 12))) (by kernel_rfl) hc4) (EP.u 4 (st_val (ys := [s_eB false a0_.Station]) (by kernel_rfl) (vexec_len eB)) (EP.f (by simp only [hc2, hc4]; kernel_rfl))))
  refine tq (it h (fun hc5 h => ?_) (fun hc5 h => ?_))
  · refine sq (rg APath.f ?_)
    refine tq (rt ?_)
    refine tr ?_
    obtain rfl := some_inj h
    exact ret_of (by kernel_rfl)
  refine sk (tq ?_)
  refine kq (sq ?_)
  refine sq ?_
  obtain ⟨j9, hj, h⟩ := bs h
  refine rgR (fun s => s = ⟨[(1, .loc 1 0), (32, bv j9)], [(1, (c_api_Topo a0_))], []⟩) ?_ ?_
  · clear h
    refine (EP.u 2 (st_val (ys := [s_e_api_Link false a0_.Links]) (by kernel_rfl) (vexec_len e_api_Link)) ?_)
    rcases ite_some hj with ⟨hc6, hj⟩ | ⟨hc7, hj⟩
    · obtain rfl := some_inj hj
      exact (EP.u 0 (st_bool (c := (decide (((List.length a0_.Links : Nat) : Int) > 24))) (by kernel_rfl) hc6) (EP.f (by show _ = _; kernel_rfl)))
    refine (EP.u 0 (st_bool (c := (decide (((List.length a0_.Links : Nat) : Int) > 24))) (by kernel_rfl) hc7) ?_)
    obtain ⟨r8, hr8, hj⟩ := bs hj
    obtain rfl := some_inj hj
    exact (EP.v 2 (st_call (by kernel_rfl) (topo_sound_ok N a0_ r8 hr8)) (EP.f (by show _ = _; kernel_rfl)))
  clear hj
  rintro s hR
  obtain rfl := hR
  refine tq (it h (fun hc10 h => ?_) (fun hc10 h => ?_))
  · refine sq (rg APath.f ?_)
    refine tq (rt ?_)
    refine tr ?_
    obtain rfl := some_inj h
    exact ret_of (by kernel_rfl)
  refine sk (tq ?_)
  refine kq (sq ?_)
  obtain ⟨l13, hl13, h⟩ := bs h
  obtain ⟨a11, H12, ha11, hH12, ha11b, hH⟩ := HP.make eI64 hH hl13
  replace hH : HP H12 [.arr a11 1 false (List.map eI64 l13)] := hH
  have hfa11 := own_form (HP.get hH 0 rfl)
  refine rgS ⟨[(1, .loc 1 0), (3, a11)], [(1, (c_api_Topo a0_))], H12⟩ (APath.h 2 (st_make (H := []) (zero := [.int .i64 0]) (bytes := 8) (by kernel_rfl) (by kernel_rfl) (by kernel_rfl) ha11 hH12 ha11b) APath.f) (by rcases hfa11 with ha11e | ⟨_, _, ha11e⟩ <;> subst ha11e <;> kernel_rfl) ?_
  refine tq (sq ?_)
  refine sq (rgS ⟨[(1, .loc 1 0), (3, a11), (37, s_e_api_Link false a0_.Links), (38, iv ((List.length a0_.Links : Nat) : Int)), (39, iv 0)], [(1, (c_api_Topo a0_))], H12⟩ (APath.u 2 (st_val (ys := [s_e_api_Link false a0_.Links]) (by kernel_rfl) (vexec_len e_api_Link)) APath.f) (by rcases hfa11 with ha11e | ⟨_, _, ha11e⟩ <;> subst ha11e <;> kernel_rfl) ?_)
  refine tq (bk ?_)
  obtain ⟨o536, ho536, h⟩ := bs h
  refine vc_loop ((loop_sim (fun (x : Int × (List Int)) s => ∃ (a14 : AV) (H15 : List HO), s = ⟨[(1, .loc 1 0), (3, a14), (37, s_e_api_Link false a0_.Links), (38, iv ((List.length a0_.Links : Nat) : Int)), (39, iv x.1)], [(1, (c_api_Topo a0_))], H15⟩ ∧ HP H15 [.arr a14 1 false (List.map eI64 x.2)]) (fun x : Int × (List Int) => topo_Check_L1 N a0_ x.1 x.2) (fun (p : (List Int)) e s => e = .exit 0 ∧ (∃ (a518 : AV) (H519 : List HO), s = ⟨[(1, .loc 1 0), (3, a518)], [(1, (c_api_Topo a0_))], H519⟩ ∧ HP H519 [.arr a518 1 false (List.map eI64 p)])) ?_ N _ o536 _ ho536 ⟨a11, H12, (by show _ = _; rcases hfa11 with ha11e | ⟨_, _, ha11e⟩ <;> subst ha11e <;> kernel_rfl), (HP.pick hH [0] rfl)⟩).mono ?_)
  · clear h ho536
    rintro ⟨i16, l17⟩ o s h hR
    obtain ⟨a14, H15, rfl, hH⟩ := hR
    replace hH : HP H15 [.arr a14 1 false (List.map eI64 l17)] := hH
    have hfa14 := own_form (HP.get hH 0 rfl)
    replace h : topo_Check_L1 N a0_ i16 l17 = some o := h
    unfold topo_Check_L1 at h
    refine sq (rgS ⟨[(1, .loc 1 0), (3, a14), (37, s_e_api_Link false a0_.Links), (38, iv ((List.length a0_.Links : Nat) : Int)), (39, iv i16), (40, bv (decide (i16 < ((List.length a0_.Links : Nat) : Int))))], [(1, (c_api_Topo a0_))], H15⟩ APath.f (by rcases hfa14 with ha14e | ⟨_, _, ha14e⟩ <;> subst ha14e <;> kernel_rfl) ?_)
    refine tq (sq ?_)
    refine it h (fun hc520 h => ?_) (fun hc520 h => ?_)
    · refine sk (tq ?_)
      refine kq (sq ?_)
      refine bk (sq ?_)
      obtain ⟨e521, he521, h⟩ := bs h
      refine rgS ⟨[(1, .loc 1 0), (3, a14), (5, .loc 5 0), (37, s_e_api_Link false a0_.Links), (38, iv ((List.length a0_.Links : Nat) : Int)), (39, iv i16)], [(1, (c_api_Topo a0_)), (5, (c_api_Link e521))], H15⟩ (APath.u 0 (st_val (ys := [s_e_api_Link false a0_.Links, iv i16]) (by kernel_rfl) (vexec_iaddrS e_api_Link he521)) (APath.u 0 (st_loadP (sz := 4) (off := 0) (cs := [.int .i64 e521.A, .int .i64 e521.B, .int .i64 e521.Per, .int .i64 e521.Delay]) (r := .agg (c_api_Link e521)) e_api_Link he521 (by kernel_rfl) (by kernel_rfl) (by kernel_rfl)) (APath.f (h := (by rcases hfa14 with ha14e | ⟨_, _, ha14e⟩ <;> subst ha14e <;> kernel_rfl))))) (by rcases hfa14 with ha14e | ⟨_, _, ha14e⟩ <;> subst ha14e <;> kernel_rfl) ?_
      refine tq (sq ?_)
      obtain ⟨e522, he522, h⟩ := bs h
      obtain ⟨id523, ver524, _, hid523f, hid523, hid523a, hid523v⟩ := HP.elem (k := 0) (a := a14) (sz := 1) (frz := false) eI64 hH rfl he522
      obtain ⟨e525, he525, h⟩ := bs h
      obtain ⟨id526, ver527, _, hid526f, hid526, hid526a, hid526v⟩ := HP.elem (k := 0) (a := a14) (sz := 1) (frz := false) eI64 hH rfl he525
      obtain ⟨H528, hH528, hH⟩ := HP.setRow (k := 0) (off := 0) (cs := [iv (w64 (e522 + 1))]) (ps := [.int .i64 (w64 (e522 + 1))]) (e' := (w64 (e522 + 1))) eI64 hH rfl hid526a hid526 (hid526f rfl) he525 (by kernel_rfl) (by kernel_rfl)
      replace hH : HP H528 [.arr a14 1 false (List.map eI64 (List.set l17 (Int.toNat e521.A) (w64 (e522 + 1))))] := hH
      refine rgS ⟨[(1, .loc 1 0), (3, a14), (5, .loc 5 0), (37, s_e_api_Link false a0_.Links), (38, iv ((List.length a0_.Links : Nat) : Int)), (39, iv i16)], [(1, (c_api_Topo a0_)), (5, (c_api_Link e521))], H528⟩ (APath.u 3 (st_val (ys := [a14, iv e521.A]) (by rcases hfa14 with ha14e | ⟨_, _, ha14e⟩ <;> subst ha14e <;> kernel_rfl) (hid523v .i64)) (APath.u 0 (st_loadO (H := H15) (off := 0) (cs := [.int .i64 e522]) (r := iv e522) eI64 he522 hid523 (by kernel_rfl) (by kernel_rfl) (by kernel_rfl) (by kernel_rfl)) (APath.u 1 (st_val (ys := [a14, iv e521.A]) (by rcases hfa14 with ha14e | ⟨_, _, ha14e⟩ <;> subst ha14e <;> kernel_rfl) (hid526v .i64)) (APath.o 0 (st_storeH (H := H15) (v := iv (w64 (e522 + 1))) (by kernel_rfl) (by kernel_rfl) (by kernel_rfl) (by kernel_rfl) hH528) APath.f)))) (by rcases hfa14 with ha14e | ⟨_, _, ha14e⟩ <;> subst ha14e <;> kernel_rfl) ?_
      refine tq ?_
      obtain ⟨e529, he529, h⟩ := bs h
      obtain ⟨id530, ver531, _, hid530f, hid530, hid530a, hid530v⟩ := HP.elem (k := 0) (a := a14) (sz := 1) (frz := false) eI64 hH rfl he529
      obtain ⟨e532, he532, h⟩ := bs h
      obtain ⟨id533, ver534, _, hid533f, hid533, hid533a, hid533v⟩ := HP.elem (k := 0) (a := a14) (sz := 1) (frz := false) eI64 hH rfl he532
      obtain ⟨H535, hH535, hH⟩ := HP.setRow (k := 0) (off := 0) (cs := [iv (w64 (e529 + 1))]) (ps := [.int .i64 (w64 (e529 + 1))]) (e' := (w64 (e529 + 1))) eI64 hH rfl hid533a hid533 (hid533f rfl) he532 (by kernel_rfl) (by kernel_rfl)
      replace hH : HP H535 [.arr a14 1 false (List.map eI64 (List.set (List.set l17 (Int.toNat e521.A) (w64 (e522 + 1))) (Int.toNat e521.B) (w64 (e529 + 1))))] := hH
      refine rgS ⟨[(1, .loc 1 0), (3, a14), (37, s_e_api_Link false a0_.Links), (38, iv ((List.length a0_.Links : Nat) : Int)), (39, iv i16)], [(1, (c_api_Topo a0_))], H535⟩ (APath.u 3 (st_val (ys := [a14, iv e521.B]) (by rcases hfa14 with ha14e | ⟨_, _, ha14e⟩ <;> subst ha14e <;> kernel_rfl) (hid530v .i64)) (APath.u 0 (st_loadO (H := H528) (off := 0) (cs := [.int .i64 e529]) (r := iv e529) eI64 he529 hid530 (by kernel_rfl) (by kernel_rfl) (by kernel_rfl) (by kernel_rfl)) (APath.u 1 (st_val (ys := [a14, iv e521.B]) (by rcases hfa14 with ha14e | ⟨_, _, ha14e⟩ <;> subst ha14e <;> kernel_rfl) (hid533v .i64)) (APath.o 0 (st_storeH (H := H528) (v := iv (w64 (e529 + 1))) (by kernel_rfl) (by kernel_rfl) (by kernel_rfl) (by kernel_rfl) hH535) APath.f)))) (by rcases hfa14 with ha14e | ⟨_, _, ha14e⟩ <;> subst ha14e <;> kernel_rfl) ?_
      refine bn (tq ?_)
      refine rgS ⟨[(1, .loc 1 0), (3, a14), (37, s_e_api_Link false a0_.Links), (38, iv ((List.length a0_.Links : Nat) : Int)), (39, iv (w64 (i16 + 1)))], [(1, (c_api_Topo a0_))], H535⟩ APath.f (by rcases hfa14 with ha14e | ⟨_, _, ha14e⟩ <;> subst ha14e <;> kernel_rfl) ?_
      obtain rfl := some_inj h
      exact ⟨_, rfl, ⟨a14, H535, (by show _ = _; rcases hfa14 with ha14e | ⟨_, _, ha14e⟩ <;> subst ha14e <;> kernel_rfl), (HP.pick hH [0] rfl)⟩⟩
    refine kq (xq ?_)
    refine tx ?_
    obtain rfl := some_inj h
    exact ⟨_, rfl, rfl, ⟨a14, H15, (by show _ = _; rcases hfa14 with ha14e | ⟨_, _, ha14e⟩ <;> subst ha14e <;> kernel_rfl), (HP.pick hH [0] rfl)⟩⟩
  rintro e s hq
  obtain ⟨rfl, hR⟩ := hq
  obtain ⟨a518, H519, rfl, hH⟩ := hR
  replace hH : HP H519 [.arr a518 1 false (List.map eI64 o536)] := hH
  have hfa518 := own_form (HP.get hH 0 rfl)
  refine bx (tq ?_)
  refine sq (sq ?_)
  refine rgS ⟨[(1, .loc 1 0), (3, a518), (59, s_eB false a0_.Station), (60, iv ((List.length a0_.Station : Nat) : Int)), (61, iv 0)], [(1, (c_api_Topo a0_))], H519⟩ (APath.u 2 (st_val (ys := [s_eB false a0_.Station]) (by kernel_rfl) (vexec_len eB)) APath.f) (by rcases hfa518 with ha518e | ⟨_, _, ha518e⟩ <;> subst ha518e <;> kernel_rfl) ?_
  refine tq (bk ?_)
  obtain ⟨o1052, ho1052, h⟩ := bs h
  refine vc_loop ((loop_sim (fun (x : Int) s => s = ⟨[(1, .loc 1 0), (3, a518), (59, s_eB false a0_.Station), (60, iv ((List.length a0_.Station : Nat) : Int)), (61, iv x)], [(1, (c_api_Topo a0_))], H519⟩) (fun x : Int => topo_Check_L2 N a0_ o536 x) (fun (p : (Unit) ⊕ (Int)) e s => match p with | (.inl p) => e = .exit 2 ∧ (s = ⟨[(1, .loc 1 0)], [(1, (c_api_Topo a0_))], H519⟩) | (.inr p) => e = .ret ∧ ∃ xs, resL s i50.res = some xs ∧ tupOf xs = iv p) ?_ N _ o1052 _ ho1052 (by show _ = _; rcases hfa518 with ha518e | ⟨_, _, ha518e⟩ <;> subst ha518e <;> kernel_rfl)).mono ?_)
  · clear h ho1052
    rintro i537 o s h hR
    obtain rfl := hR
    replace h : topo_Check_L2 N a0_ o536 i537 = some o := h
    unfold topo_Check_L2 at h
    refine sq (rgS ⟨[(1, .loc 1 0), (3, a518), (59, s_eB false a0_.Station), (60, iv ((List.length a0_.Station : Nat) : Int)), (61, iv i537), (62, bv (decide (i537 < ((List.length a0_.Station : Nat) : Int))))], [(1, (c_api_Topo a0_))], H519⟩ APath.f (by rcases hfa518 with ha518e | ⟨_, _, ha518e⟩ <;> subst ha518e <;> kernel_rfl) ?_)
    refine tq (sq ?_)
    refine it h (fun hc1038 h => ?_) (fun hc1038 h => ?_)
    · refine sk (tq ?_)
      refine kq (sq ?_)
      refine bk (sq ?_)
      obtain ⟨e1039, he1039, h⟩ := bs h
      refine rgS ⟨[(1, .loc 1 0), (3, a518), (6, iv i537), (7, bv e1039), (59, s_eB false a0_.Station), (60, iv ((List.length a0_.Station : Nat) : Int)), (61, iv i537)], [(1, (c_api_Topo a0_))], H519⟩ (APath.u 1 (st_val (ys := [s_eB false a0_.Station, iv i537]) (by kernel_rfl) (vexec_iaddrS eB he1039)) (APath.u 0 (st_loadP (sz := 1) (off := 0) (cs := [.bool e1039]) (r := bv e1039) eB he1039 (by kernel_rfl) (by kernel_rfl) (by kernel_rfl)) APath.f)) (by rcases hfa518 with ha518e | ⟨_, _, ha518e⟩ <;> subst ha518e <;> kernel_rfl) ?_
      refine tq (sq ?_)
      obtain ⟨j1050, hj, h⟩ := bs h
      refine rgR (fun s => s = ⟨[(1, .loc 1 0), (3, a518), (59, s_eB false a0_.Station), (60, iv ((List.length a0_.Station : Nat) : Int)), (61, iv i537), (80, bv j1050)], [(1, (c_api_Topo a0_))], H519⟩) ?_ ?_
      · clear h
        rcases ite_some hj with ⟨hc1040, hj⟩ | ⟨hc1049, hj⟩
        · refine (EP.u 0 (st_bool (c := e1039) (by kernel_rfl) hc1040) ?_)
          obtain ⟨e1041, he1041, hj⟩ := bs hj
          obtain ⟨id1042, ver1043, _, hid1042f, hid1042, hid1042a, hid1042v⟩ := HP.elem (k := 0) (a := a518) (sz := 1) (frz := false) eI64 hH rfl he1041
          refine (EP.u 3 (st_val (ys := [a518, iv i537]) (by rcases hfa518 with ha518e | ⟨_, _, ha518e⟩ <;> subst ha518e <;> kernel_rfl) (hid1042v .i64)) (EP.u 0 (st_loadO (H := H519) (off := 0) (cs := [.int .i64 e1041]) (r := iv e1041) eI64 he1041 hid1042 (by kernel_rfl) (by kernel_rfl) (by kernel_rfl) (by kernel_rfl)) ?_))
          rcases ite_some hj with ⟨hc1044, hj⟩ | ⟨hc1045, hj⟩
          · obtain rfl := some_inj hj
            exact (EP.u 0 (st_bool (c := (decide (e1041 < 1))) (by kernel_rfl) hc1044) (EP.f (by show _ = _; rcases hfa518 with ha518e | ⟨_, _, ha518e⟩ <;> subst ha518e <;> kernel_rfl)))
          refine (EP.u 0 (st_bool (c := (decide (e1041 < 1))) (by kernel_rfl) hc1045) ?_)
          obtain ⟨e1046, he1046, hj⟩ := bs hj
          obtain ⟨id1047, ver1048, _, hid1047f, hid1047, hid1047a, hid1047v⟩ := HP.elem (k := 0) (a := a518) (sz := 1) (frz := false) eI64 hH rfl he1046
          obtain rfl := some_inj hj
          exact (EP.u 3 (st_val (ys := [a518, iv i537]) (by rcases hfa518 with ha518e | ⟨_, _, ha518e⟩ <;> subst ha518e <;> kernel_rfl) (hid1047v .i64)) (EP.u 0 (st_loadO (H := H519) (off := 0) (cs := [.int .i64 e1046]) (r := iv e1046) eI64 he1046 hid1047 (by kernel_rfl) (by kernel_rfl) (by kernel_rfl) (by kernel_rfl)) (EP.f (by show _ = _; rcases hfa518 with ha518e | ⟨_, _, ha518e⟩ <;> subst ha518e <;> kernel_rfl))))
        obtain rfl := some_inj hj
        exact (EP.u 0 (st_bool (c := e1039) (by kernel_rfl) hc1049) (EP.f (by show _ = _; rcases hfa518 with ha518e | ⟨_, _, ha518e⟩ <;> subst ha518e <;> kernel_rfl)))
      clear hj
      rintro s hR
      obtain rfl := hR
      refine tq (it h (fun hc1051 h => ?_) (fun hc1051 h => ?_))
      · refine sq (rgS ⟨[(2, iv 260)], [], H519⟩ APath.f (by kernel_rfl) ?_)
        replace hH : HP H519 [] := HP.pick hH [] rfl
        refine tq (rt ?_)
        refine br (tr ?_)
        obtain rfl := some_inj h
        exact ⟨_, rfl, rfl, ret_of (by kernel_rfl)⟩
      refine sk (bn ?_)
      refine tq (kq ?_)
      refine rgS ⟨[(1, .loc 1 0), (3, a518), (59, s_eB false a0_.Station), (60, iv ((List.length a0_.Station : Nat) : Int)), (61, iv (w64 (i537 + 1)))], [(1, (c_api_Topo a0_))], H519⟩ APath.f (by rcases hfa518 with ha518e | ⟨_, _, ha518e⟩ <;> subst ha518e <;> kernel_rfl) ?_
      obtain rfl := some_inj h
      exact ⟨_, rfl, (by show _ = _; rcases hfa518 with ha518e | ⟨_, _, ha518e⟩ <;> subst ha518e <;> kernel_rfl)⟩
    refine kq ?_
    replace hH : HP H519 [] := HP.pick hH [] rfl
    refine xq (tx ?_)
    obtain rfl := some_inj h
    exact ⟨_, rfl, rfl, (by show _ = _; kernel_rfl)⟩
  rintro e s hq
  rcases o1052 with p1053 | p1057
  · dsimp only at h hq
    obtain ⟨rfl, hR⟩ := hq
    obtain rfl := hR
    refine bx (tq ?_)
    refine sq (sq ?_)
    obtain ⟨r1054, hr1054, h⟩ := bs h
    obtain ⟨r1055, hr1055, h⟩ := bs h
    refine rg (APath.v 2 (st_call (by kernel_rfl) (topo_reach_ok N a0_ 0 (Arr24_Bool.mk false false false false false false false false false false false false false false false false false false false false false false false false) r1054 hr1054)) (APath.v 0 (st_call (by kernel_rfl) (slices_Contains__bool_bool_ok N r1054 false r1055 hr1055)) APath.f)) (tq ?_)
    refine it h (fun hc1056 h => ?_) (fun hc1056 h => ?_)
    · refine sq (rg APath.f ?_)
      refine tq (rt ?_)
      refine tr ?_
      obtain rfl := some_inj h
      exact ret_of (by kernel_rfl)
    refine sk (tq ?_)
    refine kq (sq ?_)
    refine rg APath.f (tq ?_)
    refine rt ?_
    obtain rfl := some_inj h
    exact ret_of (by kernel_rfl)
  dsimp only at h hq
  obtain ⟨rfl, hq⟩ := hq
  refine br (tr ?_)
  obtain rfl := some_inj h
  exact hq
theorem route_Apart_1_ok (N : Nat) (a0_ : route_walk) (c0_ : (List Int)) (c1_ : (List Int)) (k0_ : Nat) (k1_ : Nat) (H : List HO) (hH : HP H [.cel k0_ [s_eI64 false c0_], .cel k1_ [s_eI64 false c1_]]) (r : Bool × Int) (h : route_Apart_1 N a0_ c0_ c1_ = some r) : ACall Try.prog 58 [.agg (c_api_Topo a0_.Topo), .ptr k0_ 0, .ptr k1_ 0] H (.tup [bv r.1, iv r.2]) H := by
  unfold route_Apart_1 at h
  refine acall_ofW chk58 rfl rfl rfl (vc_sound _ _ _ ?_)
  refine sq (rg APath.f ?_)
  refine tq (sq ?_)
  refine sq ?_
  have hlc1 := HP.get hH 0 rfl
  obtain ⟨r2, hr2, h⟩ := bs h
  refine rg (APath.u 1 (st_loadC (H := H) (id := k0_) (off := 0) (cs := [s_eI64 false c0_]) (c := [s_eI64 false c0_]) (r := s_eI64 false c0_) (by kernel_rfl) (by kernel_rfl) hlc1 (by kernel_rfl) (by kernel_rfl) (by kernel_rfl)) (APath.v 0 (st_call (by kernel_rfl) (route_walk_valid_ok N a0_ c0_ r2 hr2)) APath.f)) (tq ?_)
  refine it h (fun hc3 h => ?_) (fun hc3 h => ?_)
  · refine sq (rg APath.f ?_)
    replace hH : HP H [] := HP.pick hH [] rfl
    refine tq (rt ?_)
    refine tr ?_
    obtain rfl := some_inj h
    exact ret_ofAW (by kernel_rfl) (by kernel_rfl)
  refine sk (tq ?_)
  refine kq (sq ?_)
  obtain ⟨j17, hj, h⟩ := bs h
  refine rgR (fun s => s = ⟨[(4, bv j17), (5, iv 0)], [], H⟩) ?_ ?_
  · clear h
    have hlc4 := HP.get hH 1 rfl
    refine (EP.u 0 (st_loadC (H := H) (id := k1_) (off := 0) (cs := [s_eI64 false c1_]) (c := [s_eI64 false c1_]) (r := s_eI64 false c1_) (by kernel_rfl) (by kernel_rfl) hlc4 (by kernel_rfl) (by kernel_rfl) (by kernel_rfl)) ?_)
    have hlc5 := HP.get hH 0 rfl
    refine (EP.u 0 (st_loadC (H := H) (id := k0_) (off := 0) (cs := [s_eI64 false c0_]) (c := [s_eI64 false c0_]) (r := s_eI64 false c0_) (by kernel_rfl) (by kernel_rfl) hlc5 (by kernel_rfl) (by kernel_rfl) (by kernel_rfl)) ?_)
    obtain ⟨r6, hr6, hj⟩ := bs hj
    refine (EP.v 0 (st_call (by kernel_rfl) (route_shares_ok N c1_ c0_ r6 hr6)) ?_)
    rcases ite_some hj with ⟨hc7, hj⟩ | ⟨hc16, hj⟩
    · refine (EP.u 0 (st_bool (c := (!r6)) (by kernel_rfl) hc7) ?_)
      have hlc8 := HP.get hH 1 rfl
      refine (EP.u 2 (st_loadC (H := H) (id := k1_) (off := 0) (cs := [s_eI64 false c1_]) (c := [s_eI64 false c1_]) (r := s_eI64 false c1_) (by kernel_rfl) (by kernel_rfl) hlc8 (by kernel_rfl) (by kernel_rfl) (by kernel_rfl)) ?_)
      have hlc9 := HP.get hH 0 rfl
      refine (EP.u 0 (st_loadC (H := H) (id := k0_) (off := 0) (cs := [s_eI64 false c0_]) (c := [s_eI64 false c0_]) (r := s_eI64 false c0_) (by kernel_rfl) (by kernel_rfl) hlc9 (by kernel_rfl) (by kernel_rfl) (by kernel_rfl)) ?_)
      obtain ⟨r10, hr10, hj⟩ := bs hj
      refine (EP.v 0 (st_call (by kernel_rfl) (route_walk_meets_ok N a0_ c1_ c0_ r10 hr10)) ?_)
      rcases ite_some hj with ⟨hc11, hj⟩ | ⟨hc15, hj⟩
      · refine (EP.u 0 (st_bool (c := (!r10)) (by kernel_rfl) hc11) ?_)
        have hlc12 := HP.get hH 0 rfl
        refine (EP.u 3 (st_loadC (H := H) (id := k0_) (off := 0) (cs := [s_eI64 false c0_]) (c := [s_eI64 false c0_]) (r := s_eI64 false c0_) (by kernel_rfl) (by kernel_rfl) hlc12 (by kernel_rfl) (by kernel_rfl) (by kernel_rfl)) ?_)
        have hlc13 := HP.get hH 1 rfl
        refine (EP.u 0 (st_loadC (H := H) (id := k1_) (off := 0) (cs := [s_eI64 false c1_]) (c := [s_eI64 false c1_]) (r := s_eI64 false c1_) (by kernel_rfl) (by kernel_rfl) hlc13 (by kernel_rfl) (by kernel_rfl) (by kernel_rfl)) ?_)
        obtain ⟨r14, hr14, hj⟩ := bs hj
        obtain rfl := some_inj hj
        exact (EP.v 0 (st_call (by kernel_rfl) (route_walk_meets_ok N a0_ c0_ c1_ r14 hr14)) (EP.f (by show _ = _; kernel_rfl)))
      obtain rfl := some_inj hj
      exact (EP.u 0 (st_bool (c := (!r10)) (by kernel_rfl) hc15) (EP.f (by show _ = _; kernel_rfl)))
    obtain rfl := some_inj hj
    exact (EP.u 0 (st_bool (c := (!r6)) (by kernel_rfl) hc16) (EP.f (by show _ = _; kernel_rfl)))
  clear hj
  rintro s hR
  obtain rfl := hR
  refine tq (rt ?_)
  obtain rfl := some_inj h
  exact ret_ofAW (by kernel_rfl) (by kernel_rfl)
theorem topo_ask_int_ok (N : Nat) (a0_ : api_Topo) (a1_ : Int) (a2_ : topo_end → Option (Int)) (a2_f : Nat) (a2_p a2_c : List AV) (ha2_n : (noLocL a2_p && noLocL a2_c) = true) (its : List Thing) (ha2_ : ∀ (H : List HO) (x0 : topo_end) (r : Int), HP H its → a2_ x0 = some r → VCall Try.prog (.fn a2_f a2_p a2_c) [.agg [iv x0.Link.A, iv x0.Link.B, iv x0.Link.Per, iv x0.Link.Delay, iv x0.port]] H (iv r) H) (H : List HO) (hH : HP H (its)) (r : Int × Int) (h : topo_ask_int N a0_ a1_ a2_ = some r) : ACall Try.prog 79 [.agg (c_api_Topo a0_), iv a1_, .fn a2_f a2_p a2_c] H (.tup [iv r.1, iv r.2]) H := by
  unfold topo_ask_int at h
  refine acall_ofW chk79 rfl (by simpa [noLocL, noLoc.noLocL, noLoc] using ha2_n) rfl (vc_sound _ _ _ ?_)
  refine sq (rg APath.f ?_)
  refine tq (sq ?_)
  refine rg APath.f (tq ?_)
  refine sq (sq ?_)
  obtain ⟨r1, hr1, h⟩ := bs h
  refine rg (APath.v 1 (st_call (by kernel_rfl) (topo_Check_ok N a0_ r1 hr1)) APath.f) (tq ?_)
  refine sq (rg APath.f ?_)
  refine tq (it h (fun hc2 h => ?_) (fun hc2 h => ?_))
  · refine sq (rg APath.f ?_)
    refine tq (rt ?_)
    refine tr ?_
    obtain rfl := some_inj h
    exact ret_ofAW (by kernel_rfl) (by kernel_rfl)
  refine sk (tq ?_)
  refine kq (sq ?_)
  refine sq (rgX ⟨[(1, iv a1_), (2, .fn a2_f a2_p a2_c), (3, .loc 3 0), (8, iv 0), (25, bv ((decide (a1_ < 0)) || (decide (a1_ ≥ (w64 (2 * ((List.length a0_.Links : Nat) : Int)))))))], [(3, (c_api_Topo a0_))], H⟩ ?_ ?_)
  · rcases Bool.eq_false_or_eq_true (decide (a1_ < 0)) with hc3 | hc4
    · exact (EP.u 1 (st_bool (c := (decide (a1_ < 0))) (by kernel_rfl) hc3) (EP.f (by simp only [hc3]; kernel_rfl)))
    exact (EP.u 1 (st_bool (c := (decide (a1_ < 0))) (by kernel_rfl) hc4) (EP.u 4 (st_val (ys := [s_e_api_Link false a0_.Links]) (by kernel_rfl) (vexec_len e_api_Link)) (EP.f (by simp only [hc4]; kernel_rfl))))
  refine tq (it h (fun hc5 h => ?_) (fun hc5 h => ?_))
  · refine sq (rg APath.f ?_)
    refine tq (rt ?_)
    refine tr ?_
    obtain rfl := some_inj h
    exact ret_ofAW (by kernel_rfl) (by kernel_rfl)
  refine sk (tq ?_)
  refine kq (sq ?_)
  obtain ⟨e6, he6, h⟩ := bs h
  obtain ⟨r7, hr7, h⟩ := bs h
  have hvr7 := ha2_ _ (topo_end.mk e6 a1_) _ hH hr7
  refine rg (APath.u 5 (st_val (ys := [s_e_api_Link false a0_.Links, iv (w64 (Int.tdiv a1_ 2))]) (by kernel_rfl) (vexec_iaddrS e_api_Link he6)) (APath.u 0 (st_loadP (sz := 4) (off := 0) (cs := [.int .i64 e6.A, .int .i64 e6.B, .int .i64 e6.Per, .int .i64 e6.Delay]) (r := .agg (c_api_Link e6)) e_api_Link he6 (by kernel_rfl) (by kernel_rfl) (by kernel_rfl)) (APath.v 2 (st_callV (H := H) (ys := [.agg [iv e6.A, iv e6.B, iv e6.Per, iv e6.Delay, iv a1_]]) (by kernel_rfl) (by kernel_rfl) (by kernel_rfl) hvr7) APath.f))) (tq ?_)
  refine rt ?_
  obtain rfl := some_inj h
  exact ret_ofAW (by kernel_rfl) (by kernel_rfl)
theorem route_Check_ok (N : Nat) (a0_ : api_Topo) (a1_ : (List Int)) (r : Int) (h : route_Check N a0_ a1_ = some r) : PCall Try.prog 19 [.agg (c_api_Topo a0_), s_eI64 false a1_] (iv r) := by
  unfold route_Check at h
  have hH : HP ([] : List HO) [] := trivial
  refine pcall_of chk19 rfl rfl (vc_sound _ _ _ ?_) rfl
  refine sq (rg APath.f ?_)
  refine tq (sq ?_)
  refine sq ?_
  obtain ⟨r1, hr1, h⟩ := bs h
  refine rg (APath.v 1 (st_call (by kernel_rfl) (topo_Check_ok N a0_ r1 hr1)) APath.f) (tq ?_)
  refine sq (rg APath.f ?_)
  refine tq (it h (fun hc2 h => ?_) (fun hc2 h => ?_))
  · refine sq (rg APath.f ?_)
    refine tq (rt ?_)
    refine tr ?_
    obtain rfl := some_inj h
    exact ret_of (by kernel_rfl)
  refine sk (tq ?_)
  refine kq (sq ?_)
  refine sq ?_
  obtain ⟨r3, hr3, h⟩ := bs h
  refine rg (APath.v 3 (st_call (by kernel_rfl) (route_walk_valid_ok N (route_walk.mk a0_) a1_ r3 hr3)) APath.f) (tq ?_)
  refine it h (fun hc4 h => ?_) (fun hc4 h => ?_)
  · refine sq (rg APath.f ?_)
    refine tq (rt ?_)
    refine tr ?_
    obtain rfl := some_inj h
    exact ret_of (by kernel_rfl)
  refine sk (tq ?_)
  refine kq (sq ?_)
  refine rg APath.f (tq ?_)
  refine rt ?_
  obtain rfl := some_inj h
  exact ret_of (by kernel_rfl)
theorem route_Tree_ok (N : Nat) (a0_ : api_Topo) (a1_ : (List (List Int))) (r : (List Int) × Bool × Int) (h : route_Tree N a0_ a1_ = some r) : PCall Try.prog 28 [.agg (c_api_Topo a0_), s_eSl_1_eI64 false a1_] (.tup [s_eI64 false r.1, bv r.2.1, iv r.2.2]) := by
  unfold route_Tree at h
  have hH : HP ([] : List HO) [] := trivial
  refine pcall_of chk28 rfl rfl (vc_sound _ _ _ ?_) rfl
  refine sq (rgS ⟨[(1, s_eSl_1_eI64 false a1_), (2, .loc 2 0)], [(2, (c_api_Topo a0_))], []⟩ APath.f (by kernel_rfl) ?_)
  refine tq (sq ?_)
  refine sq ?_
  obtain ⟨r1, hr1, h⟩ := bs h
  refine rgS ⟨[(1, s_eSl_1_eI64 false a1_), (2, .loc 2 0), (7, iv r1)], [(2, (c_api_Topo a0_))], []⟩ (APath.v 1 (st_call (by kernel_rfl) (topo_Check_ok N a0_ r1 hr1)) APath.f) (by kernel_rfl) ?_
  refine tq (sq ?_)
  refine rgS ⟨[(1, s_eSl_1_eI64 false a1_), (2, .loc 2 0), (7, iv r1), (25, bv (r1 != 0))], [(2, (c_api_Topo a0_))], []⟩ APath.f (by kernel_rfl) ?_
  refine tq (it h (fun hc2 h => ?_) (fun hc2 h => ?_))
  · refine sq (rgS ⟨[(4, s_eI64 true []), (5, bv false), (6, iv r1)], [], []⟩ APath.f (by kernel_rfl) ?_)
    refine tq (rt ?_)
    refine tr ?_
    obtain rfl := some_inj h
    exact ret_of (by kernel_rfl)
  refine sk (tq ?_)
  refine kq (sq ?_)
  refine rgS ⟨[(1, s_eSl_1_eI64 false a1_), (8, .loc 8 0)], [(8, (c_api_Topo a0_))], []⟩ APath.f (by kernel_rfl) ?_
  refine tq (sq ?_)
  refine sq (rgS ⟨[(1, s_eSl_1_eI64 false a1_), (8, .loc 8 0), (29, s_eSl_1_eI64 false a1_), (30, iv ((List.length a1_ : Nat) : Int)), (31, iv 0)], [(8, (c_api_Topo a0_))], []⟩ (APath.u 1 (st_val (ys := [s_eSl_1_eI64 false a1_]) (by kernel_rfl) (vexec_len (eSl 1 eI64))) APath.f) (by kernel_rfl) ?_)
  refine tq (bk ?_)
  obtain ⟨o508, ho508, h⟩ := bs h
  refine vc_loop ((loop_sim (fun (x : Int) s => s = ⟨[(1, s_eSl_1_eI64 false a1_), (8, .loc 8 0), (29, s_eSl_1_eI64 false a1_), (30, iv ((List.length a1_ : Nat) : Int)), (31, iv x)], [(8, (c_api_Topo a0_))], []⟩) (fun x : Int => route_Tree_L1 N a0_ a1_ x) (fun (p : (Unit) ⊕ ((List Int) × Bool × Int)) e s => match p with | (.inl p) => e = .exit 0 ∧ (s = ⟨[(1, s_eSl_1_eI64 false a1_), (8, .loc 8 0)], [(8, (c_api_Topo a0_))], []⟩) | (.inr p) => e = .ret ∧ ∃ xs, resL s i28.res = some xs ∧ tupOf xs = .tup [s_eI64 false p.1, bv p.2.1, iv p.2.2]) ?_ N _ o508 _ ho508 (by show _ = _; kernel_rfl)).mono ?_)
  · clear h ho508
    rintro i3 o s h hR
    obtain rfl := hR
    replace h : route_Tree_L1 N a0_ a1_ i3 = some o := h
    unfold route_Tree_L1 at h
    refine sq (rgS ⟨[(1, s_eSl_1_eI64 false a1_), (8, .loc 8 0), (29, s_eSl_1_eI64 false a1_), (30, iv ((List.length a1_ : Nat) : Int)), (31, iv i3), (32, bv (decide (i3 < ((List.length a1_ : Nat) : Int))))], [(8, (c_api_Topo a0_))], []⟩ APath.f (by kernel_rfl) ?_)
    refine tq (sq ?_)
    refine it h (fun hc504 h => ?_) (fun hc504 h => ?_)
    · refine sk (tq ?_)
      refine kq (sq ?_)
      refine bk (sq ?_)
      obtain ⟨e505, he505, h⟩ := bs h
      refine rgS ⟨[(1, s_eSl_1_eI64 false a1_), (8, .loc 8 0), (10, s_eI64 false e505), (29, s_eSl_1_eI64 false a1_), (30, iv ((List.length a1_ : Nat) : Int)), (31, iv i3)], [(8, (c_api_Topo a0_))], []⟩ (APath.u 0 (st_val (ys := [s_eSl_1_eI64 false a1_, iv i3]) (by kernel_rfl) (vexec_iaddrS (eSl 1 eI64) he505)) (APath.u 0 (st_loadP (sz := 1) (off := 0) (cs := [.sl 1 false (List.map eI64 e505)]) (r := s_eI64 false e505) (eSl 1 eI64) he505 (by kernel_rfl) (by kernel_rfl) (by kernel_rfl)) APath.f)) (by kernel_rfl) ?_
      refine tq (sq ?_)
      obtain ⟨r506, hr506, h⟩ := bs h
      refine rgS ⟨[(1, s_eSl_1_eI64 false a1_), (8, .loc 8 0), (29, s_eSl_1_eI64 false a1_), (30, iv ((List.length a1_ : Nat) : Int)), (31, iv i3), (38, bv (!r506))], [(8, (c_api_Topo a0_))], []⟩ (APath.v 2 (st_call (by kernel_rfl) (route_walk_valid_ok N (route_walk.mk a0_) e505 r506 hr506)) APath.f) (by kernel_rfl) ?_
      refine tq (it h (fun hc507 h => ?_) (fun hc507 h => ?_))
      · refine sq (rgS ⟨[(4, s_eI64 true []), (5, bv false), (6, iv 310)], [], []⟩ APath.f (by kernel_rfl) ?_)
        refine tq (rt ?_)
        refine br (tr ?_)
        obtain rfl := some_inj h
        exact ⟨_, rfl, rfl, ret_of (by kernel_rfl)⟩
      refine sk (bn ?_)
      refine tq (kq ?_)
      refine rgS ⟨[(1, s_eSl_1_eI64 false a1_), (8, .loc 8 0), (29, s_eSl_1_eI64 false a1_), (30, iv ((List.length a1_ : Nat) : Int)), (31, iv (w64 (i3 + 1)))], [(8, (c_api_Topo a0_))], []⟩ APath.f (by kernel_rfl) ?_
      obtain rfl := some_inj h
      exact ⟨_, rfl, (by show _ = _; kernel_rfl)⟩
    refine kq (xq ?_)
    refine tx ?_
    obtain rfl := some_inj h
    exact ⟨_, rfl, rfl, (by show _ = _; kernel_rfl)⟩
  rintro e s hq
  rcases o508 with p509 | p3592
  · dsimp only at h hq
    obtain ⟨rfl, hR⟩ := hq
    obtain rfl := hR
    refine bx (tq ?_)
    refine sq ?_
    obtain ⟨id510, H511, hid510, hH511, hH⟩ := HP.newCell hH (c_Arr48_Bool (Arr48_Bool.mk false false false false false false false false false false false false false false false false false false false false false false false false false false false false false false false false false false false false false false false false false false false false false false false false))
    replace hH : HP H511 [.cel id510 (c_Arr48_Bool (Arr48_Bool.mk false false false false false false false false false false false false false false false false false false false false false false false false false false false false false false false false false false false false false false false false false false false false false false false false))] := hH
    refine rgS ⟨[(1, s_eSl_1_eI64 false a1_), (8, .loc 8 0), (11, .ptr id510 0)], [(8, (c_api_Topo a0_))], H511⟩ (APath.h 0 (st_newH (H := []) (by kernel_rfl) hid510 hH511) APath.f) (by kernel_rfl) ?_
    refine tq (sq ?_)
    obtain ⟨id512, H513, hid512, hH513, hH⟩ := HP.newCell hH (c_Arr12_i64 (Arr12_i64.mk 0 0 0 0 0 0 0 0 0 0 0 0))
    replace hH : HP H513 [.cel id512 (c_Arr12_i64 (Arr12_i64.mk 0 0 0 0 0 0 0 0 0 0 0 0)), .cel id510 (c_Arr48_Bool (Arr48_Bool.mk false false false false false false false false false false false false false false false false false false false false false false false false false false false false false false false false false false false false false false false false false false false false false false false false))] := hH
    refine rgS ⟨[(1, s_eSl_1_eI64 false a1_), (8, .loc 8 0), (11, .ptr id510 0), (12, .ptr id512 0)], [(8, (c_api_Topo a0_))], H513⟩ (APath.h 0 (st_newH (H := H511) (by kernel_rfl) hid512 hH513) APath.f) (by kernel_rfl) ?_
    refine tq (sq ?_)
    obtain ⟨id514, H515, hid514, hH515, hH⟩ := HP.newCell hH [iv 0]
    replace hH : HP H515 [.cel id514 [iv 0], .cel id512 (c_Arr12_i64 (Arr12_i64.mk 0 0 0 0 0 0 0 0 0 0 0 0)), .cel id510 (c_Arr48_Bool (Arr48_Bool.mk false false false false false false false false false false false false false false false false false false false false false false false false false false false false false false false false false false false false false false false false false false false false false false false false))] := hH
    obtain ⟨id516, H517, hid516, hH517, hH⟩ := HP.newCell hH [bv false]
    replace hH : HP H517 [.cel id516 [bv false], .cel id514 [iv 0], .cel id512 (c_Arr12_i64 (Arr12_i64.mk 0 0 0 0 0 0 0 0 0 0 0 0)), .cel id510 (c_Arr48_Bool (Arr48_Bool.mk false false false false false false false false false false false false false false false false false false false false false false false false false false false false false false false false false false false false false false false false false false false false false false false false))] := hH
    obtain ⟨H518, hH518, hH⟩ := HP.setCell (k := 1) (off := 0) (cs := [iv 0]) (vs := [iv (-1)]) (cs' := [iv (-1)]) hH rfl (by kernel_rfl)
    replace hH : HP H518 [.cel id516 [bv false], .cel id514 [iv (-1)], .cel id512 (c_Arr12_i64 (Arr12_i64.mk 0 0 0 0 0 0 0 0 0 0 0 0)), .cel id510 (c_Arr48_Bool (Arr48_Bool.mk false false false false false false false false false false false false false false false false false false false false false false false false false false false false false false false false false false false false false false false false false false false false false false false false))] := hH
    obtain ⟨H519, hH519, hH⟩ := HP.setCell (k := 0) (off := 0) (cs := [bv false]) (vs := [bv true]) (cs' := [bv true]) hH rfl (by kernel_rfl)
    replace hH : HP H519 [.cel id516 [bv true], .cel id514 [iv (-1)], .cel id512 (c_Arr12_i64 (Arr12_i64.mk 0 0 0 0 0 0 0 0 0 0 0 0)), .cel id510 (c_Arr48_Bool (Arr48_Bool.mk false false false false false false false false false false false false false false false false false false false false false false false false false false false false false false false false false false false false false false false false false false false false false false false false))] := hH
    refine rgS ⟨[(1, s_eSl_1_eI64 false a1_), (8, .loc 8 0), (11, .ptr id510 0), (12, .ptr id512 0), (13, .ptr id514 0), (14, .ptr id516 0)], [(8, (c_api_Topo a0_))], H519⟩ (APath.h 0 (st_newH (H := H513) (by kernel_rfl) hid514 hH515) (APath.h 0 (st_newH (H := H515) (by kernel_rfl) hid516 hH517) (APath.o 0 (st_storeH (H := H517) (v := iv (-1)) (by kernel_rfl) (by kernel_rfl) (by kernel_rfl) (by kernel_rfl) hH518) (APath.o 0 (st_storeH (H := H518) (v := bv true) (by kernel_rfl) (by kernel_rfl) (by kernel_rfl) (by kernel_rfl) hH519) APath.f)))) (by kernel_rfl) ?_
    refine tq (sq ?_)
    refine sq (rgS ⟨[(8, .loc 8 0), (11, .ptr id510 0), (12, .ptr id512 0), (13, .ptr id514 0), (14, .ptr id516 0), (40, s_eSl_1_eI64 false a1_), (41, iv ((List.length a1_ : Nat) : Int)), (42, iv 0)], [(8, (c_api_Topo a0_))], H519⟩ (APath.u 1 (st_val (ys := [s_eSl_1_eI64 false a1_]) (by kernel_rfl) (vexec_len (eSl 1 eI64))) APath.f) (by kernel_rfl) ?_)
    refine tq (bk ?_)
    obtain ⟨o2573, ho2573, h⟩ := bs h
    refine vc_loop ((loop_sim (fun (x : Int × Arr48_Bool × Arr12_i64 × Int × Bool) s => ∃ (H520 : List HO), s = ⟨[(8, .loc 8 0), (11, .ptr id510 0), (12, .ptr id512 0), (13, .ptr id514 0), (14, .ptr id516 0), (40, s_eSl_1_eI64 false a1_), (41, iv ((List.length a1_ : Nat) : Int)), (42, iv x.1)], [(8, (c_api_Topo a0_))], H520⟩ ∧ HP H520 [.cel id510 (c_Arr48_Bool x.2.1), .cel id512 (c_Arr12_i64 x.2.2.1), .cel id514 [iv x.2.2.2.1], .cel id516 [bv x.2.2.2.2]]) (fun x : Int × Arr48_Bool × Arr12_i64 × Int × Bool => route_Tree_L2 N a0_ a1_ x.1 x.2.1 x.2.2.1 x.2.2.2.1 x.2.2.2.2) (fun (p : Arr48_Bool × Bool) e s => e = .exit 2 ∧ (∃ (H1026 : List HO), s = ⟨[(11, .ptr id510 0), (14, .ptr id516 0)], [], H1026⟩ ∧ HP H1026 [.cel id510 (c_Arr48_Bool p.1), .cel id516 [bv p.2]])) ?_ N _ o2573 _ ho2573 ⟨H519, (by show _ = _; kernel_rfl), (HP.pick hH [3, 2, 1, 0] rfl)⟩).mono ?_)
    · clear h ho2573
      rintro ⟨i521, l522, l523, i524, b525⟩ o s h hR
      obtain ⟨H520, rfl, hH⟩ := hR
      replace hH : HP H520 [.cel id510 (c_Arr48_Bool l522), .cel id512 (c_Arr12_i64 l523), .cel id514 [iv i524], .cel id516 [bv b525]] := hH
      replace h : route_Tree_L2 N a0_ a1_ i521 l522 l523 i524 b525 = some o := h
      unfold route_Tree_L2 at h
      refine sq (rgS ⟨[(8, .loc 8 0), (11, .ptr id510 0), (12, .ptr id512 0), (13, .ptr id514 0), (14, .ptr id516 0), (40, s_eSl_1_eI64 false a1_), (41, iv ((List.length a1_ : Nat) : Int)), (42, iv i521), (43, bv (decide (i521 < ((List.length a1_ : Nat) : Int))))], [(8, (c_api_Topo a0_))], H520⟩ APath.f (by kernel_rfl) ?_)
      refine tq (sq ?_)
      refine it h (fun hc1027 h => ?_) (fun hc1027 h => ?_)
      · refine sk (tq ?_)
        refine kq (sq ?_)
        refine bk (sq ?_)
        obtain ⟨e1028, he1028, h⟩ := bs h
        refine rgS ⟨[(8, .loc 8 0), (11, .ptr id510 0), (12, .ptr id512 0), (13, .ptr id514 0), (14, .ptr id516 0), (16, s_eI64 false e1028), (40, s_eSl_1_eI64 false a1_), (41, iv ((List.length a1_ : Nat) : Int)), (42, iv i521)], [(8, (c_api_Topo a0_))], H520⟩ (APath.u 0 (st_val (ys := [s_eSl_1_eI64 false a1_, iv i521]) (by kernel_rfl) (vexec_iaddrS (eSl 1 eI64) he1028)) (APath.u 0 (st_loadP (sz := 1) (off := 0) (cs := [.sl 1 false (List.map eI64 e1028)]) (r := s_eI64 false e1028) (eSl 1 eI64) he1028 (by kernel_rfl) (by kernel_rfl) (by kernel_rfl)) APath.f)) (by kernel_rfl) ?_
        refine tq (sq ?_)
        obtain ⟨r1029, hr1029, h⟩ := bs h
        obtain ⟨id1031, id1032, H1030, hvr1029, hpr1029⟩ := route_walk_hops_ok N (route_walk.mk a0_) e1028 H520 r1029 hr1029
        replace hH : HP H1030 [.cel id1031 [s_eI64 false r1029.1], .cel id1032 (c_api_Topo r1029.2.Topo), .cel id510 (c_Arr48_Bool l522), .cel id512 (c_Arr12_i64 l523), .cel id514 [iv i524], .cel id516 [bv b525]] := HP.callee (fp := []) (rest := [.cel id510 (c_Arr48_Bool l522), .cel id512 (c_Arr12_i64 l523), .cel id514 [iv i524], .cel id516 [bv b525]]) hH hpr1029
        refine rgS ⟨[(8, .loc 8 0), (11, .ptr id510 0), (12, .ptr id512 0), (13, .ptr id514 0), (14, .ptr id516 0), (40, s_eSl_1_eI64 false a1_), (41, iv ((List.length a1_ : Nat) : Int)), (42, iv i521), (48, .fn 78 [] [.ptr id1031 0, .ptr id1032 0])], [(8, (c_api_Topo a0_))], H1030⟩ (APath.v 2 (st_callH (H := H520) (ys := [.agg (c_api_Topo a0_), s_eI64 false e1028]) (by kernel_rfl) (by kernel_rfl) (by kernel_rfl) hvr1029) APath.f) (by kernel_rfl) ?_
        refine tq (bk ?_)
        obtain ⟨o2571, ho2571, h⟩ := bs h
        have hyo2571 : ∀ (x1034 : Int) (x1035 : route_hop) (s : Arr48_Bool × Arr12_i64 × Int × Bool) (r : (Arr48_Bool × Arr12_i64 × Int × Bool) × Bool) (H : List HO) (its : List Thing), (fun (s : Arr48_Bool × Arr12_i64 × Int × Bool) (its : List Thing) => its = [.cel id510 (c_Arr48_Bool s.1), .cel id512 (c_Arr12_i64 s.2.1), .cel id514 [iv s.2.2.1], .cel id516 [bv s.2.2.2]] ++ [.lp (List.length H1030) (lcOf Try.prog i28.nt [49, 50] ra28_3 rb28_3) [(11, .ptr id510 0), (12, .ptr id512 0), (13, .ptr id514 0), (14, .ptr id516 0)] .ready]) s its → HP H its → (fun (s : Arr48_Bool × Arr12_i64 × Int × Bool) (x1034 : Int) (x1035 : route_hop) => yieldT (fun v : Arr48_Bool × Arr12_i64 × Int × Bool => route_Tree_R3 N v.1 v.2.1 v.2.2.1 v.2.2.2 x1034 x1035) s) s x1034 x1035 = some r → ∃ H' its', YCall Try.prog (List.length H1030) [iv x1034, .agg (c_route_hop x1035)] H r.2 H' ∧ (fun (s : Arr48_Bool × Arr12_i64 × Int × Bool) (its : List Thing) => its = [.cel id510 (c_Arr48_Bool s.1), .cel id512 (c_Arr12_i64 s.2.1), .cel id514 [iv s.2.2.1], .cel id516 [bv s.2.2.2]] ++ [.lp (List.length H1030) (lcOf Try.prog i28.nt [49, 50] ra28_3 rb28_3) [(11, .ptr id510 0), (12, .ptr id512 0), (13, .ptr id514 0), (14, .ptr id516 0)] .ready]) r.1 its' ∧ Fp H H' its its' := by
          clear h
          intro x1034 x1035 s r H1033 its hT hH h
          obtain ⟨q, hb, rfl⟩ := yieldT_some h
          clear h
          obtain ⟨vs, rfl⟩ : ∃ v, v = s := ⟨s, rfl⟩
          obtain ⟨l1036, l1037, i1038, b1039⟩ := vs
          obtain rfl := hT
          replace h : route_Tree_R3 N l1036 l1037 i1038 b1039 x1034 x1035 = some q := hb
          clear hb
          unfold route_Tree_R3 at h
          replace hH : Fp H1033 H1033 [.cel id510 (c_Arr48_Bool l1036), .cel id512 (c_Arr12_i64 l1037), .cel id514 [iv i1038], .cel id516 [bv b1039], .lp (List.length H1030) (lcOf Try.prog i28.nt [49, 50] ra28_3 rb28_3) [(11, .ptr id510 0), (12, .ptr id512 0), (13, .ptr id514 0), (14, .ptr id516 0)] .ready] [.cel id510 (c_Arr48_Bool l1036), .cel id512 (c_Arr12_i64 l1037), .cel id514 [iv i1038], .cel id516 [bv b1039], .lp (List.length H1030) (lcOf Try.prog i28.nt [49, 50] ra28_3 rb28_3) [(11, .ptr id510 0), (12, .ptr id512 0), (13, .ptr id514 0), (14, .ptr id516 0)] .ready] := Fp.refl hH
          suffices hs : ∃ H', YCall Try.prog (List.length H1030) [iv x1034, .agg (c_route_hop x1035)] H1033 true H' ∧ ∃ its', (fun (s : Arr48_Bool × Arr12_i64 × Int × Bool) (its : List Thing) => its = [.cel id510 (c_Arr48_Bool s.1), .cel id512 (c_Arr12_i64 s.2.1), .cel id514 [iv s.2.2.1], .cel id516 [bv s.2.2.2]] ++ [.lp (List.length H1030) (lcOf Try.prog i28.nt [49, 50] ra28_3 rb28_3) [(11, .ptr id510 0), (12, .ptr id512 0), (13, .ptr id514 0), (14, .ptr id516 0)] .ready]) q its' ∧ Fp H1033 H' [.cel id510 (c_Arr48_Bool l1036), .cel id512 (c_Arr12_i64 l1037), .cel id514 [iv i1038], .cel id516 [bv b1039], .lp (List.length H1030) (lcOf Try.prog i28.nt [49, 50] ra28_3 rb28_3) [(11, .ptr id510 0), (12, .ptr id512 0), (13, .ptr id514 0), (14, .ptr id516 0)] .ready] its' by
            obtain ⟨H', h1, its', h2, h3⟩ := hs
            exact ⟨H', its', h1, h2, h3⟩
          refine ycall_det (id := (List.length H1030)) (args := [iv x1034, .agg (c_route_hop x1035)]) (H := H1033) (n := i28.nt) (ps := [49, 50]) (fr0 := [(11, .ptr id510 0), (12, .ptr id512 0), (13, .ptr id514 0), (14, .ptr id516 0)]) (ia := ra28_3) (ib := rb28_3) true (fun H' => ∃ its', (fun (s : Arr48_Bool × Arr12_i64 × Int × Bool) (its : List Thing) => its = [.cel id510 (c_Arr48_Bool s.1), .cel id512 (c_Arr12_i64 s.2.1), .cel id514 [iv s.2.2.1], .cel id516 [bv s.2.2.2]] ++ [.lp (List.length H1030) (lcOf Try.prog i28.nt [49, 50] ra28_3 rb28_3) [(11, .ptr id510 0), (12, .ptr id512 0), (13, .ptr id514 0), (14, .ptr id516 0)] .ready]) q its' ∧ Fp H1033 H' [.cel id510 (c_Arr48_Bool l1036), .cel id512 (c_Arr12_i64 l1037), .cel id514 [iv i1038], .cel id516 [bv b1039], .lp (List.length H1030) (lcOf Try.prog i28.nt [49, 50] ra28_3 rb28_3) [(11, .ptr id510 0), (12, .ptr id512 0), (13, .ptr id514 0), (14, .ptr id516 0)] .ready] its') (Fp.get hH 4 rfl) rfl (by decide +kernel) rfl ?_
          show vc _ _ _ _ ⟨[(11, .ptr id510 0), (12, .ptr id512 0), (13, .ptr id514 0), (14, .ptr id516 0), (49, iv x1034), (50, .agg (c_route_hop x1035))], [], H1033⟩
          refine sq (rgS ⟨[(11, .ptr id510 0), (12, .ptr id512 0), (13, .ptr id514 0), (14, .ptr id516 0), (17, iv x1034), (50, .agg (c_route_hop x1035))], [], H1033⟩ APath.f (by kernel_rfl) ?_)
          refine tq (rgS ⟨[(11, .ptr id510 0), (12, .ptr id512 0), (13, .ptr id514 0), (14, .ptr id516 0), (17, iv x1034), (18, .loc 18 0)], [(18, (c_route_hop x1035))], H1033⟩ APath.f (by kernel_rfl) ?_)
          refine ia_done (k := 4) hH rfl ?_
          intro H1536 hH
          replace hH : Fp H1033 H1536 [.cel id510 (c_Arr48_Bool l1036), .cel id512 (c_Arr12_i64 l1037), .cel id514 [iv i1038], .cel id516 [bv b1039], .lp (List.length H1030) (lcOf Try.prog i28.nt [49, 50] ra28_3 rb28_3) [(11, .ptr id510 0), (12, .ptr id512 0), (13, .ptr id514 0), (14, .ptr id516 0)] .ready] [.cel id510 (c_Arr48_Bool l1036), .cel id512 (c_Arr12_i64 l1037), .cel id514 [iv i1038], .cel id516 [bv b1039], .lp (List.length H1030) (lcOf Try.prog i28.nt [49, 50] ra28_3 rb28_3) [(11, .ptr id510 0), (12, .ptr id512 0), (13, .ptr id514 0), (14, .ptr id516 0)] .busy] := hH
          show vc _ _ _ _ ⟨[(11, .ptr id510 0), (12, .ptr id512 0), (13, .ptr id514 0), (14, .ptr id516 0), (17, iv x1034), (18, .loc 18 0)], [(18, (c_route_hop x1035))], H1536⟩
          refine bk ?_
          obtain ⟨j2038, hj2038, h⟩ := bs h
          refine vc_joinK [11, 12, 13, 14, 17, 18] (fun s => ∃ (H2037 : List HO), s = ⟨[(11, .ptr id510 0), (12, .ptr id512 0), (13, .ptr id514 0), (14, .ptr id516 0), (17, iv x1034), (18, .loc 18 0)], [(18, (c_route_hop x1035))], H2037⟩ ∧ Fp H1033 H2037 [.cel id510 (c_Arr48_Bool l1036), .cel id512 (c_Arr12_i64 l1037), .cel id514 [iv i1038], .cel id516 [bv b1039], .lp (List.length H1030) (lcOf Try.prog i28.nt [49, 50] ra28_3 rb28_3) [(11, .ptr id510 0), (12, .ptr id512 0), (13, .ptr id514 0), (14, .ptr id516 0)] .ready] [.cel id510 (c_Arr48_Bool l1036), .cel id512 (c_Arr12_i64 l1037), .cel id514 [iv j2038], .cel id516 [bv b1039], .lp (List.length H1030) (lcOf Try.prog i28.nt [49, 50] ra28_3 rb28_3) [(11, .ptr id510 0), (12, .ptr id512 0), (13, .ptr id514 0), (14, .ptr id516 0)] .busy]) ?_ ?_
          · clear h
            have h := hj2038
            refine sq ?_
            obtain ⟨j2042, hj, h⟩ := bs h
            refine rgR (fun s => s = ⟨[(11, .ptr id510 0), (12, .ptr id512 0), (13, .ptr id514 0), (14, .ptr id516 0), (17, iv x1034), (18, .loc 18 0), (56, bv j2042)], [(18, (c_route_hop x1035))], H1536⟩) ?_ ?_
            · clear h
              rcases ite_some hj with ⟨hc2039, hj⟩ | ⟨hc2041, hj⟩
              · refine (EP.u 1 (st_bool (c := (x1034 == 0)) (by kernel_rfl) hc2039) ?_)
                have hlc2040 := Fp.get hH 2 rfl
                obtain rfl := some_inj hj
                exact (EP.u 1 (st_loadC (H := H1536) (id := id514) (off := 0) (cs := [iv i1038]) (c := [iv i1038]) (r := iv i1038) (by kernel_rfl) (by kernel_rfl) hlc2040 (by kernel_rfl) (by kernel_rfl) (by kernel_rfl)) (EP.f (by show _ = _; kernel_rfl)))
              obtain rfl := some_inj hj
              exact (EP.u 1 (st_bool (c := (x1034 == 0)) (by kernel_rfl) hc2041) (EP.f (by show _ = _; kernel_rfl)))
            clear hj
            rintro s hR
            obtain rfl := hR
            refine tq (it h (fun hc2043 h => ?_) (fun hc2043 h => ?_))
            · obtain ⟨H2044, hH2044, hH⟩ := Fp.setCell (k := 2) (off := 0) (cs := [iv i1038]) (vs := [iv x1035.from_]) (cs' := [iv x1035.from_]) hH rfl (by kernel_rfl)
              replace hH : Fp H1033 H2044 [.cel id510 (c_Arr48_Bool l1036), .cel id512 (c_Arr12_i64 l1037), .cel id514 [iv i1038], .cel id516 [bv b1039], .lp (List.length H1030) (lcOf Try.prog i28.nt [49, 50] ra28_3 rb28_3) [(11, .ptr id510 0), (12, .ptr id512 0), (13, .ptr id514 0), (14, .ptr id516 0)] .ready] [.cel id510 (c_Arr48_Bool l1036), .cel id512 (c_Arr12_i64 l1037), .cel id514 [iv x1035.from_], .cel id516 [bv b1039], .lp (List.length H1030) (lcOf Try.prog i28.nt [49, 50] ra28_3 rb28_3) [(11, .ptr id510 0), (12, .ptr id512 0), (13, .ptr id514 0), (14, .ptr id516 0)] .busy] := hH
              refine rgS ⟨[(11, .ptr id510 0), (12, .ptr id512 0), (13, .ptr id514 0), (14, .ptr id516 0), (17, iv x1034), (18, .loc 18 0)], [(18, (c_route_hop x1035))], H2044⟩ (APath.o 2 (st_storeH (H := H1536) (v := iv x1035.from_) (by kernel_rfl) (by kernel_rfl) (by kernel_rfl) (by kernel_rfl) hH2044) APath.f) (by kernel_rfl) ?_
              obtain rfl := some_inj h
              exact ⟨rfl, ⟨H2044, (by show _ = _; kernel_rfl), (Fp.pick hH [0, 1, 2, 3, 4] rfl)⟩⟩
            refine sk ?_
            obtain rfl := some_inj h
            exact ⟨rfl, ⟨H1536, (by show _ = _; kernel_rfl), (Fp.pick hH [0, 1, 2, 3, 4] rfl)⟩⟩
          clear hj2038
          rintro s hR
          obtain ⟨H2037, rfl, hH⟩ := hR
          replace hH : Fp H1033 H2037 [.cel id510 (c_Arr48_Bool l1036), .cel id512 (c_Arr12_i64 l1037), .cel id514 [iv i1038], .cel id516 [bv b1039], .lp (List.length H1030) (lcOf Try.prog i28.nt [49, 50] ra28_3 rb28_3) [(11, .ptr id510 0), (12, .ptr id512 0), (13, .ptr id514 0), (14, .ptr id516 0)] .ready] [.cel id510 (c_Arr48_Bool l1036), .cel id512 (c_Arr12_i64 l1037), .cel id514 [iv j2038], .cel id516 [bv b1039], .lp (List.length H1030) (lcOf Try.prog i28.nt [49, 50] ra28_3 rb28_3) [(11, .ptr id510 0), (12, .ptr id512 0), (13, .ptr id514 0), (14, .ptr id516 0)] .busy] := hH
          obtain ⟨j2546, hj2546, h⟩ := bs h
          refine vc_joinK [11, 12, 18] (fun s => ∃ (H2545 : List HO), s = ⟨[(11, .ptr id510 0), (12, .ptr id512 0), (18, .loc 18 0)], [(18, (c_route_hop x1035))], H2545⟩ ∧ Fp H1033 H2545 [.cel id510 (c_Arr48_Bool l1036), .cel id512 (c_Arr12_i64 l1037), .cel id514 [iv i1038], .cel id516 [bv b1039], .lp (List.length H1030) (lcOf Try.prog i28.nt [49, 50] ra28_3 rb28_3) [(11, .ptr id510 0), (12, .ptr id512 0), (13, .ptr id514 0), (14, .ptr id516 0)] .ready] [.cel id510 (c_Arr48_Bool l1036), .cel id512 (c_Arr12_i64 l1037), .cel id514 [iv j2038], .cel id516 [bv j2546], .lp (List.length H1030) (lcOf Try.prog i28.nt [49, 50] ra28_3 rb28_3) [(11, .ptr id510 0), (12, .ptr id512 0), (13, .ptr id514 0), (14, .ptr id516 0)] .busy]) ?_ ?_
          · clear h
            have h := hj2546
            refine sq ?_
            obtain ⟨j2564, hj, h⟩ := bs h
            refine rqR (fun s => s = ⟨[(11, .ptr id510 0), (12, .ptr id512 0), (14, .ptr id516 0), (18, .loc 18 0), (83, bv j2564)], [(18, (c_route_hop x1035))], H2037⟩) ?_ ?_
            · clear h
              rcases ite_some hj with ⟨hc2547, hj⟩ | ⟨hc2557, hj⟩
              · refine (EP.u 1 (st_bool (c := (x1034 == 0)) (by kernel_rfl) hc2547) ?_)
                have hlc2548 := Fp.get hH 2 rfl
                refine (EP.u 1 (st_toLH (st_loadC (H := H2037) (id := id514) (off := 0) (cs := [iv j2038]) (c := [iv j2038]) (r := iv j2038) (by kernel_rfl) (by kernel_rfl) hlc2548 (by kernel_rfl) (by kernel_rfl) (by kernel_rfl)) (by kernel_rfl)) ?_)
                rcases ite_some hj with ⟨hc2549, hj⟩ | ⟨hc2550, hj⟩
                · obtain rfl := some_inj hj
                  exact (EP.u 2 (st_bool (c := (j2038 != x1035.from_)) (by kernel_rfl) hc2549) (EP.f (by show _ = _; kernel_rfl)))
                refine (EP.u 2 (st_bool (c := (j2038 != x1035.from_)) (by kernel_rfl) hc2550) ?_)
                obtain ⟨e2551, he2551, hj⟩ := bs hj
                refine (EP.u 4 (st_val (ys := [.ptr id512 0, iv x1035.to_]) (by kernel_rfl) (vexec_iaddrP (l := l1037.l) he2551 rfl)) ?_)
                have hlc2552 := Fp.get hH 1 rfl
                refine (EP.u 0 (st_toLH (st_loadAP (H := H2037) (id := id512) (off := 0) (cs := (c_Arr12_i64 l1037)) (l := l1037.l) (fun x => iv x) [] [] he2551 (by kernel_rfl) (by kernel_rfl) hlc2552 rfl rfl) (by kernel_rfl)) ?_)
                rcases ite_some hj with ⟨hc2553, hj⟩ | ⟨hc2556, hj⟩
                · refine (EP.u 0 (st_bool (c := (e2551 != 0)) (by kernel_rfl) hc2553) ?_)
                  obtain ⟨e2554, he2554, hj⟩ := bs hj
                  refine (EP.u 3 (st_val (ys := [.ptr id512 0, iv x1035.to_]) (by kernel_rfl) (vexec_iaddrP (l := l1037.l) he2554 rfl)) ?_)
                  have hlc2555 := Fp.get hH 1 rfl
                  obtain rfl := some_inj hj
                  exact (EP.u 0 (st_toLH (st_loadAP (H := H2037) (id := id512) (off := 0) (cs := (c_Arr12_i64 l1037)) (l := l1037.l) (fun x => iv x) [] [] he2554 (by kernel_rfl) (by kernel_rfl) hlc2555 rfl rfl) (by kernel_rfl)) (EP.f (by show _ = _; kernel_rfl)))
                obtain rfl := some_inj hj
                exact (EP.u 0 (st_bool (c := (e2551 != 0)) (by kernel_rfl) hc2556) (EP.f (by show _ = _; kernel_rfl)))
              refine (EP.u 1 (st_bool (c := (x1034 == 0)) (by kernel_rfl) hc2557) ?_)
              obtain ⟨e2558, he2558, hj⟩ := bs hj
              refine (EP.u 9 (st_val (ys := [.ptr id512 0, iv x1035.to_]) (by kernel_rfl) (vexec_iaddrP (l := l1037.l) he2558 rfl)) ?_)
              have hlc2559 := Fp.get hH 1 rfl
              refine (EP.u 0 (st_toLH (st_loadAP (H := H2037) (id := id512) (off := 0) (cs := (c_Arr12_i64 l1037)) (l := l1037.l) (fun x => iv x) [] [] he2558 (by kernel_rfl) (by kernel_rfl) hlc2559 rfl rfl) (by kernel_rfl)) ?_)
              rcases ite_some hj with ⟨hc2560, hj⟩ | ⟨hc2563, hj⟩
              · refine (EP.u 0 (st_bool (c := (e2558 != 0)) (by kernel_rfl) hc2560) ?_)
                obtain ⟨e2561, he2561, hj⟩ := bs hj
                refine (EP.u 3 (st_val (ys := [.ptr id512 0, iv x1035.to_]) (by kernel_rfl) (vexec_iaddrP (l := l1037.l) he2561 rfl)) ?_)
                have hlc2562 := Fp.get hH 1 rfl
                obtain rfl := some_inj hj
                exact (EP.u 0 (st_toLH (st_loadAP (H := H2037) (id := id512) (off := 0) (cs := (c_Arr12_i64 l1037)) (l := l1037.l) (fun x => iv x) [] [] he2561 (by kernel_rfl) (by kernel_rfl) hlc2562 rfl rfl) (by kernel_rfl)) (EP.f (by show _ = _; kernel_rfl)))
              obtain rfl := some_inj hj
              exact (EP.u 0 (st_bool (c := (e2558 != 0)) (by kernel_rfl) hc2563) (EP.f (by show _ = _; kernel_rfl)))
            clear hj
            rintro s hR
            obtain rfl := hR
            refine tq (it h (fun hc2565 h => ?_) (fun hc2565 h => ?_))
            · obtain ⟨H2566, hH2566, hH⟩ := Fp.setCell (k := 3) (off := 0) (cs := [bv b1039]) (vs := [bv false]) (cs' := [bv false]) hH rfl (by kernel_rfl)
              replace hH : Fp H1033 H2566 [.cel id510 (c_Arr48_Bool l1036), .cel id512 (c_Arr12_i64 l1037), .cel id514 [iv i1038], .cel id516 [bv b1039], .lp (List.length H1030) (lcOf Try.prog i28.nt [49, 50] ra28_3 rb28_3) [(11, .ptr id510 0), (12, .ptr id512 0), (13, .ptr id514 0), (14, .ptr id516 0)] .ready] [.cel id510 (c_Arr48_Bool l1036), .cel id512 (c_Arr12_i64 l1037), .cel id514 [iv j2038], .cel id516 [bv false], .lp (List.length H1030) (lcOf Try.prog i28.nt [49, 50] ra28_3 rb28_3) [(11, .ptr id510 0), (12, .ptr id512 0), (13, .ptr id514 0), (14, .ptr id516 0)] .busy] := hH
              refine rgS ⟨[(11, .ptr id510 0), (12, .ptr id512 0), (18, .loc 18 0)], [(18, (c_route_hop x1035))], H2566⟩ (APath.o 0 (st_storeH (H := H2037) (v := bv false) (by kernel_rfl) (by kernel_rfl) (by kernel_rfl) (by kernel_rfl) hH2566) APath.f) (by kernel_rfl) ?_
              obtain rfl := some_inj h
              exact ⟨rfl, ⟨H2566, (by show _ = _; kernel_rfl), (Fp.pick hH [0, 1, 2, 3, 4] rfl)⟩⟩
            refine sk ?_
            obtain rfl := some_inj h
            exact ⟨rfl, ⟨H2037, (by show _ = _; kernel_rfl), (Fp.pick hH [0, 1, 2, 3, 4] rfl)⟩⟩
          clear hj2546
          rintro s hR
          obtain ⟨H2545, rfl, hH⟩ := hR
          replace hH : Fp H1033 H2545 [.cel id510 (c_Arr48_Bool l1036), .cel id512 (c_Arr12_i64 l1037), .cel id514 [iv i1038], .cel id516 [bv b1039], .lp (List.length H1030) (lcOf Try.prog i28.nt [49, 50] ra28_3 rb28_3) [(11, .ptr id510 0), (12, .ptr id512 0), (13, .ptr id514 0), (14, .ptr id516 0)] .ready] [.cel id510 (c_Arr48_Bool l1036), .cel id512 (c_Arr12_i64 l1037), .cel id514 [iv j2038], .cel id516 [bv j2546], .lp (List.length H1030) (lcOf Try.prog i28.nt [49, 50] ra28_3 rb28_3) [(11, .ptr id510 0), (12, .ptr id512 0), (13, .ptr id514 0), (14, .ptr id516 0)] .busy] := hH
          refine sq ?_
          obtain ⟨e2567, he2567, h⟩ := bs h
          obtain ⟨H2568, hH2568, hH⟩ := Fp.setCell (k := 1) (off := 0 + Int.toNat x1035.to_ * 1) (cs := (c_Arr12_i64 l1037)) (vs := [iv (w64 (x1035.port + 1))]) (cs' := (c_Arr12_i64 (Arr12_i64.set l1037 x1035.to_ (w64 (x1035.port + 1))))) hH rfl (splice_arr (fun x => iv x) [] [] (l := l1037.l) he2567 rfl rfl rfl (arr_new (Arr12_i64.c_set l1037 x1035.to_ (w64 (x1035.port + 1))) (by show (c_Arr12_i64 (Arr12_i64.set l1037 x1035.to_ (w64 (x1035.port + 1)))) = [] ++ (c_Arr12_i64 (Arr12_i64.set l1037 x1035.to_ (w64 (x1035.port + 1))) ++ []); rfl)))
          replace hH : Fp H1033 H2568 [.cel id510 (c_Arr48_Bool l1036), .cel id512 (c_Arr12_i64 l1037), .cel id514 [iv i1038], .cel id516 [bv b1039], .lp (List.length H1030) (lcOf Try.prog i28.nt [49, 50] ra28_3 rb28_3) [(11, .ptr id510 0), (12, .ptr id512 0), (13, .ptr id514 0), (14, .ptr id516 0)] .ready] [.cel id510 (c_Arr48_Bool l1036), .cel id512 (c_Arr12_i64 (Arr12_i64.set l1037 x1035.to_ (w64 (x1035.port + 1)))), .cel id514 [iv j2038], .cel id516 [bv j2546], .lp (List.length H1030) (lcOf Try.prog i28.nt [49, 50] ra28_3 rb28_3) [(11, .ptr id510 0), (12, .ptr id512 0), (13, .ptr id514 0), (14, .ptr id516 0)] .busy] := hH
          refine rgS ⟨[(11, .ptr id510 0), (18, .loc 18 0)], [(18, (c_route_hop x1035))], H2568⟩ (APath.u 5 (st_val (ys := [.ptr id512 0, iv x1035.to_]) (by kernel_rfl) (vexec_iaddrP (l := l1037.l) he2567 rfl)) (APath.o 0 (st_storeH (H := H2545) (v := iv (w64 (x1035.port + 1))) (by kernel_rfl) (by kernel_rfl) (by kernel_rfl) (by kernel_rfl) hH2568) APath.f)) (by kernel_rfl) ?_
          refine tq ?_
          obtain ⟨e2569, he2569, h⟩ := bs h
          obtain ⟨H2570, hH2570, hH⟩ := Fp.setCell (k := 0) (off := 0 + Int.toNat x1035.port * 1) (cs := (c_Arr48_Bool l1036)) (vs := [bv true]) (cs' := (c_Arr48_Bool (Arr48_Bool.set l1036 x1035.port true))) hH rfl (splice_arr (fun x => bv x) [] [] (l := l1036.l) he2569 rfl rfl rfl (arr_new (Arr48_Bool.c_set l1036 x1035.port true) (by show (c_Arr48_Bool (Arr48_Bool.set l1036 x1035.port true)) = [] ++ (c_Arr48_Bool (Arr48_Bool.set l1036 x1035.port true) ++ []); rfl)))
          replace hH : Fp H1033 H2570 [.cel id510 (c_Arr48_Bool l1036), .cel id512 (c_Arr12_i64 l1037), .cel id514 [iv i1038], .cel id516 [bv b1039], .lp (List.length H1030) (lcOf Try.prog i28.nt [49, 50] ra28_3 rb28_3) [(11, .ptr id510 0), (12, .ptr id512 0), (13, .ptr id514 0), (14, .ptr id516 0)] .ready] [.cel id510 (c_Arr48_Bool (Arr48_Bool.set l1036 x1035.port true)), .cel id512 (c_Arr12_i64 (Arr12_i64.set l1037 x1035.to_ (w64 (x1035.port + 1)))), .cel id514 [iv j2038], .cel id516 [bv j2546], .lp (List.length H1030) (lcOf Try.prog i28.nt [49, 50] ra28_3 rb28_3) [(11, .ptr id510 0), (12, .ptr id512 0), (13, .ptr id514 0), (14, .ptr id516 0)] .busy] := hH
          refine rgS ⟨[], [], H2570⟩ (APath.u 2 (st_val (ys := [.ptr id510 0, iv x1035.port]) (by kernel_rfl) (vexec_iaddrP (l := l1036.l) he2569 rfl)) (APath.o 0 (st_storeH (H := H2568) (v := bv true) (by kernel_rfl) (by kernel_rfl) (by kernel_rfl) (by kernel_rfl) hH2570) APath.f)) (by kernel_rfl) ?_
          refine bn ?_
          obtain rfl := some_inj h
          exact rbd (k := 4) (.ready) hH rfl rfl (fun H6 hH => ⟨_, (Eq.refl _), (Fp.pick hH [0, 1, 2, 3, 4] rfl)⟩)
        refine vc_range (s := ⟨[(8, .loc 8 0), (11, .ptr id510 0), (12, .ptr id512 0), (13, .ptr id514 0), (14, .ptr id516 0), (40, s_eSl_1_eI64 false a1_), (41, iv ((List.length a1_ : Nat) : Int)), (42, iv i521), (48, .fn 78 [] [.ptr id1031 0, .ptr id1032 0])], [(8, (c_api_Topo a0_))], H1030⟩) [(11, .ptr id510 0), (12, .ptr id512 0), (13, .ptr id514 0), (14, .ptr id516 0)] (FrOK.cons (by kernel_rfl) (by kernel_rfl) (FrOK.cons (by kernel_rfl) (by kernel_rfl) (FrOK.cons (by kernel_rfl) (by kernel_rfl) (FrOK.cons (by kernel_rfl) (by kernel_rfl) FrOK.nil)))) (by kernel_rfl) (fun H => rfl) (capT := [.cel id1031 [s_eI64 false r1029.1], .cel id1032 (c_api_Topo r1029.2.Topo)]) (cells0 := [.cel id510 (c_Arr48_Bool l522), .cel id512 (c_Arr12_i64 l523), .cel id514 [iv i524], .cel id516 [bv b525]]) (rest := []) (HP.now (HP.pick hH [0, 1, 2, 3, 4, 5] rfl)) (fun (s : Arr48_Bool × Arr12_i64 × Int × Bool) (its : List Thing) => its = [.cel id510 (c_Arr48_Bool s.1), .cel id512 (c_Arr12_i64 s.2.1), .cel id514 [iv s.2.2.1], .cel id516 [bv s.2.2.2]] ++ [.lp (List.length H1030) (lcOf Try.prog i28.nt [49, 50] ra28_3 rb28_3) [(11, .ptr id510 0), (12, .ptr id512 0), (13, .ptr id514 0), (14, .ptr id516 0)] .ready]) (l522, l523, i524, b525) o2571 (by exact (Eq.refl _)) (fun H its hT hH => route_walk_hops_1_ok N (fun (s : Arr48_Bool × Arr12_i64 × Int × Bool) (x1034 : Int) (x1035 : route_hop) => yieldT (fun v : Arr48_Bool × Arr12_i64 × Int × Bool => route_Tree_R3 N v.1 v.2.1 v.2.2.1 v.2.2.2 x1034 x1035) s) r1029.1 r1029.2 (l522, l523, i524, b525) id1031 id1032 (List.length H1030) (fun (s : Arr48_Bool × Arr12_i64 × Int × Bool) (its : List Thing) => its = [.cel id510 (c_Arr48_Bool s.1), .cel id512 (c_Arr12_i64 s.2.1), .cel id514 [iv s.2.2.1], .cel id516 [bv s.2.2.2]] ++ [.lp (List.length H1030) (lcOf Try.prog i28.nt [49, 50] ra28_3 rb28_3) [(11, .ptr id510 0), (12, .ptr id512 0), (13, .ptr id514 0), (14, .ptr id516 0)] .ready]) hyo2571 H its hT hH o2571 ho2571) ?_
        rintro its hT
        obtain rfl := hT
        refine ⟨_, _, rfl, ?_⟩
        intro H2572 hF
        replace hH : HP H2572 [.cel id1031 [s_eI64 false r1029.1], .cel id1032 (c_api_Topo r1029.2.Topo), .cel id510 (c_Arr48_Bool o2571.1), .cel id512 (c_Arr12_i64 o2571.2.1), .cel id514 [iv o2571.2.2.1], .cel id516 [bv o2571.2.2.2]] := HP.after (HP.pick hH [0, 1, 2, 3, 4, 5] rfl) hF
        refine outQ_ready (S := ⟨[(8, .loc 8 0), (11, .ptr id510 0), (12, .ptr id512 0), (13, .ptr id514 0), (14, .ptr id516 0), (40, s_eSl_1_eI64 false a1_), (41, iv ((List.length a1_ : Nat) : Int)), (42, iv i521), (48, .fn 78 [] [.ptr id1031 0, .ptr id1032 0])], [(8, (c_api_Topo a0_))], H2572⟩) ?_
        refine bn (bn ?_)
        refine tq (kq ?_)
        replace hH : HP H2572 [.cel id510 (c_Arr48_Bool o2571.1), .cel id512 (c_Arr12_i64 o2571.2.1), .cel id514 [iv o2571.2.2.1], .cel id516 [bv o2571.2.2.2]] := HP.pick hH [2, 3, 4, 5] rfl
        refine rgS ⟨[(8, .loc 8 0), (11, .ptr id510 0), (12, .ptr id512 0), (13, .ptr id514 0), (14, .ptr id516 0), (40, s_eSl_1_eI64 false a1_), (41, iv ((List.length a1_ : Nat) : Int)), (42, iv (w64 (i521 + 1)))], [(8, (c_api_Topo a0_))], H2572⟩ APath.f (by kernel_rfl) ?_
        obtain rfl := some_inj h
        exact ⟨_, rfl, ⟨H2572, (by show _ = _; kernel_rfl), (HP.pick hH [0, 1, 2, 3] rfl)⟩⟩
      refine kq ?_
      replace hH : HP H520 [.cel id510 (c_Arr48_Bool l522), .cel id516 [bv b525]] := HP.pick hH [0, 3] rfl
      refine xq (tx ?_)
      obtain rfl := some_inj h
      exact ⟨_, rfl, rfl, ⟨H520, (by show _ = _; kernel_rfl), (HP.pick hH [0, 1] rfl)⟩⟩
    rintro e s hq
    obtain ⟨rfl, hR⟩ := hq
    obtain ⟨H1026, rfl, hH⟩ := hR
    replace hH : HP H1026 [.cel id510 (c_Arr48_Bool o2573.1), .cel id516 [bv o2573.2]] := hH
    refine bx (tq ?_)
    refine sq (rgS ⟨[(11, .ptr id510 0), (14, .ptr id516 0), (19, s_eI64 true [])], [], H1026⟩ APath.f (by kernel_rfl) ?_)
    refine tq (sq ?_)
    refine sq ?_
    have hlc2574 := HP.get hH 0 rfl
    refine rgS ⟨[(14, .ptr id516 0), (19, s_eI64 true []), (94, .agg (c_Arr48_Bool o2573.1)), (95, iv 0)], [], H1026⟩ (APath.u 0 (st_loadC (H := H1026) (id := id510) (off := 0) (cs := (c_Arr48_Bool o2573.1)) (c := (c_Arr48_Bool o2573.1)) (r := .agg (c_Arr48_Bool o2573.1)) (by kernel_rfl) (by kernel_rfl) hlc2574 (by kernel_rfl) (by kernel_rfl) (by kernel_rfl)) APath.f) (by kernel_rfl) ?_
    replace hH : HP H1026 [.cel id516 [bv o2573.2]] := HP.pick hH [1] rfl
    refine tq (bk ?_)
    obtain ⟨o3590, ho3590, h⟩ := bs h
    refine vc_loop ((loop_sim (fun (x : Int × (List Int)) s => ∃ (a2575 : AV) (H2576 : List HO), s = ⟨[(14, .ptr id516 0), (19, a2575), (94, .agg (c_Arr48_Bool o2573.1)), (95, iv x.1)], [], H2576⟩ ∧ HP H2576 [.arr a2575 1 false (List.map eI64 x.2), .cel id516 [bv o2573.2]]) (fun x : Int × (List Int) => route_Tree_L4 N o2573 x.1 x.2) (fun (p : (List Int)) e s => e = .exit 6 ∧ (∃ (a3079 : AV) (H3080 : List HO), s = ⟨[(14, .ptr id516 0), (19, a3079)], [], H3080⟩ ∧ HP H3080 [.arr a3079 1 false (List.map eI64 p), .cel id516 [bv o2573.2]])) ?_ N _ o3590 _ ho3590 ⟨(.p (.sl 1 true [])), H1026, (by show _ = _; kernel_rfl), (HP.pick (HP.nilArr hH 1 false) [0, 1] rfl)⟩).mono ?_)
    · clear h ho3590
      rintro ⟨i2577, l2578⟩ o s h hR
      obtain ⟨a2575, H2576, rfl, hH⟩ := hR
      replace hH : HP H2576 [.arr a2575 1 false (List.map eI64 l2578), .cel id516 [bv o2573.2]] := hH
      have hfa2575 := own_form (HP.get hH 0 rfl)
      replace h : route_Tree_L4 N o2573 i2577 l2578 = some o := h
      unfold route_Tree_L4 at h
      refine sq (rgS ⟨[(14, .ptr id516 0), (19, a2575), (94, .agg (c_Arr48_Bool o2573.1)), (95, iv i2577), (96, bv (decide (i2577 < 48)))], [], H2576⟩ APath.f (by rcases hfa2575 with ha2575e | ⟨_, _, ha2575e⟩ <;> subst ha2575e <;> kernel_rfl) ?_)
      refine tq (sq ?_)
      refine it h (fun hc3081 h => ?_) (fun hc3081 h => ?_)
      · refine sk (tq ?_)
        refine kq ?_
        obtain ⟨j3584, hj3584, h⟩ := bs h
        refine vc_joinK [14, 19, 94, 95] (fun s => ∃ (a3582 : AV) (H3583 : List HO), s = ⟨[(14, .ptr id516 0), (19, a3582), (94, .agg (c_Arr48_Bool o2573.1)), (95, iv i2577)], [], H3583⟩ ∧ HP H3583 [.arr a3582 1 false (List.map eI64 j3584), .cel id516 [bv o2573.2]]) ?_ ?_
        · clear h
          have h := hj3584
          refine bk (sq ?_)
          obtain ⟨e3585, he3585, h⟩ := bs h
          refine rgS ⟨[(14, .ptr id516 0), (19, a2575), (20, iv i2577), (21, bv e3585), (94, .agg (c_Arr48_Bool o2573.1)), (95, iv i2577)], [], H2576⟩ (APath.u 1 (st_val (ys := [.agg (c_Arr48_Bool o2573.1), iv i2577]) (by kernel_rfl) (vexec_idxA (l := o2573.1.l) (fun x => bv x) he3585 rfl rfl)) APath.f) (by rcases hfa2575 with ha2575e | ⟨_, _, ha2575e⟩ <;> subst ha2575e <;> kernel_rfl) ?_
          refine tq (sq ?_)
          refine rgS ⟨[(14, .ptr id516 0), (19, a2575), (20, iv i2577), (94, .agg (c_Arr48_Bool o2573.1)), (95, iv i2577), (99, bv e3585)], [], H2576⟩ APath.f (by rcases hfa2575 with ha2575e | ⟨_, _, ha2575e⟩ <;> subst ha2575e <;> kernel_rfl) ?_
          refine tq (it h (fun hc3586 h => ?_) (fun hc3586 h => ?_))
          · obtain ⟨l3589, hl3589, h⟩ := bs h
            obtain ⟨a3587, H3588, ha3587, hH⟩ := HP.app (k := 0) (a := a2575) (sz := 1) (frz := false) eI64 hH rfl hl3589
            replace hH : HP H3588 [.arr a3587 1 false (List.map eI64 l3589), .cel id516 [bv o2573.2]] := hH
            have hfa3587 := own_form (HP.get hH 0 rfl)
            refine rgS ⟨[(14, .ptr id516 0), (19, a3587), (94, .agg (c_Arr48_Bool o2573.1)), (95, iv i2577)], [], H3588⟩ (APath.h 3 (st_app (H := H2576) (a := a2575) (b := s_eI64 true [i2577]) (by rcases hfa2575 with ha2575e | ⟨_, _, ha2575e⟩ <;> subst ha2575e <;> kernel_rfl) (by rcases hfa2575 with ha2575e | ⟨_, _, ha2575e⟩ <;> subst ha2575e <;> kernel_rfl) (by rcases hfa2575 with ha2575e | ⟨_, _, ha2575e⟩ <;> subst ha2575e <;> kernel_rfl) (by rcases hfa2575 with ha2575e | ⟨_, _, ha2575e⟩ <;> subst ha2575e <;> kernel_rfl) ha3587) APath.f) (by rcases hfa2575 with ha2575e | ⟨_, _, ha2575e⟩ <;> rcases hfa3587 with ha3587e | ⟨_, _, ha3587e⟩ <;> subst ha2575e ha3587e <;> kernel_rfl) ?_
            refine bn ?_
            obtain rfl := some_inj h
            exact ⟨rfl, ⟨a3587, H3588, (by show _ = _; rcases hfa3587 with ha3587e | ⟨_, _, ha3587e⟩ <;> subst ha3587e <;> kernel_rfl), (HP.pick hH [0, 1] rfl)⟩⟩
          refine sk (bn ?_)
          obtain rfl := some_inj h
          exact ⟨rfl, ⟨a2575, H2576, (by show _ = _; rcases hfa2575 with ha2575e | ⟨_, _, ha2575e⟩ <;> subst ha2575e <;> kernel_rfl), (HP.pick hH [0, 1] rfl)⟩⟩
        clear hj3584
        rintro s hR
        obtain ⟨a3582, H3583, rfl, hH⟩ := hR
        replace hH : HP H3583 [.arr a3582 1 false (List.map eI64 j3584), .cel id516 [bv o2573.2]] := hH
        have hfa3582 := own_form (HP.get hH 0 rfl)
        refine rgS ⟨[(14, .ptr id516 0), (19, a3582), (94, .agg (c_Arr48_Bool o2573.1)), (95, iv (w64 (i2577 + 1)))], [], H3583⟩ APath.f (by rcases hfa3582 with ha3582e | ⟨_, _, ha3582e⟩ <;> subst ha3582e <;> kernel_rfl) ?_
        obtain rfl := some_inj h
        exact ⟨_, rfl, ⟨a3582, H3583, (by show _ = _; rcases hfa3582 with ha3582e | ⟨_, _, ha3582e⟩ <;> subst ha3582e <;> kernel_rfl), (HP.pick hH [0, 1] rfl)⟩⟩
      refine kq (xq ?_)
      refine tx ?_
      obtain rfl := some_inj h
      exact ⟨_, rfl, rfl, ⟨a2575, H2576, (by show _ = _; rcases hfa2575 with ha2575e | ⟨_, _, ha2575e⟩ <;> subst ha2575e <;> kernel_rfl), (HP.pick hH [0, 1] rfl)⟩⟩
    rintro e s hq
    obtain ⟨rfl, hR⟩ := hq
    obtain ⟨a3079, H3080, rfl, hH⟩ := hR
    replace hH : HP H3080 [.arr a3079 1 false (List.map eI64 o3590), .cel id516 [bv o2573.2]] := hH
    have hfa3079 := own_form (HP.get hH 0 rfl)
    refine bx (tq ?_)
    refine sq ?_
    have hlc3591 := HP.get hH 1 rfl
    refine rqS ⟨[(4, a3079), (5, bv o2573.2), (6, iv 0)], [], H3080⟩ (APath.u 1 (st_toLH (st_loadC (H := H3080) (id := id516) (off := 0) (cs := [bv o2573.2]) (c := [bv o2573.2]) (r := bv o2573.2) (by kernel_rfl) (by kernel_rfl) hlc3591 (by kernel_rfl) (by kernel_rfl) (by kernel_rfl)) (by kernel_rfl)) APath.f) (by rcases hfa3079 with ha3079e | ⟨_, _, ha3079e⟩ <;> subst ha3079e <;> kernel_rfl) ?_
    replace hH : HP H3080 [.arr a3079 1 false (List.map eI64 o3590)] := HP.pick hH [0] rfl
    refine tq (rt ?_)
    obtain rfl := some_inj h
    exact ret_own (H := H3080) (ys := [a3079, bv o2573.2, iv 0]) (xs := [.p (.sl 1 false (List.map eI64 o3590)), bv o2573.2, iv 0]) (by rcases hfa3079 with ha3079e | ⟨_, _, ha3079e⟩ <;> subst ha3079e <;> kernel_rfl) (by rcases hfa3079 with ha3079e | ⟨_, _, ha3079e⟩ <;> subst ha3079e <;> kernel_rfl) (pureVL_cons (HP.pure (k := 0) (frz := false) eI64 hH rfl).2 (pureVL_cons rfl (pureVL_cons rfl pureVL_nil))) (by kernel_rfl)
  dsimp only at h hq
  obtain ⟨rfl, hq⟩ := hq
  refine br (tr ?_)
  obtain rfl := some_inj h
  exact hq
theorem route_ask__int_ok (N : Nat) (a0_ : api_Topo) (a1_ : (List Int)) (a2_ : route_walk → Option ((List Int) × Int)) (a2_f : Nat) (a2_p a2_c : List AV) (ha2_n : (noLocL a2_p && noLocL a2_c) = true) (its : List Thing) (ha2_ : ∀ (H : List HO) (x0 : route_walk) (r : (List Int) × Int), HP H its → a2_ x0 = some r → VCall Try.prog (.fn a2_f a2_p a2_c) [.agg [iv x0.Topo.Nodes, s_eB false x0.Topo.Station, s_e_api_Link false x0.Topo.Links]] H (.tup [s_eI64 false r.1, iv r.2]) H) (H : List HO) (hH : HP H (its)) (r : (List Int) × Int) (h : route_ask__int N a0_ a1_ a2_ = some r) : ACall Try.prog 35 [.agg (c_api_Topo a0_), s_eI64 false a1_, .fn a2_f a2_p a2_c] H (.tup [s_eI64 false r.1, iv r.2]) H := by
  unfold route_ask__int at h
  refine acall_ofW chk35 rfl (by simpa [noLocL, noLoc.noLocL, noLoc] using ha2_n) rfl (vc_sound _ _ _ ?_)
  refine sq (rg APath.f ?_)
  refine tq (sq ?_)
  refine rg APath.f (tq ?_)
  refine sq (sq ?_)
  obtain ⟨r1, hr1, h⟩ := bs h
  refine rg (APath.v 2 (st_call (by kernel_rfl) (route_Check_ok N a0_ a1_ r1 hr1)) APath.f) (tq ?_)
  refine sq (rg APath.f ?_)
  refine tq (it h (fun hc2 h => ?_) (fun hc2 h => ?_))
  · refine sq (rg APath.f ?_)
    refine tq (rt ?_)
    refine tr ?_
    obtain rfl := some_inj h
    exact ret_ofAW (by kernel_rfl) (by kernel_rfl)
  refine sk (tq ?_)
  refine kq (sq ?_)
  obtain ⟨r3, hr3, h⟩ := bs h
  have hvr3 := ha2_ _ (route_walk.mk a0_) _ hH hr3
  refine rg (APath.v 3 (st_callV (H := H) (ys := [.agg (c_api_Topo a0_)]) (by kernel_rfl) (by kernel_rfl) (by kernel_rfl) hvr3) APath.f) (tq ?_)
  refine rt ?_
  obtain rfl := some_inj h
  exact ret_ofAW (by kernel_rfl) (by kernel_rfl)
theorem route_ask_int_ok (N : Nat) (a0_ : api_Topo) (a1_ : (List Int)) (a2_ : route_walk → Option (Int × Int)) (a2_f : Nat) (a2_p a2_c : List AV) (ha2_n : (noLocL a2_p && noLocL a2_c) = true) (its : List Thing) (ha2_ : ∀ (H : List HO) (x0 : route_walk) (r : Int × Int), HP H its → a2_ x0 = some r → VCall Try.prog (.fn a2_f a2_p a2_c) [.agg [iv x0.Topo.Nodes, s_eB false x0.Topo.Station, s_e_api_Link false x0.Topo.Links]] H (.tup [iv r.1, iv r.2]) H) (H : List HO) (hH : HP H (its)) (r : Int × Int) (h : route_ask_int N a0_ a1_ a2_ = some r) : ACall Try.prog 38 [.agg (c_api_Topo a0_), s_eI64 false a1_, .fn a2_f a2_p a2_c] H (.tup [iv r.1, iv r.2]) H := by
  unfold route_ask_int at h
  refine acall_ofW chk38 rfl (by simpa [noLocL, noLoc.noLocL, noLoc] using ha2_n) rfl (vc_sound _ _ _ ?_)
  refine sq (rg APath.f ?_)
  refine tq (sq ?_)
  refine rg APath.f (tq ?_)
  refine sq (sq ?_)
  obtain ⟨r1, hr1, h⟩ := bs h
  refine rg (APath.v 2 (st_call (by kernel_rfl) (route_Check_ok N a0_ a1_ r1 hr1)) APath.f) (tq ?_)
  refine sq (rg APath.f ?_)
  refine tq (it h (fun hc2 h => ?_) (fun hc2 h => ?_))
  · refine sq (rg APath.f ?_)
    refine tq (rt ?_)
    refine tr ?_
    obtain rfl := some_inj h
    exact ret_ofAW (by kernel_rfl) (by kernel_rfl)
  refine sk (tq ?_)
  refine kq (sq ?_)
  obtain ⟨r3, hr3, h⟩ := bs h
  have hvr3 := ha2_ _ (route_walk.mk a0_) _ hH hr3
  refine rg (APath.v 3 (st_callV (H := H) (ys := [.agg (c_api_Topo a0_)]) (by kernel_rfl) (by kernel_rfl) (by kernel_rfl) hvr3) APath.f) (tq ?_)
  refine rt ?_
  obtain rfl := some_inj h
  exact ret_ofAW (by kernel_rfl) (by kernel_rfl)
theorem route_ask_api_Route_ok (N : Nat) (a0_ : api_Topo) (a1_ : (List Int)) (a2_ : route_walk → Option ((List Int) × Int)) (a2_f : Nat) (a2_p a2_c : List AV) (ha2_n : (noLocL a2_p && noLocL a2_c) = true) (its : List Thing) (ha2_ : ∀ (H : List HO) (x0 : route_walk) (r : (List Int) × Int), HP H its → a2_ x0 = some r → VCall Try.prog (.fn a2_f a2_p a2_c) [.agg [iv x0.Topo.Nodes, s_eB false x0.Topo.Station, s_e_api_Link false x0.Topo.Links]] H (.tup [s_eI64 false r.1, iv r.2]) H) (H : List HO) (hH : HP H (its)) (r : (List Int) × Int) (h : route_ask_api_Route N a0_ a1_ a2_ = some r) : ACall Try.prog 44 [.agg (c_api_Topo a0_), s_eI64 false a1_, .fn a2_f a2_p a2_c] H (.tup [s_eI64 false r.1, iv r.2]) H := by
  unfold route_ask_api_Route at h
  refine acall_ofW chk44 rfl (by simpa [noLocL, noLoc.noLocL, noLoc] using ha2_n) rfl (vc_sound _ _ _ ?_)
  refine sq (rg APath.f ?_)
  refine tq (sq ?_)
  refine rg APath.f (tq ?_)
  refine sq (sq ?_)
  obtain ⟨r1, hr1, h⟩ := bs h
  refine rg (APath.v 2 (st_call (by kernel_rfl) (route_Check_ok N a0_ a1_ r1 hr1)) APath.f) (tq ?_)
  refine sq (rg APath.f ?_)
  refine tq (it h (fun hc2 h => ?_) (fun hc2 h => ?_))
  · refine sq (rg APath.f ?_)
    refine tq (rt ?_)
    refine tr ?_
    obtain rfl := some_inj h
    exact ret_ofAW (by kernel_rfl) (by kernel_rfl)
  refine sk (tq ?_)
  refine kq (sq ?_)
  obtain ⟨r3, hr3, h⟩ := bs h
  have hvr3 := ha2_ _ (route_walk.mk a0_) _ hH hr3
  refine rg (APath.v 3 (st_callV (H := H) (ys := [.agg (c_api_Topo a0_)]) (by kernel_rfl) (by kernel_rfl) (by kernel_rfl) hvr3) APath.f) (tq ?_)
  refine rt ?_
  obtain rfl := some_inj h
  exact ret_ofAW (by kernel_rfl) (by kernel_rfl)
theorem route_ask_bool_ok (N : Nat) (a0_ : api_Topo) (a1_ : (List Int)) (a2_ : route_walk → Option (Bool × Int)) (a2_f : Nat) (a2_p a2_c : List AV) (ha2_n : (noLocL a2_p && noLocL a2_c) = true) (its : List Thing) (ha2_ : ∀ (H : List HO) (x0 : route_walk) (r : Bool × Int), HP H its → a2_ x0 = some r → VCall Try.prog (.fn a2_f a2_p a2_c) [.agg [iv x0.Topo.Nodes, s_eB false x0.Topo.Station, s_e_api_Link false x0.Topo.Links]] H (.tup [bv r.1, iv r.2]) H) (H : List HO) (hH : HP H (its)) (r : Bool × Int) (h : route_ask_bool N a0_ a1_ a2_ = some r) : ACall Try.prog 57 [.agg (c_api_Topo a0_), s_eI64 false a1_, .fn a2_f a2_p a2_c] H (.tup [bv r.1, iv r.2]) H := by
  unfold route_ask_bool at h
  refine acall_ofW chk57 rfl (by simpa [noLocL, noLoc.noLocL, noLoc] using ha2_n) rfl (vc_sound _ _ _ ?_)
  refine sq (rg APath.f ?_)
  refine tq (sq ?_)
  refine rg APath.f (tq ?_)
  refine sq (sq ?_)
  obtain ⟨r1, hr1, h⟩ := bs h
  refine rg (APath.v 2 (st_call (by kernel_rfl) (route_Check_ok N a0_ a1_ r1 hr1)) APath.f) (tq ?_)
  refine sq (rg APath.f ?_)
  refine tq (it h (fun hc2 h => ?_) (fun hc2 h => ?_))
  · refine sq (rg APath.f ?_)
    refine tq (rt ?_)
    refine tr ?_
    obtain rfl := some_inj h
    exact ret_ofAW (by kernel_rfl) (by kernel_rfl)
  refine sk (tq ?_)
  refine kq (sq ?_)
  obtain ⟨r3, hr3, h⟩ := bs h
  have hvr3 := ha2_ _ (route_walk.mk a0_) _ hH hr3
  refine rg (APath.v 3 (st_callV (H := H) (ys := [.agg (c_api_Topo a0_)]) (by kernel_rfl) (by kernel_rfl) (by kernel_rfl) hvr3) APath.f) (tq ?_)
  refine rt ?_
  obtain rfl := some_inj h
  exact ret_ofAW (by kernel_rfl) (by kernel_rfl)
theorem topo_Back_ok (N : Nat) (a0_ : api_Topo) (a1_ : Int) (r : Int × Int) (h : topo_Back N a0_ a1_ = some r) : PCall Try.prog 69 [.agg (c_api_Topo a0_), iv a1_] (.tup [iv r.1, iv r.2]) := by
  unfold topo_Back at h
  have hH : HP ([] : List HO) [] := trivial
  refine pcall_of chk69 rfl rfl (vc_sound _ _ _ ?_) rfl
  refine sq (rg APath.f ?_)
  refine tq (sq ?_)
  obtain ⟨r1, hr1, h⟩ := bs h
  have hvr1 := (topo_ask_int_ok N a0_ a1_ (fun x0 => topo_end_back N x0 )   80 [] [] (by kernel_rfl) [] (fun H x0 r hH h => VCall.of (by kernel_rfl) ((topo_end_back_ok N  x0 r h).frame H)) [] (HP.now (HP.pick hH [] rfl)) r1 hr1)
  refine rg (APath.v 2 (st_callH (H := []) (ys := [.agg (c_api_Topo a0_), iv a1_, .fn 80 [] []]) (by kernel_rfl) (by kernel_rfl) (by kernel_rfl) hvr1) APath.f) (tq ?_)
  refine rt ?_
  obtain rfl := some_inj h
  exact ret_of (by kernel_rfl)
theorem route_Nodes_ok (N : Nat) (a0_ : api_Topo) (a1_ : (List Int)) (r : (List Int) × Int) (h : route_Nodes N a0_ a1_ = some r) : PCall Try.prog 13 [.agg (c_api_Topo a0_), s_eI64 false a1_] (.tup [s_eI64 false r.1, iv r.2]) := by
  unfold route_Nodes at h
  have hH : HP ([] : List HO) [] := trivial
  refine pcall_of chk13 rfl rfl (vc_sound _ _ _ ?_) rfl
  refine sq ?_
  obtain ⟨id1, H2, hid1, hH2, hH⟩ := HP.newCell hH [s_eI64 false a1_]
  replace hH : HP H2 [.cel id1 [s_eI64 false a1_]] := hH
  refine rg (APath.h 1 (st_boxH (H := []) (v := s_eI64 false a1_) (by kernel_rfl) (by kernel_rfl) (by kernel_rfl) hid1 hH2) APath.f) (tq ?_)
  refine sq ?_
  have hlc3 := HP.get hH 0 rfl
  obtain ⟨r4, hr4, h⟩ := bs h
  have hvr4 := (route_ask__int_ok N a0_ a1_ (fun x0 => route_Nodes_1 N x0 a1_)   36 [] [.ptr id1 0] (by kernel_rfl) [.cel id1 [s_eI64 false a1_]] (fun H x0 r hH h => VCall.of (by kernel_rfl) (route_Nodes_1_ok N  x0 a1_ id1 H hH r h)) H2 (HP.now (HP.pick hH [0] rfl)) r4 hr4)
  refine rg (APath.u 1 (st_loadC (H := H2) (id := id1) (off := 0) (cs := [s_eI64 false a1_]) (c := [s_eI64 false a1_]) (r := s_eI64 false a1_) (by kernel_rfl) (by kernel_rfl) hlc3 (by kernel_rfl) (by kernel_rfl) (by kernel_rfl)) (APath.v 1 (st_callH (H := H2) (ys := [.agg (c_api_Topo a0_), s_eI64 false a1_, .fn 36 [] [.ptr id1 0]]) (by kernel_rfl) (by kernel_rfl) (by kernel_rfl) hvr4) APath.f)) ?_
  replace hH : HP H2 [] := HP.pick hH [] rfl
  refine tq (rt ?_)
  obtain rfl := some_inj h
  exact ret_of (by kernel_rfl)
theorem route_Ends_ok (N : Nat) (a0_ : api_Topo) (a1_ : (List Int)) (r : Int × Int × Int) (h : route_Ends N a0_ a1_ = some r) : PCall Try.prog 14 [.agg (c_api_Topo a0_), s_eI64 false a1_] (.tup [iv r.1, iv r.2.1, iv r.2.2]) := by
  unfold route_Ends at h
  have hH : HP ([] : List HO) [] := trivial
  refine pcall_of chk14 rfl rfl (vc_sound _ _ _ ?_) rfl
  refine sq (rg APath.f ?_)
  refine tq (sq ?_)
  obtain ⟨r1, hr1, h⟩ := bs h
  refine rg (APath.v 2 (st_call (by kernel_rfl) (route_Nodes_ok N a0_ a1_ r1 hr1)) APath.f) (tq ?_)
  refine sq (sq ?_)
  refine rg APath.f (tq ?_)
  refine it h (fun hc2 h => ?_) (fun hc2 h => ?_)
  · refine sq (rg APath.f ?_)
    refine tq (rt ?_)
    refine tr ?_
    obtain rfl := some_inj h
    exact ret_of (by kernel_rfl)
  refine sk (tq ?_)
  refine kq (sq ?_)
  obtain ⟨e3, he3, h⟩ := bs h
  obtain ⟨e4, he4, h⟩ := bs h
  refine rq (APath.u 1 (st_val (ys := [s_eI64 false r1.1, iv 0]) (by kernel_rfl) (vexec_iaddrS eI64 he3)) (APath.u 0 (st_toLH (st_loadP (sz := 1) (off := 0) (cs := [.int .i64 e3]) (r := iv e3) eI64 he3 (by kernel_rfl) (by kernel_rfl) (by kernel_rfl)) (by kernel_rfl)) (APath.u 2 (st_val (ys := [s_eI64 false r1.1]) (by kernel_rfl) (vexec_len eI64)) (APath.u 1 (st_val (ys := [s_eI64 false r1.1, iv (w64 (((List.length r1.1 : Nat) : Int) - 1))]) (by kernel_rfl) (vexec_iaddrS eI64 he4)) (APath.u 0 (st_toLH (st_loadP (sz := 1) (off := 0) (cs := [.int .i64 e4]) (r := iv e4) eI64 he4 (by kernel_rfl) (by kernel_rfl) (by kernel_rfl)) (by kernel_rfl)) APath.f))))) (tq ?_)
  refine rt ?_
  obtain rfl := some_inj h
  exact ret_of (by kernel_rfl)
theorem route_Delay_ok (N : Nat) (a0_ : api_Topo) (a1_ : (List Int)) (r : Int × Int) (h : route_Delay N a0_ a1_ = some r) : PCall Try.prog 15 [.agg (c_api_Topo a0_), s_eI64 false a1_] (.tup [iv r.1, iv r.2]) := by
  unfold route_Delay at h
  have hH : HP ([] : List HO) [] := trivial
  refine pcall_of chk15 rfl rfl (vc_sound _ _ _ ?_) rfl
  refine sq ?_
  obtain ⟨id1, H2, hid1, hH2, hH⟩ := HP.newCell hH [s_eI64 false a1_]
  replace hH : HP H2 [.cel id1 [s_eI64 false a1_]] := hH
  refine rg (APath.h 1 (st_boxH (H := []) (v := s_eI64 false a1_) (by kernel_rfl) (by kernel_rfl) (by kernel_rfl) hid1 hH2) APath.f) (tq ?_)
  refine sq ?_
  have hlc3 := HP.get hH 0 rfl
  obtain ⟨r4, hr4, h⟩ := bs h
  have hvr4 := (route_ask_int_ok N a0_ a1_ (fun x0 => route_Delay_1 N x0 a1_)   39 [] [.ptr id1 0] (by kernel_rfl) [.cel id1 [s_eI64 false a1_]] (fun H x0 r hH h => VCall.of (by kernel_rfl) (route_Delay_1_ok N  x0 a1_ id1 H hH r h)) H2 (HP.now (HP.pick hH [0] rfl)) r4 hr4)
  refine rg (APath.u 1 (st_loadC (H := H2) (id := id1) (off := 0) (cs := [s_eI64 false a1_]) (c := [s_eI64 false a1_]) (r := s_eI64 false a1_) (by kernel_rfl) (by kernel_rfl) hlc3 (by kernel_rfl) (by kernel_rfl) (by kernel_rfl)) (APath.v 1 (st_callH (H := H2) (ys := [.agg (c_api_Topo a0_), s_eI64 false a1_, .fn 39 [] [.ptr id1 0]]) (by kernel_rfl) (by kernel_rfl) (by kernel_rfl) hvr4) APath.f)) ?_
  replace hH : HP H2 [] := HP.pick hH [] rfl
  refine tq (rt ?_)
  obtain rfl := some_inj h
  exact ret_of (by kernel_rfl)
theorem route_Time_ok (N : Nat) (a0_ : api_Topo) (a1_ : (List Int)) (a2_ : Int) (r : Int × Int) (h : route_Time N a0_ a1_ a2_ = some r) : PCall Try.prog 16 [.agg (c_api_Topo a0_), s_eI64 false a1_, iv a2_] (.tup [iv r.1, iv r.2]) := by
  unfold route_Time at h
  have hH : HP ([] : List HO) [] := trivial
  refine pcall_of chk16 rfl rfl (vc_sound _ _ _ ?_) rfl
  refine sq ?_
  obtain ⟨id1, H2, hid1, hH2, hH⟩ := HP.newCell hH [s_eI64 false a1_]
  replace hH : HP H2 [.cel id1 [s_eI64 false a1_]] := hH
  obtain ⟨id3, H4, hid3, hH4, hH⟩ := HP.newCell hH [iv a2_]
  replace hH : HP H4 [.cel id3 [iv a2_], .cel id1 [s_eI64 false a1_]] := hH
  refine rg (APath.h 1 (st_boxH (H := []) (v := s_eI64 false a1_) (by kernel_rfl) (by kernel_rfl) (by kernel_rfl) hid1 hH2) (APath.h 0 (st_boxH (H := H2) (v := iv a2_) (by kernel_rfl) (by kernel_rfl) (by kernel_rfl) hid3 hH4) APath.f)) (tq ?_)
  refine sq ?_
  have hlc5 := HP.get hH 1 rfl
  obtain ⟨r6, hr6, h⟩ := bs h
  have hvr6 := (route_ask_int_ok N a0_ a1_ (fun x0 => route_Time_1 N x0 a2_ a1_)   42 [] [.ptr id3 0, .ptr id1 0] (by kernel_rfl) [.cel id3 [iv a2_], .cel id1 [s_eI64 false a1_]] (fun H x0 r hH h => VCall.of (by kernel_rfl) (route_Time_1_ok N  x0 a2_ a1_ id3 id1 H hH r h)) H4 (HP.now (HP.pick hH [0, 1] rfl)) r6 hr6)
  refine rg (APath.u 1 (st_loadC (H := H4) (id := id1) (off := 0) (cs := [s_eI64 false a1_]) (c := [s_eI64 false a1_]) (r := s_eI64 false a1_) (by kernel_rfl) (by kernel_rfl) hlc5 (by kernel_rfl) (by kernel_rfl) (by kernel_rfl)) (APath.v 1 (st_callH (H := H4) (ys := [.agg (c_api_Topo a0_), s_eI64 false a1_, .fn 42 [] [.ptr id3 0, .ptr id1 0]]) (by kernel_rfl) (by kernel_rfl) (by kernel_rfl) hvr6) APath.f)) ?_
  replace hH : HP H4 [] := HP.pick hH [] rfl
  refine tq (rt ?_)
  obtain rfl := some_inj h
  exact ret_of (by kernel_rfl)
theorem route_Apart_ok (N : Nat) (a0_ : api_Topo) (a1_ : (List Int)) (a2_ : (List Int)) (r : Bool × Int) (h : route_Apart N a0_ a1_ a2_ = some r) : PCall Try.prog 26 [.agg (c_api_Topo a0_), s_eI64 false a1_, s_eI64 false a2_] (.tup [bv r.1, iv r.2]) := by
  unfold route_Apart at h
  have hH : HP ([] : List HO) [] := trivial
  refine pcall_of chk26 rfl rfl (vc_sound _ _ _ ?_) rfl
  refine sq ?_
  obtain ⟨id1, H2, hid1, hH2, hH⟩ := HP.newCell hH [s_eI64 false a1_]
  replace hH : HP H2 [.cel id1 [s_eI64 false a1_]] := hH
  obtain ⟨id3, H4, hid3, hH4, hH⟩ := HP.newCell hH [s_eI64 false a2_]
  replace hH : HP H4 [.cel id3 [s_eI64 false a2_], .cel id1 [s_eI64 false a1_]] := hH
  refine rg (APath.h 1 (st_boxH (H := []) (v := s_eI64 false a1_) (by kernel_rfl) (by kernel_rfl) (by kernel_rfl) hid1 hH2) (APath.h 0 (st_boxH (H := H2) (v := s_eI64 false a2_) (by kernel_rfl) (by kernel_rfl) (by kernel_rfl) hid3 hH4) APath.f)) (tq ?_)
  refine sq ?_
  have hlc5 := HP.get hH 1 rfl
  obtain ⟨r6, hr6, h⟩ := bs h
  have hvr6 := (route_ask_bool_ok N a0_ a1_ (fun x0 => route_Apart_1 N x0 a2_ a1_)   58 [] [.ptr id3 0, .ptr id1 0] (by kernel_rfl) [.cel id3 [s_eI64 false a2_], .cel id1 [s_eI64 false a1_]] (fun H x0 r hH h => VCall.of (by kernel_rfl) (route_Apart_1_ok N  x0 a2_ a1_ id3 id1 H hH r h)) H4 (HP.now (HP.pick hH [0, 1] rfl)) r6 hr6)
  refine rg (APath.u 1 (st_loadC (H := H4) (id := id1) (off := 0) (cs := [s_eI64 false a1_]) (c := [s_eI64 false a1_]) (r := s_eI64 false a1_) (by kernel_rfl) (by kernel_rfl) hlc5 (by kernel_rfl) (by kernel_rfl) (by kernel_rfl)) (APath.v 1 (st_callH (H := H4) (ys := [.agg (c_api_Topo a0_), s_eI64 false a1_, .fn 58 [] [.ptr id3 0, .ptr id1 0]]) (by kernel_rfl) (by kernel_rfl) (by kernel_rfl) hvr6) APath.f)) ?_
  replace hH : HP H4 [] := HP.pick hH [] rfl
  refine tq (rt ?_)
  obtain rfl := some_inj h
  exact ret_of (by kernel_rfl)
theorem route_walk_back_ok (N : Nat) (a0_ : route_walk) (a1_ : Int) (r : Int) (h : route_walk_back N a0_ a1_ = some r) : PCall Try.prog 47 [.agg (c_api_Topo a0_.Topo), iv a1_] (iv r) := by
  unfold route_walk_back at h
  have hH : HP ([] : List HO) [] := trivial
  refine pcall_of chk47 rfl rfl (vc_sound _ _ _ ?_) rfl
  refine sq (rg APath.f ?_)
  refine tq (sq ?_)
  obtain ⟨r1, hr1, h⟩ := bs h
  refine rg (APath.v 3 (st_call (by kernel_rfl) (topo_Back_ok N a0_.Topo a1_ r1 hr1)) APath.f) (tq ?_)
  refine sq (rg APath.f ?_)
  refine tq (rt ?_)
  obtain rfl := some_inj h
  exact ret_of (by kernel_rfl)
theorem route_Back_1_ok (N : Nat) (a0_ : route_walk) (c0_ : (List Int)) (k0_ : Nat) (H : List HO) (hH : HP H [.cel k0_ [s_eI64 false c0_]]) (r : (List Int) × Int) (h : route_Back_1 N a0_ c0_ = some r) : ACall Try.prog 45 [.agg (c_api_Topo a0_.Topo), .ptr k0_ 0] H (.tup [s_eI64 false r.1, iv r.2]) H := by
  unfold route_Back_1 at h
  have hH0 := hH
  replace hH := Fp.refl hH
  refine acall_res chk45 rfl rfl rfl (vc_sound _ _ _ ?_)
  refine sq ?_
  obtain ⟨id1, H2, hid1, hH2, hH⟩ := Fp.newCell hH (c_api_Topo a0_.Topo)
  replace hH : Fp H H2 [.cel k0_ [s_eI64 false c0_]] [.cel id1 (c_api_Topo a0_.Topo), .cel k0_ [s_eI64 false c0_]] := hH
  refine rgS ⟨[(1, .ptr k0_ 0), (2, .ptr id1 0)], [], H2⟩ (APath.h 0 (st_boxH (H := H) (v := .agg (c_api_Topo a0_.Topo)) (by kernel_rfl) (by kernel_rfl) (by kernel_rfl) hid1 hH2) APath.f) (by kernel_rfl) ?_
  refine tq (sq ?_)
  have hlc3 := Fp.get hH 1 rfl
  obtain ⟨l6, hl6, h⟩ := bs h
  obtain ⟨a4, H5, ha4, hH5, ha4b, hH⟩ := Fp.make eI64 hH hl6
  replace hH : Fp H H5 [.cel k0_ [s_eI64 false c0_]] [.arr a4 1 false (List.map eI64 l6), .cel id1 (c_api_Topo a0_.Topo), .cel k0_ [s_eI64 false c0_]] := hH
  have hfa4 := own_form (Fp.get hH 0 rfl)
  obtain ⟨id7, H8, hid7, hH8, hH⟩ := Fp.newCell hH [s_eI64 true []]
  replace hH : Fp H H8 [.cel k0_ [s_eI64 false c0_]] [.cel id7 [s_eI64 true []], .arr a4 1 false (List.map eI64 l6), .cel id1 (c_api_Topo a0_.Topo), .cel k0_ [s_eI64 false c0_]] := hH
  obtain ⟨H9, hH9, hH⟩ := Fp.setCell (k := 0) (off := 0) (cs := [s_eI64 true []]) (vs := [a4]) (cs' := [a4]) hH rfl (by kernel_rfl)
  replace hH : Fp H H9 [.cel k0_ [s_eI64 false c0_]] [.cel id7 [a4], .arr a4 1 false (List.map eI64 l6), .cel id1 (c_api_Topo a0_.Topo), .cel k0_ [s_eI64 false c0_]] := hH
  refine rgS ⟨[(1, .ptr k0_ 0), (2, .ptr id1 0), (5, .ptr id7 0)], [], H9⟩ (APath.u 0 (st_loadC (H := H2) (id := k0_) (off := 0) (cs := [s_eI64 false c0_]) (c := [s_eI64 false c0_]) (r := s_eI64 false c0_) (by kernel_rfl) (by kernel_rfl) hlc3 (by kernel_rfl) (by kernel_rfl) (by kernel_rfl)) (APath.u 0 (st_val (ys := [s_eI64 false c0_]) (by kernel_rfl) (vexec_len eI64)) (APath.h 0 (st_make (H := H2) (zero := [.int .i64 0]) (bytes := 8) (by kernel_rfl) (by kernel_rfl) (by kernel_rfl) ha4 hH5 ha4b) (APath.h 0 (st_newH (H := H5) (by kernel_rfl) hid7 hH8) (APath.o 0 (st_storeC (H := H8) (v := a4) (cs := [a4]) (by rcases hfa4 with ha4e | ⟨_, _, ha4e⟩ <;> subst ha4e <;> kernel_rfl) (by rcases hfa4 with ha4e | ⟨_, _, ha4e⟩ <;> subst ha4e <;> kernel_rfl) (by rcases hfa4 with ha4e | ⟨_, _, ha4e⟩ <;> subst ha4e <;> kernel_rfl) (by rcases hfa4 with ha4e | ⟨_, _, ha4e⟩ <;> subst ha4e <;> kernel_rfl) (by rcases hfa4 with ha4e | ⟨_, _, ha4e⟩ <;> subst ha4e <;> kernel_rfl) hH9) APath.f))))) (by kernel_rfl) ?_
  refine tq (sq ?_)
  refine sq ?_
  have hlc10 := Fp.get hH 3 rfl
  obtain ⟨r11, hr11, h⟩ := bs h
  obtain ⟨id13, H12, hvr11, hpr11⟩ := slices_Backward_api_Route_int_ok N c0_ H9 r11 hr11
  replace hH : Fp H H12 [.cel k0_ [s_eI64 false c0_]] [.cel id13 [s_eI64 false r11], .cel id7 [a4], .arr a4 1 false (List.map eI64 l6), .cel id1 (c_api_Topo a0_.Topo), .cel k0_ [s_eI64 false c0_]] := Fp.callee (fp := []) (rest := [.cel id7 [a4], .arr a4 1 false (List.map eI64 l6), .cel id1 (c_api_Topo a0_.Topo), .cel k0_ [s_eI64 false c0_]]) hH hpr11
  refine rgS ⟨[(2, .ptr id1 0), (5, .ptr id7 0), (12, .fn 68 [] [.ptr id13 0])], [], H12⟩ (APath.u 0 (st_loadC (H := H9) (id := k0_) (off := 0) (cs := [s_eI64 false c0_]) (c := [s_eI64 false c0_]) (r := s_eI64 false c0_) (by kernel_rfl) (by kernel_rfl) hlc10 (by kernel_rfl) (by kernel_rfl) (by kernel_rfl)) (APath.v 0 (st_callH (H := H9) (ys := [s_eI64 false c0_]) (by kernel_rfl) (by kernel_rfl) (by kernel_rfl) hvr11) APath.f)) (by kernel_rfl) ?_
  refine tq (bk ?_)
  obtain ⟨o526, ho526, h⟩ := bs h
  have hyo526 : ∀ (x16 : Int) (x17 : Int) (s : (List Int)) (r : ((List Int)) × Bool) (H : List HO) (its : List Thing), (fun (s : (List Int)) (its : List Thing) => ∃ (a14 : AV), its = [.arr a14 1 false (List.map eI64 s), .cel id7 [a14], .cel id1 (c_api_Topo a0_.Topo), .cel k0_ [s_eI64 false c0_]] ++ [.lp (List.length H12) (lcOf Try.prog i45.nt [13, 14] ra45_1 rb45_1) [(2, .ptr id1 0), (5, .ptr id7 0)] .ready]) s its → HP H its → (fun (s : (List Int)) (x16 : Int) (x17 : Int) => yieldT (fun v : (List Int) => route_Back_1_R1 N a0_ v x16 x17) s) s x16 x17 = some r → ∃ H' its', YCall Try.prog (List.length H12) [iv x16, iv x17] H r.2 H' ∧ (fun (s : (List Int)) (its : List Thing) => ∃ (a14 : AV), its = [.arr a14 1 false (List.map eI64 s), .cel id7 [a14], .cel id1 (c_api_Topo a0_.Topo), .cel k0_ [s_eI64 false c0_]] ++ [.lp (List.length H12) (lcOf Try.prog i45.nt [13, 14] ra45_1 rb45_1) [(2, .ptr id1 0), (5, .ptr id7 0)] .ready]) r.1 its' ∧ Fp H H' its its' := by
    clear h
    intro x16 x17 s r H15 its hT hH h
    obtain ⟨q, hb, rfl⟩ := yieldT_some h
    clear h
    obtain ⟨vs, rfl⟩ : ∃ v, v = s := ⟨s, rfl⟩
    obtain ⟨l18, rfl⟩ : ∃ v, v = vs := ⟨vs, rfl⟩
    obtain ⟨a14, rfl⟩ := hT
    replace h : route_Back_1_R1 N a0_ l18 x16 x17 = some q := hb
    clear hb
    unfold route_Back_1_R1 at h
    replace hH : Fp H15 H15 [.arr a14 1 false (List.map eI64 l18), .cel id7 [a14], .cel id1 (c_api_Topo a0_.Topo), .cel k0_ [s_eI64 false c0_], .lp (List.length H12) (lcOf Try.prog i45.nt [13, 14] ra45_1 rb45_1) [(2, .ptr id1 0), (5, .ptr id7 0)] .ready] [.arr a14 1 false (List.map eI64 l18), .cel id7 [a14], .cel id1 (c_api_Topo a0_.Topo), .cel k0_ [s_eI64 false c0_], .lp (List.length H12) (lcOf Try.prog i45.nt [13, 14] ra45_1 rb45_1) [(2, .ptr id1 0), (5, .ptr id7 0)] .ready] := Fp.refl hH
    have hfa14 := own_form (Fp.get hH 0 rfl)
    suffices hs : ∃ H', YCall Try.prog (List.length H12) [iv x16, iv x17] H15 true H' ∧ ∃ its', (fun (s : (List Int)) (its : List Thing) => ∃ (a14 : AV), its = [.arr a14 1 false (List.map eI64 s), .cel id7 [a14], .cel id1 (c_api_Topo a0_.Topo), .cel k0_ [s_eI64 false c0_]] ++ [.lp (List.length H12) (lcOf Try.prog i45.nt [13, 14] ra45_1 rb45_1) [(2, .ptr id1 0), (5, .ptr id7 0)] .ready]) q its' ∧ Fp H15 H' [.arr a14 1 false (List.map eI64 l18), .cel id7 [a14], .cel id1 (c_api_Topo a0_.Topo), .cel k0_ [s_eI64 false c0_], .lp (List.length H12) (lcOf Try.prog i45.nt [13, 14] ra45_1 rb45_1) [(2, .ptr id1 0), (5, .ptr id7 0)] .ready] its' by
      obtain ⟨H', h1, its', h2, h3⟩ := hs
      exact ⟨H', its', h1, h2, h3⟩
    refine ycall_det (id := (List.length H12)) (args := [iv x16, iv x17]) (H := H15) (n := i45.nt) (ps := [13, 14]) (fr0 := [(2, .ptr id1 0), (5, .ptr id7 0)]) (ia := ra45_1) (ib := rb45_1) true (fun H' => ∃ its', (fun (s : (List Int)) (its : List Thing) => ∃ (a14 : AV), its = [.arr a14 1 false (List.map eI64 s), .cel id7 [a14], .cel id1 (c_api_Topo a0_.Topo), .cel k0_ [s_eI64 false c0_]] ++ [.lp (List.length H12) (lcOf Try.prog i45.nt [13, 14] ra45_1 rb45_1) [(2, .ptr id1 0), (5, .ptr id7 0)] .ready]) q its' ∧ Fp H15 H' [.arr a14 1 false (List.map eI64 l18), .cel id7 [a14], .cel id1 (c_api_Topo a0_.Topo), .cel k0_ [s_eI64 false c0_], .lp (List.length H12) (lcOf Try.prog i45.nt [13, 14] ra45_1 rb45_1) [(2, .ptr id1 0), (5, .ptr id7 0)] .ready] its') (Fp.get hH 4 rfl) rfl (by decide +kernel) rfl ?_
    show vc _ _ _ _ ⟨[(2, .ptr id1 0), (5, .ptr id7 0), (13, iv x16), (14, iv x17)], [], H15⟩
    refine rgS ⟨[(2, .ptr id1 0), (5, .ptr id7 0), (7, iv x17)], [], H15⟩ APath.f (by kernel_rfl) ?_
    refine ia_done (k := 4) hH rfl ?_
    intro H518 hH
    replace hH : Fp H15 H518 [.arr a14 1 false (List.map eI64 l18), .cel id7 [a14], .cel id1 (c_api_Topo a0_.Topo), .cel k0_ [s_eI64 false c0_], .lp (List.length H12) (lcOf Try.prog i45.nt [13, 14] ra45_1 rb45_1) [(2, .ptr id1 0), (5, .ptr id7 0)] .ready] [.arr a14 1 false (List.map eI64 l18), .cel id7 [a14], .cel id1 (c_api_Topo a0_.Topo), .cel k0_ [s_eI64 false c0_], .lp (List.length H12) (lcOf Try.prog i45.nt [13, 14] ra45_1 rb45_1) [(2, .ptr id1 0), (5, .ptr id7 0)] .busy] := hH
    show vc _ _ _ _ ⟨[(2, .ptr id1 0), (5, .ptr id7 0), (7, iv x17)], [], H518⟩
    refine bk ?_
    have hlc519 := Fp.get hH 1 rfl
    have hlc520 := Fp.get hH 2 rfl
    obtain ⟨r521, hr521, h⟩ := bs h
    obtain ⟨l524, hl524, h⟩ := bs h
    obtain ⟨a522, H523, ha522, hH⟩ := Fp.app (k := 0) (a := a14) (sz := 1) (frz := false) eI64 hH rfl hl524
    replace hH : Fp H15 H523 [.arr a14 1 false (List.map eI64 l18), .cel id7 [a14], .cel id1 (c_api_Topo a0_.Topo), .cel k0_ [s_eI64 false c0_], .lp (List.length H12) (lcOf Try.prog i45.nt [13, 14] ra45_1 rb45_1) [(2, .ptr id1 0), (5, .ptr id7 0)] .ready] [.arr a522 1 false (List.map eI64 l524), .cel id7 [a14], .cel id1 (c_api_Topo a0_.Topo), .cel k0_ [s_eI64 false c0_], .lp (List.length H12) (lcOf Try.prog i45.nt [13, 14] ra45_1 rb45_1) [(2, .ptr id1 0), (5, .ptr id7 0)] .busy] := hH
    have hfa522 := own_form (Fp.get hH 0 rfl)
    obtain ⟨H525, hH525, hH⟩ := Fp.setCell (k := 1) (off := 0) (cs := [a14]) (vs := [a522]) (cs' := [a522]) hH rfl (by kernel_rfl)
    replace hH : Fp H15 H525 [.arr a14 1 false (List.map eI64 l18), .cel id7 [a14], .cel id1 (c_api_Topo a0_.Topo), .cel k0_ [s_eI64 false c0_], .lp (List.length H12) (lcOf Try.prog i45.nt [13, 14] ra45_1 rb45_1) [(2, .ptr id1 0), (5, .ptr id7 0)] .ready] [.arr a522 1 false (List.map eI64 l524), .cel id7 [a522], .cel id1 (c_api_Topo a0_.Topo), .cel k0_ [s_eI64 false c0_], .lp (List.length H12) (lcOf Try.prog i45.nt [13, 14] ra45_1 rb45_1) [(2, .ptr id1 0), (5, .ptr id7 0)] .busy] := hH
    refine rqS ⟨[], [], H525⟩ (APath.u 0 (st_toLH (st_loadC (H := H518) (id := id7) (off := 0) (cs := [a14]) (c := [a14]) (r := a14) (by rcases hfa14 with ha14e | ⟨_, _, ha14e⟩ <;> subst ha14e <;> kernel_rfl) (by rcases hfa14 with ha14e | ⟨_, _, ha14e⟩ <;> subst ha14e <;> kernel_rfl) hlc519 (by rcases hfa14 with ha14e | ⟨_, _, ha14e⟩ <;> subst ha14e <;> kernel_rfl) (by rcases hfa14 with ha14e | ⟨_, _, ha14e⟩ <;> subst ha14e <;> kernel_rfl) (by rcases hfa14 with ha14e | ⟨_, _, ha14e⟩ <;> subst ha14e <;> kernel_rfl)) (by rcases hfa14 with ha14e | ⟨_, _, ha14e⟩ <;> subst ha14e <;> kernel_rfl)) (APath.u 0 (st_toLH (st_loadC (H := H518) (id := id1) (off := 0) (cs := (c_api_Topo a0_.Topo)) (c := (c_api_Topo a0_.Topo)) (r := .agg (c_api_Topo a0_.Topo)) (by kernel_rfl) (by kernel_rfl) hlc520 (by kernel_rfl) (by kernel_rfl) (by kernel_rfl)) (by kernel_rfl)) (APath.u 1 (st_callP (by kernel_rfl) (route_walk_back_ok N a0_ x17 r521 hr521)) (APath.h 1 (st_app (H := H518) (a := a14) (b := s_eI64 true [r521]) (by rcases hfa14 with ha14e | ⟨_, _, ha14e⟩ <;> subst ha14e <;> kernel_rfl) (by rcases hfa14 with ha14e | ⟨_, _, ha14e⟩ <;> subst ha14e <;> kernel_rfl) (by rcases hfa14 with ha14e | ⟨_, _, ha14e⟩ <;> subst ha14e <;> kernel_rfl) (by rcases hfa14 with ha14e | ⟨_, _, ha14e⟩ <;> subst ha14e <;> kernel_rfl) ha522) (APath.o 0 (st_toH (st_storeC (H := H523) (v := a522) (cs := [a522]) (by rcases hfa522 with ha522e | ⟨_, _, ha522e⟩ <;> subst ha522e <;> kernel_rfl) (by rcases hfa522 with ha522e | ⟨_, _, ha522e⟩ <;> subst ha522e <;> kernel_rfl) (by rcases hfa522 with ha522e | ⟨_, _, ha522e⟩ <;> subst ha522e <;> kernel_rfl) (by rcases hfa522 with ha522e | ⟨_, _, ha522e⟩ <;> subst ha522e <;> kernel_rfl) (by rcases hfa522 with ha522e | ⟨_, _, ha522e⟩ <;> subst ha522e <;> kernel_rfl) hH525) (by rcases hfa522 with ha522e | ⟨_, _, ha522e⟩ <;> subst ha522e <;> kernel_rfl)) APath.f))))) (by kernel_rfl) ?_
    refine bn ?_
    obtain rfl := some_inj h
    exact rbd (k := 4) (.ready) hH rfl rfl (fun H6 hH => ⟨_, ⟨a522, Eq.refl _⟩, (Fp.pick hH [0, 1, 2, 3, 4] rfl)⟩)
  refine vc_range (s := ⟨[(2, .ptr id1 0), (5, .ptr id7 0), (12, .fn 68 [] [.ptr id13 0])], [], H12⟩) [(2, .ptr id1 0), (5, .ptr id7 0)] (FrOK.cons (by kernel_rfl) (by kernel_rfl) (FrOK.cons (by kernel_rfl) (by kernel_rfl) FrOK.nil)) (by kernel_rfl) (fun H => rfl) (capT := [.cel id13 [s_eI64 false r11]]) (cells0 := [.arr a4 1 false (List.map eI64 l6), .cel id7 [a4], .cel id1 (c_api_Topo a0_.Topo), .cel k0_ [s_eI64 false c0_]]) (rest := []) (Fp.now (Fp.pick hH [0, 2, 1, 3, 4] rfl)) (fun (s : (List Int)) (its : List Thing) => ∃ (a14 : AV), its = [.arr a14 1 false (List.map eI64 s), .cel id7 [a14], .cel id1 (c_api_Topo a0_.Topo), .cel k0_ [s_eI64 false c0_]] ++ [.lp (List.length H12) (lcOf Try.prog i45.nt [13, 14] ra45_1 rb45_1) [(2, .ptr id1 0), (5, .ptr id7 0)] .ready]) l6 o526 (by exact ⟨a4, Eq.refl _⟩) (fun H its hT hH => slices_Backward_api_Route_int_1_ok N (fun (s : (List Int)) (x16 : Int) (x17 : Int) => yieldT (fun v : (List Int) => route_Back_1_R1 N a0_ v x16 x17) s) r11 l6 id13 (List.length H12) (fun (s : (List Int)) (its : List Thing) => ∃ (a14 : AV), its = [.arr a14 1 false (List.map eI64 s), .cel id7 [a14], .cel id1 (c_api_Topo a0_.Topo), .cel k0_ [s_eI64 false c0_]] ++ [.lp (List.length H12) (lcOf Try.prog i45.nt [13, 14] ra45_1 rb45_1) [(2, .ptr id1 0), (5, .ptr id7 0)] .ready]) hyo526 H its hT hH o526 ho526) ?_
  rintro its hT
  obtain ⟨a14, rfl⟩ := hT
  refine ⟨_, _, rfl, ?_⟩
  intro H527 hF
  replace hH : Fp H H527 [.cel k0_ [s_eI64 false c0_]] [.cel id13 [s_eI64 false r11], .arr a14 1 false (List.map eI64 o526), .cel id7 [a14], .cel id1 (c_api_Topo a0_.Topo), .cel k0_ [s_eI64 false c0_]] := Fp.after (Fp.pick hH [0, 2, 1, 3, 4] rfl) hF
  have hfa14 := own_form (Fp.get hH 1 rfl)
  refine outQ_ready (S := ⟨[(2, .ptr id1 0), (5, .ptr id7 0), (12, .fn 68 [] [.ptr id13 0])], [], H527⟩) ?_
  refine bn (tq ?_)
  refine kq ?_
  replace hH : Fp H H527 [.cel k0_ [s_eI64 false c0_]] [.arr a14 1 false (List.map eI64 o526), .cel id7 [a14], .cel k0_ [s_eI64 false c0_]] := Fp.pick hH [1, 2, 4] rfl
  refine sq ?_
  have hlc528 := Fp.get hH 1 rfl
  refine rgS ⟨[(3, a14), (4, iv 0)], [], H527⟩ (APath.u 0 (st_loadC (H := H527) (id := id7) (off := 0) (cs := [a14]) (c := [a14]) (r := a14) (by rcases hfa14 with ha14e | ⟨_, _, ha14e⟩ <;> subst ha14e <;> kernel_rfl) (by rcases hfa14 with ha14e | ⟨_, _, ha14e⟩ <;> subst ha14e <;> kernel_rfl) hlc528 (by rcases hfa14 with ha14e | ⟨_, _, ha14e⟩ <;> subst ha14e <;> kernel_rfl) (by rcases hfa14 with ha14e | ⟨_, _, ha14e⟩ <;> subst ha14e <;> kernel_rfl) (by rcases hfa14 with ha14e | ⟨_, _, ha14e⟩ <;> subst ha14e <;> kernel_rfl)) APath.f) (by rcases hfa14 with ha14e | ⟨_, _, ha14e⟩ <;> subst ha14e <;> kernel_rfl) ?_
  replace hH : Fp H H527 [.cel k0_ [s_eI64 false c0_]] [.arr a14 1 false (List.map eI64 o526), .cel k0_ [s_eI64 false c0_]] := Fp.pick hH [0, 2] rfl
  refine tq (rt ?_)
  obtain rfl := some_inj h
  exact ret_res (xs := [.p (.sl 1 false (List.map eI64 o526)), iv 0]) (pureR_cons (r := .tmp 3) (y := a14) (by rcases hfa14 with ha14e | ⟨_, _, ha14e⟩ <;> subst ha14e <;> kernel_rfl) (newR_own (Fp.get hH 0 rfl) (Fp.newA (k := 0) hH rfl rfl (Fp.pick hH [1] rfl) [1] rfl)) (Fp.pure (k := 0) (frz := false) eI64 hH rfl).2 (pureR_cons (r := .tmp 4) (y := iv 0) (by rcases hfa14 with ha14e | ⟨_, _, ha14e⟩ <;> subst ha14e <;> kernel_rfl) (by kernel_rfl) (by kernel_rfl) pureR_nil)) (by kernel_rfl) (Fp.pk hH [1] rfl) rfl hH0
theorem route_Back_ok (N : Nat) (a0_ : api_Topo) (a1_ : (List Int)) (r : (List Int) × Int) (h : route_Back N a0_ a1_ = some r) : PCall Try.prog 17 [.agg (c_api_Topo a0_), s_eI64 false a1_] (.tup [s_eI64 false r.1, iv r.2]) := by
  unfold route_Back at h
  have hH : HP ([] : List HO) [] := trivial
  refine pcall_of chk17 rfl rfl (vc_sound _ _ _ ?_) rfl
  refine sq ?_
  obtain ⟨id1, H2, hid1, hH2, hH⟩ := HP.newCell hH [s_eI64 false a1_]
  replace hH : HP H2 [.cel id1 [s_eI64 false a1_]] := hH
  refine rg (APath.h 1 (st_boxH (H := []) (v := s_eI64 false a1_) (by kernel_rfl) (by kernel_rfl) (by kernel_rfl) hid1 hH2) APath.f) (tq ?_)
  refine sq ?_
  have hlc3 := HP.get hH 0 rfl
  obtain ⟨r4, hr4, h⟩ := bs h
  have hvr4 := (route_ask_api_Route_ok N a0_ a1_ (fun x0 => route_Back_1 N x0 a1_)   45 [] [.ptr id1 0] (by kernel_rfl) [.cel id1 [s_eI64 false a1_]] (fun H x0 r hH h => VCall.of (by kernel_rfl) (route_Back_1_ok N  x0 a1_ id1 H hH r h)) H2 (HP.now (HP.pick hH [0] rfl)) r4 hr4)
  refine rg (APath.u 1 (st_loadC (H := H2) (id := id1) (off := 0) (cs := [s_eI64 false a1_]) (c := [s_eI64 false a1_]) (r := s_eI64 false a1_) (by kernel_rfl) (by kernel_rfl) hlc3 (by kernel_rfl) (by kernel_rfl) (by kernel_rfl)) (APath.v 1 (st_callH (H := H2) (ys := [.agg (c_api_Topo a0_), s_eI64 false a1_, .fn 45 [] [.ptr id1 0]]) (by kernel_rfl) (by kernel_rfl) (by kernel_rfl) hvr4) APath.f)) ?_
  replace hH : HP H2 [] := HP.pick hH [] rfl
  refine tq (rt ?_)
  obtain rfl := some_inj h
  exact ret_of (by kernel_rfl)
theorem law21_wakes_ok (N : Nat) (r : Bool) (h : law21_wakes N = some r) : PCall Try.prog 10 [] (bv r) := by
  unfold law21_wakes at h
  have hH : HP ([] : List HO) [] := trivial
  refine pcall_of chk10 rfl rfl (vc_sound _ _ _ ?_) rfl
  refine sq (rg APath.f ?_)
  refine tq (sq ?_)
  obtain ⟨r1, hr1, h⟩ := bs h
  refine rg (APath.v 0 (st_call (by kernel_rfl) (law21_line_ok N  r1 hr1)) APath.f) (tq ?_)
  refine sq ?_
  obtain ⟨r2, hr2, h⟩ := bs h
  refine rg (APath.v 2 (st_call (by kernel_rfl) (route_Nodes_ok N r1 ([0, 2, 4]) r2 hr2)) APath.f) (tq ?_)
  refine sq ?_
  obtain ⟨r3, hr3, h⟩ := bs h
  refine rg (APath.v 2 (st_call (by kernel_rfl) (route_Ends_ok N r1 ([2, 4]) r3 hr3)) APath.f) (tq ?_)
  refine sq ?_
  obtain ⟨r4, hr4, h⟩ := bs h
  refine rg (APath.v 2 (st_call (by kernel_rfl) (route_Delay_ok N r1 ([0, 2, 4]) r4 hr4)) APath.f) (tq ?_)
  refine sq ?_
  obtain ⟨r5, hr5, h⟩ := bs h
  refine rg (APath.v 2 (st_call (by kernel_rfl) (route_Time_ok N r1 ([0, 2, 4]) 100 r5 hr5)) APath.f) (tq ?_)
  refine sq ?_
  obtain ⟨r6, hr6, h⟩ := bs h
  refine rg (APath.v 2 (st_call (by kernel_rfl) (route_Back_ok N r1 ([0, 2, 4]) r6 hr6)) APath.f) (tq ?_)
  refine sq ?_
  obtain ⟨r7, hr7, h⟩ := bs h
  refine rg (APath.v 3 (st_call (by kernel_rfl) (route_Apart_ok N r1 ([0]) ([2, 4]) r7 hr7)) APath.f) (tq ?_)
  refine sq ?_
  obtain ⟨r8, hr8, h⟩ := bs h
  refine rg (APath.v 4 (st_call (by kernel_rfl) (route_Tree_ok N r1 ([[0, 2], [0, 2, 4]]) r8 hr8)) APath.f) (tq ?_)
  refine sq (rgX ⟨[(1, .loc 1 0), (2, s_eI64 false r2.1), (4, iv r3.1), (5, iv r3.2.1), (7, iv r4.1), (9, iv r5.1), (11, s_eI64 false r6.1), (13, bv r7.1), (15, s_eI64 false r8.1), (16, bv r8.2.1), (18, bv ((r2.2 == 0) && ((r3.2.2 == 0) && ((r4.2 == 0) && ((r5.2 == 0) && ((r6.2 == 0) && ((r7.2 == 0) && (r8.2.2 == 0))))))))], [(1, (c_api_Topo r1))], []⟩ ?_ ?_)
  · rcases Bool.eq_false_or_eq_true (r2.2 == 0) with hc9 | hc20
    · refine (EP.u 1 (st_bool (c := (r2.2 == 0)) (by kernel_rfl) hc9) ?_)
      rcases Bool.eq_false_or_eq_true (r3.2.2 == 0) with hc10 | hc19
      · refine (EP.u 2 (st_bool (c := (r3.2.2 == 0)) (by kernel_rfl) hc10) ?_)
        rcases Bool.eq_false_or_eq_true (r4.2 == 0) with hc11 | hc18
        · refine (EP.u 3 (st_bool (c := (r4.2 == 0)) (by kernel_rfl) hc11) ?_)
          rcases Bool.eq_false_or_eq_true (r5.2 == 0) with hc12 | hc17
          · refine (EP.u 3 (st_bool (c := (r5.2 == 0)) (by kernel_rfl) hc12) ?_)
            rcases Bool.eq_false_or_eq_true (r6.2 == 0) with hc13 | hc16
            · refine (EP.u 3 (st_bool (c := (r6.2 == 0)) (by kernel_rfl) hc13) ?_)
              rcases Bool.eq_false_or_eq_true (r7.2 == 0) with hc14 | hc15
              · exact (EP.u 3 (st_bool (c := (r7.2 == 0)) (by kernel_rfl) hc14) (EP.f (by simp only [hc9, hc10, hc11, hc12, hc13, hc14]; kernel_rfl)))
              exact (EP.u 3 (st_bool (c := (r7.2 == 0)) (by kernel_rfl) hc15) (EP.f (by simp only [hc9, hc10, hc11, hc12, hc13, hc15]; kernel_rfl)))
            exact (EP.u 3 (st_bool (c := (r6.2 == 0)) (by kernel_rfl) hc16) (EP.f (by simp only [hc9, hc10, hc11, hc12, hc16]; kernel_rfl)))
          exact (EP.u 3 (st_bool (c := (r5.2 == 0)) (by kernel_rfl) hc17) (EP.f (by simp only [hc9, hc10, hc11, hc17]; kernel_rfl)))
        exact (EP.u 3 (st_bool (c := (r4.2 == 0)) (by kernel_rfl) hc18) (EP.f (by simp only [hc9, hc10, hc18]; kernel_rfl)))
      exact (EP.u 2 (st_bool (c := (r3.2.2 == 0)) (by kernel_rfl) hc19) (EP.f (by simp only [hc9, hc19]; kernel_rfl)))
    exact (EP.u 1 (st_bool (c := (r2.2 == 0)) (by kernel_rfl) hc20) (EP.f (by simp only [hc20]; kernel_rfl)))
  refine tq (sq ?_)
  obtain ⟨j45, hj, h⟩ := bs h
  refine rgR (fun s => s = ⟨[(0, bv j45)], [], []⟩) ?_ ?_
  · clear h
    rcases ite_some hj with ⟨hc21, hj⟩ | ⟨hc44, hj⟩
    · refine (EP.u 0 (st_bool (c := ((r2.2 == 0) && ((r3.2.2 == 0) && ((r4.2 == 0) && ((r5.2 == 0) && ((r6.2 == 0) && ((r7.2 == 0) && (r8.2.2 == 0)))))))) (by kernel_rfl) hc21) ?_)
      obtain ⟨r22, hr22, hj⟩ := bs hj
      rcases ite_some hj with ⟨hc23, hj⟩ | ⟨hc43, hj⟩
      · refine (EP.h 3 (st_callB (by kernel_rfl) (slices_Equal__int_int_ok N r2.1 ([0, 1, 2, 3]) r22 hr22) hc23) ?_)
        rcases ite_some hj with ⟨hc24, hj⟩ | ⟨hc42, hj⟩
        · refine (EP.u 3 (st_bool (c := (r3.1 == 1)) (by kernel_rfl) hc24) ?_)
          rcases ite_some hj with ⟨hc25, hj⟩ | ⟨hc41, hj⟩
          · refine (EP.u 3 (st_bool (c := (r3.2.1 == 3)) (by kernel_rfl) hc25) ?_)
            rcases ite_some hj with ⟨hc26, hj⟩ | ⟨hc40, hj⟩
            · refine (EP.u 3 (st_bool (c := (r4.1 == 57)) (by kernel_rfl) hc26) ?_)
              rcases ite_some hj with ⟨hc27, hj⟩ | ⟨hc39, hj⟩
              · refine (EP.u 3 (st_bool (c := (r5.1 == 9657)) (by kernel_rfl) hc27) ?_)
                obtain ⟨r28, hr28, hj⟩ := bs hj
                rcases ite_some hj with ⟨hc29, hj⟩ | ⟨hc38, hj⟩
                · refine (EP.h 4 (st_callB (by kernel_rfl) (slices_Equal_api_Route_int_ok N r6.1 ([5, 3, 1]) r28 hr28) hc29) ?_)
                  rcases ite_some hj with ⟨hc30, hj⟩ | ⟨hc37, hj⟩
                  · refine (EP.u 2 (st_bool (c := r7.1) (by kernel_rfl) hc30) ?_)
                    obtain ⟨r31, hr31, hj⟩ := bs hj
                    rcases ite_some hj with ⟨hc32, hj⟩ | ⟨hc36, hj⟩
                    · refine (EP.h 4 (st_callB (by kernel_rfl) (slices_Equal__int_int_ok N r8.1 ([0, 2, 4]) r31 hr31) hc32) ?_)
                      rcases ite_some hj with ⟨hc33, hj⟩ | ⟨hc35, hj⟩
                      · refine (EP.u 2 (st_bool (c := r8.2.1) (by kernel_rfl) hc33) ?_)
                        obtain ⟨r34, hr34, hj⟩ := bs hj
                        obtain rfl := some_inj hj
                        exact (EP.v 4 (st_call (by kernel_rfl) (route_Check_ok N r1 ([0, 4]) r34 hr34)) (EP.f (by show _ = _; kernel_rfl)))
                      obtain rfl := some_inj hj
                      exact (EP.u 2 (st_bool (c := r8.2.1) (by kernel_rfl) hc35) (EP.f (by show _ = _; kernel_rfl)))
                    obtain rfl := some_inj hj
                    exact (EP.h 4 (st_callB (by kernel_rfl) (slices_Equal__int_int_ok N r8.1 ([0, 2, 4]) r31 hr31) hc36) (EP.f (by show _ = _; kernel_rfl)))
                  obtain rfl := some_inj hj
                  exact (EP.u 2 (st_bool (c := r7.1) (by kernel_rfl) hc37) (EP.f (by show _ = _; kernel_rfl)))
                obtain rfl := some_inj hj
                exact (EP.h 4 (st_callB (by kernel_rfl) (slices_Equal_api_Route_int_ok N r6.1 ([5, 3, 1]) r28 hr28) hc38) (EP.f (by show _ = _; kernel_rfl)))
              obtain rfl := some_inj hj
              exact (EP.u 3 (st_bool (c := (r5.1 == 9657)) (by kernel_rfl) hc39) (EP.f (by show _ = _; kernel_rfl)))
            obtain rfl := some_inj hj
            exact (EP.u 3 (st_bool (c := (r4.1 == 57)) (by kernel_rfl) hc40) (EP.f (by show _ = _; kernel_rfl)))
          obtain rfl := some_inj hj
          exact (EP.u 3 (st_bool (c := (r3.2.1 == 3)) (by kernel_rfl) hc41) (EP.f (by show _ = _; kernel_rfl)))
        obtain rfl := some_inj hj
        exact (EP.u 3 (st_bool (c := (r3.1 == 1)) (by kernel_rfl) hc42) (EP.f (by show _ = _; kernel_rfl)))
      obtain rfl := some_inj hj
      exact (EP.h 3 (st_callB (by kernel_rfl) (slices_Equal__int_int_ok N r2.1 ([0, 1, 2, 3]) r22 hr22) hc43) (EP.f (by show _ = _; kernel_rfl)))
    obtain rfl := some_inj hj
    exact (EP.u 0 (st_bool (c := ((r2.2 == 0) && ((r3.2.2 == 0) && ((r4.2 == 0) && ((r5.2 == 0) && ((r6.2 == 0) && ((r7.2 == 0) && (r8.2.2 == 0)))))))) (by kernel_rfl) hc44) (EP.f (by show _ = _; kernel_rfl)))
  clear hj
  rintro s hR
  obtain rfl := hR
  refine tq (rt ?_)
  obtain rfl := some_inj h
  exact ret_of (by kernel_rfl)
theorem route_walk_nodes_V1_ok (N : Nat) (a0_ : route_walk) (a1_ : (List Int)) (H : List HO) (hH : HP H []) (r : (List Int)) (h : route_walk_nodes_V1 N a0_ a1_ = some r) : ∃ (or_0_0_ : AV) (H' : List HO), ACall Try.prog 37 [.agg (c_api_Topo a0_.Topo), s_eI64 false a1_] H (or_0_0_) H' ∧ Fp H H' [] [.arr or_0_0_ 1 false (List.map eI64 r)] := by
  suffices hs : ∃ r' H', ACall Try.prog 37 [.agg (c_api_Topo a0_.Topo), s_eI64 false a1_] H r' H' ∧ ∃ (or_0_0_ : AV), r' = or_0_0_ ∧ Fp H H' [] [.arr or_0_0_ 1 false (List.map eI64 r)] by
    obtain ⟨_, H', h1, or_0_0_, he, h2⟩ := hs
    exact ⟨or_0_0_, H', he ▸ h1, h2⟩
  unfold route_walk_nodes_V1 at h
  replace hH := Fp.refl hH
  refine acall_detRW chk37 [] (fun r' H' => ∃ (or_0_0_ : AV), r' = or_0_0_ ∧ Fp H H' [] [.arr or_0_0_ 1 false (List.map eI64 r)]) (fun r' H' q => by obtain ⟨or_0_0_, e, hp⟩ := q; subst e; have hfor_0_0_ := own_form (Fp.get hp 0 rfl); show noLoc _ = true; rcases hfor_0_0_ with hor_0_0_e | ⟨_, _, hor_0_0_e⟩ <;> subst hor_0_0_e <;> rfl) rfl (by kernel_rfl) ?_
  refine sq (rgS ⟨[(1, s_eI64 false a1_), (2, .loc 2 0)], [(2, (c_api_Topo a0_.Topo))], H⟩ APath.f (by kernel_rfl) ?_)
  refine tq (sq ?_)
  obtain ⟨l3, hl3, h⟩ := bs h
  obtain ⟨a1, H2, ha1, hH2, ha1b, hH⟩ := Fp.make eI64 hH hl3
  replace hH : Fp H H2 [] [.arr a1 1 false (List.map eI64 l3)] := hH
  have hfa1 := own_form (Fp.get hH 0 rfl)
  obtain ⟨id4, H5, hid4, hH5, hH⟩ := Fp.newCell hH [s_eI64 true []]
  replace hH : Fp H H5 [] [.cel id4 [s_eI64 true []], .arr a1 1 false (List.map eI64 l3)] := hH
  obtain ⟨H6, hH6, hH⟩ := Fp.setCell (k := 0) (off := 0) (cs := [s_eI64 true []]) (vs := [a1]) (cs' := [a1]) hH rfl (by kernel_rfl)
  replace hH : Fp H H6 [] [.cel id4 [a1], .arr a1 1 false (List.map eI64 l3)] := hH
  refine rgS ⟨[(1, s_eI64 false a1_), (2, .loc 2 0), (5, .ptr id4 0)], [(2, (c_api_Topo a0_.Topo))], H6⟩ (APath.u 1 (st_val (ys := [s_eI64 false a1_]) (by kernel_rfl) (vexec_len eI64)) (APath.h 1 (st_make (H := H) (zero := [.int .i64 0]) (bytes := 8) (by kernel_rfl) (by kernel_rfl) (by kernel_rfl) ha1 hH2 ha1b) (APath.h 0 (st_newH (H := H2) (by kernel_rfl) hid4 hH5) (APath.o 0 (st_storeC (H := H5) (v := a1) (cs := [a1]) (by rcases hfa1 with ha1e | ⟨_, _, ha1e⟩ <;> subst ha1e <;> kernel_rfl) (by rcases hfa1 with ha1e | ⟨_, _, ha1e⟩ <;> subst ha1e <;> kernel_rfl) (by rcases hfa1 with ha1e | ⟨_, _, ha1e⟩ <;> subst ha1e <;> kernel_rfl) (by rcases hfa1 with ha1e | ⟨_, _, ha1e⟩ <;> subst ha1e <;> kernel_rfl) (by rcases hfa1 with ha1e | ⟨_, _, ha1e⟩ <;> subst ha1e <;> kernel_rfl) hH6) APath.f)))) (by kernel_rfl) ?_
  refine tq (sq ?_)
  refine sq ?_
  obtain ⟨r7, hr7, h⟩ := bs h
  obtain ⟨id9, id10, H8, hvr7, hpr7⟩ := route_walk_hops_ok N a0_ a1_ H6 r7 hr7
  replace hH : Fp H H8 [] [.cel id9 [s_eI64 false r7.1], .cel id10 (c_api_Topo r7.2.Topo), .cel id4 [a1], .arr a1 1 false (List.map eI64 l3)] := Fp.callee (fp := []) (rest := [.cel id4 [a1], .arr a1 1 false (List.map eI64 l3)]) hH hpr7
  refine rgS ⟨[(5, .ptr id4 0), (14, .fn 78 [] [.ptr id9 0, .ptr id10 0])], [], H8⟩ (APath.v 2 (st_callH (H := H6) (ys := [.agg (c_api_Topo a0_.Topo), s_eI64 false a1_]) (by kernel_rfl) (by kernel_rfl) (by kernel_rfl) hvr7) APath.f) (by kernel_rfl) ?_
  refine tq (bk ?_)
  obtain ⟨o1030, ho1030, h⟩ := bs h
  have hyo1030 : ∀ (x13 : Int) (x14 : route_hop) (s : (List Int)) (r : ((List Int)) × Bool) (H : List HO) (its : List Thing), (fun (s : (List Int)) (its : List Thing) => ∃ (a11 : AV), its = [.arr a11 1 false (List.map eI64 s), .cel id4 [a11]] ++ [.lp (List.length H8) (lcOf Try.prog i37.nt [15, 16] ra37_1 rb37_1) [(5, .ptr id4 0)] .ready]) s its → HP H its → (fun (s : (List Int)) (x13 : Int) (x14 : route_hop) => yieldT (fun v : (List Int) => route_walk_nodes_V1_R1 N v x13 x14) s) s x13 x14 = some r → ∃ H' its', YCall Try.prog (List.length H8) [iv x13, .agg (c_route_hop x14)] H r.2 H' ∧ (fun (s : (List Int)) (its : List Thing) => ∃ (a11 : AV), its = [.arr a11 1 false (List.map eI64 s), .cel id4 [a11]] ++ [.lp (List.length H8) (lcOf Try.prog i37.nt [15, 16] ra37_1 rb37_1) [(5, .ptr id4 0)] .ready]) r.1 its' ∧ Fp H H' its its' := by
    clear h
    intro x13 x14 s r H12 its hT hH h
    obtain ⟨q, hb, rfl⟩ := yieldT_some h
    clear h
    obtain ⟨vs, rfl⟩ : ∃ v, v = s := ⟨s, rfl⟩
    obtain ⟨l15, rfl⟩ : ∃ v, v = vs := ⟨vs, rfl⟩
    obtain ⟨a11, rfl⟩ := hT
    replace h : route_walk_nodes_V1_R1 N l15 x13 x14 = some q := hb
    clear hb
    unfold route_walk_nodes_V1_R1 at h
    replace hH : Fp H12 H12 [.arr a11 1 false (List.map eI64 l15), .cel id4 [a11], .lp (List.length H8) (lcOf Try.prog i37.nt [15, 16] ra37_1 rb37_1) [(5, .ptr id4 0)] .ready] [.arr a11 1 false (List.map eI64 l15), .cel id4 [a11], .lp (List.length H8) (lcOf Try.prog i37.nt [15, 16] ra37_1 rb37_1) [(5, .ptr id4 0)] .ready] := Fp.refl hH
    have hfa11 := own_form (Fp.get hH 0 rfl)
    suffices hs : ∃ H', YCall Try.prog (List.length H8) [iv x13, .agg (c_route_hop x14)] H12 true H' ∧ ∃ its', (fun (s : (List Int)) (its : List Thing) => ∃ (a11 : AV), its = [.arr a11 1 false (List.map eI64 s), .cel id4 [a11]] ++ [.lp (List.length H8) (lcOf Try.prog i37.nt [15, 16] ra37_1 rb37_1) [(5, .ptr id4 0)] .ready]) q its' ∧ Fp H12 H' [.arr a11 1 false (List.map eI64 l15), .cel id4 [a11], .lp (List.length H8) (lcOf Try.prog i37.nt [15, 16] ra37_1 rb37_1) [(5, .ptr id4 0)] .ready] its' by
      obtain ⟨H', h1, its', h2, h3⟩ := hs
      exact ⟨H', its', h1, h2, h3⟩
    refine ycall_det (id := (List.length H8)) (args := [iv x13, .agg (c_route_hop x14)]) (H := H12) (n := i37.nt) (ps := [15, 16]) (fr0 := [(5, .ptr id4 0)]) (ia := ra37_1) (ib := rb37_1) true (fun H' => ∃ its', (fun (s : (List Int)) (its : List Thing) => ∃ (a11 : AV), its = [.arr a11 1 false (List.map eI64 s), .cel id4 [a11]] ++ [.lp (List.length H8) (lcOf Try.prog i37.nt [15, 16] ra37_1 rb37_1) [(5, .ptr id4 0)] .ready]) q its' ∧ Fp H12 H' [.arr a11 1 false (List.map eI64 l15), .cel id4 [a11], .lp (List.length H8) (lcOf Try.prog i37.nt [15, 16] ra37_1 rb37_1) [(5, .ptr id4 0)] .ready] its') (Fp.get hH 2 rfl) rfl (by decide +kernel) rfl ?_
    show vc _ _ _ _ ⟨[(5, .ptr id4 0), (15, iv x13), (16, .agg (c_route_hop x14))], [], H12⟩
    refine sq (rgS ⟨[(5, .ptr id4 0), (6, iv x13), (16, .agg (c_route_hop x14))], [], H12⟩ APath.f (by kernel_rfl) ?_)
    refine tq (rgS ⟨[(5, .ptr id4 0), (6, iv x13), (7, .loc 7 0)], [(7, (c_route_hop x14))], H12⟩ APath.f (by kernel_rfl) ?_)
    refine ia_done (k := 2) hH rfl ?_
    intro H515 hH
    replace hH : Fp H12 H515 [.arr a11 1 false (List.map eI64 l15), .cel id4 [a11], .lp (List.length H8) (lcOf Try.prog i37.nt [15, 16] ra37_1 rb37_1) [(5, .ptr id4 0)] .ready] [.arr a11 1 false (List.map eI64 l15), .cel id4 [a11], .lp (List.length H8) (lcOf Try.prog i37.nt [15, 16] ra37_1 rb37_1) [(5, .ptr id4 0)] .busy] := hH
    show vc _ _ _ _ ⟨[(5, .ptr id4 0), (6, iv x13), (7, .loc 7 0)], [(7, (c_route_hop x14))], H515⟩
    refine bk ?_
    obtain ⟨j1018, hj1018, h⟩ := bs h
    refine vc_joinK [5, 7] (fun s => ∃ (a1016 : AV) (H1017 : List HO), s = ⟨[(5, .ptr id4 0), (7, .loc 7 0)], [(7, (c_route_hop x14))], H1017⟩ ∧ Fp H12 H1017 [.arr a11 1 false (List.map eI64 l15), .cel id4 [a11], .lp (List.length H8) (lcOf Try.prog i37.nt [15, 16] ra37_1 rb37_1) [(5, .ptr id4 0)] .ready] [.arr a1016 1 false (List.map eI64 j1018), .cel id4 [a1016], .lp (List.length H8) (lcOf Try.prog i37.nt [15, 16] ra37_1 rb37_1) [(5, .ptr id4 0)] .busy]) ?_ ?_
    · clear h
      have h := hj1018
      refine sq (rgS ⟨[(5, .ptr id4 0), (7, .loc 7 0), (18, bv (x13 == 0))], [(7, (c_route_hop x14))], H515⟩ APath.f (by kernel_rfl) ?_)
      refine tq (it h (fun hc1019 h => ?_) (fun hc1019 h => ?_))
      · have hlc1020 := Fp.get hH 1 rfl
        obtain ⟨l1023, hl1023, h⟩ := bs h
        obtain ⟨a1021, H1022, ha1021, hH⟩ := Fp.app (k := 0) (a := a11) (sz := 1) (frz := false) eI64 hH rfl hl1023
        replace hH : Fp H12 H1022 [.arr a11 1 false (List.map eI64 l15), .cel id4 [a11], .lp (List.length H8) (lcOf Try.prog i37.nt [15, 16] ra37_1 rb37_1) [(5, .ptr id4 0)] .ready] [.arr a1021 1 false (List.map eI64 l1023), .cel id4 [a11], .lp (List.length H8) (lcOf Try.prog i37.nt [15, 16] ra37_1 rb37_1) [(5, .ptr id4 0)] .busy] := hH
        have hfa1021 := own_form (Fp.get hH 0 rfl)
        obtain ⟨H1024, hH1024, hH⟩ := Fp.setCell (k := 1) (off := 0) (cs := [a11]) (vs := [a1021]) (cs' := [a1021]) hH rfl (by kernel_rfl)
        replace hH : Fp H12 H1024 [.arr a11 1 false (List.map eI64 l15), .cel id4 [a11], .lp (List.length H8) (lcOf Try.prog i37.nt [15, 16] ra37_1 rb37_1) [(5, .ptr id4 0)] .ready] [.arr a1021 1 false (List.map eI64 l1023), .cel id4 [a1021], .lp (List.length H8) (lcOf Try.prog i37.nt [15, 16] ra37_1 rb37_1) [(5, .ptr id4 0)] .busy] := hH
        refine rgS ⟨[(5, .ptr id4 0), (7, .loc 7 0)], [(7, (c_route_hop x14))], H1024⟩ (APath.u 0 (st_loadC (H := H515) (id := id4) (off := 0) (cs := [a11]) (c := [a11]) (r := a11) (by rcases hfa11 with ha11e | ⟨_, _, ha11e⟩ <;> subst ha11e <;> kernel_rfl) (by rcases hfa11 with ha11e | ⟨_, _, ha11e⟩ <;> subst ha11e <;> kernel_rfl) hlc1020 (by rcases hfa11 with ha11e | ⟨_, _, ha11e⟩ <;> subst ha11e <;> kernel_rfl) (by rcases hfa11 with ha11e | ⟨_, _, ha11e⟩ <;> subst ha11e <;> kernel_rfl) (by rcases hfa11 with ha11e | ⟨_, _, ha11e⟩ <;> subst ha11e <;> kernel_rfl)) (APath.h 3 (st_app (H := H515) (a := a11) (b := s_eI64 true [x14.from_]) (by rcases hfa11 with ha11e | ⟨_, _, ha11e⟩ <;> subst ha11e <;> kernel_rfl) (by rcases hfa11 with ha11e | ⟨_, _, ha11e⟩ <;> subst ha11e <;> kernel_rfl) (by rcases hfa11 with ha11e | ⟨_, _, ha11e⟩ <;> subst ha11e <;> kernel_rfl) (by rcases hfa11 with ha11e | ⟨_, _, ha11e⟩ <;> subst ha11e <;> kernel_rfl) ha1021) (APath.o 0 (st_storeC (H := H1022) (v := a1021) (cs := [a1021]) (by rcases hfa1021 with ha1021e | ⟨_, _, ha1021e⟩ <;> subst ha1021e <;> kernel_rfl) (by rcases hfa1021 with ha1021e | ⟨_, _, ha1021e⟩ <;> subst ha1021e <;> kernel_rfl) (by rcases hfa1021 with ha1021e | ⟨_, _, ha1021e⟩ <;> subst ha1021e <;> kernel_rfl) (by rcases hfa1021 with ha1021e | ⟨_, _, ha1021e⟩ <;> subst ha1021e <;> kernel_rfl) (by rcases hfa1021 with ha1021e | ⟨_, _, ha1021e⟩ <;> subst ha1021e <;> kernel_rfl) hH1024) APath.f))) (by kernel_rfl) ?_
        obtain rfl := some_inj h
        exact ⟨rfl, ⟨a1021, H1024, (by show _ = _; kernel_rfl), (Fp.pick hH [0, 1, 2] rfl)⟩⟩
      refine sk ?_
      obtain rfl := some_inj h
      exact ⟨rfl, ⟨a11, H515, (by show _ = _; kernel_rfl), (Fp.pick hH [0, 1, 2] rfl)⟩⟩
    clear hj1018
    rintro s hR
    obtain ⟨a1016, H1017, rfl, hH⟩ := hR
    replace hH : Fp H12 H1017 [.arr a11 1 false (List.map eI64 l15), .cel id4 [a11], .lp (List.length H8) (lcOf Try.prog i37.nt [15, 16] ra37_1 rb37_1) [(5, .ptr id4 0)] .ready] [.arr a1016 1 false (List.map eI64 j1018), .cel id4 [a1016], .lp (List.length H8) (lcOf Try.prog i37.nt [15, 16] ra37_1 rb37_1) [(5, .ptr id4 0)] .busy] := hH
    have hfa1016 := own_form (Fp.get hH 0 rfl)
    have hlc1025 := Fp.get hH 1 rfl
    obtain ⟨l1028, hl1028, h⟩ := bs h
    obtain ⟨a1026, H1027, ha1026, hH⟩ := Fp.app (k := 0) (a := a1016) (sz := 1) (frz := false) eI64 hH rfl hl1028
    replace hH : Fp H12 H1027 [.arr a11 1 false (List.map eI64 l15), .cel id4 [a11], .lp (List.length H8) (lcOf Try.prog i37.nt [15, 16] ra37_1 rb37_1) [(5, .ptr id4 0)] .ready] [.arr a1026 1 false (List.map eI64 l1028), .cel id4 [a1016], .lp (List.length H8) (lcOf Try.prog i37.nt [15, 16] ra37_1 rb37_1) [(5, .ptr id4 0)] .busy] := hH
    have hfa1026 := own_form (Fp.get hH 0 rfl)
    obtain ⟨H1029, hH1029, hH⟩ := Fp.setCell (k := 1) (off := 0) (cs := [a1016]) (vs := [a1026]) (cs' := [a1026]) hH rfl (by kernel_rfl)
    replace hH : Fp H12 H1029 [.arr a11 1 false (List.map eI64 l15), .cel id4 [a11], .lp (List.length H8) (lcOf Try.prog i37.nt [15, 16] ra37_1 rb37_1) [(5, .ptr id4 0)] .ready] [.arr a1026 1 false (List.map eI64 l1028), .cel id4 [a1026], .lp (List.length H8) (lcOf Try.prog i37.nt [15, 16] ra37_1 rb37_1) [(5, .ptr id4 0)] .busy] := hH
    refine rgS ⟨[], [], H1029⟩ (APath.u 0 (st_loadC (H := H1017) (id := id4) (off := 0) (cs := [a1016]) (c := [a1016]) (r := a1016) (by rcases hfa1016 with ha1016e | ⟨_, _, ha1016e⟩ <;> subst ha1016e <;> kernel_rfl) (by rcases hfa1016 with ha1016e | ⟨_, _, ha1016e⟩ <;> subst ha1016e <;> kernel_rfl) hlc1025 (by rcases hfa1016 with ha1016e | ⟨_, _, ha1016e⟩ <;> subst ha1016e <;> kernel_rfl) (by rcases hfa1016 with ha1016e | ⟨_, _, ha1016e⟩ <;> subst ha1016e <;> kernel_rfl) (by rcases hfa1016 with ha1016e | ⟨_, _, ha1016e⟩ <;> subst ha1016e <;> kernel_rfl)) (APath.h 3 (st_app (H := H1017) (a := a1016) (b := s_eI64 true [x14.to_]) (by rcases hfa1016 with ha1016e | ⟨_, _, ha1016e⟩ <;> subst ha1016e <;> kernel_rfl) (by rcases hfa1016 with ha1016e | ⟨_, _, ha1016e⟩ <;> subst ha1016e <;> kernel_rfl) (by rcases hfa1016 with ha1016e | ⟨_, _, ha1016e⟩ <;> subst ha1016e <;> kernel_rfl) (by rcases hfa1016 with ha1016e | ⟨_, _, ha1016e⟩ <;> subst ha1016e <;> kernel_rfl) ha1026) (APath.o 0 (st_storeC (H := H1027) (v := a1026) (cs := [a1026]) (by rcases hfa1026 with ha1026e | ⟨_, _, ha1026e⟩ <;> subst ha1026e <;> kernel_rfl) (by rcases hfa1026 with ha1026e | ⟨_, _, ha1026e⟩ <;> subst ha1026e <;> kernel_rfl) (by rcases hfa1026 with ha1026e | ⟨_, _, ha1026e⟩ <;> subst ha1026e <;> kernel_rfl) (by rcases hfa1026 with ha1026e | ⟨_, _, ha1026e⟩ <;> subst ha1026e <;> kernel_rfl) (by rcases hfa1026 with ha1026e | ⟨_, _, ha1026e⟩ <;> subst ha1026e <;> kernel_rfl) hH1029) APath.f))) (by kernel_rfl) ?_
    refine bn ?_
    obtain rfl := some_inj h
    exact rbd (k := 2) (.ready) hH rfl rfl (fun H6 hH => ⟨_, ⟨a1026, Eq.refl _⟩, (Fp.pick hH [0, 1, 2] rfl)⟩)
  refine vc_range (s := ⟨[(5, .ptr id4 0), (14, .fn 78 [] [.ptr id9 0, .ptr id10 0])], [], H8⟩) [(5, .ptr id4 0)] (FrOK.cons (by kernel_rfl) (by kernel_rfl) FrOK.nil) (by kernel_rfl) (fun H => rfl) (capT := [.cel id9 [s_eI64 false r7.1], .cel id10 (c_api_Topo r7.2.Topo)]) (cells0 := [.arr a1 1 false (List.map eI64 l3), .cel id4 [a1]]) (rest := []) (Fp.now (Fp.pick hH [0, 1, 3, 2] rfl)) (fun (s : (List Int)) (its : List Thing) => ∃ (a11 : AV), its = [.arr a11 1 false (List.map eI64 s), .cel id4 [a11]] ++ [.lp (List.length H8) (lcOf Try.prog i37.nt [15, 16] ra37_1 rb37_1) [(5, .ptr id4 0)] .ready]) l3 o1030 (by exact ⟨a1, Eq.refl _⟩) (fun H its hT hH => route_walk_hops_1_ok N (fun (s : (List Int)) (x13 : Int) (x14 : route_hop) => yieldT (fun v : (List Int) => route_walk_nodes_V1_R1 N v x13 x14) s) r7.1 r7.2 l3 id9 id10 (List.length H8) (fun (s : (List Int)) (its : List Thing) => ∃ (a11 : AV), its = [.arr a11 1 false (List.map eI64 s), .cel id4 [a11]] ++ [.lp (List.length H8) (lcOf Try.prog i37.nt [15, 16] ra37_1 rb37_1) [(5, .ptr id4 0)] .ready]) hyo1030 H its hT hH o1030 ho1030) ?_
  rintro its hT
  obtain ⟨a11, rfl⟩ := hT
  refine ⟨_, _, rfl, ?_⟩
  intro H1031 hF
  replace hH : Fp H H1031 [] [.cel id9 [s_eI64 false r7.1], .cel id10 (c_api_Topo r7.2.Topo), .arr a11 1 false (List.map eI64 o1030), .cel id4 [a11]] := Fp.after (Fp.pick hH [0, 1, 3, 2] rfl) hF
  have hfa11 := own_form (Fp.get hH 2 rfl)
  refine outQ_ready (S := ⟨[(5, .ptr id4 0), (14, .fn 78 [] [.ptr id9 0, .ptr id10 0])], [], H1031⟩) ?_
  refine bn (tq ?_)
  refine kq ?_
  replace hH : Fp H H1031 [] [.arr a11 1 false (List.map eI64 o1030), .cel id4 [a11]] := Fp.pick hH [2, 3] rfl
  refine sq ?_
  have hlc1032 := Fp.get hH 1 rfl
  refine rgS ⟨[(4, a11)], [], H1031⟩ (APath.u 0 (st_loadC (H := H1031) (id := id4) (off := 0) (cs := [a11]) (c := [a11]) (r := a11) (by rcases hfa11 with ha11e | ⟨_, _, ha11e⟩ <;> subst ha11e <;> kernel_rfl) (by rcases hfa11 with ha11e | ⟨_, _, ha11e⟩ <;> subst ha11e <;> kernel_rfl) hlc1032 (by rcases hfa11 with ha11e | ⟨_, _, ha11e⟩ <;> subst ha11e <;> kernel_rfl) (by rcases hfa11 with ha11e | ⟨_, _, ha11e⟩ <;> subst ha11e <;> kernel_rfl) (by rcases hfa11 with ha11e | ⟨_, _, ha11e⟩ <;> subst ha11e <;> kernel_rfl)) APath.f) (by rcases hfa11 with ha11e | ⟨_, _, ha11e⟩ <;> subst ha11e <;> kernel_rfl) ?_
  replace hH : Fp H H1031 [] [.arr a11 1 false (List.map eI64 o1030)] := Fp.pick hH [0] rfl
  refine tq (rt ?_)
  obtain rfl := some_inj h
  exact ⟨[a11], (by rcases hfa11 with ha11e | ⟨_, _, ha11e⟩ <;> subst ha11e <;> kernel_rfl), a11, (by rcases hfa11 with ha11e | ⟨_, _, ha11e⟩ <;> subst ha11e <;> kernel_rfl), Fp.pk hH [0] rfl⟩
theorem route_Nodes_1_V1_ok (N : Nat) (a0_ : route_walk) (c0_ : (List Int)) (k0_ : Nat) (H : List HO) (hH : HP H [.cel k0_ [s_eI64 false c0_]]) (r : (List Int) × Int) (h : route_Nodes_1_V1 N a0_ c0_ = some r) : ∃ (or_0_0_ : AV) (H' : List HO), ACall Try.prog 36 [.agg (c_api_Topo a0_.Topo), .ptr k0_ 0] H (.tup [or_0_0_, iv r.2]) H' ∧ Fp H H' [.cel k0_ [s_eI64 false c0_]] [.cel k0_ [s_eI64 false c0_], .arr or_0_0_ 1 false (List.map eI64 r.1)] := by
  suffices hs : ∃ r' H', ACall Try.prog 36 [.agg (c_api_Topo a0_.Topo), .ptr k0_ 0] H r' H' ∧ ∃ (or_0_0_ : AV), r' = .tup [or_0_0_, iv r.2] ∧ Fp H H' [.cel k0_ [s_eI64 false c0_]] [.cel k0_ [s_eI64 false c0_], .arr or_0_0_ 1 false (List.map eI64 r.1)] by
    obtain ⟨_, H', h1, or_0_0_, he, h2⟩ := hs
    exact ⟨or_0_0_, H', he ▸ h1, h2⟩
  unfold route_Nodes_1_V1 at h
  replace hH := Fp.refl hH
  refine acall_detRW chk36 [k0_] (fun r' H' => ∃ (or_0_0_ : AV), r' = .tup [or_0_0_, iv r.2] ∧ Fp H H' [.cel k0_ [s_eI64 false c0_]] [.cel k0_ [s_eI64 false c0_], .arr or_0_0_ 1 false (List.map eI64 r.1)]) (fun r' H' q => by obtain ⟨or_0_0_, e, hp⟩ := q; subst e; have hfor_0_0_ := own_form (Fp.get hp 1 rfl); show noLoc _ = true; rcases hfor_0_0_ with hor_0_0_e | ⟨_, _, hor_0_0_e⟩ <;> subst hor_0_0_e <;> rfl) rfl (by kernel_rfl) ?_
  refine sq (rg APath.f ?_)
  refine tq (sq ?_)
  have hlc1 := Fp.get hH 0 rfl
  obtain ⟨r2, hr2, h⟩ := bs h
  obtain ⟨a3, H4, hvr2, hpr2⟩ := route_walk_nodes_V1_ok N a0_ c0_    H (Fp.now (Fp.pick hH [] rfl)) r2 hr2
  replace hH : Fp H H4 [.cel k0_ [s_eI64 false c0_]] [.arr a3 1 false (List.map eI64 r2), .cel k0_ [s_eI64 false c0_]] := Fp.callee (fp := []) (rest := [.cel k0_ [s_eI64 false c0_]]) (Fp.pick hH [0] rfl) hpr2
  have hfa3 := own_form (Fp.get hH 0 rfl)
  refine rgS ⟨[(3, a3), (4, iv 0)], [], H4⟩ (APath.u 1 (st_loadC (H := H) (id := k0_) (off := 0) (cs := [s_eI64 false c0_]) (c := [s_eI64 false c0_]) (r := s_eI64 false c0_) (by kernel_rfl) (by kernel_rfl) hlc1 (by kernel_rfl) (by kernel_rfl) (by kernel_rfl)) (APath.v 0 (st_callL (H := H) (ys := [.agg (c_api_Topo a0_.Topo), s_eI64 false c0_]) (by kernel_rfl) (by kernel_rfl) [[], []] (passL_cons (passV_frz rfl) (passL_cons (passV_frz rfl) passL_nil')) hvr2) APath.f)) (by rcases hfa3 with ha3e | ⟨_, _, ha3e⟩ <;> subst ha3e <;> kernel_rfl) ?_
  refine tq (rt ?_)
  obtain rfl := some_inj h
  exact ⟨[a3, iv 0], (by rcases hfa3 with ha3e | ⟨_, _, ha3e⟩ <;> subst ha3e <;> kernel_rfl), a3, (by rcases hfa3 with ha3e | ⟨_, _, ha3e⟩ <;> subst ha3e <;> kernel_rfl), Fp.pk (Fp.weak1 (k := 1) hH rfl) [1, 0] rfl⟩
theorem route_ask__int_V1_ok (N : Nat) (a0_ : api_Topo) (a1_ : (List Int)) (f2_0_ : (List Int)) (q2_0_ : Nat) (H : List HO) (hH : HP H [.cel q2_0_ [s_eI64 false f2_0_]]) (r : (List Int) × Int) (h : route_ask__int_V1 N a0_ a1_ f2_0_ = some r) : ∃ (or_0_0_ : AV) (H' : List HO), ACall Try.prog 35 [.agg (c_api_Topo a0_), s_eI64 false a1_, .fn 36 [] [.ptr q2_0_ 0]] H (.tup [or_0_0_, iv r.2]) H' ∧ Fp H H' [.cel q2_0_ [s_eI64 false f2_0_]] [.cel q2_0_ [s_eI64 false f2_0_], .arr or_0_0_ 1 false (List.map eI64 r.1)] := by
  suffices hs : ∃ r' H', ACall Try.prog 35 [.agg (c_api_Topo a0_), s_eI64 false a1_, .fn 36 [] [.ptr q2_0_ 0]] H r' H' ∧ ∃ (or_0_0_ : AV), r' = .tup [or_0_0_, iv r.2] ∧ Fp H H' [.cel q2_0_ [s_eI64 false f2_0_]] [.cel q2_0_ [s_eI64 false f2_0_], .arr or_0_0_ 1 false (List.map eI64 r.1)] by
    obtain ⟨_, H', h1, or_0_0_, he, h2⟩ := hs
    exact ⟨or_0_0_, H', he ▸ h1, h2⟩
  unfold route_ask__int_V1 at h
  replace hH := Fp.refl hH
  refine acall_detRW chk35 [q2_0_] (fun r' H' => ∃ (or_0_0_ : AV), r' = .tup [or_0_0_, iv r.2] ∧ Fp H H' [.cel q2_0_ [s_eI64 false f2_0_]] [.cel q2_0_ [s_eI64 false f2_0_], .arr or_0_0_ 1 false (List.map eI64 r.1)]) (fun r' H' q => by obtain ⟨or_0_0_, e, hp⟩ := q; subst e; have hfor_0_0_ := own_form (Fp.get hp 1 rfl); show noLoc _ = true; rcases hfor_0_0_ with hor_0_0_e | ⟨_, _, hor_0_0_e⟩ <;> subst hor_0_0_e <;> rfl) rfl (by kernel_rfl) ?_
  refine sq (rg APath.f ?_)
  refine tq (sq ?_)
  refine rg APath.f (tq ?_)
  refine sq (sq ?_)
  obtain ⟨r1, hr1, h⟩ := bs h
  refine rg (APath.v 2 (st_call (by kernel_rfl) (route_Check_ok N a0_ a1_ r1 hr1)) APath.f) (tq ?_)
  refine sq (rg APath.f ?_)
  refine tq (it h (fun hc2 h => ?_) (fun hc2 h => ?_))
  · refine sq (rg APath.f ?_)
    refine tq (rt ?_)
    refine tr ?_
    obtain rfl := some_inj h
    exact ⟨[s_eI64 true [], iv r1], (by kernel_rfl), (.p (.sl 1 true [])), (by kernel_rfl), Fp.pk (Fp.nilArr (Fp.weak1 (k := 0) hH rfl) 1 false) [1, 0] rfl⟩
  refine sk (tq ?_)
  refine kq (sq ?_)
  obtain ⟨r3, hr3, h⟩ := bs h
  obtain ⟨a4, H5, hvr3, hpr3⟩ := route_Nodes_1_V1_ok N (route_walk.mk a0_) f2_0_ q2_0_  H (Fp.now (Fp.pick hH [0] rfl)) r3 hr3
  replace hH : Fp H H5 [.cel q2_0_ [s_eI64 false f2_0_]] [.cel q2_0_ [s_eI64 false f2_0_], .arr a4 1 false (List.map eI64 r3.1)] := Fp.callee (fp := [.cel q2_0_ [s_eI64 false f2_0_]]) (rest := []) (Fp.pick hH [0] rfl) hpr3
  have hfa4 := own_form (Fp.get hH 1 rfl)
  refine rgS ⟨[(6, a4), (7, iv r3.2)], [], H5⟩ (APath.v 3 (st_callV (H := H) (fv := .fn 36 [] [.ptr q2_0_ 0]) (ys := [.agg (c_api_Topo a0_)]) (by kernel_rfl) (by kernel_rfl) (by kernel_rfl) (VCall.ofP [[], []] (passL_cons (passV_frz rfl) (passL_cons (passV_frz rfl) passL_nil')) hvr3)) APath.f) (by rcases hfa4 with ha4e | ⟨_, _, ha4e⟩ <;> subst ha4e <;> kernel_rfl) ?_
  refine tq (rt ?_)
  obtain rfl := some_inj h
  exact ⟨[a4, iv r3.2], (by rcases hfa4 with ha4e | ⟨_, _, ha4e⟩ <;> subst ha4e <;> kernel_rfl), a4, (by rcases hfa4 with ha4e | ⟨_, _, ha4e⟩ <;> subst ha4e <;> kernel_rfl), Fp.pk (Fp.weak1 (k := 0) hH rfl) [0, 1] rfl⟩
theorem route_Nodes_V1_ok (N : Nat) (a0_ : api_Topo) (a1_ : (List Int)) (H : List HO) (hH : HP H []) (r : (List Int) × Int) (h : route_Nodes_V1 N a0_ a1_ = some r) : ∃ (or_0_0_ : AV) (H' : List HO), ACall Try.prog 13 [.agg (c_api_Topo a0_), s_eI64 false a1_] H (.tup [or_0_0_, iv r.2]) H' ∧ Fp H H' [] [.arr or_0_0_ 1 false (List.map eI64 r.1)] := by
  suffices hs : ∃ r' H', ACall Try.prog 13 [.agg (c_api_Topo a0_), s_eI64 false a1_] H r' H' ∧ ∃ (or_0_0_ : AV), r' = .tup [or_0_0_, iv r.2] ∧ Fp H H' [] [.arr or_0_0_ 1 false (List.map eI64 r.1)] by
    obtain ⟨_, H', h1, or_0_0_, he, h2⟩ := hs
    exact ⟨or_0_0_, H', he ▸ h1, h2⟩
  unfold route_Nodes_V1 at h
  replace hH := Fp.refl hH
  refine acall_detRW chk13 [] (fun r' H' => ∃ (or_0_0_ : AV), r' = .tup [or_0_0_, iv r.2] ∧ Fp H H' [] [.arr or_0_0_ 1 false (List.map eI64 r.1)]) (fun r' H' q => by obtain ⟨or_0_0_, e, hp⟩ := q; subst e; have hfor_0_0_ := own_form (Fp.get hp 0 rfl); show noLoc _ = true; rcases hfor_0_0_ with hor_0_0_e | ⟨_, _, hor_0_0_e⟩ <;> subst hor_0_0_e <;> rfl) rfl (by kernel_rfl) ?_
  refine sq ?_
  obtain ⟨id1, H2, hid1, hH2, hH⟩ := Fp.newCell hH [s_eI64 false a1_]
  replace hH : Fp H H2 [] [.cel id1 [s_eI64 false a1_]] := hH
  refine rg (APath.h 1 (st_boxH (H := H) (v := s_eI64 false a1_) (by kernel_rfl) (by kernel_rfl) (by kernel_rfl) hid1 hH2) APath.f) (tq ?_)
  refine sq ?_
  have hlc3 := Fp.get hH 0 rfl
  obtain ⟨r4, hr4, h⟩ := bs h
  obtain ⟨a5, H6, hvr4, hpr4⟩ := route_ask__int_V1_ok N a0_ a1_ a1_  id1  H2 (Fp.now (Fp.pick hH [0] rfl)) r4 hr4
  replace hH : Fp H H6 [] [.cel id1 [s_eI64 false a1_], .arr a5 1 false (List.map eI64 r4.1)] := Fp.callee (fp := [.cel id1 [s_eI64 false a1_]]) (rest := []) (Fp.pick hH [0] rfl) hpr4
  have hfa5 := own_form (Fp.get hH 1 rfl)
  refine rgS ⟨[(4, a5), (5, iv r4.2)], [], H6⟩ (APath.u 1 (st_loadC (H := H2) (id := id1) (off := 0) (cs := [s_eI64 false a1_]) (c := [s_eI64 false a1_]) (r := s_eI64 false a1_) (by kernel_rfl) (by kernel_rfl) hlc3 (by kernel_rfl) (by kernel_rfl) (by kernel_rfl)) (APath.v 1 (st_callL (H := H2) (ys := [.agg (c_api_Topo a0_), s_eI64 false a1_, .fn 36 [] [.ptr id1 0]]) (by kernel_rfl) (by kernel_rfl) [[], [], []] (passL_cons (passV_frz rfl) (passL_cons (passV_frz rfl) (passL_cons (passV_frz rfl) passL_nil'))) hvr4) APath.f)) (by rcases hfa5 with ha5e | ⟨_, _, ha5e⟩ <;> subst ha5e <;> kernel_rfl) ?_
  replace hH : Fp H H6 [] [.arr a5 1 false (List.map eI64 r4.1)] := Fp.pick hH [1] rfl
  refine tq (rt ?_)
  obtain rfl := some_inj h
  exact ⟨[a5, iv r4.2], (by rcases hfa5 with ha5e | ⟨_, _, ha5e⟩ <;> subst ha5e <;> kernel_rfl), a5, (by rcases hfa5 with ha5e | ⟨_, _, ha5e⟩ <;> subst ha5e <;> kernel_rfl), Fp.pk hH [0] rfl⟩
end Go.Sh

