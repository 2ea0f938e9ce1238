/- The Go functions compute them; written by sym.py. -/
import Derived.Test.YtpadgoejolfllaaSh
import Derived.Test.YtpadgoejolfllaaChk
namespace Go.Sh
open Go Go.Eng Go.Proofs
set_option linter.unusedVariables false
set_option linter.unusedSimpArgs false
set_option maxRecDepth 100000
/- (isochronlaw29.Bend).of -/
theorem law29_Bend_of_ok (N : Nat) (a0_ : law29_Bend) (a1_ : api_Change) (r : api_Change) (h : law29_Bend_of N a0_ a1_ = some r) : PCall Try.prog 10 [.agg (c_law29_Bend a0_), .agg (c_api_Change a1_)] (.agg [s_e_api_Entry false r.Oper.Entries, iv r.Oper.Cycle, iv r.Base, bv r.Pending, s_e_api_Entry false r.Admin.Entries, iv r.Admin.Cycle, iv r.When]) := by
  unfold law29_Bend_of at h
  have hH : HP ([] : List HO) [] := trivial
  refine pcall_of chk10 rfl rfl (vc_sound _ _ _ ?_) rfl
  refine vc_seq ?_
  refine vc_reg (S := ⟨[(2, .loc 2 0), (3, .loc 3 0), (4, .loc 4 0)], [(2, (c_law29_Bend a0_)), (3, (c_api_Change a1_)), (4, [s_e_api_Entry true [], iv 0, iv 0, bv false, s_e_api_Entry true [], iv 0, iv 0])], []⟩) (APath.fin (by kernel_rfl)) (by kernel_rfl) ?_
  refine vc_seq ?_
  refine vc_reg (S := ⟨[(2, .loc 2 0), (3, .loc 3 0), (4, .loc 4 0), (5, .loc 5 0)], [(2, (c_law29_Bend a0_)), (3, (c_api_Change a1_)), (4, [s_e_api_Entry true [], iv 0, iv 0, bv false, s_e_api_Entry true [], iv 0, iv 0]), (5, (c_api_Gates a0_.G))], []⟩) (APath.fin (by kernel_rfl)) (by kernel_rfl) ?_
  refine vc_seq ?_
  obtain ⟨l1, hl1, h⟩ := bind_some h
  refine vc_reg (S := ⟨[(2, .loc 2 0), (3, .loc 3 0), (4, .loc 4 0), (5, .loc 5 0)], [(2, (c_law29_Bend a0_)), (3, (c_api_Change a1_)), (4, [s_e_api_Entry true [], iv 0, iv 0, bv false, s_e_api_Entry true [], iv 0, iv 0]), (5, [s_e_api_Entry false l1, iv a0_.G.Cycle])], []⟩) (APath.chunk 4 (by kernel_rfl) (APath.one (.val 12 .len [.t 11]) (by kernel_rfl) (st_val (ys := [s_e_api_Entry false a0_.G.Entries]) (by kernel_rfl) (vexec_len e_api_Entry)) (APath.chunk 1 (by kernel_rfl) (APath.one (.val 14 (.slice 2 false true false) [.t 9, .t 13]) (by kernel_rfl) (st_val (ys := [s_e_api_Entry false a0_.G.Entries, iv (if 130 < ((List.length a0_.G.Entries : Nat) : Int) then 130 else ((List.length a0_.G.Entries : Nat) : Int))]) (by kernel_rfl) (vexec_sliceHi e_api_Entry hl1)) (APath.fin (by kernel_rfl)))))) (by kernel_rfl) ?_
  obtain ⟨j502, hj502, h⟩ := bind_some h
  refine vc_joinK [3, 4] (fun s => s = ⟨[(3, .loc 3 0), (4, .loc 4 0)], [(3, [s_e_api_Entry false j502.1, iv j502.2.1, iv j502.2.2.1, bv j502.2.2.2.1, s_e_api_Entry false j502.2.2.2.2.1, iv j502.2.2.2.2.2.1, iv j502.2.2.2.2.2.2]), (4, [s_e_api_Entry true [], iv 0, iv 0, bv false, s_e_api_Entry true [], iv 0, iv 0])], []⟩) ?_ ?_
  · clear h
    have h := hj502
    refine vc_seq ?_
    refine vc_reg (S := ⟨[(2, .loc 2 0), (3, .loc 3 0), (4, .loc 4 0), (5, .loc 5 0), (18, .p (.int .u8 (Int.tmod a0_.What 6)))], [(2, (c_law29_Bend a0_)), (3, (c_api_Change a1_)), (4, [s_e_api_Entry true [], iv 0, iv 0, bv false, s_e_api_Entry true [], iv 0, iv 0]), (5, [s_e_api_Entry false l1, iv a0_.G.Cycle])], []⟩) (APath.fin (by kernel_rfl)) (by kernel_rfl) ?_
    refine vc_block ?_
    refine vc_seq ?_
    refine vc_reg (S := ⟨[(2, .loc 2 0), (3, .loc 3 0), (4, .loc 4 0), (5, .loc 5 0), (18, .p (.int .u8 (Int.tmod a0_.What 6))), (26, bv ((Int.tmod a0_.What 6) == 0))], [(2, (c_law29_Bend a0_)), (3, (c_api_Change a1_)), (4, [s_e_api_Entry true [], iv 0, iv 0, bv false, s_e_api_Entry true [], iv 0, iv 0]), (5, [s_e_api_Entry false l1, iv a0_.G.Cycle])], []⟩) (APath.fin (by kernel_rfl)) (by kernel_rfl) ?_
    refine vc_ite (by kernel_rfl) h (fun hc503 h => ?_) (fun hc503 h => ?_)
    · refine vc_reg (S := ⟨[(3, .loc 3 0), (4, .loc 4 0)], [(3, [s_e_api_Entry false l1, iv a0_.G.Cycle, iv a1_.Base, bv a1_.Pending, s_e_api_Entry false a1_.Admin.Entries, iv a1_.Admin.Cycle, iv a1_.When]), (4, [s_e_api_Entry true [], iv 0, iv 0, bv false, s_e_api_Entry true [], iv 0, iv 0])], []⟩) (APath.fin (by kernel_rfl)) (by kernel_rfl) ?_
      obtain rfl := some_inj h
      exact ⟨rfl, (by show _ = _; kernel_rfl)⟩
    · refine vc_seq ?_
      refine vc_reg (S := ⟨[(2, .loc 2 0), (3, .loc 3 0), (4, .loc 4 0), (5, .loc 5 0), (18, .p (.int .u8 (Int.tmod a0_.What 6))), (30, bv ((Int.tmod a0_.What 6) == 1))], [(2, (c_law29_Bend a0_)), (3, (c_api_Change a1_)), (4, [s_e_api_Entry true [], iv 0, iv 0, bv false, s_e_api_Entry true [], iv 0, iv 0]), (5, [s_e_api_Entry false l1, iv a0_.G.Cycle])], []⟩) (APath.fin (by kernel_rfl)) (by kernel_rfl) ?_
      refine vc_ite (by kernel_rfl) h (fun hc504 h => ?_) (fun hc504 h => ?_)
      · refine vc_reg (S := ⟨[(3, .loc 3 0), (4, .loc 4 0)], [(3, [s_e_api_Entry false a1_.Oper.Entries, iv a1_.Oper.Cycle, iv a1_.Base, bv a1_.Pending, s_e_api_Entry false l1, iv a0_.G.Cycle, iv a1_.When]), (4, [s_e_api_Entry true [], iv 0, iv 0, bv false, s_e_api_Entry true [], iv 0, iv 0])], []⟩) (APath.fin (by kernel_rfl)) (by kernel_rfl) ?_
        obtain rfl := some_inj h
        exact ⟨rfl, (by show _ = _; kernel_rfl)⟩
      · refine vc_seq ?_
        refine vc_reg (S := ⟨[(2, .loc 2 0), (3, .loc 3 0), (4, .loc 4 0), (18, .p (.int .u8 (Int.tmod a0_.What 6))), (34, bv ((Int.tmod a0_.What 6) == 2))], [(2, (c_law29_Bend a0_)), (3, (c_api_Change a1_)), (4, [s_e_api_Entry true [], iv 0, iv 0, bv false, s_e_api_Entry true [], iv 0, iv 0])], []⟩) (APath.fin (by kernel_rfl)) (by kernel_rfl) ?_
        refine vc_ite (by kernel_rfl) h (fun hc505 h => ?_) (fun hc505 h => ?_)
        · refine vc_reg (S := ⟨[(3, .loc 3 0), (4, .loc 4 0)], [(3, [s_e_api_Entry false a1_.Oper.Entries, iv a1_.Oper.Cycle, iv a0_.N_, bv a1_.Pending, s_e_api_Entry false a1_.Admin.Entries, iv a1_.Admin.Cycle, iv a1_.When]), (4, [s_e_api_Entry true [], iv 0, iv 0, bv false, s_e_api_Entry true [], iv 0, iv 0])], []⟩) (APath.fin (by kernel_rfl)) (by kernel_rfl) ?_
          obtain rfl := some_inj h
          exact ⟨rfl, (by show _ = _; kernel_rfl)⟩
        · refine vc_seq ?_
          refine vc_reg (S := ⟨[(2, .loc 2 0), (3, .loc 3 0), (4, .loc 4 0), (18, .p (.int .u8 (Int.tmod a0_.What 6))), (39, bv ((Int.tmod a0_.What 6) == 3))], [(2, (c_law29_Bend a0_)), (3, (c_api_Change a1_)), (4, [s_e_api_Entry true [], iv 0, iv 0, bv false, s_e_api_Entry true [], iv 0, iv 0])], []⟩) (APath.fin (by kernel_rfl)) (by kernel_rfl) ?_
          refine vc_ite (by kernel_rfl) h (fun hc506 h => ?_) (fun hc506 h => ?_)
          · refine vc_reg (S := ⟨[(3, .loc 3 0), (4, .loc 4 0)], [(3, [s_e_api_Entry false a1_.Oper.Entries, iv a1_.Oper.Cycle, iv a1_.Base, bv a1_.Pending, s_e_api_Entry false a1_.Admin.Entries, iv a1_.Admin.Cycle, iv a0_.N_]), (4, [s_e_api_Entry true [], iv 0, iv 0, bv false, s_e_api_Entry true [], iv 0, iv 0])], []⟩) (APath.fin (by kernel_rfl)) (by kernel_rfl) ?_
            obtain rfl := some_inj h
            exact ⟨rfl, (by show _ = _; kernel_rfl)⟩
          · refine vc_seq ?_
            refine vc_reg (S := ⟨[(2, .loc 2 0), (3, .loc 3 0), (4, .loc 4 0), (44, bv ((Int.tmod a0_.What 6) == 4))], [(2, (c_law29_Bend a0_)), (3, (c_api_Change a1_)), (4, [s_e_api_Entry true [], iv 0, iv 0, bv false, s_e_api_Entry true [], iv 0, iv 0])], []⟩) (APath.fin (by kernel_rfl)) (by kernel_rfl) ?_
            refine vc_ite (by kernel_rfl) h (fun hc507 h => ?_) (fun hc507 h => ?_)
            · refine vc_reg (S := ⟨[(3, .loc 3 0), (4, .loc 4 0)], [(3, [s_e_api_Entry false a1_.Oper.Entries, iv a1_.Oper.Cycle, iv a1_.Base, bv (!a1_.Pending), s_e_api_Entry false a1_.Admin.Entries, iv a1_.Admin.Cycle, iv a1_.When]), (4, [s_e_api_Entry true [], iv 0, iv 0, bv false, s_e_api_Entry true [], iv 0, iv 0])], []⟩) (APath.fin (by kernel_rfl)) (by kernel_rfl) ?_
              obtain rfl := some_inj h
              exact ⟨rfl, (by show _ = _; kernel_rfl)⟩
            · refine vc_reg (S := ⟨[(3, .loc 3 0), (4, .loc 4 0)], [(3, [s_e_api_Entry false a1_.Oper.Entries, iv a1_.Oper.Cycle, iv a1_.Base, bv a1_.Pending, s_e_api_Entry false a1_.Admin.Entries, iv a1_.Admin.Cycle, iv (w64 (a1_.When + (Int.tmod a0_.N_ 3)))]), (4, [s_e_api_Entry true [], iv 0, iv 0, bv false, s_e_api_Entry true [], iv 0, iv 0])], []⟩) (APath.fin (by kernel_rfl)) (by kernel_rfl) ?_
              obtain rfl := some_inj h
              exact ⟨rfl, (by show _ = _; kernel_rfl)⟩
  · clear hj502
    rintro s hR
    obtain rfl := hR
    refine vc_seq ?_
    refine vc_reg (S := ⟨[(4, .loc 4 0)], [(4, [s_e_api_Entry false j502.1, iv j502.2.1, iv j502.2.2.1, bv j502.2.2.2.1, s_e_api_Entry false j502.2.2.2.2.1, iv j502.2.2.2.2.2.1, iv j502.2.2.2.2.2.2])], []⟩) (APath.fin (by kernel_rfl)) (by kernel_rfl) ?_
    refine vc_ret ?_
    obtain rfl := some_inj h
    exact ret_of (by kernel_rfl)
/- (isochronref27.Draft).Gates -/
theorem ref27_Draft_Gates_ok (N : Nat) (a0_ : ref27_Draft) (r : api_Gates) (h : ref27_Draft_Gates N a0_ = some r) : PCall Try.prog 21 [.agg (c_ref27_Draft a0_)] (.agg [s_e_api_Entry false r.Entries, iv r.Cycle]) := by
  unfold ref27_Draft_Gates at h
  have hH : HP ([] : List HO) [] := trivial
  refine pcall_of chk21 rfl rfl (vc_sound _ _ _ ?_) rfl
  refine vc_seq ?_
  refine vc_reg (S := ⟨[(1, .loc 1 0), (2, .loc 2 0)], [(1, (c_ref27_Draft a0_)), (2, [s_e_api_Entry true [], iv 0])], []⟩) (APath.fin (by kernel_rfl)) (by kernel_rfl) ?_
  refine vc_seq ?_
  refine vc_reg (S := ⟨[(1, .loc 1 0), (2, .loc 2 0), (3, .loc 3 0)], [(1, (c_ref27_Draft a0_)), (2, [s_e_api_Entry true [], iv 0]), (3, [s_e_api_Entry true [], iv 0])], []⟩) (APath.fin (by kernel_rfl)) (by kernel_rfl) ?_
  refine vc_seq ?_
  refine vc_seq ?_
  refine vc_reg (S := ⟨[(1, .loc 1 0), (2, .loc 2 0), (3, .loc 3 0), (4, iv 0)], [(1, (c_ref27_Draft a0_)), (2, [s_e_api_Entry true [], iv 0]), (3, [s_e_api_Entry true [], iv 0])], []⟩) (APath.fin (by kernel_rfl)) (by kernel_rfl) ?_
  refine vc_block ?_
  obtain ⟨o1518, ho1518, h⟩ := bind_some h
  refine vc_loop ((loop_sim (fun (x : Int × Int × (List api_Entry)) s => ∃ (a1 : AV) (H2 : List HO), s = ⟨[(1, .loc 1 0), (2, .loc 2 0), (3, .loc 3 0), (4, iv x.1)], [(1, (c_ref27_Draft a0_)), (2, [s_e_api_Entry true [], iv 0]), (3, [a1, iv x.2.1])], H2⟩ ∧ HP H2 [.arr a1 2 false (List.map e_api_Entry x.2.2)]) (fun x : Int × Int × (List api_Entry) => ref27_Draft_Gates_L1 N a0_ x.1 x.2.1 x.2.2) (fun (p : Int × Int × (List api_Entry)) e s => e = .exit 0 ∧ (∃ (a506 : AV) (H507 : List HO), s = ⟨[(1, .loc 1 0), (2, .loc 2 0), (3, .loc 3 0), (4, iv p.1)], [(1, (c_ref27_Draft a0_)), (2, [s_e_api_Entry true [], iv 0]), (3, [a506, iv p.2.1])], H507⟩ ∧ HP H507 [.arr a506 2 false (List.map e_api_Entry p.2.2)])) ?_ N _ o1518 _ ho1518 ⟨(.p (.sl 2 true [])), [], (by show _ = _; kernel_rfl), (HP.pick (HP.nilArr hH 2 false) [0] rfl)⟩).mono ?_)
  · clear h ho1518
    rintro ⟨i3, i4, l5⟩ o s h hR
    obtain ⟨a1, H2, rfl, hH⟩ := hR
    replace hH : HP H2 [.arr a1 2 false (List.map e_api_Entry l5)] := hH
    have hfa1 := own_form (HP.get hH 0 rfl)
    replace h : ref27_Draft_Gates_L1 N a0_ i3 i4 l5 = some o := h
    unfold ref27_Draft_Gates_L1 at h
    refine vc_seq ?_
    refine vc_seq ?_
    refine vc_reg (S := ⟨[(1, .loc 1 0), (2, .loc 2 0), (3, .loc 3 0), (4, iv i3), (12, bv (decide (i3 < (if (if 16 < ((List.length a0_.Masks : Nat) : Int) then 16 else ((List.length a0_.Masks : Nat) : Int)) > 1 then (if 16 < ((List.length a0_.Masks : Nat) : Int) then 16 else ((List.length a0_.Masks : Nat) : Int)) else 1))))], [(1, (c_ref27_Draft a0_)), (2, [s_e_api_Entry true [], iv 0]), (3, [a1, iv i4])], H2⟩) (APath.chunk 3 (by rcases hfa1 with ha1e | ⟨_, _, ha1e⟩ <;> subst ha1e <;> kernel_rfl) (APath.one (.val 9 .len [.t 8]) (by kernel_rfl) (st_val (ys := [s_eI_u8 false a0_.Masks]) (by rcases hfa1 with ha1e | ⟨_, _, ha1e⟩ <;> subst ha1e <;> kernel_rfl) (vexec_len (eI .u8))) (APath.fin (by rcases hfa1 with ha1e | ⟨_, _, ha1e⟩ <;> subst ha1e <;> kernel_rfl)))) (by rcases hfa1 with ha1e | ⟨_, _, ha1e⟩ <;> subst ha1e <;> kernel_rfl) ?_
    refine vc_ite (by kernel_rfl) h (fun hc508 h => ?_) (fun hc508 h => ?_)
    · refine vc_skip ?_
      refine vc_kp ?_
      refine vc_seq ?_
      refine vc_block ?_
      refine vc_seq ?_
      refine vc_reg (S := ⟨[(1, .loc 1 0), (2, .loc 2 0), (3, .loc 3 0), (4, iv i3), (5, .loc 5 0)], [(1, (c_ref27_Draft a0_)), (2, [s_e_api_Entry true [], iv 0]), (3, [a1, iv i4]), (5, [iv 127, iv 1])], H2⟩) (APath.fin (by rcases hfa1 with ha1e | ⟨_, _, ha1e⟩ <;> subst ha1e <;> kernel_rfl)) (by rcases hfa1 with ha1e | ⟨_, _, ha1e⟩ <;> subst ha1e <;> kernel_rfl) ?_
      obtain ⟨j1009, hj1009, h⟩ := bind_some h
      refine vc_joinK [1, 2, 3, 4, 5] (fun s => s = ⟨[(1, .loc 1 0), (2, .loc 2 0), (3, .loc 3 0), (4, iv i3), (5, .loc 5 0)], [(1, (c_ref27_Draft a0_)), (2, [s_e_api_Entry true [], iv 0]), (3, [a1, iv i4]), (5, [iv j1009, iv 1])], H2⟩) ?_ ?_
      · clear h
        have h := hj1009
        refine vc_seq ?_
        refine vc_reg (S := ⟨[(1, .loc 1 0), (2, .loc 2 0), (3, .loc 3 0), (4, iv i3), (5, .loc 5 0), (20, bv (decide (i3 < ((List.length a0_.Masks : Nat) : Int))))], [(1, (c_ref27_Draft a0_)), (2, [s_e_api_Entry true [], iv 0]), (3, [a1, iv i4]), (5, [iv 127, iv 1])], H2⟩) (APath.chunk 3 (by rcases hfa1 with ha1e | ⟨_, _, ha1e⟩ <;> subst ha1e <;> kernel_rfl) (APath.one (.val 19 .len [.t 18]) (by kernel_rfl) (st_val (ys := [s_eI_u8 false a0_.Masks]) (by rcases hfa1 with ha1e | ⟨_, _, ha1e⟩ <;> subst ha1e <;> kernel_rfl) (vexec_len (eI .u8))) (APath.fin (by rcases hfa1 with ha1e | ⟨_, _, ha1e⟩ <;> subst ha1e <;> kernel_rfl)))) (by rcases hfa1 with ha1e | ⟨_, _, ha1e⟩ <;> subst ha1e <;> kernel_rfl) ?_
        refine vc_ite (by kernel_rfl) h (fun hc1010 h => ?_) (fun hc1010 h => ?_)
        · obtain ⟨e1011, he1011, h⟩ := bind_some h
          refine vc_reg (S := ⟨[(1, .loc 1 0), (2, .loc 2 0), (3, .loc 3 0), (4, iv i3), (5, .loc 5 0)], [(1, (c_ref27_Draft a0_)), (2, [s_e_api_Entry true [], iv 0]), (3, [a1, iv i4]), (5, [iv (w64 (e1011)), iv 1])], H2⟩) (APath.chunk 3 (by rcases hfa1 with ha1e | ⟨_, _, ha1e⟩ <;> subst ha1e <;> kernel_rfl) (APath.one (.val 24 (.iaddrS 1) [.t 22, .t 23]) (by kernel_rfl) (st_val (ys := [s_eI_u8 false a0_.Masks, iv i3]) (by rcases hfa1 with ha1e | ⟨_, _, ha1e⟩ <;> subst ha1e <;> kernel_rfl) (vexec_iaddrS (eI .u8) he1011)) (APath.one (.load 25 (.t 24) 1 false) (by kernel_rfl) (st_loadP (sz := 1) (off := 0) (cs := [.int .u8 e1011]) (r := .p (.int .u8 e1011)) (eI .u8) he1011 (by rcases hfa1 with ha1e | ⟨_, _, ha1e⟩ <;> subst ha1e <;> kernel_rfl) (by rcases hfa1 with ha1e | ⟨_, _, ha1e⟩ <;> subst ha1e <;> kernel_rfl) (by rcases hfa1 with ha1e | ⟨_, _, ha1e⟩ <;> subst ha1e <;> kernel_rfl)) (APath.fin (by rcases hfa1 with ha1e | ⟨_, _, ha1e⟩ <;> subst ha1e <;> kernel_rfl))))) (by rcases hfa1 with ha1e | ⟨_, _, ha1e⟩ <;> subst ha1e <;> kernel_rfl) ?_
          obtain rfl := some_inj h
          exact ⟨rfl, (by show _ = _; rcases hfa1 with ha1e | ⟨_, _, ha1e⟩ <;> subst ha1e <;> kernel_rfl)⟩
        · refine vc_skip ?_
          obtain rfl := some_inj h
          exact ⟨rfl, (by show _ = _; rcases hfa1 with ha1e | ⟨_, _, ha1e⟩ <;> subst ha1e <;> kernel_rfl)⟩
      · clear hj1009
        rintro s hR
        obtain rfl := hR
        obtain ⟨j1512, hj1512, h⟩ := bind_some h
        refine vc_joinK [1, 2, 3, 4, 5] (fun s => s = ⟨[(1, .loc 1 0), (2, .loc 2 0), (3, .loc 3 0), (4, iv i3), (5, .loc 5 0)], [(1, (c_ref27_Draft a0_)), (2, [s_e_api_Entry true [], iv 0]), (3, [a1, iv i4]), (5, [iv j1009, iv j1512])], H2⟩) ?_ ?_
        · clear h
          have h := hj1512
          refine vc_seq ?_
          refine vc_reg (S := ⟨[(1, .loc 1 0), (2, .loc 2 0), (3, .loc 3 0), (4, iv i3), (5, .loc 5 0), (32, bv (decide (i3 < ((List.length a0_.Longs : Nat) : Int))))], [(1, (c_ref27_Draft a0_)), (2, [s_e_api_Entry true [], iv 0]), (3, [a1, iv i4]), (5, [iv j1009, iv 1])], H2⟩) (APath.chunk 3 (by rcases hfa1 with ha1e | ⟨_, _, ha1e⟩ <;> subst ha1e <;> kernel_rfl) (APath.one (.val 31 .len [.t 30]) (by kernel_rfl) (st_val (ys := [s_eI_u8 false a0_.Longs]) (by rcases hfa1 with ha1e | ⟨_, _, ha1e⟩ <;> subst ha1e <;> kernel_rfl) (vexec_len (eI .u8))) (APath.fin (by rcases hfa1 with ha1e | ⟨_, _, ha1e⟩ <;> subst ha1e <;> kernel_rfl)))) (by rcases hfa1 with ha1e | ⟨_, _, ha1e⟩ <;> subst ha1e <;> kernel_rfl) ?_
          refine vc_ite (by kernel_rfl) h (fun hc1513 h => ?_) (fun hc1513 h => ?_)
          · obtain ⟨e1514, he1514, h⟩ := bind_some h
            refine vc_reg (S := ⟨[(1, .loc 1 0), (2, .loc 2 0), (3, .loc 3 0), (4, iv i3), (5, .loc 5 0)], [(1, (c_ref27_Draft a0_)), (2, [s_e_api_Entry true [], iv 0]), (3, [a1, iv i4]), (5, [iv j1009, iv (w64 (1 + (w64 ((Int.tmod e1514 20)))))])], H2⟩) (APath.chunk 3 (by rcases hfa1 with ha1e | ⟨_, _, ha1e⟩ <;> subst ha1e <;> kernel_rfl) (APath.one (.val 36 (.iaddrS 1) [.t 34, .t 35]) (by kernel_rfl) (st_val (ys := [s_eI_u8 false a0_.Longs, iv i3]) (by rcases hfa1 with ha1e | ⟨_, _, ha1e⟩ <;> subst ha1e <;> kernel_rfl) (vexec_iaddrS (eI .u8) he1514)) (APath.one (.load 37 (.t 36) 1 false) (by kernel_rfl) (st_loadP (sz := 1) (off := 0) (cs := [.int .u8 e1514]) (r := .p (.int .u8 e1514)) (eI .u8) he1514 (by rcases hfa1 with ha1e | ⟨_, _, ha1e⟩ <;> subst ha1e <;> kernel_rfl) (by rcases hfa1 with ha1e | ⟨_, _, ha1e⟩ <;> subst ha1e <;> kernel_rfl) (by rcases hfa1 with ha1e | ⟨_, _, ha1e⟩ <;> subst ha1e <;> kernel_rfl)) (APath.fin (by rcases hfa1 with ha1e | ⟨_, _, ha1e⟩ <;> subst ha1e <;> kernel_rfl))))) (by rcases hfa1 with ha1e | ⟨_, _, ha1e⟩ <;> subst ha1e <;> kernel_rfl) ?_
            obtain rfl := some_inj h
            exact ⟨rfl, (by show _ = _; rcases hfa1 with ha1e | ⟨_, _, ha1e⟩ <;> subst ha1e <;> kernel_rfl)⟩
          · refine vc_skip ?_
            obtain rfl := some_inj h
            exact ⟨rfl, (by show _ = _; rcases hfa1 with ha1e | ⟨_, _, ha1e⟩ <;> subst ha1e <;> kernel_rfl)⟩
        · clear hj1512
          rintro s hR
          obtain rfl := hR
          refine vc_seq ?_
          obtain ⟨l1517, hl1517, h⟩ := bind_some h
          obtain ⟨a1515, H1516, ha1515, hH⟩ := HP.app (k := 0) (a := a1) (sz := 2) (frz := false) e_api_Entry hH rfl hl1517
          replace hH : HP H1516 [.arr a1515 2 false (List.map e_api_Entry l1517)] := hH
          have hfa1515 := own_form (HP.get hH 0 rfl)
          refine vc_reg (S := ⟨[(1, .loc 1 0), (2, .loc 2 0), (3, .loc 3 0), (4, iv i3), (5, .loc 5 0)], [(1, (c_ref27_Draft a0_)), (2, [s_e_api_Entry true [], iv 0]), (3, [a1515, iv i4]), (5, [iv j1009, iv j1512])], H1516⟩) (APath.chunk 4 (by rcases hfa1 with ha1e | ⟨_, _, ha1e⟩ <;> rcases hfa1515 with ha1515e | ⟨_, _, ha1515e⟩ <;> subst ha1e ha1515e <;> kernel_rfl) (APath.one (.app 46 (.t 43) (.t 45) 2 16) (by kernel_rfl) (st_app (H := H2) (a := a1) (b := s_e_api_Entry true [(api_Entry.mk j1009 j1512)]) (by rcases hfa1 with ha1e | ⟨_, _, ha1e⟩ <;> rcases hfa1515 with ha1515e | ⟨_, _, ha1515e⟩ <;> subst ha1e ha1515e <;> kernel_rfl) (by rcases hfa1 with ha1e | ⟨_, _, ha1e⟩ <;> rcases hfa1515 with ha1515e | ⟨_, _, ha1515e⟩ <;> subst ha1e ha1515e <;> kernel_rfl) (by rcases hfa1 with ha1e | ⟨_, _, ha1e⟩ <;> rcases hfa1515 with ha1515e | ⟨_, _, ha1515e⟩ <;> subst ha1e ha1515e <;> kernel_rfl) (by rcases hfa1 with ha1e | ⟨_, _, ha1e⟩ <;> rcases hfa1515 with ha1515e | ⟨_, _, ha1515e⟩ <;> subst ha1e ha1515e <;> kernel_rfl) ha1515) (APath.fin (by rcases hfa1 with ha1e | ⟨_, _, ha1e⟩ <;> rcases hfa1515 with ha1515e | ⟨_, _, ha1515e⟩ <;> subst ha1e ha1515e <;> kernel_rfl)))) (by rcases hfa1 with ha1e | ⟨_, _, ha1e⟩ <;> rcases hfa1515 with ha1515e | ⟨_, _, ha1515e⟩ <;> subst ha1e ha1515e <;> kernel_rfl) ?_
          refine vc_reg (S := ⟨[(1, .loc 1 0), (2, .loc 2 0), (3, .loc 3 0), (4, iv i3)], [(1, (c_ref27_Draft a0_)), (2, [s_e_api_Entry true [], iv 0]), (3, [a1515, iv (w64 (i4 + j1512))])], H1516⟩) (APath.fin (by rcases hfa1515 with ha1515e | ⟨_, _, ha1515e⟩ <;> subst ha1515e <;> kernel_rfl)) (by rcases hfa1515 with ha1515e | ⟨_, _, ha1515e⟩ <;> subst ha1515e <;> kernel_rfl) ?_
          refine vc_kp ?_
          refine vc_reg (S := ⟨[(1, .loc 1 0), (2, .loc 2 0), (3, .loc 3 0), (4, iv (w64 (i3 + 1)))], [(1, (c_ref27_Draft a0_)), (2, [s_e_api_Entry true [], iv 0]), (3, [a1515, iv (w64 (i4 + j1512))])], H1516⟩) (APath.fin (by rcases hfa1515 with ha1515e | ⟨_, _, ha1515e⟩ <;> subst ha1515e <;> kernel_rfl)) (by rcases hfa1515 with ha1515e | ⟨_, _, ha1515e⟩ <;> subst ha1515e <;> kernel_rfl) ?_
          obtain rfl := some_inj h
          exact ⟨_, rfl, ⟨a1515, H1516, (by show _ = _; rcases hfa1515 with ha1515e | ⟨_, _, ha1515e⟩ <;> subst ha1515e <;> kernel_rfl), (HP.pick hH [0] rfl)⟩⟩
    · refine vc_exit ?_
      try show vc _ _ _ _ _
      obtain rfl := some_inj h
      exact ⟨_, rfl, rfl, ⟨a1, H2, (by show _ = _; rcases hfa1 with ha1e | ⟨_, _, ha1e⟩ <;> subst ha1e <;> kernel_rfl), (HP.pick hH [0] rfl)⟩⟩
  · rintro e s hq
    obtain ⟨rfl, hR⟩ := hq
    obtain ⟨a506, H507, rfl, hH⟩ := hR
    replace hH : HP H507 [.arr a506 2 false (List.map e_api_Entry o1518.2.2)] := hH
    have hfa506 := own_form (HP.get hH 0 rfl)
    try show vc _ _ _ _ _
    refine vc_seq ?_
    refine vc_reg (S := ⟨[(2, .loc 2 0)], [(2, [a506, iv o1518.2.1])], H507⟩) (APath.fin (by rcases hfa506 with ha506e | ⟨_, _, ha506e⟩ <;> subst ha506e <;> kernel_rfl)) (by rcases hfa506 with ha506e | ⟨_, _, ha506e⟩ <;> subst ha506e <;> kernel_rfl) ?_
    refine vc_ret ?_
    obtain rfl := some_inj h
    exact ret_own (H := H507) (ys := [.agg [a506, iv o1518.2.1]]) (xs := [.agg [.p (.sl 2 false (List.map e_api_Entry o1518.2.2)), iv o1518.2.1]]) (by rcases hfa506 with ha506e | ⟨_, _, ha506e⟩ <;> subst ha506e <;> kernel_rfl) (by rcases hfa506 with ha506e | ⟨_, _, ha506e⟩ <;> subst ha506e <;> kernel_rfl) (pureVL_cons (pureV_agg (pureL_cons (HP.pure (k := 0) (frz := false) e_api_Entry hH rfl).1 (pureL_cons rfl pureL_nil))) pureVL_nil) (by kernel_rfl)
/- isochronlaw29.list -/
theorem law29_list_ok (N : Nat) (a0_ : (List Int)) (r : api_Gates) (h : law29_list N a0_ = some r) : PCall Try.prog 28 [s_eI64 false a0_] (.agg [s_e_api_Entry false r.Entries, iv r.Cycle]) := by
  unfold law29_list at h
  have hH : HP ([] : List HO) [] := trivial
  refine pcall_of chk28 rfl rfl (vc_sound _ _ _ ?_) rfl
  refine vc_seq ?_
  refine vc_reg (S := ⟨[(0, s_eI64 false a0_), (2, .loc 2 0)], [(2, [s_e_api_Entry true [], iv 0])], []⟩) (APath.fin (by kernel_rfl)) (by kernel_rfl) ?_
  refine vc_seq ?_
  refine vc_reg (S := ⟨[(0, s_eI64 false a0_), (2, .loc 2 0), (3, .loc 3 0)], [(2, [s_e_api_Entry true [], iv 0]), (3, [s_e_api_Entry true [], iv 0])], []⟩) (APath.fin (by kernel_rfl)) (by kernel_rfl) ?_
  refine vc_seq ?_
  refine vc_seq ?_
  refine vc_reg (S := ⟨[(0, s_eI64 false a0_), (2, .loc 2 0), (3, .loc 3 0), (4, iv 0)], [(2, [s_e_api_Entry true [], iv 0]), (3, [s_e_api_Entry true [], iv 0])], []⟩) (APath.fin (by kernel_rfl)) (by kernel_rfl) ?_
  refine vc_block ?_
  obtain ⟨o515, ho515, h⟩ := bind_some h
  refine vc_loop ((loop_sim (fun (x : Int × Int × (List api_Entry)) s => ∃ (a1 : AV) (H2 : List HO), s = ⟨[(0, s_eI64 false a0_), (2, .loc 2 0), (3, .loc 3 0), (4, iv x.1)], [(2, [s_e_api_Entry true [], iv 0]), (3, [a1, iv x.2.1])], H2⟩ ∧ HP H2 [.arr a1 2 false (List.map e_api_Entry x.2.2)]) (fun x : Int × Int × (List api_Entry) => law29_list_L1 N a0_ x.1 x.2.1 x.2.2) (fun (p : Int × Int × (List api_Entry)) e s => e = .exit 0 ∧ (∃ (a506 : AV) (H507 : List HO), s = ⟨[(0, s_eI64 false a0_), (2, .loc 2 0), (3, .loc 3 0), (4, iv p.1)], [(2, [s_e_api_Entry true [], iv 0]), (3, [a506, iv p.2.1])], H507⟩ ∧ HP H507 [.arr a506 2 false (List.map e_api_Entry p.2.2)])) ?_ N _ o515 _ ho515 ⟨(.p (.sl 2 true [])), [], (by show _ = _; kernel_rfl), (HP.pick (HP.nilArr hH 2 false) [0] rfl)⟩).mono ?_)
  · clear h ho515
    rintro ⟨i3, i4, l5⟩ o s h hR
    obtain ⟨a1, H2, rfl, hH⟩ := hR
    replace hH : HP H2 [.arr a1 2 false (List.map e_api_Entry l5)] := hH
    have hfa1 := own_form (HP.get hH 0 rfl)
    replace h : law29_list_L1 N a0_ i3 i4 l5 = some o := h
    unfold law29_list_L1 at h
    refine vc_seq ?_
    refine vc_seq ?_
    refine vc_reg (S := ⟨[(0, s_eI64 false a0_), (2, .loc 2 0), (3, .loc 3 0), (4, iv i3), (9, bv (decide ((w64 (i3 + 1)) < ((List.length a0_ : Nat) : Int))))], [(2, [s_e_api_Entry true [], iv 0]), (3, [a1, iv i4])], H2⟩) (APath.chunk 3 (by rcases hfa1 with ha1e | ⟨_, _, ha1e⟩ <;> subst ha1e <;> kernel_rfl) (APath.one (.val 8 .len [.t 7]) (by kernel_rfl) (st_val (ys := [s_eI64 false a0_]) (by rcases hfa1 with ha1e | ⟨_, _, ha1e⟩ <;> subst ha1e <;> kernel_rfl) (vexec_len eI64)) (APath.fin (by rcases hfa1 with ha1e | ⟨_, _, ha1e⟩ <;> subst ha1e <;> kernel_rfl)))) (by rcases hfa1 with ha1e | ⟨_, _, ha1e⟩ <;> subst ha1e <;> kernel_rfl) ?_
    refine vc_ite (by kernel_rfl) h (fun hc508 h => ?_) (fun hc508 h => ?_)
    · refine vc_skip ?_
      refine vc_kp ?_
      refine vc_seq ?_
      refine vc_block ?_
      refine vc_seq ?_
      obtain ⟨e509, he509, h⟩ := bind_some h
      obtain ⟨e510, he510, h⟩ := bind_some h
      obtain ⟨l513, hl513, h⟩ := bind_some h
      obtain ⟨a511, H512, ha511, hH⟩ := HP.app (k := 0) (a := a1) (sz := 2) (frz := false) e_api_Entry hH rfl hl513
      replace hH : HP H512 [.arr a511 2 false (List.map e_api_Entry l513)] := hH
      have hfa511 := own_form (HP.get hH 0 rfl)
      refine vc_regD (S := ⟨[(0, s_eI64 false a0_), (2, .loc 2 0), (3, .loc 3 0), (4, iv i3)], [(2, [s_e_api_Entry true [], iv 0]), (3, [a511, iv i4])], H512⟩) (by rcases hfa1 with ha1e | ⟨_, _, ha1e⟩ <;> subst ha1e <;> kernel_rfl) (APath.chunk 4 (by rcases hfa1 with ha1e | ⟨_, _, ha1e⟩ <;> rcases hfa511 with ha511e | ⟨_, _, ha511e⟩ <;> subst ha1e ha511e <;> kernel_rfl) (APath.one (.val 16 (.iaddrS 1) [.t 14, .t 15]) (by kernel_rfl) (st_val (ys := [s_eI64 false a0_, iv i3]) (by rcases hfa1 with ha1e | ⟨_, _, ha1e⟩ <;> rcases hfa511 with ha511e | ⟨_, _, ha511e⟩ <;> subst ha1e ha511e <;> kernel_rfl) (vexec_iaddrS eI64 he509)) (APath.one (.load 17 (.t 16) 1 false) (by kernel_rfl) (st_loadP (sz := 1) (off := 0) (cs := [.int .i64 e509]) (r := iv e509) eI64 he509 (by rcases hfa1 with ha1e | ⟨_, _, ha1e⟩ <;> rcases hfa511 with ha511e | ⟨_, _, ha511e⟩ <;> subst ha1e ha511e <;> kernel_rfl) (by rcases hfa1 with ha1e | ⟨_, _, ha1e⟩ <;> rcases hfa511 with ha511e | ⟨_, _, ha511e⟩ <;> subst ha1e ha511e <;> kernel_rfl) (by rcases hfa1 with ha1e | ⟨_, _, ha1e⟩ <;> rcases hfa511 with ha511e | ⟨_, _, ha511e⟩ <;> subst ha1e ha511e <;> kernel_rfl)) (APath.chunk 3 (by rcases hfa1 with ha1e | ⟨_, _, ha1e⟩ <;> rcases hfa511 with ha511e | ⟨_, _, ha511e⟩ <;> subst ha1e ha511e <;> kernel_rfl) (APath.one (.val 21 (.iaddrS 1) [.t 18, .t 20]) (by kernel_rfl) (st_val (ys := [s_eI64 false a0_, iv (w64 (i3 + 1))]) (by rcases hfa1 with ha1e | ⟨_, _, ha1e⟩ <;> rcases hfa511 with ha511e | ⟨_, _, ha511e⟩ <;> subst ha1e ha511e <;> kernel_rfl) (vexec_iaddrS eI64 he510)) (APath.one (.load 22 (.t 21) 1 false) (by kernel_rfl) (st_loadP (sz := 1) (off := 0) (cs := [.int .i64 e510]) (r := iv e510) eI64 he510 (by rcases hfa1 with ha1e | ⟨_, _, ha1e⟩ <;> rcases hfa511 with ha511e | ⟨_, _, ha511e⟩ <;> subst ha1e ha511e <;> kernel_rfl) (by rcases hfa1 with ha1e | ⟨_, _, ha1e⟩ <;> rcases hfa511 with ha511e | ⟨_, _, ha511e⟩ <;> subst ha1e ha511e <;> kernel_rfl) (by rcases hfa1 with ha1e | ⟨_, _, ha1e⟩ <;> rcases hfa511 with ha511e | ⟨_, _, ha511e⟩ <;> subst ha1e ha511e <;> kernel_rfl)) (APath.chunk 2 (by rcases hfa1 with ha1e | ⟨_, _, ha1e⟩ <;> rcases hfa511 with ha511e | ⟨_, _, ha511e⟩ <;> subst ha1e ha511e <;> kernel_rfl) (APath.one (.app 25 (.t 13) (.t 24) 2 16) (by kernel_rfl) (st_app (H := H2) (a := a1) (b := s_e_api_Entry true [(api_Entry.mk e509 e510)]) (by rcases hfa1 with ha1e | ⟨_, _, ha1e⟩ <;> rcases hfa511 with ha511e | ⟨_, _, ha511e⟩ <;> subst ha1e ha511e <;> kernel_rfl) (by rcases hfa1 with ha1e | ⟨_, _, ha1e⟩ <;> rcases hfa511 with ha511e | ⟨_, _, ha511e⟩ <;> subst ha1e ha511e <;> kernel_rfl) (by rcases hfa1 with ha1e | ⟨_, _, ha1e⟩ <;> rcases hfa511 with ha511e | ⟨_, _, ha511e⟩ <;> subst ha1e ha511e <;> kernel_rfl) (by rcases hfa1 with ha1e | ⟨_, _, ha1e⟩ <;> rcases hfa511 with ha511e | ⟨_, _, ha511e⟩ <;> subst ha1e ha511e <;> kernel_rfl) ha511) (APath.fin (by rcases hfa1 with ha1e | ⟨_, _, ha1e⟩ <;> rcases hfa511 with ha511e | ⟨_, _, ha511e⟩ <;> subst ha1e ha511e <;> kernel_rfl)))))))))) (by rcases hfa1 with ha1e | ⟨_, _, ha1e⟩ <;> rcases hfa511 with ha511e | ⟨_, _, ha511e⟩ <;> subst ha1e ha511e <;> kernel_rfl) ?_
      obtain ⟨e514, he514, h⟩ := bind_some h
      refine vc_regD (S := ⟨[(0, s_eI64 false a0_), (2, .loc 2 0), (3, .loc 3 0), (4, iv i3)], [(2, [s_e_api_Entry true [], iv 0]), (3, [a511, iv (w64 (i4 + e514))])], H512⟩) (by rcases hfa511 with ha511e | ⟨_, _, ha511e⟩ <;> subst ha511e <;> kernel_rfl) (APath.chunk 5 (by rcases hfa511 with ha511e | ⟨_, _, ha511e⟩ <;> subst ha511e <;> kernel_rfl) (APath.one (.val 32 (.iaddrS 1) [.t 29, .t 31]) (by kernel_rfl) (st_val (ys := [s_eI64 false a0_, iv (w64 (i3 + 1))]) (by rcases hfa511 with ha511e | ⟨_, _, ha511e⟩ <;> subst ha511e <;> kernel_rfl) (vexec_iaddrS eI64 he514)) (APath.one (.load 33 (.t 32) 1 false) (by kernel_rfl) (st_loadP (sz := 1) (off := 0) (cs := [.int .i64 e514]) (r := iv e514) eI64 he514 (by rcases hfa511 with ha511e | ⟨_, _, ha511e⟩ <;> subst ha511e <;> kernel_rfl) (by rcases hfa511 with ha511e | ⟨_, _, ha511e⟩ <;> subst ha511e <;> kernel_rfl) (by rcases hfa511 with ha511e | ⟨_, _, ha511e⟩ <;> subst ha511e <;> kernel_rfl)) (APath.fin (by rcases hfa511 with ha511e | ⟨_, _, ha511e⟩ <;> subst ha511e <;> kernel_rfl))))) (by rcases hfa511 with ha511e | ⟨_, _, ha511e⟩ <;> subst ha511e <;> kernel_rfl) ?_
      refine vc_reg (S := ⟨[(0, s_eI64 false a0_), (2, .loc 2 0), (3, .loc 3 0), (4, iv (w64 (i3 + 2)))], [(2, [s_e_api_Entry true [], iv 0]), (3, [a511, iv (w64 (i4 + e514))])], H512⟩) (APath.fin (by rcases hfa511 with ha511e | ⟨_, _, ha511e⟩ <;> subst ha511e <;> kernel_rfl)) (by rcases hfa511 with ha511e | ⟨_, _, ha511e⟩ <;> subst ha511e <;> kernel_rfl) ?_
      obtain rfl := some_inj h
      exact ⟨_, rfl, ⟨a511, H512, (by show _ = _; rcases hfa511 with ha511e | ⟨_, _, ha511e⟩ <;> subst ha511e <;> kernel_rfl), (HP.pick hH [0] rfl)⟩⟩
    · refine vc_exit ?_
      try show vc _ _ _ _ _
      obtain rfl := some_inj h
      exact ⟨_, rfl, rfl, ⟨a1, H2, (by show _ = _; rcases hfa1 with ha1e | ⟨_, _, ha1e⟩ <;> subst ha1e <;> kernel_rfl), (HP.pick hH [0] rfl)⟩⟩
  · rintro e s hq
    obtain ⟨rfl, hR⟩ := hq
    obtain ⟨a506, H507, rfl, hH⟩ := hR
    replace hH : HP H507 [.arr a506 2 false (List.map e_api_Entry o515.2.2)] := hH
    have hfa506 := own_form (HP.get hH 0 rfl)
    try show vc _ _ _ _ _
    refine vc_seq ?_
    refine vc_reg (S := ⟨[(2, .loc 2 0)], [(2, [a506, iv o515.2.1])], H507⟩) (APath.fin (by rcases hfa506 with ha506e | ⟨_, _, ha506e⟩ <;> subst ha506e <;> kernel_rfl)) (by rcases hfa506 with ha506e | ⟨_, _, ha506e⟩ <;> subst ha506e <;> kernel_rfl) ?_
    refine vc_ret ?_
    obtain rfl := some_inj h
    exact ret_own (H := H507) (ys := [.agg [a506, iv o515.2.1]]) (xs := [.agg [.p (.sl 2 false (List.map e_api_Entry o515.2.2)), iv o515.2.1]]) (by rcases hfa506 with ha506e | ⟨_, _, ha506e⟩ <;> subst ha506e <;> kernel_rfl) (by rcases hfa506 with ha506e | ⟨_, _, ha506e⟩ <;> subst ha506e <;> kernel_rfl) (pureVL_cons (pureV_agg (pureL_cons (HP.pure (k := 0) (frz := false) e_api_Entry hH rfl).1 (pureL_cons rfl pureL_nil))) pureVL_nil) (by kernel_rfl)
/- gates.Check -/
theorem gates_Check_ok (N : Nat) (a0_ : api_Gates) (r : Int) (h : gates_Check N a0_ = some r) : PCall Try.prog 29 [.agg (c_api_Gates a0_)] (iv r) := by
  unfold gates_Check at h
  have hH : HP ([] : List HO) [] := trivial
  refine pcall_of chk29 rfl rfl (vc_sound _ _ _ ?_) rfl
  refine vc_seq ?_
  refine vc_reg (S := ⟨[(1, .loc 1 0)], [(1, (c_api_Gates a0_))], []⟩) (APath.fin (by kernel_rfl)) (by kernel_rfl) ?_
  refine vc_seq ?_
  refine vc_seq ?_
  refine vc_regX ⟨[(1, .loc 1 0), (15, bv ((decide (((List.length a0_.Entries : Nat) : Int) < 1)) || (decide (((List.length a0_.Entries : Nat) : Int) > 128))))], [(1, (c_api_Gates a0_))], []⟩ ?_ ?_
  · rcases Bool.eq_false_or_eq_true (decide (((List.length a0_.Entries : Nat) : Int) < 1)) with hc1 | hc2
    · exact ⟨_, (APath.chunk 2 (by kernel_rfl) (APath.one (.val 8 .len [.t 7]) (by kernel_rfl) (st_val (ys := [s_e_api_Entry false a0_.Entries]) (by kernel_rfl) (vexec_len e_api_Entry)) (APath.one (.val 9 (.bin .lss) [.t 8, .k (.p (.int .i64 1))]) (by kernel_rfl) (st_bool (c := (decide (((List.length a0_.Entries : Nat) : Int) < 1))) (by kernel_rfl) hc1) (APath.fin (by kernel_rfl))))), by simp only [hc1]; kernel_rfl⟩
    · exact ⟨_, (APath.chunk 2 (by kernel_rfl) (APath.one (.val 8 .len [.t 7]) (by kernel_rfl) (st_val (ys := [s_e_api_Entry false a0_.Entries]) (by kernel_rfl) (vexec_len e_api_Entry)) (APath.one (.val 9 (.bin .lss) [.t 8, .k (.p (.int .i64 1))]) (by kernel_rfl) (st_bool (c := (decide (((List.length a0_.Entries : Nat) : Int) < 1))) (by kernel_rfl) hc2) (APath.chunk 3 (by kernel_rfl) (APath.oneG (.val 13 .len [.t 12]) 10 false (by kernel_rfl) (by kernel_rfl) (st_val (ys := [s_e_api_Entry false a0_.Entries]) (by kernel_rfl) (vexec_len e_api_Entry)) (APath.fin (by kernel_rfl))))))), by simp only [hc2]; kernel_rfl⟩
  · refine vc_ite (by kernel_rfl) h (fun hc3 h => ?_) (fun hc3 h => ?_)
    · refine vc_seq ?_
      refine vc_reg (S := ⟨[(2, iv 370)], [], []⟩) (APath.fin (by kernel_rfl)) (by kernel_rfl) ?_
      refine vc_ret ?_
      obtain rfl := some_inj h
      exact ret_of (by kernel_rfl)
    · refine vc_skip ?_
      refine vc_kp ?_
      refine vc_seq ?_
      refine vc_reg (S := ⟨[(1, .loc 1 0), (3, iv 0)], [(1, (c_api_Gates a0_))], []⟩) (APath.fin (by kernel_rfl)) (by kernel_rfl) ?_
      refine vc_seq ?_
      refine vc_seq ?_
      refine vc_reg (S := ⟨[(1, .loc 1 0), (3, iv 0), (17, s_e_api_Entry false a0_.Entries), (18, iv ((List.length a0_.Entries : Nat) : Int)), (19, iv 0)], [(1, (c_api_Gates a0_))], []⟩) (APath.chunk 2 (by kernel_rfl) (APath.one (.val 18 .len [.t 17]) (by kernel_rfl) (st_val (ys := [s_e_api_Entry false a0_.Entries]) (by kernel_rfl) (vexec_len e_api_Entry)) (APath.fin (by kernel_rfl)))) (by kernel_rfl) ?_
      refine vc_block ?_
      obtain ⟨o515, ho515, h⟩ := bind_some h
      refine vc_loop ((loop_sim (fun (x : Int × Int) s => s = ⟨[(1, .loc 1 0), (3, iv x.1), (17, s_e_api_Entry false a0_.Entries), (18, iv ((List.length a0_.Entries : Nat) : Int)), (19, iv x.2)], [(1, (c_api_Gates a0_))], []⟩) (fun x : Int × Int => gates_Check_L1 N a0_ x.1 x.2) (fun (p : (Int × Int) ⊕ (Int)) e s => match p with | (.inl p) => e = .exit 0 ∧ (s = ⟨[(1, .loc 1 0), (3, iv p.1), (17, s_e_api_Entry false a0_.Entries), (18, iv ((List.length a0_.Entries : Nat) : Int)), (19, iv p.2)], [(1, (c_api_Gates a0_))], []⟩) | (.inr p) => e = .ret ∧ ∃ xs, resL s i29.res = some xs ∧ tupOf xs = iv p) ?_ N _ o515 _ ho515 (by show _ = _; kernel_rfl)).mono ?_)
      · clear h ho515
        rintro ⟨i4, i5⟩ o s h hR
        obtain rfl := hR
        replace h : gates_Check_L1 N a0_ i4 i5 = some o := h
        unfold gates_Check_L1 at h
        refine vc_seq ?_
        refine vc_reg (S := ⟨[(1, .loc 1 0), (3, iv i4), (17, s_e_api_Entry false a0_.Entries), (18, iv ((List.length a0_.Entries : Nat) : Int)), (19, iv i5), (20, bv (decide (i5 < ((List.length a0_.Entries : Nat) : Int))))], [(1, (c_api_Gates a0_))], []⟩) (APath.fin (by kernel_rfl)) (by kernel_rfl) ?_
        refine vc_seq ?_
        refine vc_ite (by kernel_rfl) h (fun hc506 h => ?_) (fun hc506 h => ?_)
        · refine vc_skip ?_
          refine vc_kp ?_
          refine vc_seq ?_
          refine vc_block ?_
          refine vc_seq ?_
          obtain ⟨e507, he507, h⟩ := bind_some h
          refine vc_reg (S := ⟨[(1, .loc 1 0), (3, iv i4), (5, .loc 5 0), (17, s_e_api_Entry false a0_.Entries), (18, iv ((List.length a0_.Entries : Nat) : Int)), (19, iv i5)], [(1, (c_api_Gates a0_)), (5, (c_api_Entry e507))], []⟩) (APath.one (.val 21 (.iaddrS 2) [.t 17, .t 19]) (by kernel_rfl) (st_val (ys := [s_e_api_Entry false a0_.Entries, iv i5]) (by kernel_rfl) (vexec_iaddrS e_api_Entry he507)) (APath.one (.load 22 (.t 21) 2 true) (by kernel_rfl) (st_loadP (sz := 2) (off := 0) (cs := [.int .i64 e507.Mask, .int .i64 e507.Long]) (r := .agg (c_api_Entry e507)) e_api_Entry he507 (by kernel_rfl) (by kernel_rfl) (by kernel_rfl)) (APath.fin (by kernel_rfl)))) (by kernel_rfl) ?_
          refine vc_seq ?_
          refine vc_seq ?_
          refine vc_regX ⟨[(1, .loc 1 0), (3, iv i4), (5, .loc 5 0), (17, s_e_api_Entry false a0_.Entries), (18, iv ((List.length a0_.Entries : Nat) : Int)), (19, iv i5), (40, bv ((decide (e507.Mask < 0)) || ((decide (e507.Mask > 255)) || ((decide (e507.Long < 1)) || (decide (e507.Long > 9600000))))))], [(1, (c_api_Gates a0_)), (5, (c_api_Entry e507))], []⟩ ?_ ?_
          · rcases Bool.eq_false_or_eq_true (decide (e507.Mask < 0)) with hc508 | hc509
            · exact ⟨_, (APath.chunk 2 (by kernel_rfl) (APath.one (.val 25 (.bin .lss) [.t 24, .k (.p (.int .i64 0))]) (by kernel_rfl) (st_bool (c := (decide (e507.Mask < 0))) (by kernel_rfl) hc508) (APath.fin (by kernel_rfl)))), by simp only [hc508]; kernel_rfl⟩
            · rcases Bool.eq_false_or_eq_true (decide (e507.Mask > 255)) with hc510 | hc511
              · exact ⟨_, (APath.chunk 2 (by kernel_rfl) (APath.one (.val 25 (.bin .lss) [.t 24, .k (.p (.int .i64 0))]) (by kernel_rfl) (st_bool (c := (decide (e507.Mask < 0))) (by kernel_rfl) hc509) (APath.chunk 3 (by kernel_rfl) (APath.oneG (.val 29 (.bin .gtr) [.t 28, .k (.p (.int .i64 255))]) 26 false (by kernel_rfl) (by kernel_rfl) (st_bool (c := (decide (e507.Mask > 255))) (by kernel_rfl) hc510) (APath.fin (by kernel_rfl)))))), by simp only [hc509, hc510]; kernel_rfl⟩
              · rcases Bool.eq_false_or_eq_true (decide (e507.Long < 1)) with hc512 | hc513
                · exact ⟨_, (APath.chunk 2 (by kernel_rfl) (APath.one (.val 25 (.bin .lss) [.t 24, .k (.p (.int .i64 0))]) (by kernel_rfl) (st_bool (c := (decide (e507.Mask < 0))) (by kernel_rfl) hc509) (APath.chunk 3 (by kernel_rfl) (APath.oneG (.val 29 (.bin .gtr) [.t 28, .k (.p (.int .i64 255))]) 26 false (by kernel_rfl) (by kernel_rfl) (st_bool (c := (decide (e507.Mask > 255))) (by kernel_rfl) hc511) (APath.chunk 4 (by kernel_rfl) (APath.oneG (.val 34 (.bin .lss) [.t 33, .k (.p (.int .i64 1))]) 31 false (by kernel_rfl) (by kernel_rfl) (st_bool (c := (decide (e507.Long < 1))) (by kernel_rfl) hc512) (APath.fin (by kernel_rfl)))))))), by simp only [hc509, hc511, hc512]; kernel_rfl⟩
                · exact ⟨_, (APath.chunk 2 (by kernel_rfl) (APath.one (.val 25 (.bin .lss) [.t 24, .k (.p (.int .i64 0))]) (by kernel_rfl) (st_bool (c := (decide (e507.Mask < 0))) (by kernel_rfl) hc509) (APath.chunk 3 (by kernel_rfl) (APath.oneG (.val 29 (.bin .gtr) [.t 28, .k (.p (.int .i64 255))]) 26 false (by kernel_rfl) (by kernel_rfl) (st_bool (c := (decide (e507.Mask > 255))) (by kernel_rfl) hc511) (APath.chunk 4 (by kernel_rfl) (APath.oneG (.val 34 (.bin .lss) [.t 33, .k (.p (.int .i64 1))]) 31 false (by kernel_rfl) (by kernel_rfl) (st_bool (c := (decide (e507.Long < 1))) (by kernel_rfl) hc513) (APath.fin (by kernel_rfl)))))))), by simp only [hc509, hc511, hc513]; kernel_rfl⟩
          · refine vc_ite (by kernel_rfl) h (fun hc514 h => ?_) (fun hc514 h => ?_)
            · refine vc_seq ?_
              refine vc_reg (S := ⟨[(2, iv 370)], [], []⟩) (APath.fin (by kernel_rfl)) (by kernel_rfl) ?_
              refine vc_ret ?_
              obtain rfl := some_inj h
              exact ⟨_, rfl, rfl, ret_of (by kernel_rfl)⟩
            · refine vc_skip ?_
              refine vc_kp ?_
              refine vc_reg (S := ⟨[(1, .loc 1 0), (3, iv (w64 (i4 + e507.Long))), (17, s_e_api_Entry false a0_.Entries), (18, iv ((List.length a0_.Entries : Nat) : Int)), (19, iv i5)], [(1, (c_api_Gates a0_))], []⟩) (APath.fin (by kernel_rfl)) (by kernel_rfl) ?_
              refine vc_kp ?_
              refine vc_reg (S := ⟨[(1, .loc 1 0), (3, iv (w64 (i4 + e507.Long))), (17, s_e_api_Entry false a0_.Entries), (18, iv ((List.length a0_.Entries : Nat) : Int)), (19, iv (w64 (i5 + 1)))], [(1, (c_api_Gates a0_))], []⟩) (APath.fin (by kernel_rfl)) (by kernel_rfl) ?_
              obtain rfl := some_inj h
              exact ⟨_, rfl, (by show _ = _; kernel_rfl)⟩
        · refine vc_exit ?_
          try show vc _ _ _ _ _
          obtain rfl := some_inj h
          exact ⟨_, rfl, rfl, (by show _ = _; kernel_rfl)⟩
      · rintro e s hq
        rcases o515 with p516 | p520
        · dsimp only at h hq
          obtain ⟨rfl, hR⟩ := hq
          obtain rfl := hR
          try show vc _ _ _ _ _
          refine vc_seq ?_
          refine vc_seq ?_
          refine vc_regX ⟨[(53, bv ((p516.1 != a0_.Cycle) || (decide (p516.1 > 9600000))))], [], []⟩ ?_ ?_
          · rcases Bool.eq_false_or_eq_true (p516.1 != a0_.Cycle) with hc517 | hc518
            · exact ⟨_, (APath.chunk 3 (by kernel_rfl) (APath.one (.val 49 (.bin .neq) [.t 46, .t 48]) (by kernel_rfl) (st_bool (c := (p516.1 != a0_.Cycle)) (by kernel_rfl) hc517) (APath.fin (by kernel_rfl)))), by simp only [hc517]; kernel_rfl⟩
            · exact ⟨_, (APath.chunk 3 (by kernel_rfl) (APath.one (.val 49 (.bin .neq) [.t 46, .t 48]) (by kernel_rfl) (st_bool (c := (p516.1 != a0_.Cycle)) (by kernel_rfl) hc518) (APath.fin (by kernel_rfl)))), by simp only [hc518]; kernel_rfl⟩
          · refine vc_ite (by kernel_rfl) h (fun hc519 h => ?_) (fun hc519 h => ?_)
            · refine vc_seq ?_
              refine vc_reg (S := ⟨[(2, iv 370)], [], []⟩) (APath.fin (by kernel_rfl)) (by kernel_rfl) ?_
              refine vc_ret ?_
              obtain rfl := some_inj h
              exact ret_of (by kernel_rfl)
            · refine vc_skip ?_
              refine vc_kp ?_
              refine vc_seq ?_
              refine vc_reg (S := ⟨[(2, iv 0)], [], []⟩) (APath.fin (by kernel_rfl)) (by kernel_rfl) ?_
              refine vc_ret ?_
              obtain rfl := some_inj h
              exact ret_of (by kernel_rfl)
        · dsimp only at h hq
          obtain ⟨rfl, hq⟩ := hq
          obtain rfl := some_inj h
          exact hq
/- swap.times -/
theorem swap_times_ok (N : Nat) (a0_ : (List Int)) (r : Bool) (h : swap_times N a0_ = some r) : PCall Try.prog 30 [s_eI64 false a0_] (bv r) := by
  unfold swap_times at h
  have hH : HP ([] : List HO) [] := trivial
  refine pcall_of chk30 rfl rfl (vc_sound _ _ _ ?_) rfl
  refine vc_seq ?_
  refine vc_reg (S := ⟨[(0, s_eI64 false a0_)], [], []⟩) (APath.fin (by kernel_rfl)) (by kernel_rfl) ?_
  refine vc_seq ?_
  refine vc_seq ?_
  refine vc_reg (S := ⟨[(5, s_eI64 false a0_), (6, iv ((List.length a0_ : Nat) : Int)), (7, iv 0)], [], []⟩) (APath.chunk 1 (by kernel_rfl) (APath.one (.val 6 .len [.t 5]) (by kernel_rfl) (st_val (ys := [s_eI64 false a0_]) (by kernel_rfl) (vexec_len eI64)) (APath.fin (by kernel_rfl)))) (by kernel_rfl) ?_
  refine vc_block ?_
  obtain ⟨o507, ho507, h⟩ := bind_some h
  refine vc_loop ((loop_sim (fun (x : Int) s => s = ⟨[(5, s_eI64 false a0_), (6, iv ((List.length a0_ : Nat) : Int)), (7, iv x)], [], []⟩) (fun x : Int => swap_times_L1 N a0_ x) (fun (p : (Int) ⊕ (Bool)) e s => match p with | (.inl p) => e = .exit 0 ∧ (s = ⟨[(5, s_eI64 false a0_), (6, iv ((List.length a0_ : Nat) : Int)), (7, iv p)], [], []⟩) | (.inr p) => e = .ret ∧ ∃ xs, resL s i30.res = some xs ∧ tupOf xs = bv p) ?_ N _ o507 _ ho507 (by show _ = _; kernel_rfl)).mono ?_)
  · clear h ho507
    rintro i1 o s h hR
    obtain rfl := hR
    replace h : swap_times_L1 N a0_ i1 = some o := h
    unfold swap_times_L1 at h
    refine vc_seq ?_
    refine vc_reg (S := ⟨[(5, s_eI64 false a0_), (6, iv ((List.length a0_ : Nat) : Int)), (7, iv i1), (8, bv (decide (i1 < ((List.length a0_ : Nat) : Int))))], [], []⟩) (APath.fin (by kernel_rfl)) (by kernel_rfl) ?_
    refine vc_seq ?_
    refine vc_ite (by kernel_rfl) h (fun hc502 h => ?_) (fun hc502 h => ?_)
    · refine vc_skip ?_
      refine vc_kp ?_
      refine vc_seq ?_
      refine vc_block ?_
      refine vc_seq ?_
      obtain ⟨e503, he503, h⟩ := bind_some h
      refine vc_reg (S := ⟨[(4, iv e503), (5, s_eI64 false a0_), (6, iv ((List.length a0_ : Nat) : Int)), (7, iv i1)], [], []⟩) (APath.one (.val 9 (.iaddrS 1) [.t 5, .t 7]) (by kernel_rfl) (st_val (ys := [s_eI64 false a0_, iv i1]) (by kernel_rfl) (vexec_iaddrS eI64 he503)) (APath.one (.load 10 (.t 9) 1 false) (by kernel_rfl) (st_loadP (sz := 1) (off := 0) (cs := [.int .i64 e503]) (r := iv e503) eI64 he503 (by kernel_rfl) (by kernel_rfl) (by kernel_rfl)) (APath.fin (by kernel_rfl)))) (by kernel_rfl) ?_
      refine vc_seq ?_
      refine vc_regX ⟨[(5, s_eI64 false a0_), (6, iv ((List.length a0_ : Nat) : Int)), (7, iv i1), (16, bv ((decide (e503 < (-1099511627776))) || (decide (e503 > 1099511627776))))], [], []⟩ ?_ ?_
      · rcases Bool.eq_false_or_eq_true (decide (e503 < (-1099511627776))) with hc504 | hc505
        · exact ⟨_, (APath.chunk 1 (by kernel_rfl) (APath.one (.val 12 (.bin .lss) [.t 11, .k (.p (.int .i64 (-1099511627776)))]) (by kernel_rfl) (st_bool (c := (decide (e503 < (-1099511627776)))) (by kernel_rfl) hc504) (APath.fin (by kernel_rfl)))), by simp only [hc504]; kernel_rfl⟩
        · exact ⟨_, (APath.chunk 1 (by kernel_rfl) (APath.one (.val 12 (.bin .lss) [.t 11, .k (.p (.int .i64 (-1099511627776)))]) (by kernel_rfl) (st_bool (c := (decide (e503 < (-1099511627776)))) (by kernel_rfl) hc505) (APath.fin (by kernel_rfl)))), by simp only [hc505]; kernel_rfl⟩
      · refine vc_ite (by kernel_rfl) h (fun hc506 h => ?_) (fun hc506 h => ?_)
        · refine vc_seq ?_
          refine vc_reg (S := ⟨[(2, bv false)], [], []⟩) (APath.fin (by kernel_rfl)) (by kernel_rfl) ?_
          refine vc_ret ?_
          obtain rfl := some_inj h
          exact ⟨_, rfl, rfl, ret_of (by kernel_rfl)⟩
        · refine vc_skip ?_
          refine vc_kp ?_
          refine vc_reg (S := ⟨[(5, s_eI64 false a0_), (6, iv ((List.length a0_ : Nat) : Int)), (7, iv (w64 (i1 + 1)))], [], []⟩) (APath.fin (by kernel_rfl)) (by kernel_rfl) ?_
          obtain rfl := some_inj h
          exact ⟨_, rfl, (by show _ = _; kernel_rfl)⟩
    · refine vc_exit ?_
      try show vc _ _ _ _ _
      obtain rfl := some_inj h
      exact ⟨_, rfl, rfl, (by show _ = _; kernel_rfl)⟩
  · rintro e s hq
    rcases o507 with p508 | p509
    · dsimp only at h hq
      obtain ⟨rfl, hR⟩ := hq
      obtain rfl := hR
      try show vc _ _ _ _ _
      refine vc_seq ?_
      refine vc_reg (S := ⟨[(2, bv true)], [], []⟩) (APath.fin (by kernel_rfl)) (by kernel_rfl) ?_
      refine vc_ret ?_
      obtain rfl := some_inj h
      exact ret_of (by kernel_rfl)
    · dsimp only at h hq
      obtain ⟨rfl, hq⟩ := hq
      obtain rfl := some_inj h
      exact hq
/- (swap.state).parts -/
theorem swap_state_parts_ok (N : Nat) (a0_ : swap_state) (a1_ : Int) (a2_ : Int) (H : List HO) (r : swap_state × Int × Int) (h : swap_state_parts N a0_ a1_ a2_ = some r) : ∃ (id0_ id1_ id2_ : Nat) (H' : List HO), ACall Try.prog 32 [.agg (c_api_Change a0_.Change), iv a1_, iv a2_] H (.fn 45 [] [.ptr id0_ 0, .ptr id1_ 0, .ptr id2_ 0]) H' ∧ Fp H H' [] [.cel id0_ [s_e_api_Entry false r.1.Change.Oper.Entries, iv r.1.Change.Oper.Cycle, iv r.1.Change.Base, bv r.1.Change.Pending, s_e_api_Entry false r.1.Change.Admin.Entries, iv r.1.Change.Admin.Cycle, iv r.1.Change.When], .cel id1_ [iv r.2.1], .cel id2_ [iv r.2.2]] := by
  suffices hs : ∃ r' H', ACall Try.prog 32 [.agg (c_api_Change a0_.Change), iv a1_, iv a2_] H r' H' ∧ ∃ (id0_ id1_ id2_ : Nat), r' = .fn 45 [] [.ptr id0_ 0, .ptr id1_ 0, .ptr id2_ 0] ∧ Fp H H' [] [.cel id0_ [s_e_api_Entry false r.1.Change.Oper.Entries, iv r.1.Change.Oper.Cycle, iv r.1.Change.Base, bv r.1.Change.Pending, s_e_api_Entry false r.1.Change.Admin.Entries, iv r.1.Change.Admin.Cycle, iv r.1.Change.When], .cel id1_ [iv r.2.1], .cel id2_ [iv r.2.2]] by
    obtain ⟨_, H', h1, id0_, id1_, id2_, rfl, h2⟩ := hs
    exact ⟨id0_, id1_, id2_, H', h1, h2⟩
  unfold swap_state_parts at h
  have hH : Fp H H [] [] := Fp.refl trivial
  refine acall_detR chk32 (fun r' H' => ∃ (id0_ id1_ id2_ : Nat), r' = .fn 45 [] [.ptr id0_ 0, .ptr id1_ 0, .ptr id2_ 0] ∧ Fp H H' [] [.cel id0_ [s_e_api_Entry false r.1.Change.Oper.Entries, iv r.1.Change.Oper.Cycle, iv r.1.Change.Base, bv r.1.Change.Pending, s_e_api_Entry false r.1.Change.Admin.Entries, iv r.1.Change.Admin.Cycle, iv r.1.Change.When], .cel id1_ [iv r.2.1], .cel id2_ [iv r.2.2]]) (fun r' H' ⟨_, _, _, e, _⟩ => by rw [e]; rfl) rfl rfl ?_
  refine vc_seq ?_
  obtain ⟨id1, H2, hid1, hH2, hH⟩ := Fp.newCell hH [s_e_api_Entry false a0_.Change.Oper.Entries, iv a0_.Change.Oper.Cycle, iv a0_.Change.Base, bv a0_.Change.Pending, s_e_api_Entry false a0_.Change.Admin.Entries, iv a0_.Change.Admin.Cycle, iv a0_.Change.When]
  replace hH : Fp H H2 [] [.cel id1 (c_api_Change a0_.Change)] := hH
  obtain ⟨id3, H4, hid3, hH4, hH⟩ := Fp.newCell hH [iv a1_]
  replace hH : Fp H H4 [] [.cel id3 [iv a1_], .cel id1 (c_api_Change a0_.Change)] := hH
  obtain ⟨id5, H6, hid5, hH6, hH⟩ := Fp.newCell hH [iv a2_]
  replace hH : Fp H H6 [] [.cel id5 [iv a2_], .cel id3 [iv a1_], .cel id1 (c_api_Change a0_.Change)] := hH
  refine vc_reg (S := ⟨[(3, .ptr id1 0), (4, .ptr id3 0), (5, .ptr id5 0)], [], H6⟩) (APath.one (.boxH 3 (.t 0)) (by kernel_rfl) (st_boxH (H := H) (v := .agg (c_api_Change a0_.Change)) (by kernel_rfl) (by kernel_rfl) (by kernel_rfl) hid1 hH2) (APath.one (.boxH 4 (.t 1)) (by kernel_rfl) (st_boxH (H := H2) (v := iv a1_) (by kernel_rfl) (by kernel_rfl) (by kernel_rfl) hid3 hH4) (APath.one (.boxH 5 (.t 2)) (by kernel_rfl) (st_boxH (H := H4) (v := iv a2_) (by kernel_rfl) (by kernel_rfl) (by kernel_rfl) hid5 hH6) (APath.fin (by kernel_rfl))))) (by kernel_rfl) ?_
  refine vc_seq ?_
  refine vc_reg (S := ⟨[(6, .fn 45 [] [.ptr id1 0, .ptr id3 0, .ptr id5 0])], [], H6⟩) (APath.fin (by kernel_rfl)) (by kernel_rfl) ?_
  refine vc_ret ?_
  obtain rfl := some_inj h
  exact ⟨[.fn 45 [] [.ptr id1 0, .ptr id3 0, .ptr id5 0]], (by kernel_rfl), id1, id3, id5, rfl, Fp.pick hH [2, 1, 0] rfl⟩
/- isochronref29.time -/
theorem ref29_time_ok (N : Nat) (a0_ : Int) (r : Bool) (h : ref29_time N a0_ = some r) : PCall Try.prog 34 [iv a0_] (bv r) := by
  unfold ref29_time at h
  have hH : HP ([] : List HO) [] := trivial
  refine pcall_of chk34 rfl rfl (vc_sound _ _ _ ?_) rfl
  refine vc_seq ?_
  refine vc_reg (S := ⟨[(0, iv a0_)], [], []⟩) (APath.fin (by kernel_rfl)) (by kernel_rfl) ?_
  refine vc_seq ?_
  refine vc_regX ⟨[(2, bv ((decide (a0_ ≥ (-1099511627776))) && (decide (a0_ ≤ 1099511627776))))], [], []⟩ ?_ ?_
  · rcases Bool.eq_false_or_eq_true (decide (a0_ ≥ (-1099511627776))) with hc1 | hc2
    · exact ⟨_, (APath.chunk 1 (by kernel_rfl) (APath.one (.val 4 (.bin .geq) [.t 3, .k (.p (.int .i64 (-1099511627776)))]) (by kernel_rfl) (st_bool (c := (decide (a0_ ≥ (-1099511627776)))) (by kernel_rfl) hc1) (APath.fin (by kernel_rfl)))), by simp only [hc1]; kernel_rfl⟩
    · exact ⟨_, (APath.chunk 1 (by kernel_rfl) (APath.one (.val 4 (.bin .geq) [.t 3, .k (.p (.int .i64 (-1099511627776)))]) (by kernel_rfl) (st_bool (c := (decide (a0_ ≥ (-1099511627776)))) (by kernel_rfl) hc2) (APath.fin (by kernel_rfl)))), by simp only [hc2]; kernel_rfl⟩
  · refine vc_ret ?_
    obtain rfl := some_inj h
    exact ret_of (by kernel_rfl)
/- isochronref27.Right -/
theorem ref27_Right_ok (N : Nat) (a0_ : api_Gates) (r : Bool) (h : ref27_Right N a0_ = some r) : PCall Try.prog 36 [.agg (c_api_Gates a0_)] (bv r) := by
  unfold ref27_Right at h
  have hH : HP ([] : List HO) [] := trivial
  refine pcall_of chk36 rfl rfl (vc_sound _ _ _ ?_) rfl
  refine vc_seq ?_
  refine vc_reg (S := ⟨[(1, .loc 1 0)], [(1, (c_api_Gates a0_))], []⟩) (APath.fin (by kernel_rfl)) (by kernel_rfl) ?_
  refine vc_seq ?_
  refine vc_seq ?_
  refine vc_regX ⟨[(1, .loc 1 0), (15, bv ((decide (((List.length a0_.Entries : Nat) : Int) < 1)) || (decide (((List.length a0_.Entries : Nat) : Int) > 128))))], [(1, (c_api_Gates a0_))], []⟩ ?_ ?_
  · rcases Bool.eq_false_or_eq_true (decide (((List.length a0_.Entries : Nat) : Int) < 1)) with hc1 | hc2
    · exact ⟨_, (APath.chunk 2 (by kernel_rfl) (APath.one (.val 8 .len [.t 7]) (by kernel_rfl) (st_val (ys := [s_e_api_Entry false a0_.Entries]) (by kernel_rfl) (vexec_len e_api_Entry)) (APath.one (.val 9 (.bin .lss) [.t 8, .k (.p (.int .i64 1))]) (by kernel_rfl) (st_bool (c := (decide (((List.length a0_.Entries : Nat) : Int) < 1))) (by kernel_rfl) hc1) (APath.fin (by kernel_rfl))))), by simp only [hc1]; kernel_rfl⟩
    · exact ⟨_, (APath.chunk 2 (by kernel_rfl) (APath.one (.val 8 .len [.t 7]) (by kernel_rfl) (st_val (ys := [s_e_api_Entry false a0_.Entries]) (by kernel_rfl) (vexec_len e_api_Entry)) (APath.one (.val 9 (.bin .lss) [.t 8, .k (.p (.int .i64 1))]) (by kernel_rfl) (st_bool (c := (decide (((List.length a0_.Entries : Nat) : Int) < 1))) (by kernel_rfl) hc2) (APath.chunk 3 (by kernel_rfl) (APath.oneG (.val 13 .len [.t 12]) 10 false (by kernel_rfl) (by kernel_rfl) (st_val (ys := [s_e_api_Entry false a0_.Entries]) (by kernel_rfl) (vexec_len e_api_Entry)) (APath.fin (by kernel_rfl))))))), by simp only [hc2]; kernel_rfl⟩
  · refine vc_ite (by kernel_rfl) h (fun hc3 h => ?_) (fun hc3 h => ?_)
    · refine vc_seq ?_
      refine vc_reg (S := ⟨[(2, bv false)], [], []⟩) (APath.fin (by kernel_rfl)) (by kernel_rfl) ?_
      refine vc_ret ?_
      obtain rfl := some_inj h
      exact ret_of (by kernel_rfl)
    · refine vc_skip ?_
      refine vc_kp ?_
      refine vc_seq ?_
      refine vc_reg (S := ⟨[(1, .loc 1 0), (3, iv 0)], [(1, (c_api_Gates a0_))], []⟩) (APath.fin (by kernel_rfl)) (by kernel_rfl) ?_
      refine vc_seq ?_
      refine vc_seq ?_
      refine vc_reg (S := ⟨[(1, .loc 1 0), (3, iv 0), (4, iv 0)], [(1, (c_api_Gates a0_))], []⟩) (APath.fin (by kernel_rfl)) (by kernel_rfl) ?_
      refine vc_block ?_
      obtain ⟨o515, ho515, h⟩ := bind_some h
      refine vc_loop ((loop_sim (fun (x : Int × Int) s => s = ⟨[(1, .loc 1 0), (3, iv x.1), (4, iv x.2)], [(1, (c_api_Gates a0_))], []⟩) (fun x : Int × Int => ref27_Right_L1 N a0_ x.1 x.2) (fun (p : (Int × Int) ⊕ (Bool)) e s => match p with | (.inl p) => e = .exit 0 ∧ (s = ⟨[(1, .loc 1 0), (3, iv p.1), (4, iv p.2)], [(1, (c_api_Gates a0_))], []⟩) | (.inr p) => e = .ret ∧ ∃ xs, resL s i36.res = some xs ∧ tupOf xs = bv p) ?_ N _ o515 _ ho515 (by show _ = _; kernel_rfl)).mono ?_)
      · clear h ho515
        rintro ⟨i4, i5⟩ o s h hR
        obtain rfl := hR
        replace h : ref27_Right_L1 N a0_ i4 i5 = some o := h
        unfold ref27_Right_L1 at h
        refine vc_seq ?_
        refine vc_seq ?_
        refine vc_reg (S := ⟨[(1, .loc 1 0), (3, iv i4), (4, iv i5), (20, bv (decide (i5 < ((List.length a0_.Entries : Nat) : Int))))], [(1, (c_api_Gates a0_))], []⟩) (APath.chunk 3 (by kernel_rfl) (APath.one (.val 19 .len [.t 18]) (by kernel_rfl) (st_val (ys := [s_e_api_Entry false a0_.Entries]) (by kernel_rfl) (vexec_len e_api_Entry)) (APath.fin (by kernel_rfl)))) (by kernel_rfl) ?_
        refine vc_ite (by kernel_rfl) h (fun hc506 h => ?_) (fun hc506 h => ?_)
        · refine vc_skip ?_
          refine vc_kp ?_
          refine vc_seq ?_
          refine vc_block ?_
          refine vc_seq ?_
          obtain ⟨e507, he507, h⟩ := bind_some h
          refine vc_reg (S := ⟨[(1, .loc 1 0), (3, iv i4), (4, iv i5), (5, .loc 5 0)], [(1, (c_api_Gates a0_)), (5, (c_api_Entry e507))], []⟩) (APath.chunk 3 (by kernel_rfl) (APath.one (.val 26 (.iaddrS 2) [.t 24, .t 25]) (by kernel_rfl) (st_val (ys := [s_e_api_Entry false a0_.Entries, iv i5]) (by kernel_rfl) (vexec_iaddrS e_api_Entry he507)) (APath.one (.load 27 (.t 26) 2 true) (by kernel_rfl) (st_loadP (sz := 2) (off := 0) (cs := [.int .i64 e507.Mask, .int .i64 e507.Long]) (r := .agg (c_api_Entry e507)) e_api_Entry he507 (by kernel_rfl) (by kernel_rfl) (by kernel_rfl)) (APath.fin (by kernel_rfl))))) (by kernel_rfl) ?_
          refine vc_seq ?_
          refine vc_seq ?_
          refine vc_regX ⟨[(1, .loc 1 0), (3, iv i4), (4, iv i5), (5, .loc 5 0), (45, bv ((decide (e507.Mask < 0)) || ((decide (e507.Mask > 255)) || ((decide (e507.Long < 1)) || (decide (e507.Long > 9600000))))))], [(1, (c_api_Gates a0_)), (5, (c_api_Entry e507))], []⟩ ?_ ?_
          · rcases Bool.eq_false_or_eq_true (decide (e507.Mask < 0)) with hc508 | hc509
            · exact ⟨_, (APath.chunk 2 (by kernel_rfl) (APath.one (.val 30 (.bin .lss) [.t 29, .k (.p (.int .i64 0))]) (by kernel_rfl) (st_bool (c := (decide (e507.Mask < 0))) (by kernel_rfl) hc508) (APath.fin (by kernel_rfl)))), by simp only [hc508]; kernel_rfl⟩
            · rcases Bool.eq_false_or_eq_true (decide (e507.Mask > 255)) with hc510 | hc511
              · exact ⟨_, (APath.chunk 2 (by kernel_rfl) (APath.one (.val 30 (.bin .lss) [.t 29, .k (.p (.int .i64 0))]) (by kernel_rfl) (st_bool (c := (decide (e507.Mask < 0))) (by kernel_rfl) hc509) (APath.chunk 3 (by kernel_rfl) (APath.oneG (.val 34 (.bin .gtr) [.t 33, .k (.p (.int .i64 255))]) 31 false (by kernel_rfl) (by kernel_rfl) (st_bool (c := (decide (e507.Mask > 255))) (by kernel_rfl) hc510) (APath.fin (by kernel_rfl)))))), by simp only [hc509, hc510]; kernel_rfl⟩
              · rcases Bool.eq_false_or_eq_true (decide (e507.Long < 1)) with hc512 | hc513
                · exact ⟨_, (APath.chunk 2 (by kernel_rfl) (APath.one (.val 30 (.bin .lss) [.t 29, .k (.p (.int .i64 0))]) (by kernel_rfl) (st_bool (c := (decide (e507.Mask < 0))) (by kernel_rfl) hc509) (APath.chunk 3 (by kernel_rfl) (APath.oneG (.val 34 (.bin .gtr) [.t 33, .k (.p (.int .i64 255))]) 31 false (by kernel_rfl) (by kernel_rfl) (st_bool (c := (decide (e507.Mask > 255))) (by kernel_rfl) hc511) (APath.chunk 4 (by kernel_rfl) (APath.oneG (.val 39 (.bin .lss) [.t 38, .k (.p (.int .i64 1))]) 36 false (by kernel_rfl) (by kernel_rfl) (st_bool (c := (decide (e507.Long < 1))) (by kernel_rfl) hc512) (APath.fin (by kernel_rfl)))))))), by simp only [hc509, hc511, hc512]; kernel_rfl⟩
                · exact ⟨_, (APath.chunk 2 (by kernel_rfl) (APath.one (.val 30 (.bin .lss) [.t 29, .k (.p (.int .i64 0))]) (by kernel_rfl) (st_bool (c := (decide (e507.Mask < 0))) (by kernel_rfl) hc509) (APath.chunk 3 (by kernel_rfl) (APath.oneG (.val 34 (.bin .gtr) [.t 33, .k (.p (.int .i64 255))]) 31 false (by kernel_rfl) (by kernel_rfl) (st_bool (c := (decide (e507.Mask > 255))) (by kernel_rfl) hc511) (APath.chunk 4 (by kernel_rfl) (APath.oneG (.val 39 (.bin .lss) [.t 38, .k (.p (.int .i64 1))]) 36 false (by kernel_rfl) (by kernel_rfl) (st_bool (c := (decide (e507.Long < 1))) (by kernel_rfl) hc513) (APath.fin (by kernel_rfl)))))))), by simp only [hc509, hc511, hc513]; kernel_rfl⟩
          · refine vc_ite (by kernel_rfl) h (fun hc514 h => ?_) (fun hc514 h => ?_)
            · refine vc_seq ?_
              refine vc_reg (S := ⟨[(2, bv false)], [], []⟩) (APath.fin (by kernel_rfl)) (by kernel_rfl) ?_
              refine vc_ret ?_
              obtain rfl := some_inj h
              exact ⟨_, rfl, rfl, ret_of (by kernel_rfl)⟩
            · refine vc_skip ?_
              refine vc_kp ?_
              refine vc_reg (S := ⟨[(1, .loc 1 0), (3, iv (w64 (i4 + e507.Long))), (4, iv i5)], [(1, (c_api_Gates a0_))], []⟩) (APath.fin (by kernel_rfl)) (by kernel_rfl) ?_
              refine vc_kp ?_
              refine vc_reg (S := ⟨[(1, .loc 1 0), (3, iv (w64 (i4 + e507.Long))), (4, iv (w64 (i5 + 1)))], [(1, (c_api_Gates a0_))], []⟩) (APath.fin (by kernel_rfl)) (by kernel_rfl) ?_
              obtain rfl := some_inj h
              exact ⟨_, rfl, (by show _ = _; kernel_rfl)⟩
        · refine vc_exit ?_
          try show vc _ _ _ _ _
          obtain rfl := some_inj h
          exact ⟨_, rfl, rfl, (by show _ = _; kernel_rfl)⟩
      · rintro e s hq
        rcases o515 with p516 | p519
        · dsimp only at h hq
          obtain ⟨rfl, hR⟩ := hq
          obtain rfl := hR
          try show vc _ _ _ _ _
          refine vc_seq ?_
          refine vc_regX ⟨[(2, bv ((p516.1 == a0_.Cycle) && (decide (p516.1 ≤ 9600000))))], [], []⟩ ?_ ?_
          · rcases Bool.eq_false_or_eq_true (p516.1 == a0_.Cycle) with hc517 | hc518
            · exact ⟨_, (APath.chunk 3 (by kernel_rfl) (APath.one (.val 53 (.bin .eql) [.t 50, .t 52]) (by kernel_rfl) (st_bool (c := (p516.1 == a0_.Cycle)) (by kernel_rfl) hc517) (APath.fin (by kernel_rfl)))), by simp only [hc517]; kernel_rfl⟩
            · exact ⟨_, (APath.chunk 3 (by kernel_rfl) (APath.one (.val 53 (.bin .eql) [.t 50, .t 52]) (by kernel_rfl) (st_bool (c := (p516.1 == a0_.Cycle)) (by kernel_rfl) hc518) (APath.fin (by kernel_rfl)))), by simp only [hc518]; kernel_rfl⟩
          · refine vc_ret ?_
            obtain rfl := some_inj h
            exact ret_of (by kernel_rfl)
        · dsimp only at h hq
          obtain ⟨rfl, hq⟩ := hq
          obtain rfl := some_inj h
          exact hq
/- isochronref29.same -/
theorem ref29_same_ok (N : Nat) (a0_ : api_Gates) (a1_ : api_Gates) (r : Bool) (h : ref29_same N a0_ a1_ = some r) : PCall Try.prog 37 [.agg (c_api_Gates a0_), .agg (c_api_Gates a1_)] (bv r) := by
  unfold ref29_same at h
  have hH : HP ([] : List HO) [] := trivial
  refine pcall_of chk37 rfl rfl (vc_sound _ _ _ ?_) rfl
  refine vc_seq ?_
  refine vc_reg (S := ⟨[(2, .loc 2 0), (3, .loc 3 0)], [(2, (c_api_Gates a0_)), (3, (c_api_Gates a1_))], []⟩) (APath.fin (by kernel_rfl)) (by kernel_rfl) ?_
  refine vc_seq ?_
  refine vc_seq ?_
  refine vc_regX ⟨[(2, .loc 2 0), (3, .loc 3 0), (19, bv ((a0_.Cycle != a1_.Cycle) || (((List.length a0_.Entries : Nat) : Int) != ((List.length a1_.Entries : Nat) : Int))))], [(2, (c_api_Gates a0_)), (3, (c_api_Gates a1_))], []⟩ ?_ ?_
  · rcases Bool.eq_false_or_eq_true (a0_.Cycle != a1_.Cycle) with hc1 | hc2
    · exact ⟨_, (APath.chunk 4 (by kernel_rfl) (APath.one (.val 10 (.bin .neq) [.t 7, .t 9]) (by kernel_rfl) (st_bool (c := (a0_.Cycle != a1_.Cycle)) (by kernel_rfl) hc1) (APath.fin (by kernel_rfl)))), by simp only [hc1]; kernel_rfl⟩
    · exact ⟨_, (APath.chunk 4 (by kernel_rfl) (APath.one (.val 10 (.bin .neq) [.t 7, .t 9]) (by kernel_rfl) (st_bool (c := (a0_.Cycle != a1_.Cycle)) (by kernel_rfl) hc2) (APath.chunk 3 (by kernel_rfl) (APath.oneG (.val 14 .len [.t 13]) 11 false (by kernel_rfl) (by kernel_rfl) (st_val (ys := [s_e_api_Entry false a0_.Entries]) (by kernel_rfl) (vexec_len e_api_Entry)) (APath.chunk 2 (by kernel_rfl) (APath.oneG (.val 17 .len [.t 16]) 11 false (by kernel_rfl) (by kernel_rfl) (st_val (ys := [s_e_api_Entry false a1_.Entries]) (by kernel_rfl) (vexec_len e_api_Entry)) (APath.fin (by kernel_rfl)))))))), by simp only [hc2]; kernel_rfl⟩
  · refine vc_ite (by kernel_rfl) h (fun hc3 h => ?_) (fun hc3 h => ?_)
    · refine vc_seq ?_
      refine vc_reg (S := ⟨[(4, bv false)], [], []⟩) (APath.fin (by kernel_rfl)) (by kernel_rfl) ?_
      refine vc_ret ?_
      obtain rfl := some_inj h
      exact ret_of (by kernel_rfl)
    · refine vc_skip ?_
      refine vc_kp ?_
      refine vc_seq ?_
      refine vc_seq ?_
      refine vc_reg (S := ⟨[(2, .loc 2 0), (3, .loc 3 0), (5, iv 0)], [(2, (c_api_Gates a0_)), (3, (c_api_Gates a1_))], []⟩) (APath.fin (by kernel_rfl)) (by kernel_rfl) ?_
      refine vc_block ?_
      obtain ⟨o509, ho509, h⟩ := bind_some h
      refine vc_loop ((loop_sim (fun (x : Int) s => s = ⟨[(2, .loc 2 0), (3, .loc 3 0), (5, iv x)], [(2, (c_api_Gates a0_)), (3, (c_api_Gates a1_))], []⟩) (fun x : Int => ref29_same_L1 N a0_ a1_ x) (fun (p : (Int) ⊕ (Bool)) e s => match p with | (.inl p) => e = .exit 0 ∧ (s = ⟨[(2, .loc 2 0), (3, .loc 3 0), (5, iv p)], [(2, (c_api_Gates a0_)), (3, (c_api_Gates a1_))], []⟩) | (.inr p) => e = .ret ∧ ∃ xs, resL s i37.res = some xs ∧ tupOf xs = bv p) ?_ N _ o509 _ ho509 (by show _ = _; kernel_rfl)).mono ?_)
      · clear h ho509
        rintro i4 o s h hR
        obtain rfl := hR
        replace h : ref29_same_L1 N a0_ a1_ i4 = some o := h
        unfold ref29_same_L1 at h
        refine vc_seq ?_
        refine vc_seq ?_
        refine vc_reg (S := ⟨[(2, .loc 2 0), (3, .loc 3 0), (5, iv i4), (24, bv (decide (i4 < ((List.length a0_.Entries : Nat) : Int))))], [(2, (c_api_Gates a0_)), (3, (c_api_Gates a1_))], []⟩) (APath.chunk 3 (by kernel_rfl) (APath.one (.val 23 .len [.t 22]) (by kernel_rfl) (st_val (ys := [s_e_api_Entry false a0_.Entries]) (by kernel_rfl) (vexec_len e_api_Entry)) (APath.fin (by kernel_rfl)))) (by kernel_rfl) ?_
        refine vc_ite (by kernel_rfl) h (fun hc505 h => ?_) (fun hc505 h => ?_)
        · refine vc_skip ?_
          refine vc_kp ?_
          refine vc_seq ?_
          refine vc_block ?_
          refine vc_seq ?_
          obtain ⟨e506, he506, h⟩ := bind_some h
          obtain ⟨e507, he507, h⟩ := bind_some h
          refine vc_regD (S := ⟨[(2, .loc 2 0), (3, .loc 3 0), (5, iv i4), (37, bv (!((e506.Mask == e507.Mask) && ((e506.Long == e507.Long) && true))))], [(2, (c_api_Gates a0_)), (3, (c_api_Gates a1_))], []⟩) (by kernel_rfl) (APath.chunk 3 (by kernel_rfl) (APath.one (.val 30 (.iaddrS 2) [.t 28, .t 29]) (by kernel_rfl) (st_val (ys := [s_e_api_Entry false a0_.Entries, iv i4]) (by kernel_rfl) (vexec_iaddrS e_api_Entry he506)) (APath.one (.load 31 (.t 30) 2 true) (by kernel_rfl) (st_loadP (sz := 2) (off := 0) (cs := [.int .i64 e506.Mask, .int .i64 e506.Long]) (r := .agg (c_api_Entry e506)) e_api_Entry he506 (by kernel_rfl) (by kernel_rfl) (by kernel_rfl)) (APath.chunk 3 (by kernel_rfl) (APath.one (.val 35 (.iaddrS 2) [.t 33, .t 34]) (by kernel_rfl) (st_val (ys := [s_e_api_Entry false a1_.Entries, iv i4]) (by kernel_rfl) (vexec_iaddrS e_api_Entry he507)) (APath.one (.load 36 (.t 35) 2 true) (by kernel_rfl) (st_loadP (sz := 2) (off := 0) (cs := [.int .i64 e507.Mask, .int .i64 e507.Long]) (r := .agg (c_api_Entry e507)) e_api_Entry he507 (by kernel_rfl) (by kernel_rfl) (by kernel_rfl)) (APath.fin (by kernel_rfl)))))))) (by kernel_rfl) ?_
          refine vc_ite (by kernel_rfl) h (fun hc508 h => ?_) (fun hc508 h => ?_)
          · refine vc_seq ?_
            refine vc_reg (S := ⟨[(4, bv false)], [], []⟩) (APath.fin (by kernel_rfl)) (by kernel_rfl) ?_
            refine vc_ret ?_
            obtain rfl := some_inj h
            exact ⟨_, rfl, rfl, ret_of (by kernel_rfl)⟩
          · refine vc_skip ?_
            refine vc_kp ?_
            refine vc_reg (S := ⟨[(2, .loc 2 0), (3, .loc 3 0), (5, iv (w64 (i4 + 1)))], [(2, (c_api_Gates a0_)), (3, (c_api_Gates a1_))], []⟩) (APath.fin (by kernel_rfl)) (by kernel_rfl) ?_
            obtain rfl := some_inj h
            exact ⟨_, rfl, (by show _ = _; kernel_rfl)⟩
        · refine vc_exit ?_
          try show vc _ _ _ _ _
          obtain rfl := some_inj h
          exact ⟨_, rfl, rfl, (by show _ = _; kernel_rfl)⟩
      · rintro e s hq
        rcases o509 with p510 | p511
        · dsimp only at h hq
          obtain ⟨rfl, hR⟩ := hq
          obtain rfl := hR
          try show vc _ _ _ _ _
          refine vc_seq ?_
          refine vc_reg (S := ⟨[(4, bv true)], [], []⟩) (APath.fin (by kernel_rfl)) (by kernel_rfl) ?_
          refine vc_ret ?_
          obtain rfl := some_inj h
          exact ret_of (by kernel_rfl)
        · dsimp only at h hq
          obtain ⟨rfl, hq⟩ := hq
          obtain rfl := some_inj h
          exact hq
/- (*swap.state).advance -/
theorem swap_state_advance_ok (N : Nat) (a0_ : swap_state) (a1_ : Int) (p0_ : Nat) (H : List HO) (hH : HP H [.cel p0_ (c_api_Change a0_.Change)]) (r : swap_state) (h : swap_state_advance N a0_ a1_ = some r) : ∃ H', ACall Try.prog 38 [.ptr p0_ 0, iv a1_] H (.tup []) H' ∧ Fp H H' [.cel p0_ (c_api_Change a0_.Change)] [.cel p0_ [s_e_api_Entry false r.Change.Oper.Entries, iv r.Change.Oper.Cycle, iv r.Change.Base, bv r.Change.Pending, s_e_api_Entry false r.Change.Admin.Entries, iv r.Change.Admin.Cycle, iv r.Change.When]] := by
  unfold swap_state_advance at h
  replace hH := Fp.refl hH
  refine acall_detW chk38 [p0_] (fun H' => Fp H H' [.cel p0_ (c_api_Change a0_.Change)] [.cel p0_ [s_e_api_Entry false r.Change.Oper.Entries, iv r.Change.Oper.Cycle, iv r.Change.Base, bv r.Change.Pending, s_e_api_Entry false r.Change.Admin.Entries, iv r.Change.Admin.Cycle, iv r.Change.When]]) rfl rfl rfl ?_
  refine vc_seq ?_
  refine vc_seq ?_
  obtain ⟨j8, hj, h⟩ := bind_some h
  refine vc_regXR (fun s => s = ⟨[(0, .ptr p0_ 0), (26, bv j8)], [], H⟩) ?_ ?_
  · clear h
    have hlc1 := Fp.get hH 0 rfl
    rcases ite_some hj with ⟨hc2, hj⟩ | ⟨hc3, hj⟩
    · obtain rfl := some_inj hj
      exact ⟨_, (APath.chunk 4 (by kernel_rfl) (APath.one (.load 8 (.t 7) 1 false) (by kernel_rfl) (st_loadC (H := H) (id := p0_) (off := 3) (cs := [s_e_api_Entry false a0_.Change.Oper.Entries, iv a0_.Change.Oper.Cycle, iv a0_.Change.Base, bv a0_.Change.Pending, s_e_api_Entry false a0_.Change.Admin.Entries, iv a0_.Change.Admin.Cycle, iv a0_.Change.When]) (c := [bv a0_.Change.Pending]) (r := bv a0_.Change.Pending) (by kernel_rfl) (by kernel_rfl) hlc1 (by kernel_rfl) (by kernel_rfl) (by kernel_rfl)) (APath.one (.val 9 .not [.t 8]) (by kernel_rfl) (st_bool (c := (!a0_.Change.Pending)) (by kernel_rfl) hc2) (APath.fin (by kernel_rfl))))), (by show _ = _; kernel_rfl)⟩
    · have hlc4 := Fp.get hH 0 rfl
      rcases ite_some hj with ⟨hc5, hj⟩ | ⟨hc6, hj⟩
      · obtain rfl := some_inj hj
        exact ⟨_, (APath.chunk 4 (by kernel_rfl) (APath.one (.load 8 (.t 7) 1 false) (by kernel_rfl) (st_loadC (H := H) (id := p0_) (off := 3) (cs := [s_e_api_Entry false a0_.Change.Oper.Entries, iv a0_.Change.Oper.Cycle, iv a0_.Change.Base, bv a0_.Change.Pending, s_e_api_Entry false a0_.Change.Admin.Entries, iv a0_.Change.Admin.Cycle, iv a0_.Change.When]) (c := [bv a0_.Change.Pending]) (r := bv a0_.Change.Pending) (by kernel_rfl) (by kernel_rfl) hlc1 (by kernel_rfl) (by kernel_rfl) (by kernel_rfl)) (APath.one (.val 9 .not [.t 8]) (by kernel_rfl) (st_bool (c := (!a0_.Change.Pending)) (by kernel_rfl) hc3) (APath.chunk 6 (by kernel_rfl) (APath.oneG (.load 16 (.t 15) 1 false) 10 false (by kernel_rfl) (by kernel_rfl) (st_loadC (H := H) (id := p0_) (off := 6) (cs := [s_e_api_Entry false a0_.Change.Oper.Entries, iv a0_.Change.Oper.Cycle, iv a0_.Change.Base, bv a0_.Change.Pending, s_e_api_Entry false a0_.Change.Admin.Entries, iv a0_.Change.Admin.Cycle, iv a0_.Change.When]) (c := [iv a0_.Change.When]) (r := iv a0_.Change.When) (by kernel_rfl) (by kernel_rfl) hlc4 (by kernel_rfl) (by kernel_rfl) (by kernel_rfl)) (APath.oneG (.val 17 (.bin .lss) [.t 11, .t 16]) 10 false (by kernel_rfl) (by kernel_rfl) (st_bool (c := (decide (a1_ < a0_.Change.When))) (by kernel_rfl) hc5) (APath.fin (by kernel_rfl)))))))), (by show _ = _; kernel_rfl)⟩
      · have hlc7 := Fp.get hH 0 rfl
        obtain rfl := some_inj hj
        exact ⟨_, (APath.chunk 4 (by kernel_rfl) (APath.one (.load 8 (.t 7) 1 false) (by kernel_rfl) (st_loadC (H := H) (id := p0_) (off := 3) (cs := [s_e_api_Entry false a0_.Change.Oper.Entries, iv a0_.Change.Oper.Cycle, iv a0_.Change.Base, bv a0_.Change.Pending, s_e_api_Entry false a0_.Change.Admin.Entries, iv a0_.Change.Admin.Cycle, iv a0_.Change.When]) (c := [bv a0_.Change.Pending]) (r := bv a0_.Change.Pending) (by kernel_rfl) (by kernel_rfl) hlc1 (by kernel_rfl) (by kernel_rfl) (by kernel_rfl)) (APath.one (.val 9 .not [.t 8]) (by kernel_rfl) (st_bool (c := (!a0_.Change.Pending)) (by kernel_rfl) hc3) (APath.chunk 6 (by kernel_rfl) (APath.oneG (.load 16 (.t 15) 1 false) 10 false (by kernel_rfl) (by kernel_rfl) (st_loadC (H := H) (id := p0_) (off := 6) (cs := [s_e_api_Entry false a0_.Change.Oper.Entries, iv a0_.Change.Oper.Cycle, iv a0_.Change.Base, bv a0_.Change.Pending, s_e_api_Entry false a0_.Change.Admin.Entries, iv a0_.Change.Admin.Cycle, iv a0_.Change.When]) (c := [iv a0_.Change.When]) (r := iv a0_.Change.When) (by kernel_rfl) (by kernel_rfl) hlc4 (by kernel_rfl) (by kernel_rfl) (by kernel_rfl)) (APath.oneG (.val 17 (.bin .lss) [.t 11, .t 16]) 10 false (by kernel_rfl) (by kernel_rfl) (st_bool (c := (decide (a1_ < a0_.Change.When))) (by kernel_rfl) hc6) (APath.chunk 6 (by kernel_rfl) (APath.oneG (.load 24 (.t 23) 1 false) 19 false (by kernel_rfl) (by kernel_rfl) (st_loadC (H := H) (id := p0_) (off := 6) (cs := [s_e_api_Entry false a0_.Change.Oper.Entries, iv a0_.Change.Oper.Cycle, iv a0_.Change.Base, bv a0_.Change.Pending, s_e_api_Entry false a0_.Change.Admin.Entries, iv a0_.Change.Admin.Cycle, iv a0_.Change.When]) (c := [iv a0_.Change.When]) (r := iv a0_.Change.When) (by kernel_rfl) (by kernel_rfl) hlc7 (by kernel_rfl) (by kernel_rfl) (by kernel_rfl)) (APath.fin (by kernel_rfl)))))))))), (by show _ = _; kernel_rfl)⟩
  · clear hj
    rintro s hR
    obtain rfl := hR
    refine vc_ite (by kernel_rfl) h (fun hc9 h => ?_) (fun hc9 h => ?_)
    · refine vc_ret ?_
      obtain rfl := some_inj h
      exact ret_ofW (by kernel_rfl) (Fp.pick (Fp.weak1 (k := 0) hH rfl) [0] rfl)
    · refine vc_skip ?_
      refine vc_kp ?_
      have hlc10 := Fp.get hH 0 rfl
      have hlc11 := Fp.get hH 0 rfl
      obtain ⟨H12, hH12, hH⟩ := Fp.setCell (k := 0) (off := 0) (cs := [s_e_api_Entry false a0_.Change.Oper.Entries, iv a0_.Change.Oper.Cycle, iv a0_.Change.Base, bv a0_.Change.Pending, s_e_api_Entry false a0_.Change.Admin.Entries, iv a0_.Change.Admin.Cycle, iv a0_.Change.When]) (vs := [s_e_api_Entry false a0_.Change.Admin.Entries, iv a0_.Change.Admin.Cycle, iv a0_.Change.When, bv false, s_e_api_Entry true [], iv 0, iv 0]) (cs' := [s_e_api_Entry false a0_.Change.Admin.Entries, iv a0_.Change.Admin.Cycle, iv a0_.Change.When, bv false, s_e_api_Entry true [], iv 0, iv 0]) hH rfl (by kernel_rfl)
      replace hH : Fp H H12 [.cel p0_ (c_api_Change a0_.Change)] [.cel p0_ [s_e_api_Entry false a0_.Change.Admin.Entries, iv a0_.Change.Admin.Cycle, iv a0_.Change.When, bv false, s_e_api_Entry true [], iv 0, iv 0]] := hH
      refine vc_regD (S := ⟨[], [], H12⟩) (by kernel_rfl) (APath.chunk 5 (by kernel_rfl) (APath.one (.load 32 (.t 31) 2 true) (by kernel_rfl) (st_loadC (H := H) (id := p0_) (off := 4) (cs := [s_e_api_Entry false a0_.Change.Oper.Entries, iv a0_.Change.Oper.Cycle, iv a0_.Change.Base, bv a0_.Change.Pending, s_e_api_Entry false a0_.Change.Admin.Entries, iv a0_.Change.Admin.Cycle, iv a0_.Change.When]) (c := [s_e_api_Entry false a0_.Change.Admin.Entries, iv a0_.Change.Admin.Cycle]) (r := .agg (c_api_Gates a0_.Change.Admin)) (by kernel_rfl) (by kernel_rfl) hlc10 (by kernel_rfl) (by kernel_rfl) (by kernel_rfl)) (APath.chunk 4 (by kernel_rfl) (APath.one (.load 37 (.t 36) 1 false) (by kernel_rfl) (st_loadC (H := H) (id := p0_) (off := 6) (cs := [s_e_api_Entry false a0_.Change.Oper.Entries, iv a0_.Change.Oper.Cycle, iv a0_.Change.Base, bv a0_.Change.Pending, s_e_api_Entry false a0_.Change.Admin.Entries, iv a0_.Change.Admin.Cycle, iv a0_.Change.When]) (c := [iv a0_.Change.When]) (r := iv a0_.Change.When) (by kernel_rfl) (by kernel_rfl) hlc11 (by kernel_rfl) (by kernel_rfl) (by kernel_rfl)) (APath.chunk 3 (by kernel_rfl) (APath.one (.store (.t 40) (.t 38) 7) (by kernel_rfl) (st_storeH (H := H) (v := .agg [s_e_api_Entry false a0_.Change.Admin.Entries, iv a0_.Change.Admin.Cycle, iv a0_.Change.When, bv false, s_e_api_Entry true [], iv 0, iv 0]) (by kernel_rfl) (by kernel_rfl) (by kernel_rfl) (by kernel_rfl) hH12) APath.done)))))) (by kernel_rfl) ?_
      obtain rfl := some_inj h
      exact ret_ofW (by kernel_rfl) (Fp.pick (Fp.weak1 (k := 0) hH rfl) [0] rfl)
/- isochronref29.Later -/
theorem ref29_Later_ok (N : Nat) (a0_ : api_Change) (a1_ : Int) (r : api_Change) (h : ref29_Later N a0_ a1_ = some r) : PCall Try.prog 39 [.agg (c_api_Change a0_), iv a1_] (.agg [s_e_api_Entry false r.Oper.Entries, iv r.Oper.Cycle, iv r.Base, bv r.Pending, s_e_api_Entry false r.Admin.Entries, iv r.Admin.Cycle, iv r.When]) := by
  unfold ref29_Later at h
  have hH : HP ([] : List HO) [] := trivial
  refine pcall_of chk39 rfl rfl (vc_sound _ _ _ ?_) rfl
  refine vc_seq ?_
  refine vc_reg (S := ⟨[(1, iv a1_), (2, .loc 2 0), (4, .loc 4 0)], [(2, (c_api_Change a0_)), (4, [s_e_api_Entry true [], iv 0, iv 0, bv false, s_e_api_Entry true [], iv 0, iv 0])], []⟩) (APath.fin (by kernel_rfl)) (by kernel_rfl) ?_
  refine vc_seq ?_
  refine vc_seq ?_
  refine vc_regX ⟨[(2, .loc 2 0), (4, .loc 4 0), (18, bv ((!a0_.Pending) || ((decide (a1_ < a0_.When)) || (decide (a0_.When > 1099511627776)))))], [(2, (c_api_Change a0_)), (4, [s_e_api_Entry true [], iv 0, iv 0, bv false, s_e_api_Entry true [], iv 0, iv 0])], []⟩ ?_ ?_
  · rcases Bool.eq_false_or_eq_true (!a0_.Pending) with hc1 | hc2
    · exact ⟨_, (APath.chunk 2 (by kernel_rfl) (APath.one (.val 7 .not [.t 6]) (by kernel_rfl) (st_bool (c := (!a0_.Pending)) (by kernel_rfl) hc1) (APath.fin (by kernel_rfl)))), by simp only [hc1]; kernel_rfl⟩
    · rcases Bool.eq_false_or_eq_true (decide (a1_ < a0_.When)) with hc3 | hc4
      · exact ⟨_, (APath.chunk 2 (by kernel_rfl) (APath.one (.val 7 .not [.t 6]) (by kernel_rfl) (st_bool (c := (!a0_.Pending)) (by kernel_rfl) hc2) (APath.chunk 4 (by kernel_rfl) (APath.oneG (.val 12 (.bin .lss) [.t 9, .t 11]) 8 false (by kernel_rfl) (by kernel_rfl) (st_bool (c := (decide (a1_ < a0_.When))) (by kernel_rfl) hc3) (APath.fin (by kernel_rfl)))))), by simp only [hc2, hc3]; kernel_rfl⟩
      · exact ⟨_, (APath.chunk 2 (by kernel_rfl) (APath.one (.val 7 .not [.t 6]) (by kernel_rfl) (st_bool (c := (!a0_.Pending)) (by kernel_rfl) hc2) (APath.chunk 4 (by kernel_rfl) (APath.oneG (.val 12 (.bin .lss) [.t 9, .t 11]) 8 false (by kernel_rfl) (by kernel_rfl) (st_bool (c := (decide (a1_ < a0_.When))) (by kernel_rfl) hc4) (APath.fin (by kernel_rfl)))))), by simp only [hc2, hc4]; kernel_rfl⟩
  · refine vc_ite (by kernel_rfl) h (fun hc5 h => ?_) (fun hc5 h => ?_)
    · refine vc_seq ?_
      refine vc_reg (S := ⟨[(4, .loc 4 0)], [(4, (c_api_Change a0_))], []⟩) (APath.fin (by kernel_rfl)) (by kernel_rfl) ?_
      refine vc_ret ?_
      obtain rfl := some_inj h
      exact ret_of (by kernel_rfl)
    · refine vc_skip ?_
      refine vc_kp ?_
      refine vc_seq ?_
      refine vc_reg (S := ⟨[(4, .loc 4 0)], [(4, [s_e_api_Entry false a0_.Admin.Entries, iv a0_.Admin.Cycle, iv a0_.When, bv false, s_e_api_Entry true [], iv 0, iv 0])], []⟩) (APath.fin (by kernel_rfl)) (by kernel_rfl) ?_
      refine vc_ret ?_
      obtain rfl := some_inj h
      exact ret_of (by kernel_rfl)
/- swap.mod -/
theorem swap_mod_ok (N : Nat) (a0_ : Int) (a1_ : Int) (r : Int) (h : swap_mod N a0_ a1_ = some r) : PCall Try.prog 40 [iv a0_, iv a1_] (iv r) := by
  unfold swap_mod at h
  have hH : HP ([] : List HO) [] := trivial
  refine pcall_of chk40 rfl rfl (vc_sound _ _ _ ?_) rfl
  refine vc_seq ?_
  refine vc_reg (S := ⟨[(0, iv a0_), (1, iv a1_)], [], []⟩) (APath.fin (by kernel_rfl)) (by kernel_rfl) ?_
  refine vc_seq ?_
  obtain ⟨m1, hm1, h⟩ := bind_some h
  obtain ⟨m2, hm2, h⟩ := bind_some h
  refine vc_reg (S := ⟨[(4, iv m2)], [], []⟩) (APath.chunk 2 (by kernel_rfl) (APath.one (.val 7 (.bin .rem) [.t 5, .t 6]) (by kernel_rfl) (st_val (ys := [iv a0_, iv a1_]) (by kernel_rfl) (vexec_rem hm1)) (APath.chunk 3 (by kernel_rfl) (APath.one (.val 11 (.bin .rem) [.t 9, .t 10]) (by kernel_rfl) (st_val (ys := [iv (w64 (m1 + a1_)), iv a1_]) (by kernel_rfl) (vexec_rem hm2)) (APath.fin (by kernel_rfl)))))) (by kernel_rfl) ?_
  refine vc_ret ?_
  obtain rfl := some_inj h
  exact ret_of (by kernel_rfl)
/- isochronref23.Mod -/
theorem ref23_Mod_ok (N : Nat) (a0_ : Int) (a1_ : Int) (r : Int) (h : ref23_Mod N a0_ a1_ = some r) : PCall Try.prog 41 [iv a0_, iv a1_] (iv r) := by
  unfold ref23_Mod at h
  have hH : HP ([] : List HO) [] := trivial
  refine pcall_of chk41 rfl rfl (vc_sound _ _ _ ?_) rfl
  refine vc_seq ?_
  refine vc_reg (S := ⟨[(0, iv a0_), (1, iv a1_)], [], []⟩) (APath.fin (by kernel_rfl)) (by kernel_rfl) ?_
  refine vc_seq ?_
  obtain ⟨m1, hm1, h⟩ := bind_some h
  refine vc_reg (S := ⟨[(1, iv a1_), (5, iv m1)], [], []⟩) (APath.chunk 2 (by kernel_rfl) (APath.one (.val 8 (.bin .rem) [.t 6, .t 7]) (by kernel_rfl) (st_val (ys := [iv a0_, iv a1_]) (by kernel_rfl) (vexec_rem hm1)) (APath.fin (by kernel_rfl)))) (by kernel_rfl) ?_
  obtain ⟨j502, hj502, h⟩ := bind_some h
  refine vc_joinK [5] (fun s => s = ⟨[(5, iv j502)], [], []⟩) ?_ ?_
  · clear h
    have h := hj502
    refine vc_seq ?_
    refine vc_reg (S := ⟨[(1, iv a1_), (5, iv m1), (10, bv (decide (m1 < 0)))], [], []⟩) (APath.fin (by kernel_rfl)) (by kernel_rfl) ?_
    refine vc_ite (by kernel_rfl) h (fun hc503 h => ?_) (fun hc503 h => ?_)
    · refine vc_reg (S := ⟨[(5, iv (w64 (m1 + a1_)))], [], []⟩) (APath.fin (by kernel_rfl)) (by kernel_rfl) ?_
      obtain rfl := some_inj h
      exact ⟨rfl, (by show _ = _; kernel_rfl)⟩
    · refine vc_skip ?_
      obtain rfl := some_inj h
      exact ⟨rfl, (by show _ = _; kernel_rfl)⟩
  · clear hj502
    rintro s hR
    obtain rfl := hR
    refine vc_seq ?_
    refine vc_reg (S := ⟨[(4, iv j502)], [], []⟩) (APath.fin (by kernel_rfl)) (by kernel_rfl) ?_
    refine vc_ret ?_
    obtain rfl := some_inj h
    exact ret_of (by kernel_rfl)
/- isochronref27.At -/
theorem ref27_At_ok (N : Nat) (a0_ : api_Gates) (a1_ : Int) (r : Int × Int) (h : ref27_At N a0_ a1_ = some r) : PCall Try.prog 43 [.agg (c_api_Gates a0_), iv a1_] (.tup [iv r.1, iv r.2]) := by
  unfold ref27_At at h
  have hH : HP ([] : List HO) [] := trivial
  refine pcall_of chk43 rfl rfl (vc_sound _ _ _ ?_) rfl
  refine vc_seq ?_
  refine vc_reg (S := ⟨[(1, iv a1_), (2, .loc 2 0)], [(2, (c_api_Gates a0_))], []⟩) (APath.fin (by kernel_rfl)) (by kernel_rfl) ?_
  refine vc_seq ?_
  obtain ⟨m1, hm1, h⟩ := bind_some h
  refine vc_reg (S := ⟨[(2, .loc 2 0), (6, iv m1)], [(2, (c_api_Gates a0_))], []⟩) (APath.chunk 3 (by kernel_rfl) (APath.one (.val 11 (.bin .rem) [.t 8, .t 10]) (by kernel_rfl) (st_val (ys := [iv a1_, iv a0_.Cycle]) (by kernel_rfl) (vexec_rem hm1)) (APath.fin (by kernel_rfl)))) (by kernel_rfl) ?_
  obtain ⟨j502, hj502, h⟩ := bind_some h
  refine vc_joinK [2, 6] (fun s => s = ⟨[(2, .loc 2 0), (6, iv j502)], [(2, (c_api_Gates a0_))], []⟩) ?_ ?_
  · clear h
    have h := hj502
    refine vc_seq ?_
    refine vc_reg (S := ⟨[(2, .loc 2 0), (6, iv m1), (13, bv (decide (m1 < 0)))], [(2, (c_api_Gates a0_))], []⟩) (APath.fin (by kernel_rfl)) (by kernel_rfl) ?_
    refine vc_ite (by kernel_rfl) h (fun hc503 h => ?_) (fun hc503 h => ?_)
    · refine vc_reg (S := ⟨[(2, .loc 2 0), (6, iv (w64 (m1 + a0_.Cycle)))], [(2, (c_api_Gates a0_))], []⟩) (APath.fin (by kernel_rfl)) (by kernel_rfl) ?_
      obtain rfl := some_inj h
      exact ⟨rfl, (by show _ = _; kernel_rfl)⟩
    · refine vc_skip ?_
      obtain rfl := some_inj h
      exact ⟨rfl, (by show _ = _; kernel_rfl)⟩
  · clear hj502
    rintro s hR
    obtain rfl := hR
    refine vc_seq ?_
    refine vc_reg (S := ⟨[(2, .loc 2 0), (6, iv j502), (7, iv 0)], [(2, (c_api_Gates a0_))], []⟩) (APath.fin (by kernel_rfl)) (by kernel_rfl) ?_
    refine vc_seq ?_
    refine vc_block ?_
    obtain ⟨o1009, ho1009, h⟩ := bind_some h
    refine vc_loop ((loop_sim (fun (x : Int × Int) s => s = ⟨[(2, .loc 2 0), (6, iv x.1), (7, iv x.2)], [(2, (c_api_Gates a0_))], []⟩) (fun x : Int × Int => ref27_At_L1 N a0_ x.1 x.2) (fun (p : Int × Int) e s => e = .exit 0 ∧ (s = ⟨[(2, .loc 2 0), (6, iv p.1), (7, iv p.2)], [(2, (c_api_Gates a0_))], []⟩)) ?_ N _ o1009 _ ho1009 (by show _ = _; kernel_rfl)).mono ?_)
    · clear h ho1009
      rintro ⟨i504, i505⟩ o s h hR
      obtain rfl := hR
      replace h : ref27_At_L1 N a0_ i504 i505 = some o := h
      unfold ref27_At_L1 at h
      refine vc_seq ?_
      refine vc_seq ?_
      obtain ⟨e1006, he1006, h⟩ := bind_some h
      refine vc_reg (S := ⟨[(2, .loc 2 0), (6, iv i504), (7, iv i505), (25, bv (decide (i504 ≥ e1006.Long)))], [(2, (c_api_Gates a0_))], []⟩) (APath.chunk 4 (by kernel_rfl) (APath.one (.val 22 (.iaddrS 2) [.t 20, .t 21]) (by kernel_rfl) (st_val (ys := [s_e_api_Entry false a0_.Entries, iv i505]) (by kernel_rfl) (vexec_iaddrS e_api_Entry he1006)) (APath.chunk 1 (by kernel_rfl) (APath.one (.load 24 (.t 23) 1 false) (by kernel_rfl) (st_loadP (sz := 2) (off := 1) (cs := [.int .i64 e1006.Long]) (r := iv e1006.Long) e_api_Entry he1006 (by kernel_rfl) (by kernel_rfl) (by kernel_rfl)) (APath.fin (by kernel_rfl)))))) (by kernel_rfl) ?_
      refine vc_ite (by kernel_rfl) h (fun hc1007 h => ?_) (fun hc1007 h => ?_)
      · refine vc_skip ?_
        refine vc_kp ?_
        refine vc_block ?_
        refine vc_seq ?_
        obtain ⟨e1008, he1008, h⟩ := bind_some h
        refine vc_reg (S := ⟨[(2, .loc 2 0), (6, iv (w64 (i504 - e1008.Long))), (7, iv i505)], [(2, (c_api_Gates a0_))], []⟩) (APath.chunk 4 (by kernel_rfl) (APath.one (.val 30 (.iaddrS 2) [.t 28, .t 29]) (by kernel_rfl) (st_val (ys := [s_e_api_Entry false a0_.Entries, iv i505]) (by kernel_rfl) (vexec_iaddrS e_api_Entry he1008)) (APath.chunk 1 (by kernel_rfl) (APath.one (.load 32 (.t 31) 1 false) (by kernel_rfl) (st_loadP (sz := 2) (off := 1) (cs := [.int .i64 e1008.Long]) (r := iv e1008.Long) e_api_Entry he1008 (by kernel_rfl) (by kernel_rfl) (by kernel_rfl)) (APath.fin (by kernel_rfl)))))) (by kernel_rfl) ?_
        refine vc_reg (S := ⟨[(2, .loc 2 0), (6, iv (w64 (i504 - e1008.Long))), (7, iv (w64 (i505 + 1)))], [(2, (c_api_Gates a0_))], []⟩) (APath.fin (by kernel_rfl)) (by kernel_rfl) ?_
        obtain rfl := some_inj h
        exact ⟨_, rfl, (by show _ = _; kernel_rfl)⟩
      · refine vc_exit ?_
        try show vc _ _ _ _ _
        obtain rfl := some_inj h
        exact ⟨_, rfl, rfl, (by show _ = _; kernel_rfl)⟩
    · rintro e s hq
      obtain ⟨rfl, hR⟩ := hq
      obtain rfl := hR
      try show vc _ _ _ _ _
      refine vc_seq ?_
      refine vc_reg (S := ⟨[(4, iv o1009.2), (5, iv o1009.1)], [], []⟩) (APath.fin (by kernel_rfl)) (by kernel_rfl) ?_
      refine vc_ret ?_
      obtain rfl := some_inj h
      exact ret_of (by kernel_rfl)
/- isochronref27.Bit -/
theorem ref27_Bit_ok (N : Nat) (a0_ : Int) (a1_ : Int) (r : Bool) (h : ref27_Bit N a0_ a1_ = some r) : PCall Try.prog 44 [iv a0_, iv a1_] (bv r) := by
  unfold ref27_Bit at h
  have hH : HP ([] : List HO) [] := trivial
  refine pcall_of chk44 rfl rfl (vc_sound _ _ _ ?_) rfl
  refine vc_seq ?_
  refine vc_reg (S := ⟨[(0, iv a0_), (1, iv a1_)], [], []⟩) (APath.fin (by kernel_rfl)) (by kernel_rfl) ?_
  refine vc_seq ?_
  obtain ⟨sh1, hsh1, h⟩ := bind_some h
  refine vc_reg (S := ⟨[(4, bv ((Int.tmod sh1 2) == 1))], [], []⟩) (APath.chunk 3 (by kernel_rfl) (APath.one (.val 8 (.sh .shr) [.t 5, .t 7]) (by kernel_rfl) (st_val (ys := [iv a0_, .p (.int .u64 (IntKind.u64.wrap (a1_)))]) (by kernel_rfl) (vexec_shr hsh1)) (APath.fin (by kernel_rfl)))) (by kernel_rfl) ?_
  refine vc_ret ?_
  obtain rfl := some_inj h
  exact ret_of (by kernel_rfl)
/- (swap.state).parts$1 -/
theorem swap_state_parts_1_ok {σ : Type} (N : Nat) (y_ : σ → swap_part → Option (σ × Bool)) (c0_ : swap_state) (c1_ : Int) (c2_ : Int) (s_ : σ) (k0_ : Nat) (k1_ : Nat) (k2_ : Nat) (yid_ : Nat) (T_ : σ → List Thing → Prop) (hy_ : ∀ (x0 : swap_part) (s : σ) (r : σ × Bool) (H : List HO) (its : List Thing), T_ s its → HP H its → y_ s x0 = some r → ∃ H' its', YCall Try.prog yid_ [.agg [s_e_api_Entry false x0.list.Entries, iv x0.list.Cycle, iv x0.at_, iv x0.long]] H r.2 H' ∧ T_ r.1 its' ∧ Fp H H' its its') (H : List HO) (its : List Thing) (hT : T_ s_ its) (hH : HP H (.cel k0_ (c_api_Change c0_.Change) :: .cel k1_ [iv c1_] :: .cel k2_ [iv c2_] :: its)) (r : σ) (h : swap_state_parts_1 N y_ c0_ c1_ c2_ s_ = some r) : ∃ H' its', ACall Try.prog 45 [.yl yid_, .ptr k0_ 0, .ptr k1_ 0, .ptr k2_ 0] H (.tup []) H' ∧ T_ r its' ∧ Fp H H' (.cel k0_ (c_api_Change c0_.Change) :: .cel k1_ [iv c1_] :: .cel k2_ [iv c2_] :: its) (.cel k0_ (c_api_Change c0_.Change) :: .cel k1_ [iv c1_] :: .cel k2_ [iv c2_] :: its') := by
  suffices hs : ∃ H', ACall Try.prog 45 [.yl yid_, .ptr k0_ 0, .ptr k1_ 0, .ptr k2_ 0] H (.tup []) H' ∧ ∃ its', T_ r its' ∧ Fp H H' (.cel k0_ (c_api_Change c0_.Change) :: .cel k1_ [iv c1_] :: .cel k2_ [iv c2_] :: its) (.cel k0_ (c_api_Change c0_.Change) :: .cel k1_ [iv c1_] :: .cel k2_ [iv c2_] :: its') by
    obtain ⟨H', h1, its', h2, h3⟩ := hs
    exact ⟨H', its', h1, h2, h3⟩
  unfold swap_state_parts_1 at h
  replace hH : Fp H H (.cel k0_ (c_api_Change c0_.Change) :: .cel k1_ [iv c1_] :: .cel k2_ [iv c2_] :: its) (.cel k0_ (c_api_Change c0_.Change) :: .cel k1_ [iv c1_] :: .cel k2_ [iv c2_] :: its) := Fp.refl hH
  refine acall_det chk45 (fun H' => ∃ its', T_ r its' ∧ Fp H H' (.cel k0_ (c_api_Change c0_.Change) :: .cel k1_ [iv c1_] :: .cel k2_ [iv c2_] :: its) (.cel k0_ (c_api_Change c0_.Change) :: .cel k1_ [iv c1_] :: .cel k2_ [iv c2_] :: its')) rfl rfl rfl ?_
  refine vc_seq ?_
  refine vc_seq ?_
  obtain ⟨j6, hj, h⟩ := bind_some h
  refine vc_regXR (fun s => s = ⟨[(0, .yl yid_), (1, .ptr k0_ 0), (2, .ptr k1_ 0), (3, .ptr k2_ 0), (15, bv j6)], [], H⟩) ?_ ?_
  · clear h
    have hlc1 := Fp.get hH 0 rfl
    rcases ite_some hj with ⟨hc2, hj⟩ | ⟨hc5, hj⟩
    · have hlc3 := Fp.get hH 1 rfl
      have hlc4 := Fp.get hH 0 rfl
      obtain rfl := some_inj hj
      exact ⟨_, (APath.chunk 2 (by kernel_rfl) (APath.one (.load 8 (.t 7) 1 false) (by kernel_rfl) (AStep.bool (st_loadC (H := H) (id := k0_) (off := 3) (cs := [s_e_api_Entry false c0_.Change.Oper.Entries, iv c0_.Change.Oper.Cycle, iv c0_.Change.Base, bv c0_.Change.Pending, s_e_api_Entry false c0_.Change.Admin.Entries, iv c0_.Change.Admin.Cycle, iv c0_.Change.When]) (c := [bv c0_.Change.Pending]) (r := bv c0_.Change.Pending) (by kernel_rfl) (by kernel_rfl) hlc1 (by kernel_rfl) (by kernel_rfl) (by kernel_rfl)) hc2) (APath.chunk 1 (by kernel_rfl) (APath.oneG (.load 10 (.t 2) 1 false) 9 true (by kernel_rfl) (by kernel_rfl) (st_loadC (H := H) (id := k1_) (off := 0) (cs := [iv c1_]) (c := [iv c1_]) (r := iv c1_) (by kernel_rfl) (by kernel_rfl) hlc3 (by kernel_rfl) (by kernel_rfl) (by kernel_rfl)) (APath.chunk 2 (by kernel_rfl) (APath.oneG (.load 13 (.t 12) 1 false) 9 true (by kernel_rfl) (by kernel_rfl) (st_loadC (H := H) (id := k0_) (off := 6) (cs := [s_e_api_Entry false c0_.Change.Oper.Entries, iv c0_.Change.Oper.Cycle, iv c0_.Change.Base, bv c0_.Change.Pending, s_e_api_Entry false c0_.Change.Admin.Entries, iv c0_.Change.Admin.Cycle, iv c0_.Change.When]) (c := [iv c0_.Change.When]) (r := iv c0_.Change.When) (by kernel_rfl) (by kernel_rfl) hlc4 (by kernel_rfl) (by kernel_rfl) (by kernel_rfl)) (APath.fin (by kernel_rfl)))))))), (by show _ = _; kernel_rfl)⟩
    · obtain rfl := some_inj hj
      exact ⟨_, (APath.chunk 2 (by kernel_rfl) (APath.one (.load 8 (.t 7) 1 false) (by kernel_rfl) (AStep.bool (st_loadC (H := H) (id := k0_) (off := 3) (cs := [s_e_api_Entry false c0_.Change.Oper.Entries, iv c0_.Change.Oper.Cycle, iv c0_.Change.Base, bv c0_.Change.Pending, s_e_api_Entry false c0_.Change.Admin.Entries, iv c0_.Change.Admin.Cycle, iv c0_.Change.When]) (c := [bv c0_.Change.Pending]) (r := bv c0_.Change.Pending) (by kernel_rfl) (by kernel_rfl) hlc1 (by kernel_rfl) (by kernel_rfl) (by kernel_rfl)) hc5) (APath.fin (by kernel_rfl)))), (by show _ = _; kernel_rfl)⟩
  · clear hj
    rintro s hR
    obtain rfl := hR
    refine vc_ite (by kernel_rfl) h (fun hc7 h => ?_) (fun hc7 h => ?_)
    · refine vc_seq ?_
      have hlc8 := Fp.get hH 0 rfl
      have hlc9 := Fp.get hH 1 rfl
      have hlc10 := Fp.get hH 0 rfl
      have hlc11 := Fp.get hH 0 rfl
      obtain ⟨r12, hr12, h⟩ := bind_some h
      have hlc13 := Fp.get hH 2 rfl
      obtain ⟨r14, hr14, h⟩ := bind_some h
      obtain ⟨H15, its16, hvr14, hT, hFr14⟩ := hy_ (swap_part.mk c0_.Change.Admin r12 c2_) s_ r14 H its hT (Fp.tail (own := [.cel k0_ (c_api_Change c0_.Change), .cel k1_ [iv c1_], .cel k2_ [iv c2_]]) (its := its) hH) hr14
      replace hH : Fp H H15 (.cel k0_ (c_api_Change c0_.Change) :: .cel k1_ [iv c1_] :: .cel k2_ [iv c2_] :: its) (.cel k0_ (c_api_Change c0_.Change) :: .cel k1_ [iv c1_] :: .cel k2_ [iv c2_] :: its16) := Fp.callT (own := [.cel k0_ (c_api_Change c0_.Change), .cel k1_ [iv c1_], .cel k2_ [iv c2_]]) (its := its) hH hFr14
      refine vc_regD (S := ⟨[], [], H15⟩) (by kernel_rfl) (APath.chunk 3 (by kernel_rfl) (APath.one (.load 19 (.t 18) 2 true) (by kernel_rfl) (st_loadC (H := H) (id := k0_) (off := 4) (cs := [s_e_api_Entry false c0_.Change.Oper.Entries, iv c0_.Change.Oper.Cycle, iv c0_.Change.Base, bv c0_.Change.Pending, s_e_api_Entry false c0_.Change.Admin.Entries, iv c0_.Change.Admin.Cycle, iv c0_.Change.When]) (c := [s_e_api_Entry false c0_.Change.Admin.Entries, iv c0_.Change.Admin.Cycle]) (r := .agg (c_api_Gates c0_.Change.Admin)) (by kernel_rfl) (by kernel_rfl) hlc8 (by kernel_rfl) (by kernel_rfl) (by kernel_rfl)) (APath.one (.load 20 (.t 2) 1 false) (by kernel_rfl) (st_loadC (H := H) (id := k1_) (off := 0) (cs := [iv c1_]) (c := [iv c1_]) (r := iv c1_) (by kernel_rfl) (by kernel_rfl) hlc9 (by kernel_rfl) (by kernel_rfl) (by kernel_rfl)) (APath.chunk 2 (by kernel_rfl) (APath.one (.load 23 (.t 22) 1 false) (by kernel_rfl) (st_loadC (H := H) (id := k0_) (off := 6) (cs := [s_e_api_Entry false c0_.Change.Oper.Entries, iv c0_.Change.Oper.Cycle, iv c0_.Change.Base, bv c0_.Change.Pending, s_e_api_Entry false c0_.Change.Admin.Entries, iv c0_.Change.Admin.Cycle, iv c0_.Change.When]) (c := [iv c0_.Change.When]) (r := iv c0_.Change.When) (by kernel_rfl) (by kernel_rfl) hlc10 (by kernel_rfl) (by kernel_rfl) (by kernel_rfl)) (APath.chunk 4 (by kernel_rfl) (APath.one (.load 28 (.t 27) 1 false) (by kernel_rfl) (st_loadC (H := H) (id := k0_) (off := 5) (cs := [s_e_api_Entry false c0_.Change.Oper.Entries, iv c0_.Change.Oper.Cycle, iv c0_.Change.Base, bv c0_.Change.Pending, s_e_api_Entry false c0_.Change.Admin.Entries, iv c0_.Change.Admin.Cycle, iv c0_.Change.When]) (c := [iv c0_.Change.Admin.Cycle]) (r := iv c0_.Change.Admin.Cycle) (by kernel_rfl) (by kernel_rfl) hlc11 (by kernel_rfl) (by kernel_rfl) (by kernel_rfl)) (APath.one (.callP 29 40 [.t 24, .t 28]) (by kernel_rfl) (st_callP (by kernel_rfl) (swap_mod_ok N (w64 (c1_ - c0_.Change.When)) c0_.Change.Admin.Cycle r12 hr12)) (APath.one (.load 30 (.t 3) 1 false) (by kernel_rfl) (st_loadC (H := H) (id := k2_) (off := 0) (cs := [iv c2_]) (c := [iv c2_]) (r := iv c2_) (by kernel_rfl) (by kernel_rfl) hlc13 (by kernel_rfl) (by kernel_rfl) (by kernel_rfl)) (APath.chunk 1 (by kernel_rfl) (APath.one (.callY (some 32) (.t 16) [.t 31]) (by kernel_rfl) (st_callY (H := H) (id := yid_) (ys := [.agg [s_e_api_Entry false c0_.Change.Admin.Entries, iv c0_.Change.Admin.Cycle, iv r12, iv c2_]]) (by kernel_rfl) (by kernel_rfl) (by kernel_rfl) (by kernel_rfl) hvr14) APath.done))))))))))) (by kernel_rfl) ?_
      refine vc_ret ?_
      obtain rfl := some_inj h
      exact ⟨[], (by kernel_rfl), (by kernel_rfl), its16, hT, hH⟩
    · refine vc_skip ?_
      refine vc_kp ?_
      refine vc_seq ?_
      have hlc17 := Fp.get hH 2 rfl
      refine vc_reg (S := ⟨[(0, .yl yid_), (1, .ptr k0_ 0), (2, .ptr k1_ 0), (3, .ptr k2_ 0), (5, iv c2_)], [], H⟩) (APath.one (.load 33 (.t 3) 1 false) (by kernel_rfl) (st_loadC (H := H) (id := k2_) (off := 0) (cs := [iv c2_]) (c := [iv c2_]) (r := iv c2_) (by kernel_rfl) (by kernel_rfl) hlc17 (by kernel_rfl) (by kernel_rfl) (by kernel_rfl)) (APath.fin (by kernel_rfl))) (by kernel_rfl) ?_
      obtain ⟨j518, hj518, h⟩ := bind_some h
      refine vc_joinK [0, 1, 2, 3, 5] (fun s => s = ⟨[(0, .yl yid_), (1, .ptr k0_ 0), (2, .ptr k1_ 0), (3, .ptr k2_ 0), (5, iv j518)], [], H⟩) ?_ ?_
      · clear h
        have h := hj518
        refine vc_seq ?_
        have hlc519 := Fp.get hH 0 rfl
        refine vc_reg (S := ⟨[(0, .yl yid_), (1, .ptr k0_ 0), (2, .ptr k1_ 0), (3, .ptr k2_ 0), (5, iv c2_), (36, bv c0_.Change.Pending)], [], H⟩) (APath.chunk 2 (by kernel_rfl) (APath.one (.load 36 (.t 35) 1 false) (by kernel_rfl) (st_loadC (H := H) (id := k0_) (off := 3) (cs := [s_e_api_Entry false c0_.Change.Oper.Entries, iv c0_.Change.Oper.Cycle, iv c0_.Change.Base, bv c0_.Change.Pending, s_e_api_Entry false c0_.Change.Admin.Entries, iv c0_.Change.Admin.Cycle, iv c0_.Change.When]) (c := [bv c0_.Change.Pending]) (r := bv c0_.Change.Pending) (by kernel_rfl) (by kernel_rfl) hlc519 (by kernel_rfl) (by kernel_rfl) (by kernel_rfl)) APath.done)) (by kernel_rfl) ?_
        refine vc_ite (by kernel_rfl) h (fun hc520 h => ?_) (fun hc520 h => ?_)
        · have hlc521 := Fp.get hH 2 rfl
          have hlc522 := Fp.get hH 0 rfl
          have hlc523 := Fp.get hH 1 rfl
          refine vc_reg (S := ⟨[(0, .yl yid_), (1, .ptr k0_ 0), (2, .ptr k1_ 0), (3, .ptr k2_ 0), (5, iv (if (w64 (c0_.Change.When - c1_)) < c2_ then (w64 (c0_.Change.When - c1_)) else c2_))], [], H⟩) (APath.one (.load 37 (.t 3) 1 false) (by kernel_rfl) (st_loadC (H := H) (id := k2_) (off := 0) (cs := [iv c2_]) (c := [iv c2_]) (r := iv c2_) (by kernel_rfl) (by kernel_rfl) hlc521 (by kernel_rfl) (by kernel_rfl) (by kernel_rfl)) (APath.chunk 2 (by kernel_rfl) (APath.one (.load 40 (.t 39) 1 false) (by kernel_rfl) (st_loadC (H := H) (id := k0_) (off := 6) (cs := [s_e_api_Entry false c0_.Change.Oper.Entries, iv c0_.Change.Oper.Cycle, iv c0_.Change.Base, bv c0_.Change.Pending, s_e_api_Entry false c0_.Change.Admin.Entries, iv c0_.Change.Admin.Cycle, iv c0_.Change.When]) (c := [iv c0_.Change.When]) (r := iv c0_.Change.When) (by kernel_rfl) (by kernel_rfl) hlc522 (by kernel_rfl) (by kernel_rfl) (by kernel_rfl)) (APath.one (.load 41 (.t 2) 1 false) (by kernel_rfl) (st_loadC (H := H) (id := k1_) (off := 0) (cs := [iv c1_]) (c := [iv c1_]) (r := iv c1_) (by kernel_rfl) (by kernel_rfl) hlc523 (by kernel_rfl) (by kernel_rfl) (by kernel_rfl)) (APath.fin (by kernel_rfl)))))) (by kernel_rfl) ?_
          obtain rfl := some_inj h
          exact ⟨rfl, (by show _ = _; kernel_rfl)⟩
        · refine vc_skip ?_
          obtain rfl := some_inj h
          exact ⟨rfl, (by show _ = _; kernel_rfl)⟩
      · clear hj518
        rintro s hR
        obtain rfl := hR
        refine vc_seq ?_
        obtain ⟨j537, hj, h⟩ := bind_some h
        refine vc_regDXR (fun s => ∃ (its535 : List Thing) (H536 : List HO), s = ⟨[(0, .yl yid_), (1, .ptr k0_ 0), (3, .ptr k2_ 0), (5, iv j518), (65, bv j537.1)], [], H536⟩ ∧ T_ j537.2 its535 ∧ Fp H H536 (.cel k0_ (c_api_Change c0_.Change) :: .cel k1_ [iv c1_] :: .cel k2_ [iv c2_] :: its) (.cel k0_ (c_api_Change c0_.Change) :: .cel k1_ [iv c1_] :: .cel k2_ [iv c2_] :: its535)) (by kernel_rfl) ?_ ?_
        · clear h
          have hlc524 := Fp.get hH 0 rfl
          have hlc525 := Fp.get hH 1 rfl
          have hlc526 := Fp.get hH 0 rfl
          have hlc527 := Fp.get hH 0 rfl
          obtain ⟨r528, hr528, hj⟩ := bind_some hj
          obtain ⟨r529, hr529, hj⟩ := bind_some hj
          obtain ⟨H530, its531, hvr529, hT, hFr529⟩ := hy_ (swap_part.mk c0_.Change.Oper r528 j518) s_ r529 H its hT (Fp.tail (own := [.cel k0_ (c_api_Change c0_.Change), .cel k1_ [iv c1_], .cel k2_ [iv c2_]]) (its := its) hH) hr529
          replace hH : Fp H H530 (.cel k0_ (c_api_Change c0_.Change) :: .cel k1_ [iv c1_] :: .cel k2_ [iv c2_] :: its) (.cel k0_ (c_api_Change c0_.Change) :: .cel k1_ [iv c1_] :: .cel k2_ [iv c2_] :: its531) := Fp.callT (own := [.cel k0_ (c_api_Change c0_.Change), .cel k1_ [iv c1_], .cel k2_ [iv c2_]]) (its := its) hH hFr529
          rcases ite_some hj with ⟨hc532, hj⟩ | ⟨hc534, hj⟩
          · have hlc533 := Fp.get hH 2 rfl
            obtain rfl := some_inj hj
            exact ⟨_, (APath.chunk 3 (by kernel_rfl) (APath.one (.load 47 (.t 46) 2 true) (by kernel_rfl) (st_loadC (H := H) (id := k0_) (off := 0) (cs := [s_e_api_Entry false c0_.Change.Oper.Entries, iv c0_.Change.Oper.Cycle, iv c0_.Change.Base, bv c0_.Change.Pending, s_e_api_Entry false c0_.Change.Admin.Entries, iv c0_.Change.Admin.Cycle, iv c0_.Change.When]) (c := [s_e_api_Entry false c0_.Change.Oper.Entries, iv c0_.Change.Oper.Cycle]) (r := .agg (c_api_Gates c0_.Change.Oper)) (by kernel_rfl) (by kernel_rfl) hlc524 (by kernel_rfl) (by kernel_rfl) (by kernel_rfl)) (APath.one (.load 48 (.t 2) 1 false) (by kernel_rfl) (st_loadC (H := H) (id := k1_) (off := 0) (cs := [iv c1_]) (c := [iv c1_]) (r := iv c1_) (by kernel_rfl) (by kernel_rfl) hlc525 (by kernel_rfl) (by kernel_rfl) (by kernel_rfl)) (APath.chunk 2 (by kernel_rfl) (APath.one (.load 51 (.t 50) 1 false) (by kernel_rfl) (st_loadC (H := H) (id := k0_) (off := 2) (cs := [s_e_api_Entry false c0_.Change.Oper.Entries, iv c0_.Change.Oper.Cycle, iv c0_.Change.Base, bv c0_.Change.Pending, s_e_api_Entry false c0_.Change.Admin.Entries, iv c0_.Change.Admin.Cycle, iv c0_.Change.When]) (c := [iv c0_.Change.Base]) (r := iv c0_.Change.Base) (by kernel_rfl) (by kernel_rfl) hlc526 (by kernel_rfl) (by kernel_rfl) (by kernel_rfl)) (APath.chunk 4 (by kernel_rfl) (APath.one (.load 56 (.t 55) 1 false) (by kernel_rfl) (st_loadC (H := H) (id := k0_) (off := 1) (cs := [s_e_api_Entry false c0_.Change.Oper.Entries, iv c0_.Change.Oper.Cycle, iv c0_.Change.Base, bv c0_.Change.Pending, s_e_api_Entry false c0_.Change.Admin.Entries, iv c0_.Change.Admin.Cycle, iv c0_.Change.When]) (c := [iv c0_.Change.Oper.Cycle]) (r := iv c0_.Change.Oper.Cycle) (by kernel_rfl) (by kernel_rfl) hlc527 (by kernel_rfl) (by kernel_rfl) (by kernel_rfl)) (APath.one (.callP 57 40 [.t 52, .t 56]) (by kernel_rfl) (st_callP (by kernel_rfl) (swap_mod_ok N (w64 (c1_ - c0_.Change.Base)) c0_.Change.Oper.Cycle r528 hr528)) (APath.chunk 2 (by kernel_rfl) (APath.one (.callY (some 60) (.t 44) [.t 59]) (by kernel_rfl) (st_callYB (H := H) (id := yid_) (ys := [.agg [s_e_api_Entry false c0_.Change.Oper.Entries, iv c0_.Change.Oper.Cycle, iv r528, iv j518]]) (by kernel_rfl) (by kernel_rfl) (by kernel_rfl) (by kernel_rfl) hvr529 hc532) (APath.chunk 2 (by kernel_rfl) (APath.oneG (.load 63 (.t 3) 1 false) 61 true (by kernel_rfl) (by kernel_rfl) (st_loadC (H := H530) (id := k2_) (off := 0) (cs := [iv c2_]) (c := [iv c2_]) (r := iv c2_) (by kernel_rfl) (by kernel_rfl) hlc533 (by kernel_rfl) (by kernel_rfl) (by kernel_rfl)) (APath.fin (by kernel_rfl)))))))))))))), ⟨its531, H530, (by show _ = _; kernel_rfl), hT, hH⟩⟩
          · obtain rfl := some_inj hj
            exact ⟨_, (APath.chunk 3 (by kernel_rfl) (APath.one (.load 47 (.t 46) 2 true) (by kernel_rfl) (st_loadC (H := H) (id := k0_) (off := 0) (cs := [s_e_api_Entry false c0_.Change.Oper.Entries, iv c0_.Change.Oper.Cycle, iv c0_.Change.Base, bv c0_.Change.Pending, s_e_api_Entry false c0_.Change.Admin.Entries, iv c0_.Change.Admin.Cycle, iv c0_.Change.When]) (c := [s_e_api_Entry false c0_.Change.Oper.Entries, iv c0_.Change.Oper.Cycle]) (r := .agg (c_api_Gates c0_.Change.Oper)) (by kernel_rfl) (by kernel_rfl) hlc524 (by kernel_rfl) (by kernel_rfl) (by kernel_rfl)) (APath.one (.load 48 (.t 2) 1 false) (by kernel_rfl) (st_loadC (H := H) (id := k1_) (off := 0) (cs := [iv c1_]) (c := [iv c1_]) (r := iv c1_) (by kernel_rfl) (by kernel_rfl) hlc525 (by kernel_rfl) (by kernel_rfl) (by kernel_rfl)) (APath.chunk 2 (by kernel_rfl) (APath.one (.load 51 (.t 50) 1 false) (by kernel_rfl) (st_loadC (H := H) (id := k0_) (off := 2) (cs := [s_e_api_Entry false c0_.Change.Oper.Entries, iv c0_.Change.Oper.Cycle, iv c0_.Change.Base, bv c0_.Change.Pending, s_e_api_Entry false c0_.Change.Admin.Entries, iv c0_.Change.Admin.Cycle, iv c0_.Change.When]) (c := [iv c0_.Change.Base]) (r := iv c0_.Change.Base) (by kernel_rfl) (by kernel_rfl) hlc526 (by kernel_rfl) (by kernel_rfl) (by kernel_rfl)) (APath.chunk 4 (by kernel_rfl) (APath.one (.load 56 (.t 55) 1 false) (by kernel_rfl) (st_loadC (H := H) (id := k0_) (off := 1) (cs := [s_e_api_Entry false c0_.Change.Oper.Entries, iv c0_.Change.Oper.Cycle, iv c0_.Change.Base, bv c0_.Change.Pending, s_e_api_Entry false c0_.Change.Admin.Entries, iv c0_.Change.Admin.Cycle, iv c0_.Change.When]) (c := [iv c0_.Change.Oper.Cycle]) (r := iv c0_.Change.Oper.Cycle) (by kernel_rfl) (by kernel_rfl) hlc527 (by kernel_rfl) (by kernel_rfl) (by kernel_rfl)) (APath.one (.callP 57 40 [.t 52, .t 56]) (by kernel_rfl) (st_callP (by kernel_rfl) (swap_mod_ok N (w64 (c1_ - c0_.Change.Base)) c0_.Change.Oper.Cycle r528 hr528)) (APath.chunk 2 (by kernel_rfl) (APath.one (.callY (some 60) (.t 44) [.t 59]) (by kernel_rfl) (st_callYB (H := H) (id := yid_) (ys := [.agg [s_e_api_Entry false c0_.Change.Oper.Entries, iv c0_.Change.Oper.Cycle, iv r528, iv j518]]) (by kernel_rfl) (by kernel_rfl) (by kernel_rfl) (by kernel_rfl) hvr529 hc534) (APath.fin (by kernel_rfl)))))))))))), ⟨its531, H530, (by show _ = _; kernel_rfl), hT, hH⟩⟩
        · clear hj
          rintro s hR
          obtain ⟨its535, H536, rfl, hT, hH⟩ := hR
          replace hH : Fp H H536 (.cel k0_ (c_api_Change c0_.Change) :: .cel k1_ [iv c1_] :: .cel k2_ [iv c2_] :: its) (.cel k0_ (c_api_Change c0_.Change) :: .cel k1_ [iv c1_] :: .cel k2_ [iv c2_] :: its535) := hH
          refine vc_ite (by kernel_rfl) h (fun hc538 h => ?_) (fun hc538 h => ?_)
          · have hlc539 := Fp.get hH 0 rfl
            have hlc540 := Fp.get hH 2 rfl
            obtain ⟨r541, hr541, h⟩ := bind_some h
            obtain ⟨H542, its543, hvr541, hT, hFr541⟩ := hy_ (swap_part.mk c0_.Change.Admin 0 (w64 (c2_ - j518))) j537.2 r541 H536 its535 hT (Fp.tail (own := [.cel k0_ (c_api_Change c0_.Change), .cel k1_ [iv c1_], .cel k2_ [iv c2_]]) (its := its535) hH) hr541
            replace hH : Fp H H542 (.cel k0_ (c_api_Change c0_.Change) :: .cel k1_ [iv c1_] :: .cel k2_ [iv c2_] :: its) (.cel k0_ (c_api_Change c0_.Change) :: .cel k1_ [iv c1_] :: .cel k2_ [iv c2_] :: its543) := Fp.callT (own := [.cel k0_ (c_api_Change c0_.Change), .cel k1_ [iv c1_], .cel k2_ [iv c2_]]) (its := its535) hH hFr541
            refine vc_reg (S := ⟨[], [], H542⟩) (APath.chunk 3 (by kernel_rfl) (APath.one (.load 69 (.t 68) 2 true) (by kernel_rfl) (st_loadC (H := H536) (id := k0_) (off := 4) (cs := [s_e_api_Entry false c0_.Change.Oper.Entries, iv c0_.Change.Oper.Cycle, iv c0_.Change.Base, bv c0_.Change.Pending, s_e_api_Entry false c0_.Change.Admin.Entries, iv c0_.Change.Admin.Cycle, iv c0_.Change.When]) (c := [s_e_api_Entry false c0_.Change.Admin.Entries, iv c0_.Change.Admin.Cycle]) (r := .agg (c_api_Gates c0_.Change.Admin)) (by kernel_rfl) (by kernel_rfl) hlc539 (by kernel_rfl) (by kernel_rfl) (by kernel_rfl)) (APath.one (.load 70 (.t 3) 1 false) (by kernel_rfl) (st_loadC (H := H536) (id := k2_) (off := 0) (cs := [iv c2_]) (c := [iv c2_]) (r := iv c2_) (by kernel_rfl) (by kernel_rfl) hlc540 (by kernel_rfl) (by kernel_rfl) (by kernel_rfl)) (APath.chunk 3 (by kernel_rfl) (APath.one (.callY (some 74) (.t 66) [.t 73]) (by kernel_rfl) (st_callY (H := H536) (id := yid_) (ys := [.agg [s_e_api_Entry false c0_.Change.Admin.Entries, iv c0_.Change.Admin.Cycle, iv 0, iv (w64 (c2_ - j518))]]) (by kernel_rfl) (by kernel_rfl) (by kernel_rfl) (by kernel_rfl) hvr541) APath.done))))) (by kernel_rfl) ?_
            obtain rfl := some_inj h
            exact ⟨[], (by kernel_rfl), (by kernel_rfl), its543, hT, hH⟩
          · refine vc_skip ?_
            obtain rfl := some_inj h
            exact ⟨[], (by kernel_rfl), (by kernel_rfl), its535, hT, hH⟩
/- gates.check -/
theorem gates_check_ok (N : Nat) (a0_ : api_Gates) (a1_ : Int) (a2_ : Int) (a3_ : Int) (r : Int) (h : gates_check N a0_ a1_ a2_ a3_ = some r) : PCall Try.prog 46 [.agg (c_api_Gates a0_), iv a1_, iv a2_, iv a3_] (iv r) := by
  unfold gates_check at h
  have hH : HP ([] : List HO) [] := trivial
  refine pcall_of chk46 rfl rfl (vc_sound _ _ _ ?_) rfl
  refine vc_seq ?_
  refine vc_reg (S := ⟨[(1, iv a1_), (2, iv a2_), (3, iv a3_), (4, .loc 4 0)], [(4, (c_api_Gates a0_))], []⟩) (APath.fin (by kernel_rfl)) (by kernel_rfl) ?_
  refine vc_seq ?_
  refine vc_seq ?_
  obtain ⟨r1, hr1, h⟩ := bind_some h
  refine vc_reg (S := ⟨[(1, iv a1_), (2, iv a2_), (3, iv a3_), (9, iv r1)], [], []⟩) (APath.chunk 1 (by kernel_rfl) (APath.one (.call (some 11) 29 [.t 10]) (by kernel_rfl) (st_call (by kernel_rfl) (gates_Check_ok N a0_ r1 hr1)) (APath.fin (by kernel_rfl)))) (by kernel_rfl) ?_
  refine vc_seq ?_
  refine vc_reg (S := ⟨[(1, iv a1_), (2, iv a2_), (3, iv a3_), (9, iv r1), (13, bv (r1 != 0))], [], []⟩) (APath.fin (by kernel_rfl)) (by kernel_rfl) ?_
  refine vc_ite (by kernel_rfl) h (fun hc2 h => ?_) (fun hc2 h => ?_)
  · refine vc_seq ?_
    refine vc_reg (S := ⟨[(8, iv r1)], [], []⟩) (APath.fin (by kernel_rfl)) (by kernel_rfl) ?_
    refine vc_ret ?_
    obtain rfl := some_inj h
    exact ret_of (by kernel_rfl)
  · refine vc_skip ?_
    refine vc_kp ?_
    refine vc_seq ?_
    refine vc_seq ?_
    refine vc_regX ⟨[(36, bv ((decide (a1_ < 0)) || ((decide (a1_ ≥ 8)) || ((decide (a2_ < (-1099511627776))) || ((decide (a2_ > 1099511627776)) || ((decide (a3_ < 0)) || (decide (a3_ > 1099511627776))))))))], [], []⟩ ?_ ?_
    · rcases Bool.eq_false_or_eq_true (decide (a1_ < 0)) with hc3 | hc4
      · exact ⟨_, (APath.chunk 1 (by kernel_rfl) (APath.one (.val 16 (.bin .lss) [.t 15, .k (.p (.int .i64 0))]) (by kernel_rfl) (st_bool (c := (decide (a1_ < 0))) (by kernel_rfl) hc3) (APath.fin (by kernel_rfl)))), by simp only [hc3]; kernel_rfl⟩
      · rcases Bool.eq_false_or_eq_true (decide (a1_ ≥ 8)) with hc5 | hc6
        · exact ⟨_, (APath.chunk 1 (by kernel_rfl) (APath.one (.val 16 (.bin .lss) [.t 15, .k (.p (.int .i64 0))]) (by kernel_rfl) (st_bool (c := (decide (a1_ < 0))) (by kernel_rfl) hc4) (APath.chunk 2 (by kernel_rfl) (APath.oneG (.val 19 (.bin .geq) [.t 18, .k (.p (.int .i64 8))]) 17 false (by kernel_rfl) (by kernel_rfl) (st_bool (c := (decide (a1_ ≥ 8))) (by kernel_rfl) hc5) (APath.fin (by kernel_rfl)))))), by simp only [hc4, hc5]; kernel_rfl⟩
        · rcases Bool.eq_false_or_eq_true (decide (a2_ < (-1099511627776))) with hc7 | hc8
          · exact ⟨_, (APath.chunk 1 (by kernel_rfl) (APath.one (.val 16 (.bin .lss) [.t 15, .k (.p (.int .i64 0))]) (by kernel_rfl) (st_bool (c := (decide (a1_ < 0))) (by kernel_rfl) hc4) (APath.chunk 2 (by kernel_rfl) (APath.oneG (.val 19 (.bin .geq) [.t 18, .k (.p (.int .i64 8))]) 17 false (by kernel_rfl) (by kernel_rfl) (st_bool (c := (decide (a1_ ≥ 8))) (by kernel_rfl) hc6) (APath.chunk 3 (by kernel_rfl) (APath.oneG (.val 23 (.bin .lss) [.t 22, .k (.p (.int .i64 (-1099511627776)))]) 21 false (by kernel_rfl) (by kernel_rfl) (st_bool (c := (decide (a2_ < (-1099511627776)))) (by kernel_rfl) hc7) (APath.fin (by kernel_rfl)))))))), by simp only [hc4, hc6, hc7]; kernel_rfl⟩
          · rcases Bool.eq_false_or_eq_true (decide (a2_ > 1099511627776)) with hc9 | hc10
            · exact ⟨_, (APath.chunk 1 (by kernel_rfl) (APath.one (.val 16 (.bin .lss) [.t 15, .k (.p (.int .i64 0))]) (by kernel_rfl) (st_bool (c := (decide (a1_ < 0))) (by kernel_rfl) hc4) (APath.chunk 2 (by kernel_rfl) (APath.oneG (.val 19 (.bin .geq) [.t 18, .k (.p (.int .i64 8))]) 17 false (by kernel_rfl) (by kernel_rfl) (st_bool (c := (decide (a1_ ≥ 8))) (by kernel_rfl) hc6) (APath.chunk 3 (by kernel_rfl) (APath.oneG (.val 23 (.bin .lss) [.t 22, .k (.p (.int .i64 (-1099511627776)))]) 21 false (by kernel_rfl) (by kernel_rfl) (st_bool (c := (decide (a2_ < (-1099511627776)))) (by kernel_rfl) hc8) (APath.chunk 3 (by kernel_rfl) (APath.oneG (.val 27 (.bin .gtr) [.t 26, .k (.p (.int .i64 1099511627776))]) 25 false (by kernel_rfl) (by kernel_rfl) (st_bool (c := (decide (a2_ > 1099511627776))) (by kernel_rfl) hc9) (APath.fin (by kernel_rfl)))))))))), by simp only [hc4, hc6, hc8, hc9]; kernel_rfl⟩
            · rcases Bool.eq_false_or_eq_true (decide (a3_ < 0)) with hc11 | hc12
              · exact ⟨_, (APath.chunk 1 (by kernel_rfl) (APath.one (.val 16 (.bin .lss) [.t 15, .k (.p (.int .i64 0))]) (by kernel_rfl) (st_bool (c := (decide (a1_ < 0))) (by kernel_rfl) hc4) (APath.chunk 2 (by kernel_rfl) (APath.oneG (.val 19 (.bin .geq) [.t 18, .k (.p (.int .i64 8))]) 17 false (by kernel_rfl) (by kernel_rfl) (st_bool (c := (decide (a1_ ≥ 8))) (by kernel_rfl) hc6) (APath.chunk 3 (by kernel_rfl) (APath.oneG (.val 23 (.bin .lss) [.t 22, .k (.p (.int .i64 (-1099511627776)))]) 21 false (by kernel_rfl) (by kernel_rfl) (st_bool (c := (decide (a2_ < (-1099511627776)))) (by kernel_rfl) hc8) (APath.chunk 3 (by kernel_rfl) (APath.oneG (.val 27 (.bin .gtr) [.t 26, .k (.p (.int .i64 1099511627776))]) 25 false (by kernel_rfl) (by kernel_rfl) (st_bool (c := (decide (a2_ > 1099511627776))) (by kernel_rfl) hc10) (APath.chunk 3 (by kernel_rfl) (APath.oneG (.val 31 (.bin .lss) [.t 30, .k (.p (.int .i64 0))]) 29 false (by kernel_rfl) (by kernel_rfl) (st_bool (c := (decide (a3_ < 0))) (by kernel_rfl) hc11) (APath.fin (by kernel_rfl)))))))))))), by simp only [hc4, hc6, hc8, hc10, hc11]; kernel_rfl⟩
              · exact ⟨_, (APath.chunk 1 (by kernel_rfl) (APath.one (.val 16 (.bin .lss) [.t 15, .k (.p (.int .i64 0))]) (by kernel_rfl) (st_bool (c := (decide (a1_ < 0))) (by kernel_rfl) hc4) (APath.chunk 2 (by kernel_rfl) (APath.oneG (.val 19 (.bin .geq) [.t 18, .k (.p (.int .i64 8))]) 17 false (by kernel_rfl) (by kernel_rfl) (st_bool (c := (decide (a1_ ≥ 8))) (by kernel_rfl) hc6) (APath.chunk 3 (by kernel_rfl) (APath.oneG (.val 23 (.bin .lss) [.t 22, .k (.p (.int .i64 (-1099511627776)))]) 21 false (by kernel_rfl) (by kernel_rfl) (st_bool (c := (decide (a2_ < (-1099511627776)))) (by kernel_rfl) hc8) (APath.chunk 3 (by kernel_rfl) (APath.oneG (.val 27 (.bin .gtr) [.t 26, .k (.p (.int .i64 1099511627776))]) 25 false (by kernel_rfl) (by kernel_rfl) (st_bool (c := (decide (a2_ > 1099511627776))) (by kernel_rfl) hc10) (APath.chunk 3 (by kernel_rfl) (APath.oneG (.val 31 (.bin .lss) [.t 30, .k (.p (.int .i64 0))]) 29 false (by kernel_rfl) (by kernel_rfl) (st_bool (c := (decide (a3_ < 0))) (by kernel_rfl) hc12) (APath.fin (by kernel_rfl)))))))))))), by simp only [hc4, hc6, hc8, hc10, hc12]; kernel_rfl⟩
    · refine vc_ite (by kernel_rfl) h (fun hc13 h => ?_) (fun hc13 h => ?_)
      · refine vc_seq ?_
        refine vc_reg (S := ⟨[(8, iv 2)], [], []⟩) (APath.fin (by kernel_rfl)) (by kernel_rfl) ?_
        refine vc_ret ?_
        obtain rfl := some_inj h
        exact ret_of (by kernel_rfl)
      · refine vc_skip ?_
        refine vc_kp ?_
        refine vc_seq ?_
        refine vc_reg (S := ⟨[(8, iv 0)], [], []⟩) (APath.fin (by kernel_rfl)) (by kernel_rfl) ?_
        refine vc_ret ?_
        obtain rfl := some_inj h
        exact ret_of (by kernel_rfl)
/- gates.find -/
theorem gates_find_ok (N : Nat) (a0_ : api_Gates) (a1_ : Int) (r : Int × Int) (h : gates_find N a0_ a1_ = some r) : PCall Try.prog 47 [.agg (c_api_Gates a0_), iv a1_] (.tup [iv r.1, iv r.2]) := by
  unfold gates_find at h
  have hH : HP ([] : List HO) [] := trivial
  refine pcall_of chk47 rfl rfl (vc_sound _ _ _ ?_) rfl
  refine vc_seq ?_
  refine vc_reg (S := ⟨[(1, iv a1_), (2, .loc 2 0), (4, iv 0)], [(2, (c_api_Gates a0_))], []⟩) (APath.fin (by kernel_rfl)) (by kernel_rfl) ?_
  refine vc_scope (scope_simX 0 (by kernel_rfl) ?_)
  obtain ⟨m1, hm1, h⟩ := bind_some h
  obtain ⟨m2, hm2, h⟩ := bind_some h
  refine vc_regD (S := ⟨[(1, iv m2), (2, .loc 2 0), (4, iv 0)], [(2, (c_api_Gates a0_))], []⟩) (by kernel_rfl) (APath.chunk 3 (by kernel_rfl) (APath.one (.val 9 (.bin .rem) [.t 6, .t 8]) (by kernel_rfl) (st_val (ys := [iv a1_, iv a0_.Cycle]) (by kernel_rfl) (vexec_rem hm1)) (APath.chunk 5 (by kernel_rfl) (APath.one (.val 15 (.bin .rem) [.t 12, .t 14]) (by kernel_rfl) (st_val (ys := [iv (w64 (m1 + a0_.Cycle)), iv a0_.Cycle]) (by kernel_rfl) (vexec_rem hm2)) (APath.fin (by kernel_rfl)))))) (by kernel_rfl) ?_
  refine ⟨rfl, ?_⟩
  obtain ⟨o509, ho509, h⟩ := bind_some h
  refine ScopeOK.mk (fun (x : Int × Int) s => s = ⟨[(1, iv x.1), (2, .loc 2 0), (4, iv x.2)], [(2, (c_api_Gates a0_))], []⟩) (fun x : Int × Int => gates_find_L1 N a0_ x.1 x.2) (fun (p : Int × Int) e s => e = .ret ∧ ∃ xs, resL s i47.res = some xs ∧ tupOf xs = .tup [iv p.1, iv p.2]) ho509 (by show _ = _; kernel_rfl) ?_ ?_
  · clear h ho509
    rintro ⟨i3, i4⟩ o s h hR
    obtain rfl := hR
    replace h : gates_find_L1 N a0_ i3 i4 = some o := h
    unfold gates_find_L1 at h
    refine vc_seq ?_
    refine vc_seq ?_
    obtain ⟨e505, he505, h⟩ := bind_some h
    refine vc_reg (S := ⟨[(1, iv i3), (2, .loc 2 0), (4, iv i4), (23, bv (decide (i3 ≥ e505.Long)))], [(2, (c_api_Gates a0_))], []⟩) (APath.chunk 4 (by kernel_rfl) (APath.one (.val 20 (.iaddrS 2) [.t 18, .t 19]) (by kernel_rfl) (st_val (ys := [s_e_api_Entry false a0_.Entries, iv i4]) (by kernel_rfl) (vexec_iaddrS e_api_Entry he505)) (APath.chunk 1 (by kernel_rfl) (APath.one (.load 22 (.t 21) 1 false) (by kernel_rfl) (st_loadP (sz := 2) (off := 1) (cs := [.int .i64 e505.Long]) (r := iv e505.Long) e_api_Entry he505 (by kernel_rfl) (by kernel_rfl) (by kernel_rfl)) (APath.fin (by kernel_rfl)))))) (by kernel_rfl) ?_
    refine vc_ite (by kernel_rfl) h (fun hc506 h => ?_) (fun hc506 h => ?_)
    · refine vc_seq ?_
      obtain ⟨e507, he507, h⟩ := bind_some h
      refine vc_reg (S := ⟨[(1, iv (w64 (i3 - e507.Long))), (2, .loc 2 0), (4, iv i4)], [(2, (c_api_Gates a0_))], []⟩) (APath.chunk 4 (by kernel_rfl) (APath.one (.val 28 (.iaddrS 2) [.t 26, .t 27]) (by kernel_rfl) (st_val (ys := [s_e_api_Entry false a0_.Entries, iv i4]) (by kernel_rfl) (vexec_iaddrS e_api_Entry he507)) (APath.chunk 1 (by kernel_rfl) (APath.one (.load 30 (.t 29) 1 false) (by kernel_rfl) (st_loadP (sz := 2) (off := 1) (cs := [.int .i64 e507.Long]) (r := iv e507.Long) e_api_Entry he507 (by kernel_rfl) (by kernel_rfl) (by kernel_rfl)) (APath.fin (by kernel_rfl)))))) (by kernel_rfl) ?_
      refine vc_seq ?_
      refine vc_reg (S := ⟨[(1, iv (w64 (i3 - e507.Long))), (2, .loc 2 0), (4, iv (w64 (i4 + 1)))], [(2, (c_api_Gates a0_))], []⟩) (APath.fin (by kernel_rfl)) (by kernel_rfl) ?_
      refine vc_goto ?_
      obtain rfl := some_inj h
      exact ⟨rfl, _, rfl, (by show _ = _; kernel_rfl)⟩
    · refine vc_skip ?_
      refine vc_kp ?_
      refine vc_seq ?_
      obtain ⟨e508, he508, h⟩ := bind_some h
      refine vc_regD (S := ⟨[(4, iv i4), (5, iv (w64 (e508.Long - i3)))], [], []⟩) (by kernel_rfl) (APath.chunk 4 (by kernel_rfl) (APath.one (.val 38 (.iaddrS 2) [.t 36, .t 37]) (by kernel_rfl) (st_val (ys := [s_e_api_Entry false a0_.Entries, iv i4]) (by kernel_rfl) (vexec_iaddrS e_api_Entry he508)) (APath.chunk 1 (by kernel_rfl) (APath.one (.load 40 (.t 39) 1 false) (by kernel_rfl) (st_loadP (sz := 2) (off := 1) (cs := [.int .i64 e508.Long]) (r := iv e508.Long) e_api_Entry he508 (by kernel_rfl) (by kernel_rfl) (by kernel_rfl)) (APath.fin (by kernel_rfl)))))) (by kernel_rfl) ?_
      refine vc_ret ?_
      obtain rfl := some_inj h
      exact ⟨_, rfl, rfl, ret_of (by kernel_rfl)⟩
  · rintro e s _ hq
    obtain ⟨rfl, hq⟩ := hq
    obtain rfl := some_inj h
    exact hq
/- isochronref27.State -/
theorem ref27_State_ok (N : Nat) (a0_ : api_Gates) (a1_ : Int) (r : Int) (h : ref27_State N a0_ a1_ = some r) : PCall Try.prog 48 [.agg (c_api_Gates a0_), iv a1_] (iv r) := by
  unfold ref27_State at h
  have hH : HP ([] : List HO) [] := trivial
  refine pcall_of chk48 rfl rfl (vc_sound _ _ _ ?_) rfl
  refine vc_seq ?_
  refine vc_reg (S := ⟨[(1, iv a1_), (2, .loc 2 0)], [(2, (c_api_Gates a0_))], []⟩) (APath.fin (by kernel_rfl)) (by kernel_rfl) ?_
  refine vc_seq ?_
  obtain ⟨r1, hr1, h⟩ := bind_some h
  refine vc_reg (S := ⟨[(2, .loc 2 0), (5, iv r1.1)], [(2, (c_api_Gates a0_))], []⟩) (APath.chunk 2 (by kernel_rfl) (APath.one (.call (some 10) 43 [.t 8, .t 9]) (by kernel_rfl) (st_call (by kernel_rfl) (ref27_At_ok N a0_ a1_ r1 hr1)) (APath.fin (by kernel_rfl)))) (by kernel_rfl) ?_
  refine vc_seq ?_
  obtain ⟨e2, he2, h⟩ := bind_some h
  refine vc_reg (S := ⟨[(4, iv e2.Mask)], [], []⟩) (APath.chunk 3 (by kernel_rfl) (APath.one (.val 16 (.iaddrS 2) [.t 14, .t 15]) (by kernel_rfl) (st_val (ys := [s_e_api_Entry false a0_.Entries, iv r1.1]) (by kernel_rfl) (vexec_iaddrS e_api_Entry he2)) (APath.chunk 1 (by kernel_rfl) (APath.one (.load 18 (.t 17) 1 false) (by kernel_rfl) (st_loadP (sz := 2) (off := 0) (cs := [.int .i64 e2.Mask]) (r := iv e2.Mask) e_api_Entry he2 (by kernel_rfl) (by kernel_rfl) (by kernel_rfl)) (APath.fin (by kernel_rfl)))))) (by kernel_rfl) ?_
  refine vc_ret ?_
  obtain rfl := some_inj h
  exact ret_of (by kernel_rfl)
/- gates.stretch -/
theorem gates_stretch_ok (N : Nat) (a0_ : api_Gates) (a1_ : Int) (a2_ : Int → Option (Bool)) (a2_f : Nat) (a2_p a2_c : List AV) (ha2_n : (noLocL a2_p && noLocL a2_c) = true) (its : List Thing) (ha2_ : ∀ (H : List HO) (x0 : Int) (r : Bool), HP H its → a2_ x0 = some r → VCall Try.prog (.fn a2_f a2_p a2_c) [iv x0] H (bv r) H) (H : List HO) (hH : HP H (its)) (r : Int) (h : gates_stretch N a0_ a1_ a2_ = some r) : ACall Try.prog 50 [.agg (c_api_Gates a0_), iv a1_, .fn a2_f a2_p a2_c] H (iv r) H := by
  unfold gates_stretch at h
  refine acall_of chk50 rfl (by simpa [noLocL, noLoc.noLocL, noLoc] using ha2_n) rfl (vc_sound _ _ _ ?_)
  refine vc_seq ?_
  refine vc_reg (S := ⟨[(1, iv a1_), (2, .fn a2_f a2_p a2_c), (3, .loc 3 0)], [(3, (c_api_Gates a0_))], H⟩) (APath.fin (by kernel_rfl)) (by kernel_rfl) ?_
  refine vc_seq ?_
  obtain ⟨r1, hr1, h⟩ := bind_some h
  refine vc_reg (S := ⟨[(2, .fn a2_f a2_p a2_c), (3, .loc 3 0), (7, iv r1.1), (8, iv r1.2)], [(3, (c_api_Gates a0_))], H⟩) (APath.chunk 2 (by kernel_rfl) (APath.one (.call (some 13) 47 [.t 11, .t 12]) (by kernel_rfl) (st_call (by kernel_rfl) (gates_find_ok N a0_ a1_ r1 hr1)) (APath.fin (by kernel_rfl)))) (by kernel_rfl) ?_
  refine vc_seq ?_
  refine vc_reg (S := ⟨[(2, .fn a2_f a2_p a2_c), (3, .loc 3 0), (7, iv r1.1), (8, iv r1.2), (9, iv 0)], [(3, (c_api_Gates a0_))], H⟩) (APath.fin (by kernel_rfl)) (by kernel_rfl) ?_
  refine vc_seq ?_
  refine vc_seq ?_
  refine vc_reg (S := ⟨[(2, .fn a2_f a2_p a2_c), (3, .loc 3 0), (7, iv r1.1), (8, iv r1.2), (9, iv 0), (19, iv (w64 (((List.length a0_.Entries : Nat) : Int) + 1))), (20, iv 0)], [(3, (c_api_Gates a0_))], H⟩) (APath.chunk 2 (by kernel_rfl) (APath.one (.val 18 .len [.t 17]) (by kernel_rfl) (st_val (ys := [s_e_api_Entry false a0_.Entries]) (by kernel_rfl) (vexec_len e_api_Entry)) (APath.fin (by kernel_rfl)))) (by kernel_rfl) ?_
  refine vc_block ?_
  obtain ⟨o512, ho512, h⟩ := bind_some h
  refine vc_loop ((loop_sim (fun (x : Int × Int × Int × Int) s => s = ⟨[(2, .fn a2_f a2_p a2_c), (3, .loc 3 0), (7, iv x.1), (8, iv x.2.1), (9, iv x.2.2.1), (19, iv (w64 (((List.length a0_.Entries : Nat) : Int) + 1))), (20, iv x.2.2.2)], [(3, (c_api_Gates a0_))], H⟩) (fun x : Int × Int × Int × Int => gates_stretch_L1 N a0_ a2_ x.1 x.2.1 x.2.2.1 x.2.2.2) (fun (p : (Int × Int × Int × Int) ⊕ (Int)) e s => match p with | (.inl p) => e = .exit 0 ∧ (s = ⟨[(2, .fn a2_f a2_p a2_c), (3, .loc 3 0), (7, iv p.1), (8, iv p.2.1), (9, iv p.2.2.1), (19, iv (w64 (((List.length a0_.Entries : Nat) : Int) + 1))), (20, iv p.2.2.2)], [(3, (c_api_Gates a0_))], H⟩) | (.inr p) => e = .ret ∧ ∃ xs, rawL s i50.res = some xs ∧ tupOf xs = iv p ∧ s.H = H) ?_ N _ o512 _ ho512 (by show _ = _; kernel_rfl)).mono ?_)
  · clear h ho512
    rintro ⟨i2, i3, i4, i5⟩ o s h hR
    obtain rfl := hR
    replace h : gates_stretch_L1 N a0_ a2_ i2 i3 i4 i5 = some o := h
    unfold gates_stretch_L1 at h
    refine vc_seq ?_
    refine vc_reg (S := ⟨[(2, .fn a2_f a2_p a2_c), (3, .loc 3 0), (7, iv i2), (8, iv i3), (9, iv i4), (19, iv (w64 (((List.length a0_.Entries : Nat) : Int) + 1))), (20, iv i5), (21, bv (decide (i5 < (w64 (((List.length a0_.Entries : Nat) : Int) + 1)))))], [(3, (c_api_Gates a0_))], H⟩) (APath.fin (by kernel_rfl)) (by kernel_rfl) ?_
    refine vc_seq ?_
    refine vc_ite (by kernel_rfl) h (fun hc506 h => ?_) (fun hc506 h => ?_)
    · refine vc_skip ?_
      refine vc_kp ?_
      refine vc_seq ?_
      refine vc_block ?_
      refine vc_seq ?_
      refine vc_seq ?_
      obtain ⟨e507, he507, h⟩ := bind_some h
      obtain ⟨r508, hr508, h⟩ := bind_some h
      have hvr508 := ha2_ _ e507.Mask _ hH hr508
      refine vc_reg (S := ⟨[(2, .fn a2_f a2_p a2_c), (3, .loc 3 0), (7, iv i2), (8, iv i3), (9, iv i4), (19, iv (w64 (((List.length a0_.Entries : Nat) : Int) + 1))), (20, iv i5), (30, bv (!r508))], [(3, (c_api_Gates a0_))], H⟩) (APath.chunk 4 (by kernel_rfl) (APath.one (.val 26 (.iaddrS 2) [.t 24, .t 25]) (by kernel_rfl) (st_val (ys := [s_e_api_Entry false a0_.Entries, iv i2]) (by kernel_rfl) (vexec_iaddrS e_api_Entry he507)) (APath.chunk 1 (by kernel_rfl) (APath.one (.load 28 (.t 27) 1 false) (by kernel_rfl) (st_loadP (sz := 2) (off := 0) (cs := [.int .i64 e507.Mask]) (r := iv e507.Mask) e_api_Entry he507 (by kernel_rfl) (by kernel_rfl) (by kernel_rfl)) (APath.one (.callV (some 29) (.t 22) [.t 28]) (by kernel_rfl) (st_callV (H := H) (ys := [iv e507.Mask]) (by kernel_rfl) (by kernel_rfl) (by kernel_rfl) hvr508) (APath.fin (by kernel_rfl))))))) (by kernel_rfl) ?_
      refine vc_ite (by kernel_rfl) h (fun hc509 h => ?_) (fun hc509 h => ?_)
      · refine vc_seq ?_
        refine vc_reg (S := ⟨[(6, iv i4)], [], H⟩) (APath.fin (by kernel_rfl)) (by kernel_rfl) ?_
        refine vc_ret ?_
        obtain rfl := some_inj h
        exact ⟨_, rfl, rfl, ret_ofA (by kernel_rfl) (by kernel_rfl)⟩
      · refine vc_skip ?_
        refine vc_kp ?_
        refine vc_seq ?_
        refine vc_reg (S := ⟨[(2, .fn a2_f a2_p a2_c), (3, .loc 3 0), (7, iv i2), (9, iv (w64 (i4 + i3))), (19, iv (w64 (((List.length a0_.Entries : Nat) : Int) + 1))), (20, iv i5)], [(3, (c_api_Gates a0_))], H⟩) (APath.fin (by kernel_rfl)) (by kernel_rfl) ?_
        refine vc_seq ?_
        obtain ⟨m510, hm510, h⟩ := bind_some h
        refine vc_reg (S := ⟨[(2, .fn a2_f a2_p a2_c), (3, .loc 3 0), (7, iv m510), (9, iv (w64 (i4 + i3))), (19, iv (w64 (((List.length a0_.Entries : Nat) : Int) + 1))), (20, iv i5)], [(3, (c_api_Gates a0_))], H⟩) (APath.chunk 4 (by kernel_rfl) (APath.one (.val 39 .len [.t 38]) (by kernel_rfl) (st_val (ys := [s_e_api_Entry false a0_.Entries]) (by kernel_rfl) (vexec_len e_api_Entry)) (APath.one (.val 40 (.bin .rem) [.t 36, .t 39]) (by kernel_rfl) (st_val (ys := [iv (w64 (i2 + 1)), iv ((List.length a0_.Entries : Nat) : Int)]) (by kernel_rfl) (vexec_rem hm510)) (APath.fin (by kernel_rfl))))) (by kernel_rfl) ?_
        obtain ⟨e511, he511, h⟩ := bind_some h
        refine vc_reg (S := ⟨[(2, .fn a2_f a2_p a2_c), (3, .loc 3 0), (7, iv m510), (8, iv e511.Long), (9, iv (w64 (i4 + i3))), (19, iv (w64 (((List.length a0_.Entries : Nat) : Int) + 1))), (20, iv i5)], [(3, (c_api_Gates a0_))], H⟩) (APath.chunk 3 (by kernel_rfl) (APath.one (.val 44 (.iaddrS 2) [.t 42, .t 43]) (by kernel_rfl) (st_val (ys := [s_e_api_Entry false a0_.Entries, iv m510]) (by kernel_rfl) (vexec_iaddrS e_api_Entry he511)) (APath.chunk 1 (by kernel_rfl) (APath.one (.load 46 (.t 45) 1 false) (by kernel_rfl) (st_loadP (sz := 2) (off := 1) (cs := [.int .i64 e511.Long]) (r := iv e511.Long) e_api_Entry he511 (by kernel_rfl) (by kernel_rfl) (by kernel_rfl)) (APath.fin (by kernel_rfl)))))) (by kernel_rfl) ?_
        refine vc_kp ?_
        refine vc_reg (S := ⟨[(2, .fn a2_f a2_p a2_c), (3, .loc 3 0), (7, iv m510), (8, iv e511.Long), (9, iv (w64 (i4 + i3))), (19, iv (w64 (((List.length a0_.Entries : Nat) : Int) + 1))), (20, iv (w64 (i5 + 1)))], [(3, (c_api_Gates a0_))], H⟩) (APath.fin (by kernel_rfl)) (by kernel_rfl) ?_
        obtain rfl := some_inj h
        exact ⟨_, rfl, (by show _ = _; kernel_rfl)⟩
    · refine vc_exit ?_
      try show vc _ _ _ _ _
      obtain rfl := some_inj h
      exact ⟨_, rfl, rfl, (by show _ = _; kernel_rfl)⟩
  · rintro e s hq
    rcases o512 with p513 | p514
    · dsimp only at h hq
      obtain ⟨rfl, hR⟩ := hq
      obtain rfl := hR
      try show vc _ _ _ _ _
      refine vc_seq ?_
      refine vc_reg (S := ⟨[(6, iv a0_.Cycle)], [], H⟩) (APath.fin (by kernel_rfl)) (by kernel_rfl) ?_
      refine vc_ret ?_
      obtain rfl := some_inj h
      exact ret_ofA (by kernel_rfl) (by kernel_rfl)
    · dsimp only at h hq
      obtain ⟨rfl, hq⟩ := hq
      obtain rfl := some_inj h
      exact hq
/- gates.open$1 -/
theorem gates_open_1_ok (N : Nat) (a0_ : Int) (c0_ : Int) (k0_ : Nat) (H : List HO) (hH : HP H [.cel k0_ [iv c0_]]) (r : Bool) (h : gates_open_1 N a0_ c0_ = some r) : ACall Try.prog 51 [iv a0_, .ptr k0_ 0] H (bv r) H := by
  unfold gates_open_1 at h
  refine acall_of chk51 rfl rfl rfl (vc_sound _ _ _ ?_)
  refine vc_seq ?_
  refine vc_reg (S := ⟨[(0, iv a0_), (1, .ptr k0_ 0)], [], H⟩) (APath.fin (by kernel_rfl)) (by kernel_rfl) ?_
  refine vc_seq ?_
  have hlc1 := HP.get hH 0 rfl
  obtain ⟨sh2, hsh2, h⟩ := bind_some h
  refine vc_reg (S := ⟨[(3, bv ((andI .i64 sh2 1) == 1))], [], H⟩) (APath.chunk 1 (by kernel_rfl) (APath.one (.load 5 (.t 1) 1 false) (by kernel_rfl) (st_loadC (H := H) (id := k0_) (off := 0) (cs := [iv c0_]) (c := [iv c0_]) (r := iv c0_) (by kernel_rfl) (by kernel_rfl) hlc1 (by kernel_rfl) (by kernel_rfl) (by kernel_rfl)) (APath.one (.val 6 (.sh .shr) [.t 4, .t 5]) (by kernel_rfl) (st_val (ys := [iv a0_, iv c0_]) (by kernel_rfl) (vexec_shr hsh2)) (APath.fin (by kernel_rfl))))) (by kernel_rfl) ?_
  replace hH : HP H [] := HP.pick hH [] rfl
  refine vc_ret ?_
  obtain rfl := some_inj h
  exact ret_ofA (by kernel_rfl) (by kernel_rfl)
/- (isochronref29.Draft).Change -/
theorem ref29_Draft_Change_ok (N : Nat) (a0_ : ref29_Draft) (r : api_Change) (h : ref29_Draft_Change N a0_ = some r) : PCall Try.prog 9 [.agg (c_ref29_Draft a0_)] (.agg [s_e_api_Entry false r.Oper.Entries, iv r.Oper.Cycle, iv r.Base, bv r.Pending, s_e_api_Entry false r.Admin.Entries, iv r.Admin.Cycle, iv r.When]) := by
  unfold ref29_Draft_Change at h
  have hH : HP ([] : List HO) [] := trivial
  refine pcall_of chk9 rfl rfl (vc_sound _ _ _ ?_) rfl
  refine vc_seq ?_
  refine vc_reg (S := ⟨[(1, .loc 1 0), (2, .loc 2 0)], [(1, (c_ref29_Draft a0_)), (2, [s_e_api_Entry true [], iv 0, iv 0, bv false, s_e_api_Entry true [], iv 0, iv 0])], []⟩) (APath.fin (by kernel_rfl)) (by kernel_rfl) ?_
  refine vc_seq ?_
  obtain ⟨r1, hr1, h⟩ := bind_some h
  refine vc_regD (S := ⟨[(1, .loc 1 0), (2, .loc 2 0), (3, .loc 3 0)], [(1, (c_ref29_Draft a0_)), (2, [s_e_api_Entry true [], iv 0, iv 0, bv false, s_e_api_Entry true [], iv 0, iv 0]), (3, [s_e_api_Entry false r1.Entries, iv r1.Cycle, iv (w64 (a0_.Base)), bv false, s_e_api_Entry true [], iv 0, iv 0])], []⟩) (by kernel_rfl) (APath.chunk 2 (by kernel_rfl) (APath.one (.callP 6 21 [.t 5]) (by kernel_rfl) (st_callP (by kernel_rfl) (ref27_Draft_Gates_ok N a0_.Oper r1 hr1)) (APath.fin (by kernel_rfl)))) (by kernel_rfl) ?_
  obtain ⟨j503, hj503, h⟩ := bind_some h
  refine vc_joinK [2, 3] (fun s => ∃ (f502 : Bool), s = ⟨[(2, .loc 2 0), (3, .loc 3 0)], [(2, [s_e_api_Entry true [], iv 0, iv 0, bv false, s_e_api_Entry true [], iv 0, iv 0]), (3, [s_e_api_Entry false r1.Entries, iv r1.Cycle, iv (w64 (a0_.Base)), bv j503.1, s_e_api_Entry f502 j503.2.1, iv j503.2.2.1, iv j503.2.2.2])], []⟩) ?_ ?_
  · clear h
    have h := hj503
    refine vc_seq ?_
    refine vc_reg (S := ⟨[(1, .loc 1 0), (2, .loc 2 0), (3, .loc 3 0), (12, bv a0_.Pending)], [(1, (c_ref29_Draft a0_)), (2, [s_e_api_Entry true [], iv 0, iv 0, bv false, s_e_api_Entry true [], iv 0, iv 0]), (3, [s_e_api_Entry false r1.Entries, iv r1.Cycle, iv (w64 (a0_.Base)), bv false, s_e_api_Entry true [], iv 0, iv 0])], []⟩) (APath.fin (by kernel_rfl)) (by kernel_rfl) ?_
    refine vc_ite (by kernel_rfl) h (fun hc504 h => ?_) (fun hc504 h => ?_)
    · refine vc_seq ?_
      obtain ⟨r505, hr505, h⟩ := bind_some h
      refine vc_reg (S := ⟨[(1, .loc 1 0), (2, .loc 2 0), (3, .loc 3 0)], [(1, (c_ref29_Draft a0_)), (2, [s_e_api_Entry true [], iv 0, iv 0, bv false, s_e_api_Entry true [], iv 0, iv 0]), (3, [s_e_api_Entry false r1.Entries, iv r1.Cycle, iv (w64 (a0_.Base)), bv true, s_e_api_Entry false r505.Entries, iv r505.Cycle, iv 0])], []⟩) (APath.chunk 2 (by kernel_rfl) (APath.one (.call (some 15) 21 [.t 14]) (by kernel_rfl) (st_call (by kernel_rfl) (ref27_Draft_Gates_ok N a0_.Admin r505 hr505)) (APath.fin (by kernel_rfl)))) (by kernel_rfl) ?_
      refine vc_reg (S := ⟨[(2, .loc 2 0), (3, .loc 3 0)], [(2, [s_e_api_Entry true [], iv 0, iv 0, bv false, s_e_api_Entry true [], iv 0, iv 0]), (3, [s_e_api_Entry false r1.Entries, iv r1.Cycle, iv (w64 (a0_.Base)), bv true, s_e_api_Entry false r505.Entries, iv r505.Cycle, iv (w64 ((w64 (a0_.Base)) + (w64 ((w64 ((w64 (a0_.Later)) - 100)) * r1.Cycle))))])], []⟩) (APath.fin (by kernel_rfl)) (by kernel_rfl) ?_
      obtain rfl := some_inj h
      exact ⟨rfl, ⟨false, (by show _ = _; kernel_rfl)⟩⟩
    · refine vc_skip ?_
      obtain rfl := some_inj h
      exact ⟨rfl, ⟨true, (by show _ = _; kernel_rfl)⟩⟩
  · clear hj503
    rintro s hR
    obtain ⟨f502, rfl⟩ := hR
    refine vc_seq ?_
    refine vc_reg (S := ⟨[(2, .loc 2 0)], [(2, [s_e_api_Entry false r1.Entries, iv r1.Cycle, iv (w64 (a0_.Base)), bv j503.1, s_e_api_Entry f502 j503.2.1, iv j503.2.2.1, iv j503.2.2.2])], []⟩) (APath.fin (by kernel_rfl)) (by kernel_rfl) ?_
    refine vc_ret ?_
    obtain rfl := some_inj h
    exact ret_of (by kernel_rfl)
/- swap.Check -/
theorem swap_Check_ok (N : Nat) (a0_ : api_Change) (r : Int) (h : swap_Check N a0_ = some r) : PCall Try.prog 11 [.agg (c_api_Change a0_)] (iv r) := by
  unfold swap_Check at h
  have hH : HP ([] : List HO) [] := trivial
  refine pcall_of chk11 rfl rfl (vc_sound _ _ _ ?_) rfl
  refine vc_seq ?_
  refine vc_reg (S := ⟨[(1, .loc 1 0)], [(1, (c_api_Change a0_))], []⟩) (APath.fin (by kernel_rfl)) (by kernel_rfl) ?_
  refine vc_seq ?_
  refine vc_seq ?_
  obtain ⟨j5, hj, h⟩ := bind_some h
  refine vc_regXR (fun s => s = ⟨[(1, .loc 1 0), (13, bv j5)], [(1, (c_api_Change a0_))], []⟩) ?_ ?_
  · clear h
    obtain ⟨r1, hr1, hj⟩ := bind_some hj
    rcases ite_some hj with ⟨hc2, hj⟩ | ⟨hc3, hj⟩
    · obtain rfl := some_inj hj
      exact ⟨_, (APath.chunk 2 (by kernel_rfl) (APath.one (.call (some 5) 29 [.t 4]) (by kernel_rfl) (st_call (by kernel_rfl) (gates_Check_ok N a0_.Oper r1 hr1)) (APath.one (.val 6 (.bin .neq) [.t 5, .k (.p (.int .i64 0))]) (by kernel_rfl) (st_bool (c := (r1 != 0)) (by kernel_rfl) hc2) (APath.fin (by kernel_rfl))))), (by show _ = _; kernel_rfl)⟩
    · obtain ⟨r4, hr4, hj⟩ := bind_some hj
      obtain rfl := some_inj hj
      exact ⟨_, (APath.chunk 2 (by kernel_rfl) (APath.one (.call (some 5) 29 [.t 4]) (by kernel_rfl) (st_call (by kernel_rfl) (gates_Check_ok N a0_.Oper r1 hr1)) (APath.one (.val 6 (.bin .neq) [.t 5, .k (.p (.int .i64 0))]) (by kernel_rfl) (st_bool (c := (r1 != 0)) (by kernel_rfl) hc3) (APath.chunk 4 (by kernel_rfl) (APath.oneG (.call (some 11) 30 [.t 10]) 7 false (by kernel_rfl) (by kernel_rfl) (st_call (by kernel_rfl) (swap_times_ok N ([a0_.Base]) r4 hr4)) (APath.fin (by kernel_rfl))))))), (by show _ = _; kernel_rfl)⟩
  · clear hj
    rintro s hR
    obtain rfl := hR
    refine vc_ite (by kernel_rfl) h (fun hc6 h => ?_) (fun hc6 h => ?_)
    · refine vc_seq ?_
      refine vc_reg (S := ⟨[(2, iv 390)], [], []⟩) (APath.fin (by kernel_rfl)) (by kernel_rfl) ?_
      refine vc_ret ?_
      obtain rfl := some_inj h
      exact ret_of (by kernel_rfl)
    · refine vc_skip ?_
      refine vc_kp ?_
      refine vc_seq ?_
      refine vc_seq ?_
      refine vc_reg (S := ⟨[(1, .loc 1 0), (16, bv (!a0_.Pending))], [(1, (c_api_Change a0_))], []⟩) (APath.fin (by kernel_rfl)) (by kernel_rfl) ?_
      refine vc_ite (by kernel_rfl) h (fun hc7 h => ?_) (fun hc7 h => ?_)
      · refine vc_seq ?_
        refine vc_seq ?_
        refine vc_regX ⟨[(32, bv ((((List.length a0_.Admin.Entries : Nat) : Int) != 0) || ((a0_.Admin.Cycle != 0) || (a0_.When != 0))))], [], []⟩ ?_ ?_
        · rcases Bool.eq_false_or_eq_true (((List.length a0_.Admin.Entries : Nat) : Int) != 0) with hc8 | hc9
          · exact ⟨_, (APath.chunk 3 (by kernel_rfl) (APath.one (.val 20 .len [.t 19]) (by kernel_rfl) (st_val (ys := [s_e_api_Entry false a0_.Admin.Entries]) (by kernel_rfl) (vexec_len e_api_Entry)) (APath.one (.val 21 (.bin .neq) [.t 20, .k (.p (.int .i64 0))]) (by kernel_rfl) (st_bool (c := (((List.length a0_.Admin.Entries : Nat) : Int) != 0)) (by kernel_rfl) hc8) (APath.fin (by kernel_rfl))))), by simp only [hc8]; kernel_rfl⟩
          · rcases Bool.eq_false_or_eq_true (a0_.Admin.Cycle != 0) with hc10 | hc11
            · exact ⟨_, (APath.chunk 3 (by kernel_rfl) (APath.one (.val 20 .len [.t 19]) (by kernel_rfl) (st_val (ys := [s_e_api_Entry false a0_.Admin.Entries]) (by kernel_rfl) (vexec_len e_api_Entry)) (APath.one (.val 21 (.bin .neq) [.t 20, .k (.p (.int .i64 0))]) (by kernel_rfl) (st_bool (c := (((List.length a0_.Admin.Entries : Nat) : Int) != 0)) (by kernel_rfl) hc9) (APath.chunk 4 (by kernel_rfl) (APath.oneG (.val 26 (.bin .neq) [.t 25, .k (.p (.int .i64 0))]) 22 false (by kernel_rfl) (by kernel_rfl) (st_bool (c := (a0_.Admin.Cycle != 0)) (by kernel_rfl) hc10) (APath.fin (by kernel_rfl))))))), by simp only [hc9, hc10]; kernel_rfl⟩
            · exact ⟨_, (APath.chunk 3 (by kernel_rfl) (APath.one (.val 20 .len [.t 19]) (by kernel_rfl) (st_val (ys := [s_e_api_Entry false a0_.Admin.Entries]) (by kernel_rfl) (vexec_len e_api_Entry)) (APath.one (.val 21 (.bin .neq) [.t 20, .k (.p (.int .i64 0))]) (by kernel_rfl) (st_bool (c := (((List.length a0_.Admin.Entries : Nat) : Int) != 0)) (by kernel_rfl) hc9) (APath.chunk 4 (by kernel_rfl) (APath.oneG (.val 26 (.bin .neq) [.t 25, .k (.p (.int .i64 0))]) 22 false (by kernel_rfl) (by kernel_rfl) (st_bool (c := (a0_.Admin.Cycle != 0)) (by kernel_rfl) hc11) (APath.fin (by kernel_rfl))))))), by simp only [hc9, hc11]; kernel_rfl⟩
        · refine vc_ite (by kernel_rfl) h (fun hc12 h => ?_) (fun hc12 h => ?_)
          · refine vc_seq ?_
            refine vc_reg (S := ⟨[(2, iv 390)], [], []⟩) (APath.fin (by kernel_rfl)) (by kernel_rfl) ?_
            refine vc_ret ?_
            obtain rfl := some_inj h
            exact ret_of (by kernel_rfl)
          · refine vc_skip ?_
            refine vc_kp ?_
            refine vc_seq ?_
            refine vc_reg (S := ⟨[(2, iv 0)], [], []⟩) (APath.fin (by kernel_rfl)) (by kernel_rfl) ?_
            refine vc_ret ?_
            obtain rfl := some_inj h
            exact ret_of (by kernel_rfl)
      · refine vc_skip ?_
        refine vc_kp ?_
        refine vc_seq ?_
        refine vc_seq ?_
        obtain ⟨j18, hj, h⟩ := bind_some h
        refine vc_regXR (fun s => s = ⟨[(1, .loc 1 0), (46, bv j18)], [(1, (c_api_Change a0_))], []⟩) ?_ ?_
        · clear h
          obtain ⟨r13, hr13, hj⟩ := bind_some hj
          rcases ite_some hj with ⟨hc14, hj⟩ | ⟨hc15, hj⟩
          · obtain rfl := some_inj hj
            exact ⟨_, (APath.chunk 2 (by kernel_rfl) (APath.one (.call (some 35) 29 [.t 34]) (by kernel_rfl) (st_call (by kernel_rfl) (gates_Check_ok N a0_.Admin r13 hr13)) (APath.one (.val 36 (.bin .neq) [.t 35, .k (.p (.int .i64 0))]) (by kernel_rfl) (st_bool (c := (r13 != 0)) (by kernel_rfl) hc14) (APath.fin (by kernel_rfl))))), (by show _ = _; kernel_rfl)⟩
          · rcases ite_some hj with ⟨hc16, hj⟩ | ⟨hc17, hj⟩
            · obtain rfl := some_inj hj
              exact ⟨_, (APath.chunk 2 (by kernel_rfl) (APath.one (.call (some 35) 29 [.t 34]) (by kernel_rfl) (st_call (by kernel_rfl) (gates_Check_ok N a0_.Admin r13 hr13)) (APath.one (.val 36 (.bin .neq) [.t 35, .k (.p (.int .i64 0))]) (by kernel_rfl) (st_bool (c := (r13 != 0)) (by kernel_rfl) hc15) (APath.chunk 3 (by kernel_rfl) (APath.oneG (.val 40 (.bin .lss) [.t 39, .k (.p (.int .i64 (-1099511627776)))]) 37 false (by kernel_rfl) (by kernel_rfl) (st_bool (c := (decide (a0_.When < (-1099511627776)))) (by kernel_rfl) hc16) (APath.fin (by kernel_rfl))))))), (by show _ = _; kernel_rfl)⟩
            · obtain rfl := some_inj hj
              exact ⟨_, (APath.chunk 2 (by kernel_rfl) (APath.one (.call (some 35) 29 [.t 34]) (by kernel_rfl) (st_call (by kernel_rfl) (gates_Check_ok N a0_.Admin r13 hr13)) (APath.one (.val 36 (.bin .neq) [.t 35, .k (.p (.int .i64 0))]) (by kernel_rfl) (st_bool (c := (r13 != 0)) (by kernel_rfl) hc15) (APath.chunk 3 (by kernel_rfl) (APath.oneG (.val 40 (.bin .lss) [.t 39, .k (.p (.int .i64 (-1099511627776)))]) 37 false (by kernel_rfl) (by kernel_rfl) (st_bool (c := (decide (a0_.When < (-1099511627776)))) (by kernel_rfl) hc17) (APath.fin (by kernel_rfl))))))), (by show _ = _; kernel_rfl)⟩
        · clear hj
          rintro s hR
          obtain rfl := hR
          refine vc_ite (by kernel_rfl) h (fun hc19 h => ?_) (fun hc19 h => ?_)
          · refine vc_seq ?_
            refine vc_reg (S := ⟨[(2, iv 390)], [], []⟩) (APath.fin (by kernel_rfl)) (by kernel_rfl) ?_
            refine vc_ret ?_
            obtain rfl := some_inj h
            exact ret_of (by kernel_rfl)
          · refine vc_skip ?_
            refine vc_kp ?_
            refine vc_seq ?_
            refine vc_seq ?_
            obtain ⟨m20, hm20, h⟩ := bind_some h
            refine vc_reg (S := ⟨[(56, bv (m20 != 0))], [], []⟩) (APath.chunk 8 (by kernel_rfl) (APath.one (.val 55 (.bin .rem) [.t 51, .t 54]) (by kernel_rfl) (st_val (ys := [iv (w64 (a0_.When - a0_.Base)), iv a0_.Oper.Cycle]) (by kernel_rfl) (vexec_rem hm20)) (APath.fin (by kernel_rfl)))) (by kernel_rfl) ?_
            refine vc_ite (by kernel_rfl) h (fun hc21 h => ?_) (fun hc21 h => ?_)
            · refine vc_seq ?_
              refine vc_reg (S := ⟨[(2, iv 390)], [], []⟩) (APath.fin (by kernel_rfl)) (by kernel_rfl) ?_
              refine vc_ret ?_
              obtain rfl := some_inj h
              exact ret_of (by kernel_rfl)
            · refine vc_skip ?_
              refine vc_kp ?_
              refine vc_seq ?_
              refine vc_reg (S := ⟨[(2, iv 0)], [], []⟩) (APath.fin (by kernel_rfl)) (by kernel_rfl) ?_
              refine vc_ret ?_
              obtain rfl := some_inj h
              exact ret_of (by kernel_rfl)
/- swap.New -/
theorem swap_New_ok (N : Nat) (a0_ : api_Gates) (a1_ : Int) (r : api_Change × Int) (h : swap_New N a0_ a1_ = some r) : PCall Try.prog 15 [.agg (c_api_Gates a0_), iv a1_] (.tup [.agg [s_e_api_Entry false r.1.Oper.Entries, iv r.1.Oper.Cycle, iv r.1.Base, bv r.1.Pending, s_e_api_Entry false r.1.Admin.Entries, iv r.1.Admin.Cycle, iv r.1.When], iv r.2]) := by
  unfold swap_New at h
  have hH : HP ([] : List HO) [] := trivial
  refine pcall_of chk15 rfl rfl (vc_sound _ _ _ ?_) rfl
  refine vc_seq ?_
  refine vc_reg (S := ⟨[(1, iv a1_), (2, .loc 2 0), (4, .loc 4 0)], [(2, (c_api_Gates a0_)), (4, [s_e_api_Entry true [], iv 0, iv 0, bv false, s_e_api_Entry true [], iv 0, iv 0])], []⟩) (APath.fin (by kernel_rfl)) (by kernel_rfl) ?_
  refine vc_seq ?_
  refine vc_seq ?_
  obtain ⟨r1, hr1, h⟩ := bind_some h
  refine vc_reg (S := ⟨[(1, iv a1_), (2, .loc 2 0), (4, .loc 4 0), (6, iv r1)], [(2, (c_api_Gates a0_)), (4, [s_e_api_Entry true [], iv 0, iv 0, bv false, s_e_api_Entry true [], iv 0, iv 0])], []⟩) (APath.chunk 1 (by kernel_rfl) (APath.one (.call (some 8) 29 [.t 7]) (by kernel_rfl) (st_call (by kernel_rfl) (gates_Check_ok N a0_ r1 hr1)) (APath.fin (by kernel_rfl)))) (by kernel_rfl) ?_
  refine vc_seq ?_
  refine vc_reg (S := ⟨[(1, iv a1_), (2, .loc 2 0), (4, .loc 4 0), (6, iv r1), (10, bv (r1 != 0))], [(2, (c_api_Gates a0_)), (4, [s_e_api_Entry true [], iv 0, iv 0, bv false, s_e_api_Entry true [], iv 0, iv 0])], []⟩) (APath.fin (by kernel_rfl)) (by kernel_rfl) ?_
  refine vc_ite (by kernel_rfl) h (fun hc2 h => ?_) (fun hc2 h => ?_)
  · refine vc_seq ?_
    refine vc_reg (S := ⟨[(4, .loc 4 0), (5, iv r1)], [(4, [s_e_api_Entry true [], iv 0, iv 0, bv false, s_e_api_Entry true [], iv 0, iv 0])], []⟩) (APath.fin (by kernel_rfl)) (by kernel_rfl) ?_
    refine vc_ret ?_
    obtain rfl := some_inj h
    exact ret_of (by kernel_rfl)
  · refine vc_skip ?_
    refine vc_kp ?_
    refine vc_seq ?_
    refine vc_seq ?_
    obtain ⟨r3, hr3, h⟩ := bind_some h
    refine vc_reg (S := ⟨[(1, iv a1_), (2, .loc 2 0), (4, .loc 4 0), (16, bv (!r3))], [(2, (c_api_Gates a0_)), (4, [s_e_api_Entry true [], iv 0, iv 0, bv false, s_e_api_Entry true [], iv 0, iv 0])], []⟩) (APath.chunk 2 (by kernel_rfl) (APath.one (.call (some 15) 30 [.t 14]) (by kernel_rfl) (st_call (by kernel_rfl) (swap_times_ok N ([a1_]) r3 hr3)) (APath.fin (by kernel_rfl)))) (by kernel_rfl) ?_
    refine vc_ite (by kernel_rfl) h (fun hc4 h => ?_) (fun hc4 h => ?_)
    · refine vc_seq ?_
      refine vc_reg (S := ⟨[(4, .loc 4 0), (5, iv 2)], [(4, [s_e_api_Entry true [], iv 0, iv 0, bv false, s_e_api_Entry true [], iv 0, iv 0])], []⟩) (APath.fin (by kernel_rfl)) (by kernel_rfl) ?_
      refine vc_ret ?_
      obtain rfl := some_inj h
      exact ret_of (by kernel_rfl)
    · refine vc_skip ?_
      refine vc_kp ?_
      refine vc_seq ?_
      refine vc_reg (S := ⟨[(4, .loc 4 0), (5, iv 0)], [(4, [s_e_api_Entry false a0_.Entries, iv a0_.Cycle, iv a1_, bv false, s_e_api_Entry true [], iv 0, iv 0])], []⟩) (APath.fin (by kernel_rfl)) (by kernel_rfl) ?_
      refine vc_ret ?_
      obtain rfl := some_inj h
      exact ret_of (by kernel_rfl)
/- isochronref29.New -/
theorem ref29_New_ok (N : Nat) (a0_ : api_Gates) (a1_ : Int) (r : api_Change × Int) (h : ref29_New N a0_ a1_ = some r) : PCall Try.prog 16 [.agg (c_api_Gates a0_), iv a1_] (.tup [.agg [s_e_api_Entry false r.1.Oper.Entries, iv r.1.Oper.Cycle, iv r.1.Base, bv r.1.Pending, s_e_api_Entry false r.1.Admin.Entries, iv r.1.Admin.Cycle, iv r.1.When], iv r.2]) := by
  unfold ref29_New at h
  have hH : HP ([] : List HO) [] := trivial
  refine pcall_of chk16 rfl rfl (vc_sound _ _ _ ?_) rfl
  refine vc_seq ?_
  refine vc_reg (S := ⟨[(1, iv a1_), (2, .loc 2 0), (4, .loc 4 0)], [(2, (c_api_Gates a0_)), (4, [s_e_api_Entry true [], iv 0, iv 0, bv false, s_e_api_Entry true [], iv 0, iv 0])], []⟩) (APath.fin (by kernel_rfl)) (by kernel_rfl) ?_
  refine vc_seq ?_
  refine vc_seq ?_
  obtain ⟨r1, hr1, h⟩ := bind_some h
  refine vc_reg (S := ⟨[(1, iv a1_), (2, .loc 2 0), (4, .loc 4 0), (8, bv (!r1))], [(2, (c_api_Gates a0_)), (4, [s_e_api_Entry true [], iv 0, iv 0, bv false, s_e_api_Entry true [], iv 0, iv 0])], []⟩) (APath.chunk 1 (by kernel_rfl) (APath.one (.call (some 7) 36 [.t 6]) (by kernel_rfl) (st_call (by kernel_rfl) (ref27_Right_ok N a0_ r1 hr1)) (APath.fin (by kernel_rfl)))) (by kernel_rfl) ?_
  refine vc_ite (by kernel_rfl) h (fun hc2 h => ?_) (fun hc2 h => ?_)
  · refine vc_seq ?_
    refine vc_reg (S := ⟨[(4, .loc 4 0), (5, iv 370)], [(4, [s_e_api_Entry true [], iv 0, iv 0, bv false, s_e_api_Entry true [], iv 0, iv 0])], []⟩) (APath.fin (by kernel_rfl)) (by kernel_rfl) ?_
    refine vc_ret ?_
    obtain rfl := some_inj h
    exact ret_of (by kernel_rfl)
  · refine vc_skip ?_
    refine vc_kp ?_
    refine vc_seq ?_
    refine vc_seq ?_
    obtain ⟨r3, hr3, h⟩ := bind_some h
    refine vc_reg (S := ⟨[(1, iv a1_), (2, .loc 2 0), (4, .loc 4 0), (12, bv (!r3))], [(2, (c_api_Gates a0_)), (4, [s_e_api_Entry true [], iv 0, iv 0, bv false, s_e_api_Entry true [], iv 0, iv 0])], []⟩) (APath.chunk 1 (by kernel_rfl) (APath.one (.call (some 11) 34 [.t 10]) (by kernel_rfl) (st_call (by kernel_rfl) (ref29_time_ok N a1_ r3 hr3)) (APath.fin (by kernel_rfl)))) (by kernel_rfl) ?_
    refine vc_ite (by kernel_rfl) h (fun hc4 h => ?_) (fun hc4 h => ?_)
    · refine vc_seq ?_
      refine vc_reg (S := ⟨[(4, .loc 4 0), (5, iv 2)], [(4, [s_e_api_Entry true [], iv 0, iv 0, bv false, s_e_api_Entry true [], iv 0, iv 0])], []⟩) (APath.fin (by kernel_rfl)) (by kernel_rfl) ?_
      refine vc_ret ?_
      obtain rfl := some_inj h
      exact ret_of (by kernel_rfl)
    · refine vc_skip ?_
      refine vc_kp ?_
      refine vc_seq ?_
      refine vc_reg (S := ⟨[(4, .loc 4 0), (5, iv 0)], [(4, [s_e_api_Entry false a0_.Entries, iv a0_.Cycle, iv a1_, bv false, s_e_api_Entry true [], iv 0, iv 0])], []⟩) (APath.fin (by kernel_rfl)) (by kernel_rfl) ?_
      refine vc_ret ?_
      obtain rfl := some_inj h
      exact ret_of (by kernel_rfl)
/- isochronref29.Same -/
theorem ref29_Same_ok (N : Nat) (a0_ : api_Change) (a1_ : api_Change) (r : Bool) (h : ref29_Same N a0_ a1_ = some r) : PCall Try.prog 17 [.agg (c_api_Change a0_), .agg (c_api_Change a1_)] (bv r) := by
  unfold ref29_Same at h
  have hH : HP ([] : List HO) [] := trivial
  refine pcall_of chk17 rfl rfl (vc_sound _ _ _ ?_) rfl
  refine vc_seq ?_
  refine vc_reg (S := ⟨[(2, .loc 2 0), (3, .loc 3 0)], [(2, (c_api_Change a0_)), (3, (c_api_Change a1_))], []⟩) (APath.fin (by kernel_rfl)) (by kernel_rfl) ?_
  refine vc_seq ?_
  obtain ⟨j11, hj, h⟩ := bind_some h
  refine vc_regXR (fun s => s = ⟨[(4, bv j11)], [], []⟩) ?_ ?_
  · clear h
    obtain ⟨r1, hr1, hj⟩ := bind_some hj
    rcases ite_some hj with ⟨hc2, hj⟩ | ⟨hc10, hj⟩
    · rcases ite_some hj with ⟨hc3, hj⟩ | ⟨hc9, hj⟩
      · rcases ite_some hj with ⟨hc4, hj⟩ | ⟨hc8, hj⟩
        · obtain ⟨r5, hr5, hj⟩ := bind_some hj
          rcases ite_some hj with ⟨hc6, hj⟩ | ⟨hc7, hj⟩
          · obtain rfl := some_inj hj
            exact ⟨_, (APath.chunk 4 (by kernel_rfl) (APath.one (.call (some 9) 37 [.t 6, .t 8]) (by kernel_rfl) (st_callB (by kernel_rfl) (ref29_same_ok N a0_.Oper a1_.Oper r1 hr1) hc2) (APath.chunk 5 (by kernel_rfl) (APath.oneG (.val 15 (.bin .eql) [.t 12, .t 14]) 10 true (by kernel_rfl) (by kernel_rfl) (st_bool (c := (a0_.Base == a1_.Base)) (by kernel_rfl) hc3) (APath.chunk 6 (by kernel_rfl) (APath.oneG (.val 22 (.eqB false) [.t 19, .t 21]) 17 true (by kernel_rfl) (by kernel_rfl) (st_bool (c := (a0_.Pending == a1_.Pending)) (by kernel_rfl) hc4) (APath.chunk 6 (by kernel_rfl) (APath.oneG (.call (some 29) 37 [.t 26, .t 28]) 24 true (by kernel_rfl) (by kernel_rfl) (st_callB (by kernel_rfl) (ref29_same_ok N a0_.Admin a1_.Admin r5 hr5) hc6) (APath.fin (by kernel_rfl)))))))))), (by show _ = _; kernel_rfl)⟩
          · obtain rfl := some_inj hj
            exact ⟨_, (APath.chunk 4 (by kernel_rfl) (APath.one (.call (some 9) 37 [.t 6, .t 8]) (by kernel_rfl) (st_callB (by kernel_rfl) (ref29_same_ok N a0_.Oper a1_.Oper r1 hr1) hc2) (APath.chunk 5 (by kernel_rfl) (APath.oneG (.val 15 (.bin .eql) [.t 12, .t 14]) 10 true (by kernel_rfl) (by kernel_rfl) (st_bool (c := (a0_.Base == a1_.Base)) (by kernel_rfl) hc3) (APath.chunk 6 (by kernel_rfl) (APath.oneG (.val 22 (.eqB false) [.t 19, .t 21]) 17 true (by kernel_rfl) (by kernel_rfl) (st_bool (c := (a0_.Pending == a1_.Pending)) (by kernel_rfl) hc4) (APath.chunk 6 (by kernel_rfl) (APath.oneG (.call (some 29) 37 [.t 26, .t 28]) 24 true (by kernel_rfl) (by kernel_rfl) (st_callB (by kernel_rfl) (ref29_same_ok N a0_.Admin a1_.Admin r5 hr5) hc7) (APath.fin (by kernel_rfl)))))))))), (by show _ = _; kernel_rfl)⟩
        · obtain rfl := some_inj hj
          exact ⟨_, (APath.chunk 4 (by kernel_rfl) (APath.one (.call (some 9) 37 [.t 6, .t 8]) (by kernel_rfl) (st_callB (by kernel_rfl) (ref29_same_ok N a0_.Oper a1_.Oper r1 hr1) hc2) (APath.chunk 5 (by kernel_rfl) (APath.oneG (.val 15 (.bin .eql) [.t 12, .t 14]) 10 true (by kernel_rfl) (by kernel_rfl) (st_bool (c := (a0_.Base == a1_.Base)) (by kernel_rfl) hc3) (APath.chunk 6 (by kernel_rfl) (APath.oneG (.val 22 (.eqB false) [.t 19, .t 21]) 17 true (by kernel_rfl) (by kernel_rfl) (st_bool (c := (a0_.Pending == a1_.Pending)) (by kernel_rfl) hc8) (APath.fin (by kernel_rfl)))))))), (by show _ = _; kernel_rfl)⟩
      · obtain rfl := some_inj hj
        exact ⟨_, (APath.chunk 4 (by kernel_rfl) (APath.one (.call (some 9) 37 [.t 6, .t 8]) (by kernel_rfl) (st_callB (by kernel_rfl) (ref29_same_ok N a0_.Oper a1_.Oper r1 hr1) hc2) (APath.chunk 5 (by kernel_rfl) (APath.oneG (.val 15 (.bin .eql) [.t 12, .t 14]) 10 true (by kernel_rfl) (by kernel_rfl) (st_bool (c := (a0_.Base == a1_.Base)) (by kernel_rfl) hc9) (APath.fin (by kernel_rfl)))))), (by show _ = _; kernel_rfl)⟩
    · obtain rfl := some_inj hj
      exact ⟨_, (APath.chunk 4 (by kernel_rfl) (APath.one (.call (some 9) 37 [.t 6, .t 8]) (by kernel_rfl) (st_callB (by kernel_rfl) (ref29_same_ok N a0_.Oper a1_.Oper r1 hr1) hc10) (APath.fin (by kernel_rfl)))), (by show _ = _; kernel_rfl)⟩
  · clear hj
    rintro s hR
    obtain rfl := hR
    refine vc_ret ?_
    obtain rfl := some_inj h
    exact ret_of (by kernel_rfl)
/- swap.Advance -/
theorem swap_Advance_ok (N : Nat) (a0_ : api_Change) (a1_ : Int) (r : api_Change × Int) (h : swap_Advance N a0_ a1_ = some r) : PCall Try.prog 19 [.agg (c_api_Change a0_), iv a1_] (.tup [.agg [s_e_api_Entry false r.1.Oper.Entries, iv r.1.Oper.Cycle, iv r.1.Base, bv r.1.Pending, s_e_api_Entry false r.1.Admin.Entries, iv r.1.Admin.Cycle, iv r.1.When], iv r.2]) := by
  unfold swap_Advance at h
  have hH : HP ([] : List HO) [] := trivial
  refine pcall_of chk19 rfl rfl (vc_sound _ _ _ ?_) rfl
  refine vc_seq ?_
  refine vc_reg (S := ⟨[(1, iv a1_), (2, .loc 2 0), (4, .loc 4 0)], [(2, (c_api_Change a0_)), (4, [s_e_api_Entry true [], iv 0, iv 0, bv false, s_e_api_Entry true [], iv 0, iv 0])], []⟩) (APath.fin (by kernel_rfl)) (by kernel_rfl) ?_
  refine vc_seq ?_
  refine vc_seq ?_
  obtain ⟨r1, hr1, h⟩ := bind_some h
  refine vc_reg (S := ⟨[(1, iv a1_), (2, .loc 2 0), (4, .loc 4 0), (6, iv r1)], [(2, (c_api_Change a0_)), (4, [s_e_api_Entry true [], iv 0, iv 0, bv false, s_e_api_Entry true [], iv 0, iv 0])], []⟩) (APath.chunk 1 (by kernel_rfl) (APath.one (.call (some 9) 11 [.t 8]) (by kernel_rfl) (st_call (by kernel_rfl) (swap_Check_ok N a0_ r1 hr1)) (APath.fin (by kernel_rfl)))) (by kernel_rfl) ?_
  refine vc_seq ?_
  refine vc_reg (S := ⟨[(1, iv a1_), (2, .loc 2 0), (4, .loc 4 0), (6, iv r1), (11, bv (r1 != 0))], [(2, (c_api_Change a0_)), (4, [s_e_api_Entry true [], iv 0, iv 0, bv false, s_e_api_Entry true [], iv 0, iv 0])], []⟩) (APath.fin (by kernel_rfl)) (by kernel_rfl) ?_
  refine vc_ite (by kernel_rfl) h (fun hc2 h => ?_) (fun hc2 h => ?_)
  · refine vc_seq ?_
    refine vc_reg (S := ⟨[(4, .loc 4 0), (5, iv r1)], [(4, [s_e_api_Entry true [], iv 0, iv 0, bv false, s_e_api_Entry true [], iv 0, iv 0])], []⟩) (APath.fin (by kernel_rfl)) (by kernel_rfl) ?_
    refine vc_ret ?_
    obtain rfl := some_inj h
    exact ret_of (by kernel_rfl)
  · refine vc_skip ?_
    refine vc_kp ?_
    refine vc_seq ?_
    refine vc_seq ?_
    obtain ⟨r3, hr3, h⟩ := bind_some h
    refine vc_reg (S := ⟨[(1, iv a1_), (2, .loc 2 0), (4, .loc 4 0), (17, bv (!r3))], [(2, (c_api_Change a0_)), (4, [s_e_api_Entry true [], iv 0, iv 0, bv false, s_e_api_Entry true [], iv 0, iv 0])], []⟩) (APath.chunk 2 (by kernel_rfl) (APath.one (.call (some 16) 30 [.t 15]) (by kernel_rfl) (st_call (by kernel_rfl) (swap_times_ok N ([a1_]) r3 hr3)) (APath.fin (by kernel_rfl)))) (by kernel_rfl) ?_
    refine vc_ite (by kernel_rfl) h (fun hc4 h => ?_) (fun hc4 h => ?_)
    · refine vc_seq ?_
      refine vc_reg (S := ⟨[(4, .loc 4 0), (5, iv 2)], [(4, [s_e_api_Entry true [], iv 0, iv 0, bv false, s_e_api_Entry true [], iv 0, iv 0])], []⟩) (APath.fin (by kernel_rfl)) (by kernel_rfl) ?_
      refine vc_ret ?_
      obtain rfl := some_inj h
      exact ret_of (by kernel_rfl)
    · refine vc_skip ?_
      refine vc_kp ?_
      refine vc_seq ?_
      obtain ⟨id5, H6, hid5, hH6, hH⟩ := HP.newCell hH [s_e_api_Entry true [], iv 0, iv 0, bv false, s_e_api_Entry true [], iv 0, iv 0]
      replace hH : HP H6 [.cel id5 [s_e_api_Entry true [], iv 0, iv 0, bv false, s_e_api_Entry true [], iv 0, iv 0]] := hH
      obtain ⟨H7, hH7, hH⟩ := HP.setCell (k := 0) (off := 0) (cs := [s_e_api_Entry true [], iv 0, iv 0, bv false, s_e_api_Entry true [], iv 0, iv 0]) (vs := [s_e_api_Entry false a0_.Oper.Entries, iv a0_.Oper.Cycle, iv a0_.Base, bv a0_.Pending, s_e_api_Entry false a0_.Admin.Entries, iv a0_.Admin.Cycle, iv a0_.When]) (cs' := [s_e_api_Entry false a0_.Oper.Entries, iv a0_.Oper.Cycle, iv a0_.Base, bv a0_.Pending, s_e_api_Entry false a0_.Admin.Entries, iv a0_.Admin.Cycle, iv a0_.When]) hH rfl (by kernel_rfl)
      replace hH : HP H7 [.cel id5 (c_api_Change a0_)] := hH
      refine vc_reg (S := ⟨[(1, iv a1_), (4, .loc 4 0), (7, .ptr id5 0)], [(4, [s_e_api_Entry true [], iv 0, iv 0, bv false, s_e_api_Entry true [], iv 0, iv 0])], H7⟩) (APath.chunk 2 (by kernel_rfl) (APath.one (.newH 7 [.p (.sl 2 true []), .p (.int .i64 0), .p (.int .i64 0), .p (.bool false), .p (.sl 2 true []), .p (.int .i64 0), .p (.int .i64 0)]) (by kernel_rfl) (st_newH (H := []) (by kernel_rfl) hid5 hH6) (APath.one (.store (.t 7) (.t 20) 7) (by kernel_rfl) (st_storeH (H := H6) (v := .agg (c_api_Change a0_)) (by kernel_rfl) (by kernel_rfl) (by kernel_rfl) (by kernel_rfl) hH7) APath.done))) (by kernel_rfl) ?_
      refine vc_seq ?_
      obtain ⟨r8, hr8, h⟩ := bind_some h
      obtain ⟨H9, hvr8, hpr8⟩ := swap_state_advance_ok N (swap_state.mk a0_) a1_  id5 H7 (HP.now (HP.pick hH [0] rfl)) r8 hr8
      replace hH : HP H9 [.cel id5 (c_api_Change r8.Change)] := HP.callee (fp := [.cel id5 (c_api_Change a0_)]) (rest := []) (HP.pick hH [0] rfl) hpr8
      refine vc_reg (S := ⟨[(4, .loc 4 0), (7, .ptr id5 0)], [(4, [s_e_api_Entry true [], iv 0, iv 0, bv false, s_e_api_Entry true [], iv 0, iv 0])], H9⟩) (APath.chunk 1 (by kernel_rfl) (APath.one (.call (some 22) 38 [.t 7, .t 21]) (by kernel_rfl) (st_callH (H := H7) (ys := [.ptr id5 0, iv a1_]) (by kernel_rfl) (by kernel_rfl) (by kernel_rfl) hvr8) APath.done)) (by kernel_rfl) ?_
      refine vc_seq ?_
      have hlc10 := HP.get hH 0 rfl
      refine vc_reg (S := ⟨[(4, .loc 4 0), (5, iv 0)], [(4, (c_api_Change r8.Change))], H9⟩) (APath.chunk 1 (by kernel_rfl) (APath.one (.load 24 (.t 23) 7 true) (by kernel_rfl) (st_loadC (H := H9) (id := id5) (off := 0) (cs := [s_e_api_Entry false r8.Change.Oper.Entries, iv r8.Change.Oper.Cycle, iv r8.Change.Base, bv r8.Change.Pending, s_e_api_Entry false r8.Change.Admin.Entries, iv r8.Change.Admin.Cycle, iv r8.Change.When]) (c := [s_e_api_Entry false r8.Change.Oper.Entries, iv r8.Change.Oper.Cycle, iv r8.Change.Base, bv r8.Change.Pending, s_e_api_Entry false r8.Change.Admin.Entries, iv r8.Change.Admin.Cycle, iv r8.Change.When]) (r := .agg (c_api_Change r8.Change)) (by kernel_rfl) (by kernel_rfl) hlc10 (by kernel_rfl) (by kernel_rfl) (by kernel_rfl)) (APath.fin (by kernel_rfl)))) (by kernel_rfl) ?_
      replace hH : HP H9 [] := HP.pick hH [] rfl
      refine vc_ret ?_
      obtain rfl := some_inj h
      exact ret_of (by kernel_rfl)
/- swap.Set -/
theorem swap_Set_ok (N : Nat) (a0_ : api_Change) (a1_ : Int) (a2_ : api_Gates) (a3_ : Int) (r : api_Change × Int) (h : swap_Set N a0_ a1_ a2_ a3_ = some r) : PCall Try.prog 22 [.agg (c_api_Change a0_), iv a1_, .agg (c_api_Gates a2_), iv a3_] (.tup [.agg [s_e_api_Entry false r.1.Oper.Entries, iv r.1.Oper.Cycle, iv r.1.Base, bv r.1.Pending, s_e_api_Entry false r.1.Admin.Entries, iv r.1.Admin.Cycle, iv r.1.When], iv r.2]) := by
  unfold swap_Set at h
  have hH : HP ([] : List HO) [] := trivial
  refine pcall_of chk22 rfl rfl (vc_sound _ _ _ ?_) rfl
  refine vc_seq ?_
  refine vc_reg (S := ⟨[(1, iv a1_), (3, iv a3_), (4, .loc 4 0), (6, .loc 6 0), (8, .loc 8 0)], [(4, (c_api_Change a0_)), (6, (c_api_Gates a2_)), (8, [s_e_api_Entry true [], iv 0, iv 0, bv false, s_e_api_Entry true [], iv 0, iv 0])], []⟩) (APath.fin (by kernel_rfl)) (by kernel_rfl) ?_
  refine vc_seq ?_
  refine vc_seq ?_
  obtain ⟨r1, hr1, h⟩ := bind_some h
  refine vc_reg (S := ⟨[(1, iv a1_), (3, iv a3_), (4, .loc 4 0), (6, .loc 6 0), (8, .loc 8 0), (10, iv r1)], [(4, (c_api_Change a0_)), (6, (c_api_Gates a2_)), (8, [s_e_api_Entry true [], iv 0, iv 0, bv false, s_e_api_Entry true [], iv 0, iv 0])], []⟩) (APath.chunk 1 (by kernel_rfl) (APath.one (.call (some 15) 11 [.t 14]) (by kernel_rfl) (st_call (by kernel_rfl) (swap_Check_ok N a0_ r1 hr1)) (APath.fin (by kernel_rfl)))) (by kernel_rfl) ?_
  refine vc_seq ?_
  refine vc_reg (S := ⟨[(1, iv a1_), (3, iv a3_), (4, .loc 4 0), (6, .loc 6 0), (8, .loc 8 0), (10, iv r1), (17, bv (r1 != 0))], [(4, (c_api_Change a0_)), (6, (c_api_Gates a2_)), (8, [s_e_api_Entry true [], iv 0, iv 0, bv false, s_e_api_Entry true [], iv 0, iv 0])], []⟩) (APath.fin (by kernel_rfl)) (by kernel_rfl) ?_
  refine vc_ite (by kernel_rfl) h (fun hc2 h => ?_) (fun hc2 h => ?_)
  · refine vc_seq ?_
    refine vc_reg (S := ⟨[(8, .loc 8 0), (9, iv r1)], [(8, [s_e_api_Entry true [], iv 0, iv 0, bv false, s_e_api_Entry true [], iv 0, iv 0])], []⟩) (APath.fin (by kernel_rfl)) (by kernel_rfl) ?_
    refine vc_ret ?_
    obtain rfl := some_inj h
    exact ret_of (by kernel_rfl)
  · refine vc_skip ?_
    refine vc_kp ?_
    refine vc_seq ?_
    refine vc_seq ?_
    obtain ⟨r3, hr3, h⟩ := bind_some h
    refine vc_reg (S := ⟨[(1, iv a1_), (3, iv a3_), (4, .loc 4 0), (6, .loc 6 0), (8, .loc 8 0), (23, bv (!r3))], [(4, (c_api_Change a0_)), (6, (c_api_Gates a2_)), (8, [s_e_api_Entry true [], iv 0, iv 0, bv false, s_e_api_Entry true [], iv 0, iv 0])], []⟩) (APath.chunk 2 (by kernel_rfl) (APath.one (.call (some 22) 30 [.t 21]) (by kernel_rfl) (st_call (by kernel_rfl) (swap_times_ok N ([a1_]) r3 hr3)) (APath.fin (by kernel_rfl)))) (by kernel_rfl) ?_
    refine vc_ite (by kernel_rfl) h (fun hc4 h => ?_) (fun hc4 h => ?_)
    · refine vc_seq ?_
      refine vc_reg (S := ⟨[(8, .loc 8 0), (9, iv 2)], [(8, [s_e_api_Entry true [], iv 0, iv 0, bv false, s_e_api_Entry true [], iv 0, iv 0])], []⟩) (APath.fin (by kernel_rfl)) (by kernel_rfl) ?_
      refine vc_ret ?_
      obtain rfl := some_inj h
      exact ret_of (by kernel_rfl)
    · refine vc_skip ?_
      refine vc_kp ?_
      refine vc_seq ?_
      refine vc_seq ?_
      obtain ⟨r5, hr5, h⟩ := bind_some h
      refine vc_reg (S := ⟨[(1, iv a1_), (3, iv a3_), (4, .loc 4 0), (6, .loc 6 0), (8, .loc 8 0), (11, iv r5)], [(4, (c_api_Change a0_)), (6, (c_api_Gates a2_)), (8, [s_e_api_Entry true [], iv 0, iv 0, bv false, s_e_api_Entry true [], iv 0, iv 0])], []⟩) (APath.chunk 1 (by kernel_rfl) (APath.one (.call (some 26) 29 [.t 25]) (by kernel_rfl) (st_call (by kernel_rfl) (gates_Check_ok N a2_ r5 hr5)) (APath.fin (by kernel_rfl)))) (by kernel_rfl) ?_
      refine vc_seq ?_
      refine vc_reg (S := ⟨[(1, iv a1_), (3, iv a3_), (4, .loc 4 0), (6, .loc 6 0), (8, .loc 8 0), (11, iv r5), (28, bv (r5 != 0))], [(4, (c_api_Change a0_)), (6, (c_api_Gates a2_)), (8, [s_e_api_Entry true [], iv 0, iv 0, bv false, s_e_api_Entry true [], iv 0, iv 0])], []⟩) (APath.fin (by kernel_rfl)) (by kernel_rfl) ?_
      refine vc_ite (by kernel_rfl) h (fun hc6 h => ?_) (fun hc6 h => ?_)
      · refine vc_seq ?_
        refine vc_reg (S := ⟨[(8, .loc 8 0), (9, iv r5)], [(8, [s_e_api_Entry true [], iv 0, iv 0, bv false, s_e_api_Entry true [], iv 0, iv 0])], []⟩) (APath.fin (by kernel_rfl)) (by kernel_rfl) ?_
        refine vc_ret ?_
        obtain rfl := some_inj h
        exact ret_of (by kernel_rfl)
      · refine vc_skip ?_
        refine vc_kp ?_
        refine vc_seq ?_
        refine vc_seq ?_
        obtain ⟨r7, hr7, h⟩ := bind_some h
        refine vc_reg (S := ⟨[(1, iv a1_), (3, iv a3_), (4, .loc 4 0), (6, .loc 6 0), (8, .loc 8 0), (34, bv (!r7))], [(4, (c_api_Change a0_)), (6, (c_api_Gates a2_)), (8, [s_e_api_Entry true [], iv 0, iv 0, bv false, s_e_api_Entry true [], iv 0, iv 0])], []⟩) (APath.chunk 2 (by kernel_rfl) (APath.one (.call (some 33) 30 [.t 32]) (by kernel_rfl) (st_call (by kernel_rfl) (swap_times_ok N ([a3_]) r7 hr7)) (APath.fin (by kernel_rfl)))) (by kernel_rfl) ?_
        refine vc_ite (by kernel_rfl) h (fun hc8 h => ?_) (fun hc8 h => ?_)
        · refine vc_seq ?_
          refine vc_reg (S := ⟨[(8, .loc 8 0), (9, iv 2)], [(8, [s_e_api_Entry true [], iv 0, iv 0, bv false, s_e_api_Entry true [], iv 0, iv 0])], []⟩) (APath.fin (by kernel_rfl)) (by kernel_rfl) ?_
          refine vc_ret ?_
          obtain rfl := some_inj h
          exact ret_of (by kernel_rfl)
        · refine vc_skip ?_
          refine vc_kp ?_
          refine vc_seq ?_
          obtain ⟨id9, H10, hid9, hH10, hH⟩ := HP.newCell hH [s_e_api_Entry true [], iv 0, iv 0, bv false, s_e_api_Entry true [], iv 0, iv 0]
          replace hH : HP H10 [.cel id9 [s_e_api_Entry true [], iv 0, iv 0, bv false, s_e_api_Entry true [], iv 0, iv 0]] := hH
          obtain ⟨H11, hH11, hH⟩ := HP.setCell (k := 0) (off := 0) (cs := [s_e_api_Entry true [], iv 0, iv 0, bv false, s_e_api_Entry true [], iv 0, iv 0]) (vs := [s_e_api_Entry false a0_.Oper.Entries, iv a0_.Oper.Cycle, iv a0_.Base, bv a0_.Pending, s_e_api_Entry false a0_.Admin.Entries, iv a0_.Admin.Cycle, iv a0_.When]) (cs' := [s_e_api_Entry false a0_.Oper.Entries, iv a0_.Oper.Cycle, iv a0_.Base, bv a0_.Pending, s_e_api_Entry false a0_.Admin.Entries, iv a0_.Admin.Cycle, iv a0_.When]) hH rfl (by kernel_rfl)
          replace hH : HP H11 [.cel id9 (c_api_Change a0_)] := hH
          refine vc_reg (S := ⟨[(1, iv a1_), (3, iv a3_), (6, .loc 6 0), (8, .loc 8 0), (12, .ptr id9 0)], [(6, (c_api_Gates a2_)), (8, [s_e_api_Entry true [], iv 0, iv 0, bv false, s_e_api_Entry true [], iv 0, iv 0])], H11⟩) (APath.chunk 2 (by kernel_rfl) (APath.one (.newH 12 [.p (.sl 2 true []), .p (.int .i64 0), .p (.int .i64 0), .p (.bool false), .p (.sl 2 true []), .p (.int .i64 0), .p (.int .i64 0)]) (by kernel_rfl) (st_newH (H := []) (by kernel_rfl) hid9 hH10) (APath.one (.store (.t 12) (.t 37) 7) (by kernel_rfl) (st_storeH (H := H10) (v := .agg (c_api_Change a0_)) (by kernel_rfl) (by kernel_rfl) (by kernel_rfl) (by kernel_rfl) hH11) APath.done))) (by kernel_rfl) ?_
          refine vc_seq ?_
          obtain ⟨r12, hr12, h⟩ := bind_some h
          obtain ⟨H13, hvr12, hpr12⟩ := swap_state_advance_ok N (swap_state.mk a0_) a1_  id9 H11 (HP.now (HP.pick hH [0] rfl)) r12 hr12
          replace hH : HP H13 [.cel id9 (c_api_Change r12.Change)] := HP.callee (fp := [.cel id9 (c_api_Change a0_)]) (rest := []) (HP.pick hH [0] rfl) hpr12
          refine vc_reg (S := ⟨[(1, iv a1_), (3, iv a3_), (6, .loc 6 0), (8, .loc 8 0), (12, .ptr id9 0)], [(6, (c_api_Gates a2_)), (8, [s_e_api_Entry true [], iv 0, iv 0, bv false, s_e_api_Entry true [], iv 0, iv 0])], H13⟩) (APath.chunk 1 (by kernel_rfl) (APath.one (.call (some 39) 38 [.t 12, .t 38]) (by kernel_rfl) (st_callH (H := H11) (ys := [.ptr id9 0, iv a1_]) (by kernel_rfl) (by kernel_rfl) (by kernel_rfl) hvr12) APath.done)) (by kernel_rfl) ?_
          refine vc_seq ?_
          refine vc_reg (S := ⟨[(6, .loc 6 0), (8, .loc 8 0), (12, .ptr id9 0), (13, iv (if a3_ > a1_ then a3_ else a1_))], [(6, (c_api_Gates a2_)), (8, [s_e_api_Entry true [], iv 0, iv 0, bv false, s_e_api_Entry true [], iv 0, iv 0])], H13⟩) (APath.fin (by kernel_rfl)) (by kernel_rfl) ?_
          refine vc_seq ?_
          obtain ⟨H14, hH14, hH⟩ := HP.setCell (k := 0) (off := 3) (cs := [s_e_api_Entry false r12.Change.Oper.Entries, iv r12.Change.Oper.Cycle, iv r12.Change.Base, bv r12.Change.Pending, s_e_api_Entry false r12.Change.Admin.Entries, iv r12.Change.Admin.Cycle, iv r12.Change.When]) (vs := [bv true]) (cs' := [s_e_api_Entry false r12.Change.Oper.Entries, iv r12.Change.Oper.Cycle, iv r12.Change.Base, bv true, s_e_api_Entry false r12.Change.Admin.Entries, iv r12.Change.Admin.Cycle, iv r12.Change.When]) hH rfl (by kernel_rfl)
          replace hH : HP H14 [.cel id9 [s_e_api_Entry false r12.Change.Oper.Entries, iv r12.Change.Oper.Cycle, iv r12.Change.Base, bv true, s_e_api_Entry false r12.Change.Admin.Entries, iv r12.Change.Admin.Cycle, iv r12.Change.When]] := hH
          refine vc_reg (S := ⟨[(6, .loc 6 0), (8, .loc 8 0), (12, .ptr id9 0), (13, iv (if a3_ > a1_ then a3_ else a1_))], [(6, (c_api_Gates a2_)), (8, [s_e_api_Entry true [], iv 0, iv 0, bv false, s_e_api_Entry true [], iv 0, iv 0])], H14⟩) (APath.chunk 2 (by kernel_rfl) (APath.one (.store (.t 44) (.k (.p (.bool true))) 1) (by kernel_rfl) (st_storeH (H := H13) (v := bv true) (by kernel_rfl) (by kernel_rfl) (by kernel_rfl) (by kernel_rfl) hH14) APath.done)) (by kernel_rfl) ?_
          refine vc_seq ?_
          obtain ⟨H15, hH15, hH⟩ := HP.setCell (k := 0) (off := 4) (cs := [s_e_api_Entry false r12.Change.Oper.Entries, iv r12.Change.Oper.Cycle, iv r12.Change.Base, bv true, s_e_api_Entry false r12.Change.Admin.Entries, iv r12.Change.Admin.Cycle, iv r12.Change.When]) (vs := [s_e_api_Entry false a2_.Entries, iv a2_.Cycle]) (cs' := [s_e_api_Entry false r12.Change.Oper.Entries, iv r12.Change.Oper.Cycle, iv r12.Change.Base, bv true, s_e_api_Entry false a2_.Entries, iv a2_.Cycle, iv r12.Change.When]) hH rfl (by kernel_rfl)
          replace hH : HP H15 [.cel id9 [s_e_api_Entry false r12.Change.Oper.Entries, iv r12.Change.Oper.Cycle, iv r12.Change.Base, bv true, s_e_api_Entry false a2_.Entries, iv a2_.Cycle, iv r12.Change.When]] := hH
          refine vc_reg (S := ⟨[(8, .loc 8 0), (12, .ptr id9 0), (13, iv (if a3_ > a1_ then a3_ else a1_))], [(8, [s_e_api_Entry true [], iv 0, iv 0, bv false, s_e_api_Entry true [], iv 0, iv 0])], H15⟩) (APath.chunk 3 (by kernel_rfl) (APath.one (.store (.t 47) (.t 45) 2) (by kernel_rfl) (st_storeH (H := H14) (v := .agg (c_api_Gates a2_)) (by kernel_rfl) (by kernel_rfl) (by kernel_rfl) (by kernel_rfl) hH15) APath.done)) (by kernel_rfl) ?_
          refine vc_seq ?_
          have hlc16 := HP.get hH 0 rfl
          have hlc17 := HP.get hH 0 rfl
          obtain ⟨r18, hr18, h⟩ := bind_some h
          obtain ⟨H19, hH19, hH⟩ := HP.setCell (k := 0) (off := 6) (cs := [s_e_api_Entry false r12.Change.Oper.Entries, iv r12.Change.Oper.Cycle, iv r12.Change.Base, bv true, s_e_api_Entry false a2_.Entries, iv a2_.Cycle, iv r12.Change.When]) (vs := [iv (w64 ((if a3_ > a1_ then a3_ else a1_) + r18))]) (cs' := [s_e_api_Entry false r12.Change.Oper.Entries, iv r12.Change.Oper.Cycle, iv r12.Change.Base, bv true, s_e_api_Entry false a2_.Entries, iv a2_.Cycle, iv (w64 ((if a3_ > a1_ then a3_ else a1_) + r18))]) hH rfl (by kernel_rfl)
          replace hH : HP H19 [.cel id9 [s_e_api_Entry false r12.Change.Oper.Entries, iv r12.Change.Oper.Cycle, iv r12.Change.Base, bv true, s_e_api_Entry false a2_.Entries, iv a2_.Cycle, iv (w64 ((if a3_ > a1_ then a3_ else a1_) + r18))]] := hH
          refine vc_reg (S := ⟨[(8, .loc 8 0), (12, .ptr id9 0)], [(8, [s_e_api_Entry true [], iv 0, iv 0, bv false, s_e_api_Entry true [], iv 0, iv 0])], H19⟩) (APath.chunk 3 (by kernel_rfl) (APath.one (.load 51 (.t 50) 1 false) (by kernel_rfl) (st_loadC (H := H15) (id := id9) (off := 2) (cs := [s_e_api_Entry false r12.Change.Oper.Entries, iv r12.Change.Oper.Cycle, iv r12.Change.Base, bv true, s_e_api_Entry false a2_.Entries, iv a2_.Cycle, iv r12.Change.When]) (c := [iv r12.Change.Base]) (r := iv r12.Change.Base) (by kernel_rfl) (by kernel_rfl) hlc16 (by kernel_rfl) (by kernel_rfl) (by kernel_rfl)) (APath.chunk 5 (by kernel_rfl) (APath.one (.load 57 (.t 56) 1 false) (by kernel_rfl) (st_loadC (H := H15) (id := id9) (off := 1) (cs := [s_e_api_Entry false r12.Change.Oper.Entries, iv r12.Change.Oper.Cycle, iv r12.Change.Base, bv true, s_e_api_Entry false a2_.Entries, iv a2_.Cycle, iv r12.Change.When]) (c := [iv r12.Change.Oper.Cycle]) (r := iv r12.Change.Oper.Cycle) (by kernel_rfl) (by kernel_rfl) hlc17 (by kernel_rfl) (by kernel_rfl) (by kernel_rfl)) (APath.one (.call (some 58) 40 [.t 53, .t 57]) (by kernel_rfl) (st_call (by kernel_rfl) (swap_mod_ok N (w64 (r12.Change.Base - (if a3_ > a1_ then a3_ else a1_))) r12.Change.Oper.Cycle r18 hr18)) (APath.chunk 3 (by kernel_rfl) (APath.one (.store (.t 61) (.t 59) 1) (by kernel_rfl) (st_storeH (H := H15) (v := iv (w64 ((if a3_ > a1_ then a3_ else a1_) + r18))) (by kernel_rfl) (by kernel_rfl) (by kernel_rfl) (by kernel_rfl) hH19) APath.done))))))) (by kernel_rfl) ?_
          refine vc_seq ?_
          have hlc20 := HP.get hH 0 rfl
          refine vc_reg (S := ⟨[(8, .loc 8 0), (9, iv 0)], [(8, [s_e_api_Entry false r12.Change.Oper.Entries, iv r12.Change.Oper.Cycle, iv r12.Change.Base, bv true, s_e_api_Entry false a2_.Entries, iv a2_.Cycle, iv (w64 ((if a3_ > a1_ then a3_ else a1_) + r18))])], H19⟩) (APath.chunk 1 (by kernel_rfl) (APath.one (.load 63 (.t 62) 7 true) (by kernel_rfl) (st_loadC (H := H19) (id := id9) (off := 0) (cs := [s_e_api_Entry false r12.Change.Oper.Entries, iv r12.Change.Oper.Cycle, iv r12.Change.Base, bv true, s_e_api_Entry false a2_.Entries, iv a2_.Cycle, iv (w64 ((if a3_ > a1_ then a3_ else a1_) + r18))]) (c := [s_e_api_Entry false r12.Change.Oper.Entries, iv r12.Change.Oper.Cycle, iv r12.Change.Base, bv true, s_e_api_Entry false a2_.Entries, iv a2_.Cycle, iv (w64 ((if a3_ > a1_ then a3_ else a1_) + r18))]) (r := .agg [s_e_api_Entry false r12.Change.Oper.Entries, iv r12.Change.Oper.Cycle, iv r12.Change.Base, bv true, s_e_api_Entry false a2_.Entries, iv a2_.Cycle, iv (w64 ((if a3_ > a1_ then a3_ else a1_) + r18))]) (by kernel_rfl) (by kernel_rfl) hlc20 (by kernel_rfl) (by kernel_rfl) (by kernel_rfl)) (APath.fin (by kernel_rfl)))) (by kernel_rfl) ?_
          replace hH : HP H19 [] := HP.pick hH [] rfl
          refine vc_ret ?_
          obtain rfl := some_inj h
          exact ret_of (by kernel_rfl)
/- isochronref29.Right -/
theorem ref29_Right_ok (N : Nat) (a0_ : api_Change) (r : Bool) (h : ref29_Right N a0_ = some r) : PCall Try.prog 31 [.agg (c_api_Change a0_)] (bv r) := by
  unfold ref29_Right at h
  have hH : HP ([] : List HO) [] := trivial
  refine pcall_of chk31 rfl rfl (vc_sound _ _ _ ?_) rfl
  refine vc_seq ?_
  refine vc_reg (S := ⟨[(1, .loc 1 0)], [(1, (c_api_Change a0_))], []⟩) (APath.fin (by kernel_rfl)) (by kernel_rfl) ?_
  refine vc_seq ?_
  refine vc_seq ?_
  obtain ⟨j5, hj, h⟩ := bind_some h
  refine vc_regXR (fun s => s = ⟨[(1, .loc 1 0), (12, bv j5)], [(1, (c_api_Change a0_))], []⟩) ?_ ?_
  · clear h
    obtain ⟨r1, hr1, hj⟩ := bind_some hj
    rcases ite_some hj with ⟨hc2, hj⟩ | ⟨hc3, hj⟩
    · obtain rfl := some_inj hj
      exact ⟨_, (APath.chunk 2 (by kernel_rfl) (APath.one (.call (some 5) 36 [.t 4]) (by kernel_rfl) (st_call (by kernel_rfl) (ref27_Right_ok N a0_.Oper r1 hr1)) (APath.one (.val 6 .not [.t 5]) (by kernel_rfl) (st_bool (c := (!r1)) (by kernel_rfl) hc2) (APath.fin (by kernel_rfl))))), (by show _ = _; kernel_rfl)⟩
    · obtain ⟨r4, hr4, hj⟩ := bind_some hj
      obtain rfl := some_inj hj
      exact ⟨_, (APath.chunk 2 (by kernel_rfl) (APath.one (.call (some 5) 36 [.t 4]) (by kernel_rfl) (st_call (by kernel_rfl) (ref27_Right_ok N a0_.Oper r1 hr1)) (APath.one (.val 6 .not [.t 5]) (by kernel_rfl) (st_bool (c := (!r1)) (by kernel_rfl) hc3) (APath.chunk 3 (by kernel_rfl) (APath.oneG (.call (some 10) 34 [.t 9]) 7 false (by kernel_rfl) (by kernel_rfl) (st_call (by kernel_rfl) (ref29_time_ok N a0_.Base r4 hr4)) (APath.fin (by kernel_rfl))))))), (by show _ = _; kernel_rfl)⟩
  · clear hj
    rintro s hR
    obtain rfl := hR
    refine vc_ite (by kernel_rfl) h (fun hc6 h => ?_) (fun hc6 h => ?_)
    · refine vc_seq ?_
      refine vc_reg (S := ⟨[(2, bv false)], [], []⟩) (APath.fin (by kernel_rfl)) (by kernel_rfl) ?_
      refine vc_ret ?_
      obtain rfl := some_inj h
      exact ret_of (by kernel_rfl)
    · refine vc_skip ?_
      refine vc_kp ?_
      refine vc_seq ?_
      refine vc_seq ?_
      refine vc_reg (S := ⟨[(1, .loc 1 0), (15, bv (!a0_.Pending))], [(1, (c_api_Change a0_))], []⟩) (APath.fin (by kernel_rfl)) (by kernel_rfl) ?_
      refine vc_ite (by kernel_rfl) h (fun hc7 h => ?_) (fun hc7 h => ?_)
      · refine vc_seq ?_
        refine vc_regX ⟨[(2, bv ((((List.length a0_.Admin.Entries : Nat) : Int) == 0) && ((a0_.Admin.Cycle == 0) && (a0_.When == 0))))], [], []⟩ ?_ ?_
        · rcases Bool.eq_false_or_eq_true (((List.length a0_.Admin.Entries : Nat) : Int) == 0) with hc8 | hc11
          · rcases Bool.eq_false_or_eq_true (a0_.Admin.Cycle == 0) with hc9 | hc10
            · exact ⟨_, (APath.chunk 3 (by kernel_rfl) (APath.one (.val 19 .len [.t 18]) (by kernel_rfl) (st_val (ys := [s_e_api_Entry false a0_.Admin.Entries]) (by kernel_rfl) (vexec_len e_api_Entry)) (APath.one (.val 20 (.bin .eql) [.t 19, .k (.p (.int .i64 0))]) (by kernel_rfl) (st_bool (c := (((List.length a0_.Admin.Entries : Nat) : Int) == 0)) (by kernel_rfl) hc8) (APath.chunk 4 (by kernel_rfl) (APath.oneG (.val 25 (.bin .eql) [.t 24, .k (.p (.int .i64 0))]) 21 true (by kernel_rfl) (by kernel_rfl) (st_bool (c := (a0_.Admin.Cycle == 0)) (by kernel_rfl) hc9) (APath.fin (by kernel_rfl))))))), by simp only [hc8, hc9]; kernel_rfl⟩
            · exact ⟨_, (APath.chunk 3 (by kernel_rfl) (APath.one (.val 19 .len [.t 18]) (by kernel_rfl) (st_val (ys := [s_e_api_Entry false a0_.Admin.Entries]) (by kernel_rfl) (vexec_len e_api_Entry)) (APath.one (.val 20 (.bin .eql) [.t 19, .k (.p (.int .i64 0))]) (by kernel_rfl) (st_bool (c := (((List.length a0_.Admin.Entries : Nat) : Int) == 0)) (by kernel_rfl) hc8) (APath.chunk 4 (by kernel_rfl) (APath.oneG (.val 25 (.bin .eql) [.t 24, .k (.p (.int .i64 0))]) 21 true (by kernel_rfl) (by kernel_rfl) (st_bool (c := (a0_.Admin.Cycle == 0)) (by kernel_rfl) hc10) (APath.fin (by kernel_rfl))))))), by simp only [hc8, hc10]; kernel_rfl⟩
          · exact ⟨_, (APath.chunk 3 (by kernel_rfl) (APath.one (.val 19 .len [.t 18]) (by kernel_rfl) (st_val (ys := [s_e_api_Entry false a0_.Admin.Entries]) (by kernel_rfl) (vexec_len e_api_Entry)) (APath.one (.val 20 (.bin .eql) [.t 19, .k (.p (.int .i64 0))]) (by kernel_rfl) (st_bool (c := (((List.length a0_.Admin.Entries : Nat) : Int) == 0)) (by kernel_rfl) hc11) (APath.fin (by kernel_rfl))))), by simp only [hc11]; kernel_rfl⟩
        · refine vc_ret ?_
          obtain rfl := some_inj h
          exact ret_of (by kernel_rfl)
      · refine vc_skip ?_
        refine vc_kp ?_
        refine vc_seq ?_
        obtain ⟨j20, hj, h⟩ := bind_some h
        refine vc_regXR (fun s => s = ⟨[(2, bv j20)], [], []⟩) ?_ ?_
        · clear h
          obtain ⟨r12, hr12, hj⟩ := bind_some hj
          rcases ite_some hj with ⟨hc13, hj⟩ | ⟨hc19, hj⟩
          · rcases ite_some hj with ⟨hc14, hj⟩ | ⟨hc18, hj⟩
            · rcases ite_some hj with ⟨hc15, hj⟩ | ⟨hc17, hj⟩
              · obtain ⟨r16, hr16, hj⟩ := bind_some hj
                obtain rfl := some_inj hj
                exact ⟨_, (APath.chunk 2 (by kernel_rfl) (APath.one (.call (some 34) 36 [.t 33]) (by kernel_rfl) (st_callB (by kernel_rfl) (ref27_Right_ok N a0_.Admin r12 hr12) hc13) (APath.chunk 3 (by kernel_rfl) (APath.oneG (.val 38 (.bin .geq) [.t 37, .k (.p (.int .i64 (-1099511627776)))]) 35 true (by kernel_rfl) (by kernel_rfl) (st_bool (c := (decide (a0_.When ≥ (-1099511627776)))) (by kernel_rfl) hc14) (APath.chunk 4 (by kernel_rfl) (APath.oneG (.val 43 (.bin .leq) [.t 42, .k (.p (.int .i64 2199023255552))]) 40 true (by kernel_rfl) (by kernel_rfl) (st_bool (c := (decide (a0_.When ≤ 2199023255552))) (by kernel_rfl) hc15) (APath.chunk 10 (by kernel_rfl) (APath.oneG (.call (some 54) 41 [.t 50, .t 53]) 45 true (by kernel_rfl) (by kernel_rfl) (st_call (by kernel_rfl) (ref23_Mod_ok N (w64 (a0_.When - a0_.Base)) a0_.Oper.Cycle r16 hr16)) (APath.fin (by kernel_rfl)))))))))), (by show _ = _; kernel_rfl)⟩
              · obtain rfl := some_inj hj
                exact ⟨_, (APath.chunk 2 (by kernel_rfl) (APath.one (.call (some 34) 36 [.t 33]) (by kernel_rfl) (st_callB (by kernel_rfl) (ref27_Right_ok N a0_.Admin r12 hr12) hc13) (APath.chunk 3 (by kernel_rfl) (APath.oneG (.val 38 (.bin .geq) [.t 37, .k (.p (.int .i64 (-1099511627776)))]) 35 true (by kernel_rfl) (by kernel_rfl) (st_bool (c := (decide (a0_.When ≥ (-1099511627776)))) (by kernel_rfl) hc14) (APath.chunk 4 (by kernel_rfl) (APath.oneG (.val 43 (.bin .leq) [.t 42, .k (.p (.int .i64 2199023255552))]) 40 true (by kernel_rfl) (by kernel_rfl) (st_bool (c := (decide (a0_.When ≤ 2199023255552))) (by kernel_rfl) hc17) (APath.fin (by kernel_rfl)))))))), (by show _ = _; kernel_rfl)⟩
            · obtain rfl := some_inj hj
              exact ⟨_, (APath.chunk 2 (by kernel_rfl) (APath.one (.call (some 34) 36 [.t 33]) (by kernel_rfl) (st_callB (by kernel_rfl) (ref27_Right_ok N a0_.Admin r12 hr12) hc13) (APath.chunk 3 (by kernel_rfl) (APath.oneG (.val 38 (.bin .geq) [.t 37, .k (.p (.int .i64 (-1099511627776)))]) 35 true (by kernel_rfl) (by kernel_rfl) (st_bool (c := (decide (a0_.When ≥ (-1099511627776)))) (by kernel_rfl) hc18) (APath.fin (by kernel_rfl)))))), (by show _ = _; kernel_rfl)⟩
          · obtain rfl := some_inj hj
            exact ⟨_, (APath.chunk 2 (by kernel_rfl) (APath.one (.call (some 34) 36 [.t 33]) (by kernel_rfl) (st_callB (by kernel_rfl) (ref27_Right_ok N a0_.Admin r12 hr12) hc19) (APath.fin (by kernel_rfl)))), (by show _ = _; kernel_rfl)⟩
        · clear hj
          rintro s hR
          obtain rfl := hR
          refine vc_ret ?_
          obtain rfl := some_inj h
          exact ret_of (by kernel_rfl)
/- gates.Mask -/
theorem gates_Mask_ok (N : Nat) (a0_ : api_Gates) (a1_ : Int) (r : Int × Int) (h : gates_Mask N a0_ a1_ = some r) : PCall Try.prog 33 [.agg (c_api_Gates a0_), iv a1_] (.tup [iv r.1, iv r.2]) := by
  unfold gates_Mask at h
  have hH : HP ([] : List HO) [] := trivial
  refine pcall_of chk33 rfl rfl (vc_sound _ _ _ ?_) rfl
  refine vc_seq ?_
  refine vc_reg (S := ⟨[(1, iv a1_), (2, .loc 2 0)], [(2, (c_api_Gates a0_))], []⟩) (APath.fin (by kernel_rfl)) (by kernel_rfl) ?_
  refine vc_seq ?_
  refine vc_seq ?_
  obtain ⟨r1, hr1, h⟩ := bind_some h
  refine vc_reg (S := ⟨[(1, iv a1_), (2, .loc 2 0), (6, iv r1)], [(2, (c_api_Gates a0_))], []⟩) (APath.chunk 2 (by kernel_rfl) (APath.one (.call (some 11) 46 [.t 9, .k (.p (.int .i64 0)), .t 10, .k (.p (.int .i64 0))]) (by kernel_rfl) (st_call (by kernel_rfl) (gates_check_ok N a0_ 0 a1_ 0 r1 hr1)) (APath.fin (by kernel_rfl)))) (by kernel_rfl) ?_
  refine vc_seq ?_
  refine vc_reg (S := ⟨[(1, iv a1_), (2, .loc 2 0), (6, iv r1), (13, bv (r1 != 0))], [(2, (c_api_Gates a0_))], []⟩) (APath.fin (by kernel_rfl)) (by kernel_rfl) ?_
  refine vc_ite (by kernel_rfl) h (fun hc2 h => ?_) (fun hc2 h => ?_)
  · refine vc_seq ?_
    refine vc_reg (S := ⟨[(4, iv 0), (5, iv r1)], [], []⟩) (APath.fin (by kernel_rfl)) (by kernel_rfl) ?_
    refine vc_ret ?_
    obtain rfl := some_inj h
    exact ret_of (by kernel_rfl)
  · refine vc_skip ?_
    refine vc_kp ?_
    refine vc_seq ?_
    obtain ⟨r3, hr3, h⟩ := bind_some h
    refine vc_reg (S := ⟨[(2, .loc 2 0), (7, iv r3.1)], [(2, (c_api_Gates a0_))], []⟩) (APath.chunk 2 (by kernel_rfl) (APath.one (.call (some 18) 47 [.t 16, .t 17]) (by kernel_rfl) (st_call (by kernel_rfl) (gates_find_ok N a0_ a1_ r3 hr3)) (APath.fin (by kernel_rfl)))) (by kernel_rfl) ?_
    refine vc_seq ?_
    obtain ⟨e4, he4, h⟩ := bind_some h
    refine vc_reg (S := ⟨[(4, iv e4.Mask), (5, iv 0)], [], []⟩) (APath.chunk 3 (by kernel_rfl) (APath.one (.val 24 (.iaddrS 2) [.t 22, .t 23]) (by kernel_rfl) (st_val (ys := [s_e_api_Entry false a0_.Entries, iv r3.1]) (by kernel_rfl) (vexec_iaddrS e_api_Entry he4)) (APath.chunk 1 (by kernel_rfl) (APath.one (.load 26 (.t 25) 1 false) (by kernel_rfl) (st_loadP (sz := 2) (off := 0) (cs := [.int .i64 e4.Mask]) (r := iv e4.Mask) e_api_Entry he4 (by kernel_rfl) (by kernel_rfl) (by kernel_rfl)) (APath.fin (by kernel_rfl)))))) (by kernel_rfl) ?_
    refine vc_ret ?_
    obtain rfl := some_inj h
    exact ret_of (by kernel_rfl)
/- isochronref29.At -/
theorem ref29_At_ok (N : Nat) (a0_ : api_Change) (a1_ : Int) (r : Int) (h : ref29_At N a0_ a1_ = some r) : PCall Try.prog 35 [.agg (c_api_Change a0_), iv a1_] (iv r) := by
  unfold ref29_At at h
  have hH : HP ([] : List HO) [] := trivial
  refine pcall_of chk35 rfl rfl (vc_sound _ _ _ ?_) rfl
  refine vc_seq ?_
  refine vc_reg (S := ⟨[(1, iv a1_), (2, .loc 2 0)], [(2, (c_api_Change a0_))], []⟩) (APath.fin (by kernel_rfl)) (by kernel_rfl) ?_
  refine vc_seq ?_
  refine vc_seq ?_
  refine vc_regX ⟨[(1, iv a1_), (2, .loc 2 0), (12, bv (a0_.Pending && (decide (a1_ ≥ a0_.When))))], [(2, (c_api_Change a0_))], []⟩ ?_ ?_
  · rcases Bool.eq_false_or_eq_true a0_.Pending with hc1 | hc2
    · exact ⟨_, (APath.chunk 1 (by kernel_rfl) (APath.one (.load 6 (.t 5) 1 false) (by kernel_rfl) (st_boolL (c := a0_.Pending) (by kernel_rfl) hc1) (APath.fin (by kernel_rfl)))), by simp only [hc1]; kernel_rfl⟩
    · exact ⟨_, (APath.chunk 1 (by kernel_rfl) (APath.one (.load 6 (.t 5) 1 false) (by kernel_rfl) (st_boolL (c := a0_.Pending) (by kernel_rfl) hc2) (APath.fin (by kernel_rfl)))), by simp only [hc2]; kernel_rfl⟩
  · refine vc_ite (by kernel_rfl) h (fun hc3 h => ?_) (fun hc3 h => ?_)
    · refine vc_seq ?_
      obtain ⟨r4, hr4, h⟩ := bind_some h
      refine vc_reg (S := ⟨[(4, iv r4)], [], []⟩) (APath.chunk 6 (by kernel_rfl) (APath.one (.call (some 19) 48 [.t 14, .t 18]) (by kernel_rfl) (st_call (by kernel_rfl) (ref27_State_ok N a0_.Admin (w64 (a1_ - a0_.When)) r4 hr4)) (APath.fin (by kernel_rfl)))) (by kernel_rfl) ?_
      refine vc_ret ?_
      obtain rfl := some_inj h
      exact ret_of (by kernel_rfl)
    · refine vc_skip ?_
      refine vc_kp ?_
      refine vc_seq ?_
      obtain ⟨r5, hr5, h⟩ := bind_some h
      refine vc_reg (S := ⟨[(4, iv r5)], [], []⟩) (APath.chunk 6 (by kernel_rfl) (APath.one (.call (some 26) 48 [.t 21, .t 25]) (by kernel_rfl) (st_call (by kernel_rfl) (ref27_State_ok N a0_.Oper (w64 (a1_ - a0_.Base)) r5 hr5)) (APath.fin (by kernel_rfl)))) (by kernel_rfl) ?_
      refine vc_ret ?_
      obtain rfl := some_inj h
      exact ret_of (by kernel_rfl)
/- gates.open -/
theorem gates_open_ok (N : Nat) (a0_ : api_Gates) (a1_ : Int) (a2_ : Int) (r : Int) (h : gates_open N a0_ a1_ a2_ = some r) : PCall Try.prog 49 [.agg (c_api_Gates a0_), iv a1_, iv a2_] (iv r) := by
  unfold gates_open at h
  have hH : HP ([] : List HO) [] := trivial
  refine pcall_of chk49 rfl rfl (vc_sound _ _ _ ?_) rfl
  refine vc_seq ?_
  obtain ⟨id1, H2, hid1, hH2, hH⟩ := HP.newCell hH [iv a1_]
  replace hH : HP H2 [.cel id1 [iv a1_]] := hH
  refine vc_reg (S := ⟨[(2, iv a2_), (3, .loc 3 0), (4, .ptr id1 0)], [(3, (c_api_Gates a0_))], H2⟩) (APath.chunk 1 (by kernel_rfl) (APath.one (.boxH 4 (.t 1)) (by kernel_rfl) (st_boxH (H := []) (v := iv a1_) (by kernel_rfl) (by kernel_rfl) (by kernel_rfl) hid1 hH2) (APath.fin (by kernel_rfl)))) (by kernel_rfl) ?_
  refine vc_seq ?_
  obtain ⟨r3, hr3, h⟩ := bind_some h
  have hvr3 := (gates_stretch_ok N a0_ a2_ (fun x0 => gates_open_1 N x0 a1_)   51 [] [.ptr id1 0] (by kernel_rfl) [.cel id1 [iv a1_]] (fun H x0 r hH h => VCall.of (by kernel_rfl) (gates_open_1_ok N x0 a1_ id1 H hH r h)) H2 (HP.now (HP.pick hH [0] rfl)) r3 hr3)
  refine vc_reg (S := ⟨[(3, .loc 3 0), (7, iv r3)], [(3, (c_api_Gates a0_))], H2⟩) (APath.chunk 3 (by kernel_rfl) (APath.one (.call (some 11) 50 [.t 8, .t 9, .t 10]) (by kernel_rfl) (st_callH (H := H2) (ys := [.agg (c_api_Gates a0_), iv a2_, .fn 51 [] [.ptr id1 0]]) (by kernel_rfl) (by kernel_rfl) (by kernel_rfl) hvr3) (APath.fin (by kernel_rfl)))) (by kernel_rfl) ?_
  replace hH : HP H2 [] := HP.pick hH [] rfl
  refine vc_seq ?_
  refine vc_seq ?_
  refine vc_reg (S := ⟨[(7, iv r3), (15, bv (r3 == a0_.Cycle))], [], H2⟩) (APath.fin (by kernel_rfl)) (by kernel_rfl) ?_
  refine vc_ite (by kernel_rfl) h (fun hc4 h => ?_) (fun hc4 h => ?_)
  · refine vc_seq ?_
    refine vc_reg (S := ⟨[(6, iv 1099511627776)], [], H2⟩) (APath.fin (by kernel_rfl)) (by kernel_rfl) ?_
    refine vc_ret ?_
    obtain rfl := some_inj h
    exact ret_of (by kernel_rfl)
  · refine vc_skip ?_
    refine vc_kp ?_
    refine vc_seq ?_
    refine vc_reg (S := ⟨[(6, iv r3)], [], H2⟩) (APath.fin (by kernel_rfl)) (by kernel_rfl) ?_
    refine vc_ret ?_
    obtain rfl := some_inj h
    exact ret_of (by kernel_rfl)
/- isochronref29.Check -/
theorem ref29_Check_ok (N : Nat) (a0_ : api_Change) (r : Int) (h : ref29_Check N a0_ = some r) : PCall Try.prog 12 [.agg (c_api_Change a0_)] (iv r) := by
  unfold ref29_Check at h
  have hH : HP ([] : List HO) [] := trivial
  refine pcall_of chk12 rfl rfl (vc_sound _ _ _ ?_) rfl
  refine vc_seq ?_
  refine vc_reg (S := ⟨[(1, .loc 1 0)], [(1, (c_api_Change a0_))], []⟩) (APath.fin (by kernel_rfl)) (by kernel_rfl) ?_
  refine vc_seq ?_
  refine vc_seq ?_
  obtain ⟨r1, hr1, h⟩ := bind_some h
  refine vc_reg (S := ⟨[(4, bv r1)], [], []⟩) (APath.chunk 1 (by kernel_rfl) (APath.one (.call (some 4) 31 [.t 3]) (by kernel_rfl) (st_call (by kernel_rfl) (ref29_Right_ok N a0_ r1 hr1)) APath.done)) (by kernel_rfl) ?_
  refine vc_ite (by kernel_rfl) h (fun hc2 h => ?_) (fun hc2 h => ?_)
  · refine vc_seq ?_
    refine vc_reg (S := ⟨[(2, iv 0)], [], []⟩) (APath.fin (by kernel_rfl)) (by kernel_rfl) ?_
    refine vc_ret ?_
    obtain rfl := some_inj h
    exact ret_of (by kernel_rfl)
  · refine vc_skip ?_
    refine vc_kp ?_
    refine vc_seq ?_
    refine vc_reg (S := ⟨[(2, iv 390)], [], []⟩) (APath.fin (by kernel_rfl)) (by kernel_rfl) ?_
    refine vc_ret ?_
    obtain rfl := some_inj h
    exact ret_of (by kernel_rfl)
/- swap.Mask -/
theorem swap_Mask_ok (N : Nat) (a0_ : api_Change) (a1_ : Int) (r : Int × Int) (h : swap_Mask N a0_ a1_ = some r) : PCall Try.prog 13 [.agg (c_api_Change a0_), iv a1_] (.tup [iv r.1, iv r.2]) := by
  unfold swap_Mask at h
  have hH : HP ([] : List HO) [] := trivial
  refine pcall_of chk13 rfl rfl (vc_sound _ _ _ ?_) rfl
  refine vc_seq ?_
  obtain ⟨id1, H2, hid1, hH2, hH⟩ := HP.newCell hH [iv 0]
  replace hH : HP H2 [.cel id1 [iv 0]] := hH
  obtain ⟨id3, H4, hid3, hH4, hH⟩ := HP.newCell hH [iv 0]
  replace hH : HP H4 [.cel id3 [iv 0], .cel id1 [iv 0]] := hH
  refine vc_reg (S := ⟨[(1, iv a1_), (2, .loc 2 0), (4, .ptr id1 0), (5, .ptr id3 0)], [(2, (c_api_Change a0_))], H4⟩) (APath.chunk 1 (by kernel_rfl) (APath.one (.newH 4 [.p (.int .i64 0)]) (by kernel_rfl) (st_newH (H := []) (by kernel_rfl) hid1 hH2) (APath.one (.newH 5 [.p (.int .i64 0)]) (by kernel_rfl) (st_newH (H := H2) (by kernel_rfl) hid3 hH4) APath.done))) (by kernel_rfl) ?_
  refine vc_seq ?_
  refine vc_seq ?_
  obtain ⟨r5, hr5, h⟩ := bind_some h
  refine vc_reg (S := ⟨[(1, iv a1_), (2, .loc 2 0), (4, .ptr id1 0), (5, .ptr id3 0), (6, iv r5)], [(2, (c_api_Change a0_))], H4⟩) (APath.chunk 1 (by kernel_rfl) (APath.one (.call (some 9) 11 [.t 8]) (by kernel_rfl) (st_call (by kernel_rfl) (swap_Check_ok N a0_ r5 hr5)) (APath.fin (by kernel_rfl)))) (by kernel_rfl) ?_
  refine vc_seq ?_
  refine vc_reg (S := ⟨[(1, iv a1_), (2, .loc 2 0), (4, .ptr id1 0), (5, .ptr id3 0), (6, iv r5), (11, bv (r5 != 0))], [(2, (c_api_Change a0_))], H4⟩) (APath.fin (by kernel_rfl)) (by kernel_rfl) ?_
  refine vc_ite (by kernel_rfl) h (fun hc6 h => ?_) (fun hc6 h => ?_)
  · refine vc_seq ?_
    obtain ⟨H7, hH7, hH⟩ := HP.setCell (k := 1) (off := 0) (cs := [iv 0]) (vs := [iv 0]) (cs' := [iv 0]) hH rfl (by kernel_rfl)
    replace hH : HP H7 [.cel id3 [iv 0], .cel id1 [iv 0]] := hH
    obtain ⟨H8, hH8, hH⟩ := HP.setCell (k := 0) (off := 0) (cs := [iv 0]) (vs := [iv r5]) (cs' := [iv r5]) hH rfl (by kernel_rfl)
    replace hH : HP H8 [.cel id3 [iv r5], .cel id1 [iv 0]] := hH
    refine vc_reg (S := ⟨[(4, .ptr id1 0), (5, .ptr id3 0)], [], H8⟩) (APath.chunk 1 (by kernel_rfl) (APath.one (.store (.t 4) (.k (.p (.int .i64 0))) 1) (by kernel_rfl) (st_storeH (H := H4) (v := iv 0) (by kernel_rfl) (by kernel_rfl) (by kernel_rfl) (by kernel_rfl) hH7) (APath.one (.store (.t 5) (.t 12) 1) (by kernel_rfl) (st_storeH (H := H7) (v := iv r5) (by kernel_rfl) (by kernel_rfl) (by kernel_rfl) (by kernel_rfl) hH8) APath.done))) (by kernel_rfl) ?_
    refine vc_ret ?_
    obtain rfl := some_inj h
    exact ret_own (H := H8) (ys := [iv 0, iv r5]) (xs := [iv 0, iv r5]) (by kernel_rfl) (rawL_one (r := .cell 4 1 false) (v := iv 0) (rawV_ptr (id := id1) (off := 0) (cs := [iv 0]) (c := [iv 0]) (by kernel_rfl) (HP.get hH 1 rfl) (by kernel_rfl) (by kernel_rfl)) (rawL_one (r := .cell 5 1 false) (v := iv r5) (rawV_ptr (id := id3) (off := 0) (cs := [iv r5]) (c := [iv r5]) (by kernel_rfl) (HP.get hH 0 rfl) (by kernel_rfl) (by kernel_rfl)) rawL_nil)) (pureVL_cons rfl (pureVL_cons rfl pureVL_nil)) (by kernel_rfl)
  · refine vc_skip ?_
    refine vc_kp ?_
    refine vc_seq ?_
    refine vc_seq ?_
    obtain ⟨r9, hr9, h⟩ := bind_some h
    refine vc_reg (S := ⟨[(1, iv a1_), (2, .loc 2 0), (4, .ptr id1 0), (5, .ptr id3 0), (16, bv (!r9))], [(2, (c_api_Change a0_))], H4⟩) (APath.chunk 2 (by kernel_rfl) (APath.one (.call (some 15) 30 [.t 14]) (by kernel_rfl) (st_call (by kernel_rfl) (swap_times_ok N ([a1_]) r9 hr9)) (APath.fin (by kernel_rfl)))) (by kernel_rfl) ?_
    refine vc_ite (by kernel_rfl) h (fun hc10 h => ?_) (fun hc10 h => ?_)
    · refine vc_seq ?_
      obtain ⟨H11, hH11, hH⟩ := HP.setCell (k := 1) (off := 0) (cs := [iv 0]) (vs := [iv 0]) (cs' := [iv 0]) hH rfl (by kernel_rfl)
      replace hH : HP H11 [.cel id3 [iv 0], .cel id1 [iv 0]] := hH
      obtain ⟨H12, hH12, hH⟩ := HP.setCell (k := 0) (off := 0) (cs := [iv 0]) (vs := [iv 2]) (cs' := [iv 2]) hH rfl (by kernel_rfl)
      replace hH : HP H12 [.cel id3 [iv 2], .cel id1 [iv 0]] := hH
      refine vc_reg (S := ⟨[(4, .ptr id1 0), (5, .ptr id3 0)], [], H12⟩) (APath.one (.store (.t 4) (.k (.p (.int .i64 0))) 1) (by kernel_rfl) (st_storeH (H := H4) (v := iv 0) (by kernel_rfl) (by kernel_rfl) (by kernel_rfl) (by kernel_rfl) hH11) (APath.one (.store (.t 5) (.k (.p (.int .i64 2))) 1) (by kernel_rfl) (st_storeH (H := H11) (v := iv 2) (by kernel_rfl) (by kernel_rfl) (by kernel_rfl) (by kernel_rfl) hH12) APath.done)) (by kernel_rfl) ?_
      refine vc_ret ?_
      obtain rfl := some_inj h
      exact ret_own (H := H12) (ys := [iv 0, iv 2]) (xs := [iv 0, iv 2]) (by kernel_rfl) (rawL_one (r := .cell 4 1 false) (v := iv 0) (rawV_ptr (id := id1) (off := 0) (cs := [iv 0]) (c := [iv 0]) (by kernel_rfl) (HP.get hH 1 rfl) (by kernel_rfl) (by kernel_rfl)) (rawL_one (r := .cell 5 1 false) (v := iv 2) (rawV_ptr (id := id3) (off := 0) (cs := [iv 2]) (c := [iv 2]) (by kernel_rfl) (HP.get hH 0 rfl) (by kernel_rfl) (by kernel_rfl)) rawL_nil)) (pureVL_cons rfl (pureVL_cons rfl pureVL_nil)) (by kernel_rfl)
    · refine vc_skip ?_
      refine vc_kp ?_
      refine vc_seq ?_
      refine vc_seq ?_
      obtain ⟨r13, hr13, h⟩ := bind_some h
      obtain ⟨id15, id16, id17, H14, hvr13, hpr13⟩ := swap_state_parts_ok N (swap_state.mk a0_) a1_ 1 H4 r13 hr13
      replace hH : HP H14 [.cel id15 (c_api_Change r13.1.Change), .cel id16 [iv r13.2.1], .cel id17 [iv r13.2.2], .cel id3 [iv 0], .cel id1 [iv 0]] := HP.callee (fp := []) (rest := [.cel id3 [iv 0], .cel id1 [iv 0]]) hH hpr13
      refine vc_reg (S := ⟨[(4, .ptr id1 0), (5, .ptr id3 0), (20, .fn 45 [] [.ptr id15 0, .ptr id16 0, .ptr id17 0])], [], H14⟩) (APath.chunk 3 (by kernel_rfl) (APath.one (.call (some 20) 32 [.t 18, .t 19, .k (.p (.int .i64 1))]) (by kernel_rfl) (st_callH (H := H4) (ys := [.agg (c_api_Change a0_), iv a1_, iv 1]) (by kernel_rfl) (by kernel_rfl) (by kernel_rfl) hvr13) APath.done)) (by kernel_rfl) ?_
      refine vc_block ?_
      obtain ⟨o524, ho524, h⟩ := bind_some h
      have hyo524 : ∀ (x19 : swap_part) (s : (Int × Int) × Nat) (r : ((Int × Int) × Nat) × Bool) (H : List HO) (its : List Thing), (fun (s : (Int × Int) × Nat) (its : List Thing) => its = [.cel id3 [iv s.1.1], .cel id1 [iv s.1.2]] ++ [.lp (List.length H14) (lcOf Try.prog i13.nt [21] ra13_1 rb13_1) [(4, .ptr id1 0), (5, .ptr id3 0)] (stAt [.ready, .done .ret] s.2)]) s its → HP H its → (fun (s : (Int × Int) × Nat) (x19 : swap_part) => yieldF (fun v : Int × Int => swap_Mask_R1 N v.1 v.2 x19) s) s x19 = some r → ∃ H' its', YCall Try.prog (List.length H14) [.agg (c_swap_part x19)] H r.2 H' ∧ (fun (s : (Int × Int) × Nat) (its : List Thing) => its = [.cel id3 [iv s.1.1], .cel id1 [iv s.1.2]] ++ [.lp (List.length H14) (lcOf Try.prog i13.nt [21] ra13_1 rb13_1) [(4, .ptr id1 0), (5, .ptr id3 0)] (stAt [.ready, .done .ret] s.2)]) r.1 its' ∧ Fp H H' its its' := by
        clear h
        intro x19 s r H18 its hT hH h
        obtain ⟨h0, q, hb, rfl⟩ := yieldF_some h
        clear h
        obtain ⟨vs, e⟩ := s
        obtain rfl : e = 0 := h0
        obtain ⟨i20, i21⟩ := vs
        obtain rfl := hT
        replace h : swap_Mask_R1 N i20 i21 x19 = some q := hb
        clear hb
        unfold swap_Mask_R1 at h
        replace hH : Fp H18 H18 [.cel id3 [iv i20], .cel id1 [iv i21], .lp (List.length H14) (lcOf Try.prog i13.nt [21] ra13_1 rb13_1) [(4, .ptr id1 0), (5, .ptr id3 0)] .ready] [.cel id3 [iv i20], .cel id1 [iv i21], .lp (List.length H14) (lcOf Try.prog i13.nt [21] ra13_1 rb13_1) [(4, .ptr id1 0), (5, .ptr id3 0)] .ready] := Fp.refl hH
        suffices hs : ∃ H', YCall Try.prog (List.length H14) [.agg (c_swap_part x19)] H18 (q.2 == 0) H' ∧ ∃ its', (fun (s : (Int × Int) × Nat) (its : List Thing) => its = [.cel id3 [iv s.1.1], .cel id1 [iv s.1.2]] ++ [.lp (List.length H14) (lcOf Try.prog i13.nt [21] ra13_1 rb13_1) [(4, .ptr id1 0), (5, .ptr id3 0)] (stAt [.ready, .done .ret] s.2)]) q its' ∧ Fp H18 H' [.cel id3 [iv i20], .cel id1 [iv i21], .lp (List.length H14) (lcOf Try.prog i13.nt [21] ra13_1 rb13_1) [(4, .ptr id1 0), (5, .ptr id3 0)] .ready] its' by
          obtain ⟨H', h1, its', h2, h3⟩ := hs
          exact ⟨H', its', h1, h2, h3⟩
        refine ycall_det (id := (List.length H14)) (args := [.agg (c_swap_part x19)]) (H := H18) (n := i13.nt) (ps := [21]) (fr0 := [(4, .ptr id1 0), (5, .ptr id3 0)]) (ia := ra13_1) (ib := rb13_1) (q.2 == 0) (fun H' => ∃ its', (fun (s : (Int × Int) × Nat) (its : List Thing) => its = [.cel id3 [iv s.1.1], .cel id1 [iv s.1.2]] ++ [.lp (List.length H14) (lcOf Try.prog i13.nt [21] ra13_1 rb13_1) [(4, .ptr id1 0), (5, .ptr id3 0)] (stAt [.ready, .done .ret] s.2)]) q its' ∧ Fp H18 H' [.cel id3 [iv i20], .cel id1 [iv i21], .lp (List.length H14) (lcOf Try.prog i13.nt [21] ra13_1 rb13_1) [(4, .ptr id1 0), (5, .ptr id3 0)] .ready] its') (Fp.get hH 2 rfl) rfl (by decide +kernel) rfl ?_
        show vc _ _ _ _ ⟨[(4, .ptr id1 0), (5, .ptr id3 0), (21, .agg (c_swap_part x19))], [], H18⟩
        refine vc_reg (S := ⟨[(4, .ptr id1 0), (5, .ptr id3 0), (7, .loc 7 0)], [(7, (c_swap_part x19))], H18⟩) (APath.fin (by kernel_rfl)) (by kernel_rfl) ?_
        refine ia_done (k := 2) hH rfl ?_
        intro H520 hH
        replace hH : Fp H18 H520 [.cel id3 [iv i20], .cel id1 [iv i21], .lp (List.length H14) (lcOf Try.prog i13.nt [21] ra13_1 rb13_1) [(4, .ptr id1 0), (5, .ptr id3 0)] .ready] [.cel id3 [iv i20], .cel id1 [iv i21], .lp (List.length H14) (lcOf Try.prog i13.nt [21] ra13_1 rb13_1) [(4, .ptr id1 0), (5, .ptr id3 0)] .busy] := hH
        show vc _ _ _ _ ⟨[(4, .ptr id1 0), (5, .ptr id3 0), (7, .loc 7 0)], [(7, (c_swap_part x19))], H520⟩
        refine vc_block ?_
        refine vc_seq ?_
        obtain ⟨r521, hr521, h⟩ := bind_some h
        obtain ⟨H522, hH522, hH⟩ := Fp.setCell (k := 1) (off := 0) (cs := [iv i21]) (vs := [iv r521.1]) (cs' := [iv r521.1]) hH rfl (by kernel_rfl)
        replace hH : Fp H18 H522 [.cel id3 [iv i20], .cel id1 [iv i21], .lp (List.length H14) (lcOf Try.prog i13.nt [21] ra13_1 rb13_1) [(4, .ptr id1 0), (5, .ptr id3 0)] .ready] [.cel id3 [iv i20], .cel id1 [iv r521.1], .lp (List.length H14) (lcOf Try.prog i13.nt [21] ra13_1 rb13_1) [(4, .ptr id1 0), (5, .ptr id3 0)] .busy] := hH
        obtain ⟨H523, hH523, hH⟩ := Fp.setCell (k := 0) (off := 0) (cs := [iv i20]) (vs := [iv r521.2]) (cs' := [iv r521.2]) hH rfl (by kernel_rfl)
        replace hH : Fp H18 H523 [.cel id3 [iv i20], .cel id1 [iv i21], .lp (List.length H14) (lcOf Try.prog i13.nt [21] ra13_1 rb13_1) [(4, .ptr id1 0), (5, .ptr id3 0)] .ready] [.cel id3 [iv r521.2], .cel id1 [iv r521.1], .lp (List.length H14) (lcOf Try.prog i13.nt [21] ra13_1 rb13_1) [(4, .ptr id1 0), (5, .ptr id3 0)] .busy] := hH
        refine vc_reg (S := ⟨[], [], H523⟩) (APath.chunk 4 (by kernel_rfl) (APath.one (.call (some 26) 33 [.t 23, .t 25]) (by kernel_rfl) (st_call (by kernel_rfl) (gates_Mask_ok N x19.list x19.at_ r521 hr521)) (APath.chunk 2 (by kernel_rfl) (APath.one (.store (.t 4) (.t 27) 1) (by kernel_rfl) (st_storeH (H := H520) (v := iv r521.1) (by kernel_rfl) (by kernel_rfl) (by kernel_rfl) (by kernel_rfl) hH522) (APath.one (.store (.t 5) (.t 28) 1) (by kernel_rfl) (st_storeH (H := H522) (v := iv r521.2) (by kernel_rfl) (by kernel_rfl) (by kernel_rfl) (by kernel_rfl) hH523) APath.done))))) (by kernel_rfl) ?_
        refine vc_ret ?_
        obtain rfl := some_inj h
        exact rb_done (k := 2) (.done .ret) hH rfl rfl (fun H6 hH => ⟨_, (Eq.refl _), (Fp.pick hH [0, 1, 2] rfl)⟩)
      refine vc_range (s := ⟨[(4, .ptr id1 0), (5, .ptr id3 0), (20, .fn 45 [] [.ptr id15 0, .ptr id16 0, .ptr id17 0])], [], H14⟩) [(4, .ptr id1 0), (5, .ptr id3 0)] (FrOK.cons (by kernel_rfl) (by kernel_rfl) (FrOK.cons (by kernel_rfl) (by kernel_rfl) FrOK.nil)) (by kernel_rfl) (fun H => rfl) (capT := [.cel id15 (c_api_Change r13.1.Change), .cel id16 [iv r13.2.1], .cel id17 [iv r13.2.2]]) (cells0 := [.cel id3 [iv 0], .cel id1 [iv 0]]) (rest := []) (HP.now (HP.pick hH [0, 1, 2, 3, 4] rfl)) (fun (s : (Int × Int) × Nat) (its : List Thing) => its = [.cel id3 [iv s.1.1], .cel id1 [iv s.1.2]] ++ [.lp (List.length H14) (lcOf Try.prog i13.nt [21] ra13_1 rb13_1) [(4, .ptr id1 0), (5, .ptr id3 0)] (stAt [.ready, .done .ret] s.2)]) ((0, 0), 0) o524 (by exact (Eq.refl _)) (fun H its hT hH => swap_state_parts_1_ok N (fun (s : (Int × Int) × Nat) (x19 : swap_part) => yieldF (fun v : Int × Int => swap_Mask_R1 N v.1 v.2 x19) s) r13.1 r13.2.1 r13.2.2 ((0, 0), 0) id15 id16 id17 (List.length H14) (fun (s : (Int × Int) × Nat) (its : List Thing) => its = [.cel id3 [iv s.1.1], .cel id1 [iv s.1.2]] ++ [.lp (List.length H14) (lcOf Try.prog i13.nt [21] ra13_1 rb13_1) [(4, .ptr id1 0), (5, .ptr id3 0)] (stAt [.ready, .done .ret] s.2)]) hyo524 H its hT hH o524 ho524) ?_
      rintro its hT
      obtain rfl := hT
      refine ⟨_, _, rfl, ?_⟩
      intro H525 hF
      replace hH : HP H525 [.cel id15 (c_api_Change r13.1.Change), .cel id16 [iv r13.2.1], .cel id17 [iv r13.2.2], .cel id3 [iv o524.1.1], .cel id1 [iv o524.1.2]] := HP.after (HP.pick hH [0, 1, 2, 3, 4] rfl) hF
      rcases ite_some h with ⟨hc526, h⟩ | ⟨_, h⟩
      · refine outQ_at (S := ⟨[(4, .ptr id1 0), (5, .ptr id3 0), (20, .fn 45 [] [.ptr id15 0, .ptr id16 0, .ptr id17 0])], [], H525⟩) (e := .normal) hc526 rfl ?_
        try show vc _ _ _ _ _
        refine vc_seq ?_
        obtain ⟨H527, hH527, hH⟩ := HP.setCell (k := 4) (off := 0) (cs := [iv o524.1.2]) (vs := [iv 0]) (cs' := [iv 0]) hH rfl (by kernel_rfl)
        replace hH : HP H527 [.cel id15 (c_api_Change r13.1.Change), .cel id16 [iv r13.2.1], .cel id17 [iv r13.2.2], .cel id3 [iv o524.1.1], .cel id1 [iv 0]] := hH
        obtain ⟨H528, hH528, hH⟩ := HP.setCell (k := 3) (off := 0) (cs := [iv o524.1.1]) (vs := [iv 0]) (cs' := [iv 0]) hH rfl (by kernel_rfl)
        replace hH : HP H528 [.cel id15 (c_api_Change r13.1.Change), .cel id16 [iv r13.2.1], .cel id17 [iv r13.2.2], .cel id3 [iv 0], .cel id1 [iv 0]] := hH
        refine vc_reg (S := ⟨[(4, .ptr id1 0), (5, .ptr id3 0)], [], H528⟩) (APath.one (.store (.t 4) (.k (.p (.int .i64 0))) 1) (by kernel_rfl) (st_storeH (H := H525) (v := iv 0) (by kernel_rfl) (by kernel_rfl) (by kernel_rfl) (by kernel_rfl) hH527) (APath.one (.store (.t 5) (.k (.p (.int .i64 0))) 1) (by kernel_rfl) (st_storeH (H := H527) (v := iv 0) (by kernel_rfl) (by kernel_rfl) (by kernel_rfl) (by kernel_rfl) hH528) APath.done)) (by kernel_rfl) ?_
        replace hH : HP H528 [.cel id3 [iv 0], .cel id1 [iv 0]] := HP.pick hH [3, 4] rfl
        refine vc_ret ?_
        obtain rfl := some_inj h
        exact ret_own (H := H528) (ys := [iv 0, iv 0]) (xs := [iv 0, iv 0]) (by kernel_rfl) (rawL_one (r := .cell 4 1 false) (v := iv 0) (rawV_ptr (id := id1) (off := 0) (cs := [iv 0]) (c := [iv 0]) (by kernel_rfl) (HP.get hH 1 rfl) (by kernel_rfl) (by kernel_rfl)) (rawL_one (r := .cell 5 1 false) (v := iv 0) (rawV_ptr (id := id3) (off := 0) (cs := [iv 0]) (c := [iv 0]) (by kernel_rfl) (HP.get hH 0 rfl) (by kernel_rfl) (by kernel_rfl)) rawL_nil)) (pureVL_cons rfl (pureVL_cons rfl pureVL_nil)) (by kernel_rfl)
      · rcases ite_some h with ⟨hc529, h⟩ | ⟨_, h⟩
        · refine outQ_at (S := ⟨[(4, .ptr id1 0), (5, .ptr id3 0), (20, .fn 45 [] [.ptr id15 0, .ptr id16 0, .ptr id17 0])], [], H525⟩) (e := .ret) hc529 rfl ?_
          try show vc _ _ _ _ _
          obtain rfl := some_inj h
          exact ret_own (H := H525) (ys := [iv o524.1.2, iv o524.1.1]) (xs := [iv o524.1.2, iv o524.1.1]) (by kernel_rfl) (rawL_one (r := .cell 4 1 false) (v := iv o524.1.2) (rawV_ptr (id := id1) (off := 0) (cs := [iv o524.1.2]) (c := [iv o524.1.2]) (by kernel_rfl) (HP.get hH 4 rfl) (by kernel_rfl) (by kernel_rfl)) (rawL_one (r := .cell 5 1 false) (v := iv o524.1.1) (rawV_ptr (id := id3) (off := 0) (cs := [iv o524.1.1]) (c := [iv o524.1.1]) (by kernel_rfl) (HP.get hH 3 rfl) (by kernel_rfl) (by kernel_rfl)) rawL_nil)) (pureVL_cons rfl (pureVL_cons rfl pureVL_nil)) (by kernel_rfl)
        · cases h
/- isochronref29.Mask -/
theorem ref29_Mask_ok (N : Nat) (a0_ : api_Change) (a1_ : Int) (r : Int × Int) (h : ref29_Mask N a0_ a1_ = some r) : PCall Try.prog 14 [.agg (c_api_Change a0_), iv a1_] (.tup [iv r.1, iv r.2]) := by
  unfold ref29_Mask at h
  have hH : HP ([] : List HO) [] := trivial
  refine pcall_of chk14 rfl rfl (vc_sound _ _ _ ?_) rfl
  refine vc_seq ?_
  refine vc_reg (S := ⟨[(1, iv a1_), (2, .loc 2 0)], [(2, (c_api_Change a0_))], []⟩) (APath.fin (by kernel_rfl)) (by kernel_rfl) ?_
  refine vc_seq ?_
  refine vc_seq ?_
  obtain ⟨r1, hr1, h⟩ := bind_some h
  refine vc_reg (S := ⟨[(1, iv a1_), (2, .loc 2 0), (8, bv (!r1))], [(2, (c_api_Change a0_))], []⟩) (APath.chunk 1 (by kernel_rfl) (APath.one (.call (some 7) 31 [.t 6]) (by kernel_rfl) (st_call (by kernel_rfl) (ref29_Right_ok N a0_ r1 hr1)) (APath.fin (by kernel_rfl)))) (by kernel_rfl) ?_
  refine vc_ite (by kernel_rfl) h (fun hc2 h => ?_) (fun hc2 h => ?_)
  · refine vc_seq ?_
    refine vc_reg (S := ⟨[(4, iv 0), (5, iv 390)], [], []⟩) (APath.fin (by kernel_rfl)) (by kernel_rfl) ?_
    refine vc_ret ?_
    obtain rfl := some_inj h
    exact ret_of (by kernel_rfl)
  · refine vc_skip ?_
    refine vc_kp ?_
    refine vc_seq ?_
    refine vc_seq ?_
    obtain ⟨r3, hr3, h⟩ := bind_some h
    refine vc_reg (S := ⟨[(1, iv a1_), (2, .loc 2 0), (11, bv (!r3))], [(2, (c_api_Change a0_))], []⟩) (APath.chunk 1 (by kernel_rfl) (APath.one (.call (some 10) 34 [.t 9]) (by kernel_rfl) (st_call (by kernel_rfl) (ref29_time_ok N a1_ r3 hr3)) (APath.fin (by kernel_rfl)))) (by kernel_rfl) ?_
    refine vc_ite (by kernel_rfl) h (fun hc4 h => ?_) (fun hc4 h => ?_)
    · refine vc_seq ?_
      refine vc_reg (S := ⟨[(4, iv 0), (5, iv 2)], [], []⟩) (APath.fin (by kernel_rfl)) (by kernel_rfl) ?_
      refine vc_ret ?_
      obtain rfl := some_inj h
      exact ret_of (by kernel_rfl)
    · refine vc_skip ?_
      refine vc_kp ?_
      refine vc_seq ?_
      obtain ⟨r5, hr5, h⟩ := bind_some h
      refine vc_reg (S := ⟨[(4, iv r5), (5, iv 0)], [], []⟩) (APath.chunk 2 (by kernel_rfl) (APath.one (.call (some 14) 35 [.t 12, .t 13]) (by kernel_rfl) (st_call (by kernel_rfl) (ref29_At_ok N a0_ a1_ r5 hr5)) (APath.fin (by kernel_rfl)))) (by kernel_rfl) ?_
      refine vc_ret ?_
      obtain rfl := some_inj h
      exact ret_of (by kernel_rfl)
/- isochronref29.Advance -/
theorem ref29_Advance_ok (N : Nat) (a0_ : api_Change) (a1_ : Int) (r : api_Change × Int) (h : ref29_Advance N a0_ a1_ = some r) : PCall Try.prog 20 [.agg (c_api_Change a0_), iv a1_] (.tup [.agg [s_e_api_Entry false r.1.Oper.Entries, iv r.1.Oper.Cycle, iv r.1.Base, bv r.1.Pending, s_e_api_Entry false r.1.Admin.Entries, iv r.1.Admin.Cycle, iv r.1.When], iv r.2]) := by
  unfold ref29_Advance at h
  have hH : HP ([] : List HO) [] := trivial
  refine pcall_of chk20 rfl rfl (vc_sound _ _ _ ?_) rfl
  refine vc_seq ?_
  refine vc_reg (S := ⟨[(1, iv a1_), (2, .loc 2 0), (4, .loc 4 0)], [(2, (c_api_Change a0_)), (4, [s_e_api_Entry true [], iv 0, iv 0, bv false, s_e_api_Entry true [], iv 0, iv 0])], []⟩) (APath.fin (by kernel_rfl)) (by kernel_rfl) ?_
  refine vc_seq ?_
  refine vc_seq ?_
  obtain ⟨r1, hr1, h⟩ := bind_some h
  refine vc_reg (S := ⟨[(1, iv a1_), (2, .loc 2 0), (4, .loc 4 0), (8, bv (!r1))], [(2, (c_api_Change a0_)), (4, [s_e_api_Entry true [], iv 0, iv 0, bv false, s_e_api_Entry true [], iv 0, iv 0])], []⟩) (APath.chunk 1 (by kernel_rfl) (APath.one (.call (some 7) 31 [.t 6]) (by kernel_rfl) (st_call (by kernel_rfl) (ref29_Right_ok N a0_ r1 hr1)) (APath.fin (by kernel_rfl)))) (by kernel_rfl) ?_
  refine vc_ite (by kernel_rfl) h (fun hc2 h => ?_) (fun hc2 h => ?_)
  · refine vc_seq ?_
    refine vc_reg (S := ⟨[(4, .loc 4 0), (5, iv 390)], [(4, [s_e_api_Entry true [], iv 0, iv 0, bv false, s_e_api_Entry true [], iv 0, iv 0])], []⟩) (APath.fin (by kernel_rfl)) (by kernel_rfl) ?_
    refine vc_ret ?_
    obtain rfl := some_inj h
    exact ret_of (by kernel_rfl)
  · refine vc_skip ?_
    refine vc_kp ?_
    refine vc_seq ?_
    refine vc_seq ?_
    obtain ⟨r3, hr3, h⟩ := bind_some h
    refine vc_reg (S := ⟨[(1, iv a1_), (2, .loc 2 0), (4, .loc 4 0), (12, bv (!r3))], [(2, (c_api_Change a0_)), (4, [s_e_api_Entry true [], iv 0, iv 0, bv false, s_e_api_Entry true [], iv 0, iv 0])], []⟩) (APath.chunk 1 (by kernel_rfl) (APath.one (.call (some 11) 34 [.t 10]) (by kernel_rfl) (st_call (by kernel_rfl) (ref29_time_ok N a1_ r3 hr3)) (APath.fin (by kernel_rfl)))) (by kernel_rfl) ?_
    refine vc_ite (by kernel_rfl) h (fun hc4 h => ?_) (fun hc4 h => ?_)
    · refine vc_seq ?_
      refine vc_reg (S := ⟨[(4, .loc 4 0), (5, iv 2)], [(4, [s_e_api_Entry true [], iv 0, iv 0, bv false, s_e_api_Entry true [], iv 0, iv 0])], []⟩) (APath.fin (by kernel_rfl)) (by kernel_rfl) ?_
      refine vc_ret ?_
      obtain rfl := some_inj h
      exact ret_of (by kernel_rfl)
    · refine vc_skip ?_
      refine vc_kp ?_
      refine vc_seq ?_
      obtain ⟨r5, hr5, h⟩ := bind_some h
      refine vc_reg (S := ⟨[(4, .loc 4 0), (5, iv 0)], [(4, (c_api_Change r5))], []⟩) (APath.chunk 2 (by kernel_rfl) (APath.one (.call (some 16) 39 [.t 14, .t 15]) (by kernel_rfl) (st_call (by kernel_rfl) (ref29_Later_ok N a0_ a1_ r5 hr5)) (APath.fin (by kernel_rfl)))) (by kernel_rfl) ?_
      refine vc_ret ?_
      obtain rfl := some_inj h
      exact ret_of (by kernel_rfl)
/- isochronref29.Set -/
theorem ref29_Set_ok (N : Nat) (a0_ : api_Change) (a1_ : Int) (a2_ : api_Gates) (a3_ : Int) (r : api_Change × Int) (h : ref29_Set N a0_ a1_ a2_ a3_ = some r) : PCall Try.prog 23 [.agg (c_api_Change a0_), iv a1_, .agg (c_api_Gates a2_), iv a3_] (.tup [.agg [s_e_api_Entry false r.1.Oper.Entries, iv r.1.Oper.Cycle, iv r.1.Base, bv r.1.Pending, s_e_api_Entry false r.1.Admin.Entries, iv r.1.Admin.Cycle, iv r.1.When], iv r.2]) := by
  unfold ref29_Set at h
  have hH : HP ([] : List HO) [] := trivial
  refine pcall_of chk23 rfl rfl (vc_sound _ _ _ ?_) rfl
  refine vc_seq ?_
  refine vc_reg (S := ⟨[(1, iv a1_), (3, iv a3_), (4, .loc 4 0), (6, .loc 6 0), (8, .loc 8 0)], [(4, (c_api_Change a0_)), (6, (c_api_Gates a2_)), (8, [s_e_api_Entry true [], iv 0, iv 0, bv false, s_e_api_Entry true [], iv 0, iv 0])], []⟩) (APath.fin (by kernel_rfl)) (by kernel_rfl) ?_
  refine vc_seq ?_
  refine vc_seq ?_
  obtain ⟨r1, hr1, h⟩ := bind_some h
  refine vc_reg (S := ⟨[(1, iv a1_), (3, iv a3_), (4, .loc 4 0), (6, .loc 6 0), (8, .loc 8 0), (13, bv (!r1))], [(4, (c_api_Change a0_)), (6, (c_api_Gates a2_)), (8, [s_e_api_Entry true [], iv 0, iv 0, bv false, s_e_api_Entry true [], iv 0, iv 0])], []⟩) (APath.chunk 1 (by kernel_rfl) (APath.one (.call (some 12) 31 [.t 11]) (by kernel_rfl) (st_call (by kernel_rfl) (ref29_Right_ok N a0_ r1 hr1)) (APath.fin (by kernel_rfl)))) (by kernel_rfl) ?_
  refine vc_ite (by kernel_rfl) h (fun hc2 h => ?_) (fun hc2 h => ?_)
  · refine vc_seq ?_
    refine vc_reg (S := ⟨[(8, .loc 8 0), (9, iv 390)], [(8, [s_e_api_Entry true [], iv 0, iv 0, bv false, s_e_api_Entry true [], iv 0, iv 0])], []⟩) (APath.fin (by kernel_rfl)) (by kernel_rfl) ?_
    refine vc_ret ?_
    obtain rfl := some_inj h
    exact ret_of (by kernel_rfl)
  · refine vc_skip ?_
    refine vc_kp ?_
    refine vc_seq ?_
    refine vc_seq ?_
    obtain ⟨r3, hr3, h⟩ := bind_some h
    refine vc_reg (S := ⟨[(1, iv a1_), (3, iv a3_), (4, .loc 4 0), (6, .loc 6 0), (8, .loc 8 0), (17, bv (!r3))], [(4, (c_api_Change a0_)), (6, (c_api_Gates a2_)), (8, [s_e_api_Entry true [], iv 0, iv 0, bv false, s_e_api_Entry true [], iv 0, iv 0])], []⟩) (APath.chunk 1 (by kernel_rfl) (APath.one (.call (some 16) 34 [.t 15]) (by kernel_rfl) (st_call (by kernel_rfl) (ref29_time_ok N a1_ r3 hr3)) (APath.fin (by kernel_rfl)))) (by kernel_rfl) ?_
    refine vc_ite (by kernel_rfl) h (fun hc4 h => ?_) (fun hc4 h => ?_)
    · refine vc_seq ?_
      refine vc_reg (S := ⟨[(8, .loc 8 0), (9, iv 2)], [(8, [s_e_api_Entry true [], iv 0, iv 0, bv false, s_e_api_Entry true [], iv 0, iv 0])], []⟩) (APath.fin (by kernel_rfl)) (by kernel_rfl) ?_
      refine vc_ret ?_
      obtain rfl := some_inj h
      exact ret_of (by kernel_rfl)
    · refine vc_skip ?_
      refine vc_kp ?_
      refine vc_seq ?_
      refine vc_seq ?_
      obtain ⟨r5, hr5, h⟩ := bind_some h
      refine vc_reg (S := ⟨[(1, iv a1_), (3, iv a3_), (4, .loc 4 0), (6, .loc 6 0), (8, .loc 8 0), (21, bv (!r5))], [(4, (c_api_Change a0_)), (6, (c_api_Gates a2_)), (8, [s_e_api_Entry true [], iv 0, iv 0, bv false, s_e_api_Entry true [], iv 0, iv 0])], []⟩) (APath.chunk 1 (by kernel_rfl) (APath.one (.call (some 20) 36 [.t 19]) (by kernel_rfl) (st_call (by kernel_rfl) (ref27_Right_ok N a2_ r5 hr5)) (APath.fin (by kernel_rfl)))) (by kernel_rfl) ?_
      refine vc_ite (by kernel_rfl) h (fun hc6 h => ?_) (fun hc6 h => ?_)
      · refine vc_seq ?_
        refine vc_reg (S := ⟨[(8, .loc 8 0), (9, iv 370)], [(8, [s_e_api_Entry true [], iv 0, iv 0, bv false, s_e_api_Entry true [], iv 0, iv 0])], []⟩) (APath.fin (by kernel_rfl)) (by kernel_rfl) ?_
        refine vc_ret ?_
        obtain rfl := some_inj h
        exact ret_of (by kernel_rfl)
      · refine vc_skip ?_
        refine vc_kp ?_
        refine vc_seq ?_
        refine vc_seq ?_
        obtain ⟨r7, hr7, h⟩ := bind_some h
        refine vc_reg (S := ⟨[(1, iv a1_), (3, iv a3_), (4, .loc 4 0), (6, .loc 6 0), (8, .loc 8 0), (25, bv (!r7))], [(4, (c_api_Change a0_)), (6, (c_api_Gates a2_)), (8, [s_e_api_Entry true [], iv 0, iv 0, bv false, s_e_api_Entry true [], iv 0, iv 0])], []⟩) (APath.chunk 1 (by kernel_rfl) (APath.one (.call (some 24) 34 [.t 23]) (by kernel_rfl) (st_call (by kernel_rfl) (ref29_time_ok N a3_ r7 hr7)) (APath.fin (by kernel_rfl)))) (by kernel_rfl) ?_
        refine vc_ite (by kernel_rfl) h (fun hc8 h => ?_) (fun hc8 h => ?_)
        · refine vc_seq ?_
          refine vc_reg (S := ⟨[(8, .loc 8 0), (9, iv 2)], [(8, [s_e_api_Entry true [], iv 0, iv 0, bv false, s_e_api_Entry true [], iv 0, iv 0])], []⟩) (APath.fin (by kernel_rfl)) (by kernel_rfl) ?_
          refine vc_ret ?_
          obtain rfl := some_inj h
          exact ret_of (by kernel_rfl)
        · refine vc_skip ?_
          refine vc_kp ?_
          refine vc_seq ?_
          obtain ⟨r9, hr9, h⟩ := bind_some h
          refine vc_reg (S := ⟨[(1, iv a1_), (3, iv a3_), (4, .loc 4 0), (6, .loc 6 0), (8, .loc 8 0)], [(4, (c_api_Change r9)), (6, (c_api_Gates a2_)), (8, [s_e_api_Entry true [], iv 0, iv 0, bv false, s_e_api_Entry true [], iv 0, iv 0])], []⟩) (APath.chunk 2 (by kernel_rfl) (APath.one (.call (some 29) 39 [.t 27, .t 28]) (by kernel_rfl) (st_call (by kernel_rfl) (ref29_Later_ok N a0_ a1_ r9 hr9)) (APath.fin (by kernel_rfl)))) (by kernel_rfl) ?_
          refine vc_seq ?_
          refine vc_reg (S := ⟨[(4, .loc 4 0), (6, .loc 6 0), (8, .loc 8 0), (10, iv (if a3_ > a1_ then a3_ else a1_))], [(4, (c_api_Change r9)), (6, (c_api_Gates a2_)), (8, [s_e_api_Entry true [], iv 0, iv 0, bv false, s_e_api_Entry true [], iv 0, iv 0])], []⟩) (APath.fin (by kernel_rfl)) (by kernel_rfl) ?_
          refine vc_seq ?_
          refine vc_reg (S := ⟨[(4, .loc 4 0), (6, .loc 6 0), (8, .loc 8 0), (10, iv (if a3_ > a1_ then a3_ else a1_))], [(4, [s_e_api_Entry false r9.Oper.Entries, iv r9.Oper.Cycle, iv r9.Base, bv true, s_e_api_Entry false r9.Admin.Entries, iv r9.Admin.Cycle, iv r9.When]), (6, (c_api_Gates a2_)), (8, [s_e_api_Entry true [], iv 0, iv 0, bv false, s_e_api_Entry true [], iv 0, iv 0])], []⟩) (APath.fin (by kernel_rfl)) (by kernel_rfl) ?_
          refine vc_seq ?_
          refine vc_reg (S := ⟨[(4, .loc 4 0), (8, .loc 8 0), (10, iv (if a3_ > a1_ then a3_ else a1_))], [(4, [s_e_api_Entry false r9.Oper.Entries, iv r9.Oper.Cycle, iv r9.Base, bv true, s_e_api_Entry false a2_.Entries, iv a2_.Cycle, iv r9.When]), (8, [s_e_api_Entry true [], iv 0, iv 0, bv false, s_e_api_Entry true [], iv 0, iv 0])], []⟩) (APath.fin (by kernel_rfl)) (by kernel_rfl) ?_
          refine vc_seq ?_
          obtain ⟨r10, hr10, h⟩ := bind_some h
          refine vc_reg (S := ⟨[(4, .loc 4 0), (8, .loc 8 0)], [(4, [s_e_api_Entry false r9.Oper.Entries, iv r9.Oper.Cycle, iv r9.Base, bv true, s_e_api_Entry false a2_.Entries, iv a2_.Cycle, iv (w64 ((if a3_ > a1_ then a3_ else a1_) + r10))]), (8, [s_e_api_Entry true [], iv 0, iv 0, bv false, s_e_api_Entry true [], iv 0, iv 0])], []⟩) (APath.chunk 8 (by kernel_rfl) (APath.one (.call (some 44) 41 [.t 40, .t 43]) (by kernel_rfl) (st_call (by kernel_rfl) (ref23_Mod_ok N (w64 (r9.Base - (if a3_ > a1_ then a3_ else a1_))) r9.Oper.Cycle r10 hr10)) (APath.fin (by kernel_rfl)))) (by kernel_rfl) ?_
          refine vc_seq ?_
          refine vc_reg (S := ⟨[(8, .loc 8 0), (9, iv 0)], [(8, [s_e_api_Entry false r9.Oper.Entries, iv r9.Oper.Cycle, iv r9.Base, bv true, s_e_api_Entry false a2_.Entries, iv a2_.Cycle, iv (w64 ((if a3_ > a1_ then a3_ else a1_) + r10))])], []⟩) (APath.fin (by kernel_rfl)) (by kernel_rfl) ?_
          refine vc_ret ?_
          obtain rfl := some_inj h
          exact ret_of (by kernel_rfl)
/- isochronref29.Fits -/
theorem ref29_Fits_ok (N : Nat) (a0_ : api_Change) (a1_ : Int) (a2_ : Int) (a3_ : Int) (r : Bool × Int) (h : ref29_Fits N a0_ a1_ a2_ a3_ = some r) : PCall Try.prog 25 [.agg (c_api_Change a0_), iv a1_, iv a2_, iv a3_] (.tup [bv r.1, iv r.2]) := by
  unfold ref29_Fits at h
  have hH : HP ([] : List HO) [] := trivial
  refine pcall_of chk25 rfl rfl (vc_sound _ _ _ ?_) rfl
  refine vc_seq ?_
  refine vc_reg (S := ⟨[(1, iv a1_), (2, iv a2_), (3, iv a3_), (4, .loc 4 0)], [(4, (c_api_Change a0_))], []⟩) (APath.fin (by kernel_rfl)) (by kernel_rfl) ?_
  refine vc_seq ?_
  refine vc_seq ?_
  obtain ⟨r1, hr1, h⟩ := bind_some h
  refine vc_reg (S := ⟨[(1, iv a1_), (2, iv a2_), (3, iv a3_), (4, .loc 4 0), (18, bv (!r1))], [(4, (c_api_Change a0_))], []⟩) (APath.chunk 1 (by kernel_rfl) (APath.one (.call (some 17) 31 [.t 16]) (by kernel_rfl) (st_call (by kernel_rfl) (ref29_Right_ok N a0_ r1 hr1)) (APath.fin (by kernel_rfl)))) (by kernel_rfl) ?_
  refine vc_ite (by kernel_rfl) h (fun hc2 h => ?_) (fun hc2 h => ?_)
  · refine vc_seq ?_
    refine vc_reg (S := ⟨[(8, bv false), (9, iv 390)], [], []⟩) (APath.fin (by kernel_rfl)) (by kernel_rfl) ?_
    refine vc_ret ?_
    obtain rfl := some_inj h
    exact ret_of (by kernel_rfl)
  · refine vc_skip ?_
    refine vc_kp ?_
    refine vc_seq ?_
    refine vc_seq ?_
    obtain ⟨j12, hj, h⟩ := bind_some h
    refine vc_regXR (fun s => s = ⟨[(1, iv a1_), (2, iv a2_), (3, iv a3_), (4, .loc 4 0), (41, bv j12)], [(4, (c_api_Change a0_))], []⟩) ?_ ?_
    · clear h
      rcases ite_some hj with ⟨hc3, hj⟩ | ⟨hc4, hj⟩
      · obtain rfl := some_inj hj
        exact ⟨_, (APath.chunk 1 (by kernel_rfl) (APath.one (.val 20 (.bin .lss) [.t 19, .k (.p (.int .i64 0))]) (by kernel_rfl) (st_bool (c := (decide (a1_ < 0))) (by kernel_rfl) hc3) (APath.fin (by kernel_rfl)))), (by show _ = _; kernel_rfl)⟩
      · rcases ite_some hj with ⟨hc5, hj⟩ | ⟨hc6, hj⟩
        · obtain rfl := some_inj hj
          exact ⟨_, (APath.chunk 1 (by kernel_rfl) (APath.one (.val 20 (.bin .lss) [.t 19, .k (.p (.int .i64 0))]) (by kernel_rfl) (st_bool (c := (decide (a1_ < 0))) (by kernel_rfl) hc4) (APath.chunk 2 (by kernel_rfl) (APath.oneG (.val 23 (.bin .gtr) [.t 22, .k (.p (.int .i64 7))]) 21 false (by kernel_rfl) (by kernel_rfl) (st_bool (c := (decide (a1_ > 7))) (by kernel_rfl) hc5) (APath.fin (by kernel_rfl)))))), (by show _ = _; kernel_rfl)⟩
        · obtain ⟨r7, hr7, hj⟩ := bind_some hj
          rcases ite_some hj with ⟨hc8, hj⟩ | ⟨hc9, hj⟩
          · obtain rfl := some_inj hj
            exact ⟨_, (APath.chunk 1 (by kernel_rfl) (APath.one (.val 20 (.bin .lss) [.t 19, .k (.p (.int .i64 0))]) (by kernel_rfl) (st_bool (c := (decide (a1_ < 0))) (by kernel_rfl) hc4) (APath.chunk 2 (by kernel_rfl) (APath.oneG (.val 23 (.bin .gtr) [.t 22, .k (.p (.int .i64 7))]) 21 false (by kernel_rfl) (by kernel_rfl) (st_bool (c := (decide (a1_ > 7))) (by kernel_rfl) hc6) (APath.chunk 3 (by kernel_rfl) (APath.oneG (.call (some 27) 34 [.t 26]) 25 false (by kernel_rfl) (by kernel_rfl) (st_call (by kernel_rfl) (ref29_time_ok N a2_ r7 hr7)) (APath.oneG (.val 28 .not [.t 27]) 25 false (by kernel_rfl) (by kernel_rfl) (st_bool (c := (!r7)) (by kernel_rfl) hc8) (APath.fin (by kernel_rfl))))))))), (by show _ = _; kernel_rfl)⟩
          · rcases ite_some hj with ⟨hc10, hj⟩ | ⟨hc11, hj⟩
            · obtain rfl := some_inj hj
              exact ⟨_, (APath.chunk 1 (by kernel_rfl) (APath.one (.val 20 (.bin .lss) [.t 19, .k (.p (.int .i64 0))]) (by kernel_rfl) (st_bool (c := (decide (a1_ < 0))) (by kernel_rfl) hc4) (APath.chunk 2 (by kernel_rfl) (APath.oneG (.val 23 (.bin .gtr) [.t 22, .k (.p (.int .i64 7))]) 21 false (by kernel_rfl) (by kernel_rfl) (st_bool (c := (decide (a1_ > 7))) (by kernel_rfl) hc6) (APath.chunk 3 (by kernel_rfl) (APath.oneG (.call (some 27) 34 [.t 26]) 25 false (by kernel_rfl) (by kernel_rfl) (st_call (by kernel_rfl) (ref29_time_ok N a2_ r7 hr7)) (APath.oneG (.val 28 .not [.t 27]) 25 false (by kernel_rfl) (by kernel_rfl) (st_bool (c := (!r7)) (by kernel_rfl) hc9) (APath.chunk 3 (by kernel_rfl) (APath.oneG (.val 32 (.bin .lss) [.t 31, .k (.p (.int .i64 0))]) 30 false (by kernel_rfl) (by kernel_rfl) (st_bool (c := (decide (a3_ < 0))) (by kernel_rfl) hc10) (APath.fin (by kernel_rfl))))))))))), (by show _ = _; kernel_rfl)⟩
            · obtain rfl := some_inj hj
              exact ⟨_, (APath.chunk 1 (by kernel_rfl) (APath.one (.val 20 (.bin .lss) [.t 19, .k (.p (.int .i64 0))]) (by kernel_rfl) (st_bool (c := (decide (a1_ < 0))) (by kernel_rfl) hc4) (APath.chunk 2 (by kernel_rfl) (APath.oneG (.val 23 (.bin .gtr) [.t 22, .k (.p (.int .i64 7))]) 21 false (by kernel_rfl) (by kernel_rfl) (st_bool (c := (decide (a1_ > 7))) (by kernel_rfl) hc6) (APath.chunk 3 (by kernel_rfl) (APath.oneG (.call (some 27) 34 [.t 26]) 25 false (by kernel_rfl) (by kernel_rfl) (st_call (by kernel_rfl) (ref29_time_ok N a2_ r7 hr7)) (APath.oneG (.val 28 .not [.t 27]) 25 false (by kernel_rfl) (by kernel_rfl) (st_bool (c := (!r7)) (by kernel_rfl) hc9) (APath.chunk 3 (by kernel_rfl) (APath.oneG (.val 32 (.bin .lss) [.t 31, .k (.p (.int .i64 0))]) 30 false (by kernel_rfl) (by kernel_rfl) (st_bool (c := (decide (a3_ < 0))) (by kernel_rfl) hc11) (APath.fin (by kernel_rfl))))))))))), (by show _ = _; kernel_rfl)⟩
    · clear hj
      rintro s hR
      obtain rfl := hR
      refine vc_ite (by kernel_rfl) h (fun hc13 h => ?_) (fun hc13 h => ?_)
      · refine vc_seq ?_
        refine vc_reg (S := ⟨[(8, bv false), (9, iv 2)], [], []⟩) (APath.fin (by kernel_rfl)) (by kernel_rfl) ?_
        refine vc_ret ?_
        obtain rfl := some_inj h
        exact ret_of (by kernel_rfl)
      · refine vc_skip ?_
        refine vc_kp ?_
        refine vc_seq ?_
        refine vc_seq ?_
        refine vc_reg (S := ⟨[(1, iv a1_), (2, iv a2_), (3, iv a3_), (4, .loc 4 0), (10, iv a2_)], [(4, (c_api_Change a0_))], []⟩) (APath.fin (by kernel_rfl)) (by kernel_rfl) ?_
        refine vc_block ?_
        obtain ⟨o1026, ho1026, h⟩ := bind_some h
        refine vc_loop ((loop_sim (fun (x : Int) s => s = ⟨[(1, iv a1_), (2, iv a2_), (3, iv a3_), (4, .loc 4 0), (10, iv x)], [(4, (c_api_Change a0_))], []⟩) (fun x : Int => ref29_Fits_L1 N a0_ a1_ a2_ a3_ x) (fun (p : (Int) ⊕ (Bool × Int)) e s => match p with | (.inl p) => e = .exit 0 ∧ (s = ⟨[(1, iv a1_), (2, iv a2_), (3, iv a3_), (4, .loc 4 0), (10, iv p)], [(4, (c_api_Change a0_))], []⟩) | (.inr p) => e = .ret ∧ ∃ xs, resL s i25.res = some xs ∧ tupOf xs = .tup [bv p.1, iv p.2]) ?_ N _ o1026 _ ho1026 (by show _ = _; kernel_rfl)).mono ?_)
        · clear h ho1026
          rintro i14 o s h hR
          obtain rfl := hR
          replace h : ref29_Fits_L1 N a0_ a1_ a2_ a3_ i14 = some o := h
          unfold ref29_Fits_L1 at h
          refine vc_seq ?_
          refine vc_seq ?_
          refine vc_reg (S := ⟨[(1, iv a1_), (2, iv a2_), (3, iv a3_), (4, .loc 4 0), (10, iv i14), (47, bv (decide (i14 < (w64 (a2_ + a3_)))))], [(4, (c_api_Change a0_))], []⟩) (APath.fin (by kernel_rfl)) (by kernel_rfl) ?_
          refine vc_ite (by kernel_rfl) h (fun hc515 h => ?_) (fun hc515 h => ?_)
          · refine vc_skip ?_
            refine vc_kp ?_
            refine vc_block ?_
            refine vc_seq ?_
            refine vc_regD (S := ⟨[(1, iv a1_), (2, iv a2_), (3, iv a3_), (4, .loc 4 0), (10, iv i14), (11, .loc 11 0), (12, iv a0_.Base), (13, iv (w64 (a2_ + a3_)))], [(4, (c_api_Change a0_)), (11, (c_api_Gates a0_.Oper))], []⟩) (by kernel_rfl) (APath.fin (by kernel_rfl)) (by kernel_rfl) ?_
            obtain ⟨j1016, hj1016, h⟩ := bind_some h
            refine vc_joinK [1, 2, 3, 4, 10, 11, 12, 13] (fun s => s = ⟨[(1, iv a1_), (2, iv a2_), (3, iv a3_), (4, .loc 4 0), (10, iv i14), (11, .loc 11 0), (12, iv j1016.1), (13, iv j1016.2.1)], [(4, (c_api_Change a0_)), (11, [s_e_api_Entry false j1016.2.2.1, iv j1016.2.2.2])], []⟩) ?_ ?_
            · clear h
              have h := hj1016
              refine vc_seq ?_
              refine vc_regX ⟨[(1, iv a1_), (2, iv a2_), (3, iv a3_), (4, .loc 4 0), (10, iv i14), (11, .loc 11 0), (12, iv a0_.Base), (13, iv (w64 (a2_ + a3_))), (62, bv (a0_.Pending && (decide (i14 ≥ a0_.When))))], [(4, (c_api_Change a0_)), (11, (c_api_Gates a0_.Oper))], []⟩ ?_ ?_
              · rcases Bool.eq_false_or_eq_true a0_.Pending with hc1017 | hc1018
                · exact ⟨_, (APath.chunk 1 (by kernel_rfl) (APath.one (.load 56 (.t 55) 1 false) (by kernel_rfl) (st_boolL (c := a0_.Pending) (by kernel_rfl) hc1017) (APath.fin (by kernel_rfl)))), by simp only [hc1017]; kernel_rfl⟩
                · exact ⟨_, (APath.chunk 1 (by kernel_rfl) (APath.one (.load 56 (.t 55) 1 false) (by kernel_rfl) (st_boolL (c := a0_.Pending) (by kernel_rfl) hc1018) (APath.fin (by kernel_rfl)))), by simp only [hc1018]; kernel_rfl⟩
              · refine vc_ite (by kernel_rfl) h (fun hc1019 h => ?_) (fun hc1019 h => ?_)
                · refine vc_regD (S := ⟨[(1, iv a1_), (2, iv a2_), (3, iv a3_), (4, .loc 4 0), (10, iv i14), (11, .loc 11 0), (12, iv a0_.When), (13, iv (w64 (a2_ + a3_)))], [(4, (c_api_Change a0_)), (11, (c_api_Gates a0_.Admin))], []⟩) (by kernel_rfl) (APath.fin (by kernel_rfl)) (by kernel_rfl) ?_
                  obtain rfl := some_inj h
                  exact ⟨rfl, (by show _ = _; kernel_rfl)⟩
                · refine vc_seq ?_
                  refine vc_reg (S := ⟨[(1, iv a1_), (2, iv a2_), (3, iv a3_), (4, .loc 4 0), (10, iv i14), (11, .loc 11 0), (12, iv a0_.Base), (13, iv (w64 (a2_ + a3_))), (68, bv a0_.Pending)], [(4, (c_api_Change a0_)), (11, (c_api_Gates a0_.Oper))], []⟩) (APath.fin (by kernel_rfl)) (by kernel_rfl) ?_
                  refine vc_ite (by kernel_rfl) h (fun hc1020 h => ?_) (fun hc1020 h => ?_)
                  · refine vc_reg (S := ⟨[(1, iv a1_), (2, iv a2_), (3, iv a3_), (4, .loc 4 0), (10, iv i14), (11, .loc 11 0), (12, iv a0_.Base), (13, iv (if a0_.When < (w64 (a2_ + a3_)) then a0_.When else (w64 (a2_ + a3_))))], [(4, (c_api_Change a0_)), (11, (c_api_Gates a0_.Oper))], []⟩) (APath.fin (by kernel_rfl)) (by kernel_rfl) ?_
                    obtain rfl := some_inj h
                    exact ⟨rfl, (by show _ = _; kernel_rfl)⟩
                  · refine vc_skip ?_
                    obtain rfl := some_inj h
                    exact ⟨rfl, (by show _ = _; kernel_rfl)⟩
            · clear hj1016
              rintro s hR
              obtain rfl := hR
              refine vc_seq ?_
              obtain ⟨r1021, hr1021, h⟩ := bind_some h
              refine vc_reg (S := ⟨[(1, iv a1_), (2, iv a2_), (3, iv a3_), (4, .loc 4 0), (10, iv i14), (11, .loc 11 0), (13, iv j1016.2.1), (14, iv r1021.1), (15, iv r1021.2)], [(4, (c_api_Change a0_)), (11, [s_e_api_Entry false j1016.2.2.1, iv j1016.2.2.2])], []⟩) (APath.chunk 4 (by kernel_rfl) (APath.one (.call (some 78) 43 [.t 74, .t 77]) (by kernel_rfl) (st_call (by kernel_rfl) (ref27_At_ok N (api_Gates.mk j1016.2.2.1 j1016.2.2.2) (w64 (i14 - j1016.1)) r1021 hr1021)) (APath.fin (by kernel_rfl)))) (by kernel_rfl) ?_
              refine vc_seq ?_
              refine vc_seq ?_
              obtain ⟨e1022, he1022, h⟩ := bind_some h
              obtain ⟨r1023, hr1023, h⟩ := bind_some h
              refine vc_reg (S := ⟨[(1, iv a1_), (2, iv a2_), (3, iv a3_), (4, .loc 4 0), (10, iv i14), (11, .loc 11 0), (13, iv j1016.2.1), (14, iv r1021.1), (15, iv r1021.2), (89, bv (!r1023))], [(4, (c_api_Change a0_)), (11, [s_e_api_Entry false j1016.2.2.1, iv j1016.2.2.2])], []⟩) (APath.chunk 3 (by kernel_rfl) (APath.one (.val 84 (.iaddrS 2) [.t 82, .t 83]) (by kernel_rfl) (st_val (ys := [s_e_api_Entry false j1016.2.2.1, iv r1021.1]) (by kernel_rfl) (vexec_iaddrS e_api_Entry he1022)) (APath.chunk 1 (by kernel_rfl) (APath.one (.load 86 (.t 85) 1 false) (by kernel_rfl) (st_loadP (sz := 2) (off := 0) (cs := [.int .i64 e1022.Mask]) (r := iv e1022.Mask) e_api_Entry he1022 (by kernel_rfl) (by kernel_rfl) (by kernel_rfl)) (APath.chunk 1 (by kernel_rfl) (APath.one (.call (some 88) 44 [.t 86, .t 87]) (by kernel_rfl) (st_call (by kernel_rfl) (ref27_Bit_ok N e1022.Mask a1_ r1023 hr1023)) (APath.fin (by kernel_rfl)))))))) (by kernel_rfl) ?_
              refine vc_ite (by kernel_rfl) h (fun hc1024 h => ?_) (fun hc1024 h => ?_)
              · refine vc_seq ?_
                refine vc_reg (S := ⟨[(8, bv false), (9, iv 0)], [], []⟩) (APath.fin (by kernel_rfl)) (by kernel_rfl) ?_
                refine vc_ret ?_
                obtain rfl := some_inj h
                exact ⟨_, rfl, rfl, ret_of (by kernel_rfl)⟩
              · refine vc_skip ?_
                refine vc_kp ?_
                obtain ⟨e1025, he1025, h⟩ := bind_some h
                refine vc_reg (S := ⟨[(1, iv a1_), (2, iv a2_), (3, iv a3_), (4, .loc 4 0), (10, iv (if (w64 ((w64 (i14 - r1021.2)) + e1025.Long)) < j1016.2.1 then (w64 ((w64 (i14 - r1021.2)) + e1025.Long)) else j1016.2.1))], [(4, (c_api_Change a0_))], []⟩) (APath.chunk 7 (by kernel_rfl) (APath.one (.val 97 (.iaddrS 2) [.t 95, .t 96]) (by kernel_rfl) (st_val (ys := [s_e_api_Entry false j1016.2.2.1, iv r1021.1]) (by kernel_rfl) (vexec_iaddrS e_api_Entry he1025)) (APath.chunk 1 (by kernel_rfl) (APath.one (.load 99 (.t 98) 1 false) (by kernel_rfl) (st_loadP (sz := 2) (off := 1) (cs := [.int .i64 e1025.Long]) (r := iv e1025.Long) e_api_Entry he1025 (by kernel_rfl) (by kernel_rfl) (by kernel_rfl)) (APath.fin (by kernel_rfl)))))) (by kernel_rfl) ?_
                obtain rfl := some_inj h
                exact ⟨_, rfl, (by show _ = _; kernel_rfl)⟩
          · refine vc_exit ?_
            try show vc _ _ _ _ _
            obtain rfl := some_inj h
            exact ⟨_, rfl, rfl, (by show _ = _; kernel_rfl)⟩
        · rintro e s hq
          rcases o1026 with p1027 | p1028
          · dsimp only at h hq
            obtain ⟨rfl, hR⟩ := hq
            obtain rfl := hR
            try show vc _ _ _ _ _
            refine vc_seq ?_
            refine vc_reg (S := ⟨[(8, bv true), (9, iv 0)], [], []⟩) (APath.fin (by kernel_rfl)) (by kernel_rfl) ?_
            refine vc_ret ?_
            obtain rfl := some_inj h
            exact ret_of (by kernel_rfl)
          · dsimp only at h hq
            obtain ⟨rfl, hq⟩ := hq
            obtain rfl := some_inj h
            exact hq
/- isochronlaw29.mask -/
theorem law29_mask_ok (N : Nat) (a0_ : api_Change) (a1_ : Int) (r : Int) (h : law29_mask N a0_ a1_ = some r) : PCall Try.prog 26 [.agg (c_api_Change a0_), iv a1_] (iv r) := by
  unfold law29_mask at h
  have hH : HP ([] : List HO) [] := trivial
  refine pcall_of chk26 rfl rfl (vc_sound _ _ _ ?_) rfl
  refine vc_seq ?_
  refine vc_reg (S := ⟨[(1, iv a1_), (2, .loc 2 0)], [(2, (c_api_Change a0_))], []⟩) (APath.fin (by kernel_rfl)) (by kernel_rfl) ?_
  refine vc_seq ?_
  obtain ⟨r1, hr1, h⟩ := bind_some h
  refine vc_reg (S := ⟨[(5, iv r1.1), (6, iv r1.2)], [], []⟩) (APath.chunk 2 (by kernel_rfl) (APath.one (.call (some 10) 13 [.t 8, .t 9]) (by kernel_rfl) (st_call (by kernel_rfl) (swap_Mask_ok N a0_ a1_ r1 hr1)) (APath.fin (by kernel_rfl)))) (by kernel_rfl) ?_
  refine vc_seq ?_
  refine vc_seq ?_
  refine vc_reg (S := ⟨[(5, iv r1.1), (14, bv (r1.2 != 0))], [], []⟩) (APath.fin (by kernel_rfl)) (by kernel_rfl) ?_
  refine vc_ite (by kernel_rfl) h (fun hc2 h => ?_) (fun hc2 h => ?_)
  · refine vc_seq ?_
    refine vc_reg (S := ⟨[(4, iv (-1))], [], []⟩) (APath.fin (by kernel_rfl)) (by kernel_rfl) ?_
    refine vc_ret ?_
    obtain rfl := some_inj h
    exact ret_of (by kernel_rfl)
  · refine vc_skip ?_
    refine vc_kp ?_
    refine vc_seq ?_
    refine vc_reg (S := ⟨[(4, iv r1.1)], [], []⟩) (APath.fin (by kernel_rfl)) (by kernel_rfl) ?_
    refine vc_ret ?_
    obtain rfl := some_inj h
    exact ret_of (by kernel_rfl)
/- gates.Fits -/
theorem gates_Fits_ok (N : Nat) (a0_ : api_Gates) (a1_ : Int) (a2_ : Int) (a3_ : Int) (r : Bool × Int) (h : gates_Fits N a0_ a1_ a2_ a3_ = some r) : PCall Try.prog 42 [.agg (c_api_Gates a0_), iv a1_, iv a2_, iv a3_] (.tup [bv r.1, iv r.2]) := by
  unfold gates_Fits at h
  have hH : HP ([] : List HO) [] := trivial
  refine pcall_of chk42 rfl rfl (vc_sound _ _ _ ?_) rfl
  refine vc_seq ?_
  refine vc_reg (S := ⟨[(1, iv a1_), (2, iv a2_), (3, iv a3_), (4, .loc 4 0)], [(4, (c_api_Gates a0_))], []⟩) (APath.fin (by kernel_rfl)) (by kernel_rfl) ?_
  refine vc_seq ?_
  refine vc_seq ?_
  obtain ⟨r1, hr1, h⟩ := bind_some h
  refine vc_reg (S := ⟨[(1, iv a1_), (2, iv a2_), (3, iv a3_), (4, .loc 4 0), (10, iv r1)], [(4, (c_api_Gates a0_))], []⟩) (APath.chunk 4 (by kernel_rfl) (APath.one (.call (some 15) 46 [.t 11, .t 12, .t 13, .t 14]) (by kernel_rfl) (st_call (by kernel_rfl) (gates_check_ok N a0_ a1_ a2_ a3_ r1 hr1)) (APath.fin (by kernel_rfl)))) (by kernel_rfl) ?_
  refine vc_seq ?_
  refine vc_reg (S := ⟨[(1, iv a1_), (2, iv a2_), (3, iv a3_), (4, .loc 4 0), (10, iv r1), (17, bv (r1 != 0))], [(4, (c_api_Gates a0_))], []⟩) (APath.fin (by kernel_rfl)) (by kernel_rfl) ?_
  refine vc_ite (by kernel_rfl) h (fun hc2 h => ?_) (fun hc2 h => ?_)
  · refine vc_seq ?_
    refine vc_reg (S := ⟨[(8, bv false), (9, iv r1)], [], []⟩) (APath.fin (by kernel_rfl)) (by kernel_rfl) ?_
    refine vc_ret ?_
    obtain rfl := some_inj h
    exact ret_of (by kernel_rfl)
  · refine vc_skip ?_
    refine vc_kp ?_
    refine vc_seq ?_
    obtain ⟨r3, hr3, h⟩ := bind_some h
    refine vc_reg (S := ⟨[(8, bv (decide (r3 ≥ a3_))), (9, iv 0)], [], []⟩) (APath.chunk 3 (by kernel_rfl) (APath.one (.call (some 22) 49 [.t 19, .t 20, .t 21]) (by kernel_rfl) (st_call (by kernel_rfl) (gates_open_ok N a0_ a1_ a2_ r3 hr3)) (APath.fin (by kernel_rfl)))) (by kernel_rfl) ?_
    refine vc_ret ?_
    obtain rfl := some_inj h
    exact ret_of (by kernel_rfl)
end Go.Sh
