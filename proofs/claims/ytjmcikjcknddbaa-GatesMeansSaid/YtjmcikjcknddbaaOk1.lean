/- The Go functions compute them; written by sym.py. -/
import Derived.Test.YtjmcikjcknddbaaSh
import Derived.Test.YtjmcikjcknddbaaChk
namespace Go.Sh
open Go Go.Eng Go.Proofs
set_option linter.unusedVariables false
set_option linter.unusedSimpArgs false
set_option maxRecDepth 100000
/- gates.Check -/
theorem gates_Check_ok (N : Nat) (a0_ : api_Gates) (r : Int) (h : gates_Check N a0_ = some r) : PCall Try.prog 15 [.agg [.p (.sl 2 false (List.map e_api_Entry a0_.Entries)), .p (.int .i64 a0_.Cycle)]] (.p (.int .i64 r)) := by
  unfold gates_Check at h
  have hH : HP ([] : List HO) [] := trivial
  refine pcall_of chk15 rfl rfl (vc_sound _ _ _ ?_) rfl
  refine vc_seq ?_
  refine vc_reg (S := ⟨[(1, .loc 1 0)], [(1, [.p (.sl 2 false (List.map e_api_Entry a0_.Entries)), .p (.int .i64 a0_.Cycle)])], []⟩) (APath.fin (by kernel_rfl)) (by kernel_rfl) ?_
  refine vc_seq ?_
  refine vc_seq ?_
  refine vc_regX ⟨[(1, .loc 1 0), (15, .p (.bool ((decide (((List.length a0_.Entries : Nat) : Int) < 1)) || (decide (((List.length a0_.Entries : Nat) : Int) > 128)))))], [(1, [.p (.sl 2 false (List.map e_api_Entry a0_.Entries)), .p (.int .i64 a0_.Cycle)])], []⟩ ?_ ?_
  · rcases Bool.eq_false_or_eq_true (decide (((List.length a0_.Entries : Nat) : Int) < 1)) with hc1 | hc2
    · exact ⟨_, (APath.chunk 2 (by kernel_rfl) (APath.one (.val 8 .len [.t 7]) (by kernel_rfl) (st_val (ys := [.p (.sl 2 false (List.map e_api_Entry a0_.Entries))]) (by kernel_rfl) (vexec_len e_api_Entry)) (APath.one (.val 9 (.bin .lss) [.t 8, .k (.p (.int .i64 1))]) (by kernel_rfl) (st_bool (c := (decide (((List.length a0_.Entries : Nat) : Int) < 1))) (by kernel_rfl) hc1) (APath.fin (by kernel_rfl))))), by simp only [hc1]; kernel_rfl⟩
    · exact ⟨_, (APath.chunk 2 (by kernel_rfl) (APath.one (.val 8 .len [.t 7]) (by kernel_rfl) (st_val (ys := [.p (.sl 2 false (List.map e_api_Entry a0_.Entries))]) (by kernel_rfl) (vexec_len e_api_Entry)) (APath.one (.val 9 (.bin .lss) [.t 8, .k (.p (.int .i64 1))]) (by kernel_rfl) (st_bool (c := (decide (((List.length a0_.Entries : Nat) : Int) < 1))) (by kernel_rfl) hc2) (APath.chunk 3 (by kernel_rfl) (APath.oneG (.val 13 .len [.t 12]) 10 false (by kernel_rfl) (by kernel_rfl) (st_val (ys := [.p (.sl 2 false (List.map e_api_Entry a0_.Entries))]) (by kernel_rfl) (vexec_len e_api_Entry)) (APath.fin (by kernel_rfl))))))), by simp only [hc2]; kernel_rfl⟩
  · refine vc_ite (by kernel_rfl) h (fun hc3 h => ?_) (fun hc3 h => ?_)
    · refine vc_seq ?_
      refine vc_reg (S := ⟨[(2, .p (.int .i64 370))], [], []⟩) (APath.fin (by kernel_rfl)) (by kernel_rfl) ?_
      refine vc_ret ?_
      obtain rfl := some_inj h
      exact ret_of (by kernel_rfl)
    · refine vc_skip ?_
      refine vc_kp ?_
      refine vc_seq ?_
      refine vc_reg (S := ⟨[(1, .loc 1 0), (3, .p (.int .i64 0))], [(1, [.p (.sl 2 false (List.map e_api_Entry a0_.Entries)), .p (.int .i64 a0_.Cycle)])], []⟩) (APath.fin (by kernel_rfl)) (by kernel_rfl) ?_
      refine vc_seq ?_
      refine vc_seq ?_
      refine vc_reg (S := ⟨[(1, .loc 1 0), (3, .p (.int .i64 0)), (17, .p (.sl 2 false (List.map e_api_Entry a0_.Entries))), (18, .p (.int .i64 ((List.length a0_.Entries : Nat) : Int))), (19, .p (.int .i64 0))], [(1, [.p (.sl 2 false (List.map e_api_Entry a0_.Entries)), .p (.int .i64 a0_.Cycle)])], []⟩) (APath.chunk 2 (by kernel_rfl) (APath.one (.val 18 .len [.t 17]) (by kernel_rfl) (st_val (ys := [.p (.sl 2 false (List.map e_api_Entry a0_.Entries))]) (by kernel_rfl) (vexec_len e_api_Entry)) (APath.fin (by kernel_rfl)))) (by kernel_rfl) ?_
      refine vc_block ?_
      obtain ⟨o515, ho515, h⟩ := bind_some h
      refine vc_loop ((loop_sim (fun (x : Int × Int) s => s = ⟨[(1, .loc 1 0), (3, .p (.int .i64 x.1)), (17, .p (.sl 2 false (List.map e_api_Entry a0_.Entries))), (18, .p (.int .i64 ((List.length a0_.Entries : Nat) : Int))), (19, .p (.int .i64 x.2))], [(1, [.p (.sl 2 false (List.map e_api_Entry a0_.Entries)), .p (.int .i64 a0_.Cycle)])], []⟩) (fun x : Int × Int => gates_Check_L1 N a0_ x.1 x.2) (fun (p : (Int × Int) ⊕ (Int)) e s => match p with | (.inl p) => e = .exit 0 ∧ (s = ⟨[(1, .loc 1 0), (3, .p (.int .i64 p.1)), (17, .p (.sl 2 false (List.map e_api_Entry a0_.Entries))), (18, .p (.int .i64 ((List.length a0_.Entries : Nat) : Int))), (19, .p (.int .i64 p.2))], [(1, [.p (.sl 2 false (List.map e_api_Entry a0_.Entries)), .p (.int .i64 a0_.Cycle)])], []⟩) | (.inr p) => e = .ret ∧ ∃ xs, resL s i15.res = some xs ∧ tupOf xs = .p (.int .i64 p)) ?_ N _ o515 _ ho515 (by show _ = _; kernel_rfl)).mono ?_)
      · clear h ho515
        rintro ⟨i4, i5⟩ o s h hR
        obtain rfl := hR
        replace h : gates_Check_L1 N a0_ i4 i5 = some o := h
        unfold gates_Check_L1 at h
        refine vc_seq ?_
        refine vc_reg (S := ⟨[(1, .loc 1 0), (3, .p (.int .i64 i4)), (17, .p (.sl 2 false (List.map e_api_Entry a0_.Entries))), (18, .p (.int .i64 ((List.length a0_.Entries : Nat) : Int))), (19, .p (.int .i64 i5)), (20, .p (.bool (decide (i5 < ((List.length a0_.Entries : Nat) : Int)))))], [(1, [.p (.sl 2 false (List.map e_api_Entry a0_.Entries)), .p (.int .i64 a0_.Cycle)])], []⟩) (APath.fin (by kernel_rfl)) (by kernel_rfl) ?_
        refine vc_seq ?_
        refine vc_ite (by kernel_rfl) h (fun hc506 h => ?_) (fun hc506 h => ?_)
        · refine vc_skip ?_
          refine vc_kp ?_
          refine vc_seq ?_
          refine vc_block ?_
          refine vc_seq ?_
          obtain ⟨e507, he507, h⟩ := bind_some h
          refine vc_reg (S := ⟨[(1, .loc 1 0), (3, .p (.int .i64 i4)), (5, .loc 5 0), (17, .p (.sl 2 false (List.map e_api_Entry a0_.Entries))), (18, .p (.int .i64 ((List.length a0_.Entries : Nat) : Int))), (19, .p (.int .i64 i5))], [(1, [.p (.sl 2 false (List.map e_api_Entry a0_.Entries)), .p (.int .i64 a0_.Cycle)]), (5, [.p (.int .i64 e507.Mask), .p (.int .i64 e507.Long)])], []⟩) (APath.one (.val 21 (.iaddrS 2) [.t 17, .t 19]) (by kernel_rfl) (st_val (ys := [.p (.sl 2 false (List.map e_api_Entry a0_.Entries)), .p (.int .i64 i5)]) (by kernel_rfl) (vexec_iaddrS e_api_Entry he507)) (APath.one (.load 22 (.t 21) 2 true) (by kernel_rfl) (st_loadP (sz := 2) (off := 0) (cs := [.int .i64 e507.Mask, .int .i64 e507.Long]) (r := .agg [.p (.int .i64 e507.Mask), .p (.int .i64 e507.Long)]) e_api_Entry he507 (by kernel_rfl) (by kernel_rfl) (by kernel_rfl)) (APath.fin (by kernel_rfl)))) (by kernel_rfl) ?_
          refine vc_seq ?_
          refine vc_seq ?_
          refine vc_regX ⟨[(1, .loc 1 0), (3, .p (.int .i64 i4)), (5, .loc 5 0), (17, .p (.sl 2 false (List.map e_api_Entry a0_.Entries))), (18, .p (.int .i64 ((List.length a0_.Entries : Nat) : Int))), (19, .p (.int .i64 i5)), (40, .p (.bool ((decide (e507.Mask < 0)) || ((decide (e507.Mask > 255)) || ((decide (e507.Long < 1)) || (decide (e507.Long > 9600000)))))))], [(1, [.p (.sl 2 false (List.map e_api_Entry a0_.Entries)), .p (.int .i64 a0_.Cycle)]), (5, [.p (.int .i64 e507.Mask), .p (.int .i64 e507.Long)])], []⟩ ?_ ?_
          · rcases Bool.eq_false_or_eq_true (decide (e507.Mask < 0)) with hc508 | hc509
            · exact ⟨_, (APath.chunk 2 (by kernel_rfl) (APath.one (.val 25 (.bin .lss) [.t 24, .k (.p (.int .i64 0))]) (by kernel_rfl) (st_bool (c := (decide (e507.Mask < 0))) (by kernel_rfl) hc508) (APath.fin (by kernel_rfl)))), by simp only [hc508]; kernel_rfl⟩
            · rcases Bool.eq_false_or_eq_true (decide (e507.Mask > 255)) with hc510 | hc511
              · exact ⟨_, (APath.chunk 2 (by kernel_rfl) (APath.one (.val 25 (.bin .lss) [.t 24, .k (.p (.int .i64 0))]) (by kernel_rfl) (st_bool (c := (decide (e507.Mask < 0))) (by kernel_rfl) hc509) (APath.chunk 3 (by kernel_rfl) (APath.oneG (.val 29 (.bin .gtr) [.t 28, .k (.p (.int .i64 255))]) 26 false (by kernel_rfl) (by kernel_rfl) (st_bool (c := (decide (e507.Mask > 255))) (by kernel_rfl) hc510) (APath.fin (by kernel_rfl)))))), by simp only [hc509, hc510]; kernel_rfl⟩
              · rcases Bool.eq_false_or_eq_true (decide (e507.Long < 1)) with hc512 | hc513
                · exact ⟨_, (APath.chunk 2 (by kernel_rfl) (APath.one (.val 25 (.bin .lss) [.t 24, .k (.p (.int .i64 0))]) (by kernel_rfl) (st_bool (c := (decide (e507.Mask < 0))) (by kernel_rfl) hc509) (APath.chunk 3 (by kernel_rfl) (APath.oneG (.val 29 (.bin .gtr) [.t 28, .k (.p (.int .i64 255))]) 26 false (by kernel_rfl) (by kernel_rfl) (st_bool (c := (decide (e507.Mask > 255))) (by kernel_rfl) hc511) (APath.chunk 4 (by kernel_rfl) (APath.oneG (.val 34 (.bin .lss) [.t 33, .k (.p (.int .i64 1))]) 31 false (by kernel_rfl) (by kernel_rfl) (st_bool (c := (decide (e507.Long < 1))) (by kernel_rfl) hc512) (APath.fin (by kernel_rfl)))))))), by simp only [hc509, hc511, hc512]; kernel_rfl⟩
                · exact ⟨_, (APath.chunk 2 (by kernel_rfl) (APath.one (.val 25 (.bin .lss) [.t 24, .k (.p (.int .i64 0))]) (by kernel_rfl) (st_bool (c := (decide (e507.Mask < 0))) (by kernel_rfl) hc509) (APath.chunk 3 (by kernel_rfl) (APath.oneG (.val 29 (.bin .gtr) [.t 28, .k (.p (.int .i64 255))]) 26 false (by kernel_rfl) (by kernel_rfl) (st_bool (c := (decide (e507.Mask > 255))) (by kernel_rfl) hc511) (APath.chunk 4 (by kernel_rfl) (APath.oneG (.val 34 (.bin .lss) [.t 33, .k (.p (.int .i64 1))]) 31 false (by kernel_rfl) (by kernel_rfl) (st_bool (c := (decide (e507.Long < 1))) (by kernel_rfl) hc513) (APath.fin (by kernel_rfl)))))))), by simp only [hc509, hc511, hc513]; kernel_rfl⟩
          · refine vc_ite (by kernel_rfl) h (fun hc514 h => ?_) (fun hc514 h => ?_)
            · refine vc_seq ?_
              refine vc_reg (S := ⟨[(2, .p (.int .i64 370))], [], []⟩) (APath.fin (by kernel_rfl)) (by kernel_rfl) ?_
              refine vc_ret ?_
              obtain rfl := some_inj h
              exact ⟨_, rfl, rfl, ret_of (by kernel_rfl)⟩
            · refine vc_skip ?_
              refine vc_kp ?_
              refine vc_reg (S := ⟨[(1, .loc 1 0), (3, .p (.int .i64 (w64 (i4 + e507.Long)))), (17, .p (.sl 2 false (List.map e_api_Entry a0_.Entries))), (18, .p (.int .i64 ((List.length a0_.Entries : Nat) : Int))), (19, .p (.int .i64 i5))], [(1, [.p (.sl 2 false (List.map e_api_Entry a0_.Entries)), .p (.int .i64 a0_.Cycle)])], []⟩) (APath.fin (by kernel_rfl)) (by kernel_rfl) ?_
              refine vc_kp ?_
              refine vc_reg (S := ⟨[(1, .loc 1 0), (3, .p (.int .i64 (w64 (i4 + e507.Long)))), (17, .p (.sl 2 false (List.map e_api_Entry a0_.Entries))), (18, .p (.int .i64 ((List.length a0_.Entries : Nat) : Int))), (19, .p (.int .i64 (w64 (i5 + 1))))], [(1, [.p (.sl 2 false (List.map e_api_Entry a0_.Entries)), .p (.int .i64 a0_.Cycle)])], []⟩) (APath.fin (by kernel_rfl)) (by kernel_rfl) ?_
              obtain rfl := some_inj h
              exact ⟨_, rfl, (by show _ = _; kernel_rfl)⟩
        · refine vc_exit ?_
          try show vc _ _ _ _ _
          obtain rfl := some_inj h
          exact ⟨_, rfl, rfl, (by show _ = _; kernel_rfl)⟩
      · rintro e s hq
        rcases o515 with p516 | p520
        · dsimp only at h hq
          obtain ⟨rfl, hR⟩ := hq
          obtain rfl := hR
          try show vc _ _ _ _ _
          refine vc_seq ?_
          refine vc_seq ?_
          refine vc_regX ⟨[(53, .p (.bool ((p516.1 != a0_.Cycle) || (decide (p516.1 > 9600000)))))], [], []⟩ ?_ ?_
          · rcases Bool.eq_false_or_eq_true (p516.1 != a0_.Cycle) with hc517 | hc518
            · exact ⟨_, (APath.chunk 3 (by kernel_rfl) (APath.one (.val 49 (.bin .neq) [.t 46, .t 48]) (by kernel_rfl) (st_bool (c := (p516.1 != a0_.Cycle)) (by kernel_rfl) hc517) (APath.fin (by kernel_rfl)))), by simp only [hc517]; kernel_rfl⟩
            · exact ⟨_, (APath.chunk 3 (by kernel_rfl) (APath.one (.val 49 (.bin .neq) [.t 46, .t 48]) (by kernel_rfl) (st_bool (c := (p516.1 != a0_.Cycle)) (by kernel_rfl) hc518) (APath.fin (by kernel_rfl)))), by simp only [hc518]; kernel_rfl⟩
          · refine vc_ite (by kernel_rfl) h (fun hc519 h => ?_) (fun hc519 h => ?_)
            · refine vc_seq ?_
              refine vc_reg (S := ⟨[(2, .p (.int .i64 370))], [], []⟩) (APath.fin (by kernel_rfl)) (by kernel_rfl) ?_
              refine vc_ret ?_
              obtain rfl := some_inj h
              exact ret_of (by kernel_rfl)
            · refine vc_skip ?_
              refine vc_kp ?_
              refine vc_seq ?_
              refine vc_reg (S := ⟨[(2, .p (.int .i64 0))], [], []⟩) (APath.fin (by kernel_rfl)) (by kernel_rfl) ?_
              refine vc_ret ?_
              obtain rfl := some_inj h
              exact ret_of (by kernel_rfl)
        · dsimp only at h hq
          obtain ⟨rfl, hq⟩ := hq
          obtain rfl := some_inj h
          exact hq
/- (isochronref27.Draft).Gates -/
theorem ref27_Draft_Gates_ok (N : Nat) (a0_ : ref27_Draft) (r : api_Gates) (h : ref27_Draft_Gates N a0_ = some r) : PCall Try.prog 24 [.agg [.p (.sl 1 false (List.map (eI .u8) a0_.Masks)), .p (.sl 1 false (List.map (eI .u8) a0_.Longs))]] (.agg [.p (.sl 2 false (List.map e_api_Entry r.Entries)), .p (.int .i64 r.Cycle)]) := by
  unfold ref27_Draft_Gates at h
  have hH : HP ([] : List HO) [] := trivial
  refine pcall_of chk24 rfl rfl (vc_sound _ _ _ ?_) rfl
  refine vc_seq ?_
  refine vc_reg (S := ⟨[(1, .loc 1 0), (2, .loc 2 0)], [(1, [.p (.sl 1 false (List.map (eI .u8) a0_.Masks)), .p (.sl 1 false (List.map (eI .u8) a0_.Longs))]), (2, [.p (.sl 2 true (List.map e_api_Entry [])), .p (.int .i64 0)])], []⟩) (APath.fin (by kernel_rfl)) (by kernel_rfl) ?_
  refine vc_seq ?_
  refine vc_reg (S := ⟨[(1, .loc 1 0), (2, .loc 2 0), (3, .loc 3 0)], [(1, [.p (.sl 1 false (List.map (eI .u8) a0_.Masks)), .p (.sl 1 false (List.map (eI .u8) a0_.Longs))]), (2, [.p (.sl 2 true (List.map e_api_Entry [])), .p (.int .i64 0)]), (3, [.p (.sl 2 true (List.map e_api_Entry [])), .p (.int .i64 0)])], []⟩) (APath.fin (by kernel_rfl)) (by kernel_rfl) ?_
  refine vc_seq ?_
  refine vc_seq ?_
  refine vc_reg (S := ⟨[(1, .loc 1 0), (2, .loc 2 0), (3, .loc 3 0), (4, .p (.int .i64 0))], [(1, [.p (.sl 1 false (List.map (eI .u8) a0_.Masks)), .p (.sl 1 false (List.map (eI .u8) a0_.Longs))]), (2, [.p (.sl 2 true (List.map e_api_Entry [])), .p (.int .i64 0)]), (3, [.p (.sl 2 true (List.map e_api_Entry [])), .p (.int .i64 0)])], []⟩) (APath.fin (by kernel_rfl)) (by kernel_rfl) ?_
  refine vc_block ?_
  obtain ⟨o1518, ho1518, h⟩ := bind_some h
  refine vc_loop ((loop_sim (fun (x : Int × Int × (List api_Entry)) s => ∃ (a1 : AV) (H2 : List HO), s = ⟨[(1, .loc 1 0), (2, .loc 2 0), (3, .loc 3 0), (4, .p (.int .i64 x.1))], [(1, [.p (.sl 1 false (List.map (eI .u8) a0_.Masks)), .p (.sl 1 false (List.map (eI .u8) a0_.Longs))]), (2, [.p (.sl 2 true (List.map e_api_Entry [])), .p (.int .i64 0)]), (3, [a1, .p (.int .i64 x.2.1)])], H2⟩ ∧ HP H2 [.arr a1 2 false (List.map e_api_Entry x.2.2)]) (fun x : Int × Int × (List api_Entry) => ref27_Draft_Gates_L1 N a0_ x.1 x.2.1 x.2.2) (fun (p : Int × Int × (List api_Entry)) e s => e = .exit 0 ∧ (∃ (a506 : AV) (H507 : List HO), s = ⟨[(1, .loc 1 0), (2, .loc 2 0), (3, .loc 3 0), (4, .p (.int .i64 p.1))], [(1, [.p (.sl 1 false (List.map (eI .u8) a0_.Masks)), .p (.sl 1 false (List.map (eI .u8) a0_.Longs))]), (2, [.p (.sl 2 true (List.map e_api_Entry [])), .p (.int .i64 0)]), (3, [a506, .p (.int .i64 p.2.1)])], H507⟩ ∧ HP H507 [.arr a506 2 false (List.map e_api_Entry p.2.2)])) ?_ N _ o1518 _ ho1518 ⟨(.p (.sl 2 true [])), [], (by show _ = _; kernel_rfl), (HP.pick (HP.nilArr hH 2 false) [0] rfl)⟩).mono ?_)
  · clear h ho1518
    rintro ⟨i3, i4, l5⟩ o s h hR
    obtain ⟨a1, H2, rfl, hH⟩ := hR
    replace hH : HP H2 [.arr a1 2 false (List.map e_api_Entry l5)] := hH
    have hfa1 := own_form (HP.get hH 0 rfl)
    replace h : ref27_Draft_Gates_L1 N a0_ i3 i4 l5 = some o := h
    unfold ref27_Draft_Gates_L1 at h
    refine vc_seq ?_
    refine vc_seq ?_
    refine vc_reg (S := ⟨[(1, .loc 1 0), (2, .loc 2 0), (3, .loc 3 0), (4, .p (.int .i64 i3)), (12, .p (.bool (decide (i3 < (if (if 16 < ((List.length a0_.Masks : Nat) : Int) then 16 else ((List.length a0_.Masks : Nat) : Int)) > 1 then (if 16 < ((List.length a0_.Masks : Nat) : Int) then 16 else ((List.length a0_.Masks : Nat) : Int)) else 1)))))], [(1, [.p (.sl 1 false (List.map (eI .u8) a0_.Masks)), .p (.sl 1 false (List.map (eI .u8) a0_.Longs))]), (2, [.p (.sl 2 true (List.map e_api_Entry [])), .p (.int .i64 0)]), (3, [a1, .p (.int .i64 i4)])], H2⟩) (APath.chunk 3 (by rcases hfa1 with ha1e | ⟨_, _, ha1e⟩ <;> subst ha1e <;> kernel_rfl) (APath.one (.val 9 .len [.t 8]) (by kernel_rfl) (st_val (ys := [.p (.sl 1 false (List.map (eI .u8) a0_.Masks))]) (by rcases hfa1 with ha1e | ⟨_, _, ha1e⟩ <;> subst ha1e <;> kernel_rfl) (vexec_len (eI .u8))) (APath.fin (by rcases hfa1 with ha1e | ⟨_, _, ha1e⟩ <;> subst ha1e <;> kernel_rfl)))) (by rcases hfa1 with ha1e | ⟨_, _, ha1e⟩ <;> subst ha1e <;> kernel_rfl) ?_
    refine vc_ite (by kernel_rfl) h (fun hc508 h => ?_) (fun hc508 h => ?_)
    · refine vc_skip ?_
      refine vc_kp ?_
      refine vc_seq ?_
      refine vc_block ?_
      refine vc_seq ?_
      refine vc_reg (S := ⟨[(1, .loc 1 0), (2, .loc 2 0), (3, .loc 3 0), (4, .p (.int .i64 i3)), (5, .loc 5 0)], [(1, [.p (.sl 1 false (List.map (eI .u8) a0_.Masks)), .p (.sl 1 false (List.map (eI .u8) a0_.Longs))]), (2, [.p (.sl 2 true (List.map e_api_Entry [])), .p (.int .i64 0)]), (3, [a1, .p (.int .i64 i4)]), (5, [.p (.int .i64 127), .p (.int .i64 1)])], H2⟩) (APath.fin (by rcases hfa1 with ha1e | ⟨_, _, ha1e⟩ <;> subst ha1e <;> kernel_rfl)) (by rcases hfa1 with ha1e | ⟨_, _, ha1e⟩ <;> subst ha1e <;> kernel_rfl) ?_
      obtain ⟨j1009, hj1009, h⟩ := bind_some h
      refine vc_joinK [1, 2, 3, 4, 5] (fun s => s = ⟨[(1, .loc 1 0), (2, .loc 2 0), (3, .loc 3 0), (4, .p (.int .i64 i3)), (5, .loc 5 0)], [(1, [.p (.sl 1 false (List.map (eI .u8) a0_.Masks)), .p (.sl 1 false (List.map (eI .u8) a0_.Longs))]), (2, [.p (.sl 2 true (List.map e_api_Entry [])), .p (.int .i64 0)]), (3, [a1, .p (.int .i64 i4)]), (5, [.p (.int .i64 j1009), .p (.int .i64 1)])], H2⟩) ?_ ?_
      · clear h
        have h := hj1009
        refine vc_seq ?_
        refine vc_reg (S := ⟨[(1, .loc 1 0), (2, .loc 2 0), (3, .loc 3 0), (4, .p (.int .i64 i3)), (5, .loc 5 0), (20, .p (.bool (decide (i3 < ((List.length a0_.Masks : Nat) : Int)))))], [(1, [.p (.sl 1 false (List.map (eI .u8) a0_.Masks)), .p (.sl 1 false (List.map (eI .u8) a0_.Longs))]), (2, [.p (.sl 2 true (List.map e_api_Entry [])), .p (.int .i64 0)]), (3, [a1, .p (.int .i64 i4)]), (5, [.p (.int .i64 127), .p (.int .i64 1)])], H2⟩) (APath.chunk 3 (by rcases hfa1 with ha1e | ⟨_, _, ha1e⟩ <;> subst ha1e <;> kernel_rfl) (APath.one (.val 19 .len [.t 18]) (by kernel_rfl) (st_val (ys := [.p (.sl 1 false (List.map (eI .u8) a0_.Masks))]) (by rcases hfa1 with ha1e | ⟨_, _, ha1e⟩ <;> subst ha1e <;> kernel_rfl) (vexec_len (eI .u8))) (APath.fin (by rcases hfa1 with ha1e | ⟨_, _, ha1e⟩ <;> subst ha1e <;> kernel_rfl)))) (by rcases hfa1 with ha1e | ⟨_, _, ha1e⟩ <;> subst ha1e <;> kernel_rfl) ?_
        refine vc_ite (by kernel_rfl) h (fun hc1010 h => ?_) (fun hc1010 h => ?_)
        · obtain ⟨e1011, he1011, h⟩ := bind_some h
          refine vc_reg (S := ⟨[(1, .loc 1 0), (2, .loc 2 0), (3, .loc 3 0), (4, .p (.int .i64 i3)), (5, .loc 5 0)], [(1, [.p (.sl 1 false (List.map (eI .u8) a0_.Masks)), .p (.sl 1 false (List.map (eI .u8) a0_.Longs))]), (2, [.p (.sl 2 true (List.map e_api_Entry [])), .p (.int .i64 0)]), (3, [a1, .p (.int .i64 i4)]), (5, [.p (.int .i64 (w64 (e1011))), .p (.int .i64 1)])], H2⟩) (APath.chunk 3 (by rcases hfa1 with ha1e | ⟨_, _, ha1e⟩ <;> subst ha1e <;> kernel_rfl) (APath.one (.val 24 (.iaddrS 1) [.t 22, .t 23]) (by kernel_rfl) (st_val (ys := [.p (.sl 1 false (List.map (eI .u8) a0_.Masks)), .p (.int .i64 i3)]) (by rcases hfa1 with ha1e | ⟨_, _, ha1e⟩ <;> subst ha1e <;> kernel_rfl) (vexec_iaddrS (eI .u8) he1011)) (APath.one (.load 25 (.t 24) 1 false) (by kernel_rfl) (st_loadP (sz := 1) (off := 0) (cs := [.int .u8 e1011]) (r := .p (.int .u8 e1011)) (eI .u8) he1011 (by rcases hfa1 with ha1e | ⟨_, _, ha1e⟩ <;> subst ha1e <;> kernel_rfl) (by rcases hfa1 with ha1e | ⟨_, _, ha1e⟩ <;> subst ha1e <;> kernel_rfl) (by rcases hfa1 with ha1e | ⟨_, _, ha1e⟩ <;> subst ha1e <;> kernel_rfl)) (APath.fin (by rcases hfa1 with ha1e | ⟨_, _, ha1e⟩ <;> subst ha1e <;> kernel_rfl))))) (by rcases hfa1 with ha1e | ⟨_, _, ha1e⟩ <;> subst ha1e <;> kernel_rfl) ?_
          obtain rfl := some_inj h
          exact ⟨rfl, (by show _ = _; rcases hfa1 with ha1e | ⟨_, _, ha1e⟩ <;> subst ha1e <;> kernel_rfl)⟩
        · refine vc_skip ?_
          obtain rfl := some_inj h
          exact ⟨rfl, (by show _ = _; rcases hfa1 with ha1e | ⟨_, _, ha1e⟩ <;> subst ha1e <;> kernel_rfl)⟩
      · clear hj1009
        rintro s hR
        obtain rfl := hR
        obtain ⟨j1512, hj1512, h⟩ := bind_some h
        refine vc_joinK [1, 2, 3, 4, 5] (fun s => s = ⟨[(1, .loc 1 0), (2, .loc 2 0), (3, .loc 3 0), (4, .p (.int .i64 i3)), (5, .loc 5 0)], [(1, [.p (.sl 1 false (List.map (eI .u8) a0_.Masks)), .p (.sl 1 false (List.map (eI .u8) a0_.Longs))]), (2, [.p (.sl 2 true (List.map e_api_Entry [])), .p (.int .i64 0)]), (3, [a1, .p (.int .i64 i4)]), (5, [.p (.int .i64 j1009), .p (.int .i64 j1512)])], H2⟩) ?_ ?_
        · clear h
          have h := hj1512
          refine vc_seq ?_
          refine vc_reg (S := ⟨[(1, .loc 1 0), (2, .loc 2 0), (3, .loc 3 0), (4, .p (.int .i64 i3)), (5, .loc 5 0), (32, .p (.bool (decide (i3 < ((List.length a0_.Longs : Nat) : Int)))))], [(1, [.p (.sl 1 false (List.map (eI .u8) a0_.Masks)), .p (.sl 1 false (List.map (eI .u8) a0_.Longs))]), (2, [.p (.sl 2 true (List.map e_api_Entry [])), .p (.int .i64 0)]), (3, [a1, .p (.int .i64 i4)]), (5, [.p (.int .i64 j1009), .p (.int .i64 1)])], H2⟩) (APath.chunk 3 (by rcases hfa1 with ha1e | ⟨_, _, ha1e⟩ <;> subst ha1e <;> kernel_rfl) (APath.one (.val 31 .len [.t 30]) (by kernel_rfl) (st_val (ys := [.p (.sl 1 false (List.map (eI .u8) a0_.Longs))]) (by rcases hfa1 with ha1e | ⟨_, _, ha1e⟩ <;> subst ha1e <;> kernel_rfl) (vexec_len (eI .u8))) (APath.fin (by rcases hfa1 with ha1e | ⟨_, _, ha1e⟩ <;> subst ha1e <;> kernel_rfl)))) (by rcases hfa1 with ha1e | ⟨_, _, ha1e⟩ <;> subst ha1e <;> kernel_rfl) ?_
          refine vc_ite (by kernel_rfl) h (fun hc1513 h => ?_) (fun hc1513 h => ?_)
          · obtain ⟨e1514, he1514, h⟩ := bind_some h
            refine vc_reg (S := ⟨[(1, .loc 1 0), (2, .loc 2 0), (3, .loc 3 0), (4, .p (.int .i64 i3)), (5, .loc 5 0)], [(1, [.p (.sl 1 false (List.map (eI .u8) a0_.Masks)), .p (.sl 1 false (List.map (eI .u8) a0_.Longs))]), (2, [.p (.sl 2 true (List.map e_api_Entry [])), .p (.int .i64 0)]), (3, [a1, .p (.int .i64 i4)]), (5, [.p (.int .i64 j1009), .p (.int .i64 (w64 (1 + (w64 ((Int.tmod e1514 20))))))])], H2⟩) (APath.chunk 3 (by rcases hfa1 with ha1e | ⟨_, _, ha1e⟩ <;> subst ha1e <;> kernel_rfl) (APath.one (.val 36 (.iaddrS 1) [.t 34, .t 35]) (by kernel_rfl) (st_val (ys := [.p (.sl 1 false (List.map (eI .u8) a0_.Longs)), .p (.int .i64 i3)]) (by rcases hfa1 with ha1e | ⟨_, _, ha1e⟩ <;> subst ha1e <;> kernel_rfl) (vexec_iaddrS (eI .u8) he1514)) (APath.one (.load 37 (.t 36) 1 false) (by kernel_rfl) (st_loadP (sz := 1) (off := 0) (cs := [.int .u8 e1514]) (r := .p (.int .u8 e1514)) (eI .u8) he1514 (by rcases hfa1 with ha1e | ⟨_, _, ha1e⟩ <;> subst ha1e <;> kernel_rfl) (by rcases hfa1 with ha1e | ⟨_, _, ha1e⟩ <;> subst ha1e <;> kernel_rfl) (by rcases hfa1 with ha1e | ⟨_, _, ha1e⟩ <;> subst ha1e <;> kernel_rfl)) (APath.fin (by rcases hfa1 with ha1e | ⟨_, _, ha1e⟩ <;> subst ha1e <;> kernel_rfl))))) (by rcases hfa1 with ha1e | ⟨_, _, ha1e⟩ <;> subst ha1e <;> kernel_rfl) ?_
            obtain rfl := some_inj h
            exact ⟨rfl, (by show _ = _; rcases hfa1 with ha1e | ⟨_, _, ha1e⟩ <;> subst ha1e <;> kernel_rfl)⟩
          · refine vc_skip ?_
            obtain rfl := some_inj h
            exact ⟨rfl, (by show _ = _; rcases hfa1 with ha1e | ⟨_, _, ha1e⟩ <;> subst ha1e <;> kernel_rfl)⟩
        · clear hj1512
          rintro s hR
          obtain rfl := hR
          refine vc_seq ?_
          obtain ⟨l1517, hl1517, h⟩ := bind_some h
          obtain ⟨a1515, H1516, ha1515, hH⟩ := HP.app (k := 0) (a := a1) (sz := 2) (frz := false) e_api_Entry hH rfl hl1517
          replace hH : HP H1516 [.arr a1515 2 false (List.map e_api_Entry l1517)] := hH
          have hfa1515 := own_form (HP.get hH 0 rfl)
          refine vc_reg (S := ⟨[(1, .loc 1 0), (2, .loc 2 0), (3, .loc 3 0), (4, .p (.int .i64 i3)), (5, .loc 5 0)], [(1, [.p (.sl 1 false (List.map (eI .u8) a0_.Masks)), .p (.sl 1 false (List.map (eI .u8) a0_.Longs))]), (2, [.p (.sl 2 true (List.map e_api_Entry [])), .p (.int .i64 0)]), (3, [a1515, .p (.int .i64 i4)]), (5, [.p (.int .i64 j1009), .p (.int .i64 j1512)])], H1516⟩) (APath.chunk 4 (by rcases hfa1 with ha1e | ⟨_, _, ha1e⟩ <;> rcases hfa1515 with ha1515e | ⟨_, _, ha1515e⟩ <;> subst ha1e ha1515e <;> kernel_rfl) (APath.one (.app 46 (.t 43) (.t 45) 2 16) (by kernel_rfl) (st_app (H := H2) (a := a1) (b := .p (.sl 2 true (List.map e_api_Entry [(api_Entry.mk j1009 j1512)]))) (by rcases hfa1 with ha1e | ⟨_, _, ha1e⟩ <;> rcases hfa1515 with ha1515e | ⟨_, _, ha1515e⟩ <;> subst ha1e ha1515e <;> kernel_rfl) (by rcases hfa1 with ha1e | ⟨_, _, ha1e⟩ <;> rcases hfa1515 with ha1515e | ⟨_, _, ha1515e⟩ <;> subst ha1e ha1515e <;> kernel_rfl) (by rcases hfa1 with ha1e | ⟨_, _, ha1e⟩ <;> rcases hfa1515 with ha1515e | ⟨_, _, ha1515e⟩ <;> subst ha1e ha1515e <;> kernel_rfl) (by rcases hfa1 with ha1e | ⟨_, _, ha1e⟩ <;> rcases hfa1515 with ha1515e | ⟨_, _, ha1515e⟩ <;> subst ha1e ha1515e <;> kernel_rfl) ha1515) (APath.fin (by rcases hfa1 with ha1e | ⟨_, _, ha1e⟩ <;> rcases hfa1515 with ha1515e | ⟨_, _, ha1515e⟩ <;> subst ha1e ha1515e <;> kernel_rfl)))) (by rcases hfa1 with ha1e | ⟨_, _, ha1e⟩ <;> rcases hfa1515 with ha1515e | ⟨_, _, ha1515e⟩ <;> subst ha1e ha1515e <;> kernel_rfl) ?_
          refine vc_reg (S := ⟨[(1, .loc 1 0), (2, .loc 2 0), (3, .loc 3 0), (4, .p (.int .i64 i3))], [(1, [.p (.sl 1 false (List.map (eI .u8) a0_.Masks)), .p (.sl 1 false (List.map (eI .u8) a0_.Longs))]), (2, [.p (.sl 2 true (List.map e_api_Entry [])), .p (.int .i64 0)]), (3, [a1515, .p (.int .i64 (w64 (i4 + j1512)))])], H1516⟩) (APath.fin (by rcases hfa1515 with ha1515e | ⟨_, _, ha1515e⟩ <;> subst ha1515e <;> kernel_rfl)) (by rcases hfa1515 with ha1515e | ⟨_, _, ha1515e⟩ <;> subst ha1515e <;> kernel_rfl) ?_
          refine vc_kp ?_
          refine vc_reg (S := ⟨[(1, .loc 1 0), (2, .loc 2 0), (3, .loc 3 0), (4, .p (.int .i64 (w64 (i3 + 1))))], [(1, [.p (.sl 1 false (List.map (eI .u8) a0_.Masks)), .p (.sl 1 false (List.map (eI .u8) a0_.Longs))]), (2, [.p (.sl 2 true (List.map e_api_Entry [])), .p (.int .i64 0)]), (3, [a1515, .p (.int .i64 (w64 (i4 + j1512)))])], H1516⟩) (APath.fin (by rcases hfa1515 with ha1515e | ⟨_, _, ha1515e⟩ <;> subst ha1515e <;> kernel_rfl)) (by rcases hfa1515 with ha1515e | ⟨_, _, ha1515e⟩ <;> subst ha1515e <;> kernel_rfl) ?_
          obtain rfl := some_inj h
          exact ⟨_, rfl, ⟨a1515, H1516, (by show _ = _; rcases hfa1515 with ha1515e | ⟨_, _, ha1515e⟩ <;> subst ha1515e <;> kernel_rfl), (HP.pick hH [0] rfl)⟩⟩
    · refine vc_exit ?_
      try show vc _ _ _ _ _
      obtain rfl := some_inj h
      exact ⟨_, rfl, rfl, ⟨a1, H2, (by show _ = _; rcases hfa1 with ha1e | ⟨_, _, ha1e⟩ <;> subst ha1e <;> kernel_rfl), (HP.pick hH [0] rfl)⟩⟩
  · rintro e s hq
    obtain ⟨rfl, hR⟩ := hq
    obtain ⟨a506, H507, rfl, hH⟩ := hR
    replace hH : HP H507 [.arr a506 2 false (List.map e_api_Entry o1518.2.2)] := hH
    have hfa506 := own_form (HP.get hH 0 rfl)
    try show vc _ _ _ _ _
    refine vc_seq ?_
    refine vc_reg (S := ⟨[(2, .loc 2 0)], [(2, [a506, .p (.int .i64 o1518.2.1)])], H507⟩) (APath.fin (by rcases hfa506 with ha506e | ⟨_, _, ha506e⟩ <;> subst ha506e <;> kernel_rfl)) (by rcases hfa506 with ha506e | ⟨_, _, ha506e⟩ <;> subst ha506e <;> kernel_rfl) ?_
    refine vc_ret ?_
    obtain rfl := some_inj h
    exact ret_own (H := H507) (ys := [.agg [a506, .p (.int .i64 o1518.2.1)]]) (xs := [.agg [.p (.sl 2 false (List.map e_api_Entry o1518.2.2)), .p (.int .i64 o1518.2.1)]]) (by rcases hfa506 with ha506e | ⟨_, _, ha506e⟩ <;> subst ha506e <;> kernel_rfl) (by rcases hfa506 with ha506e | ⟨_, _, ha506e⟩ <;> subst ha506e <;> kernel_rfl) (pureVL_cons (pureV_agg (pureL_cons (HP.pure (k := 0) (frz := false) e_api_Entry hH rfl).1 (pureL_cons rfl pureL_nil))) pureVL_nil) (by kernel_rfl)
/- isochronlaw27.list -/
theorem law27_list_ok (N : Nat) (a0_ : (List Int)) (r : api_Gates) (h : law27_list N a0_ = some r) : PCall Try.prog 28 [.p (.sl 1 false (List.map eI64 a0_))] (.agg [.p (.sl 2 false (List.map e_api_Entry r.Entries)), .p (.int .i64 r.Cycle)]) := by
  unfold law27_list at h
  have hH : HP ([] : List HO) [] := trivial
  refine pcall_of chk28 rfl rfl (vc_sound _ _ _ ?_) rfl
  refine vc_seq ?_
  refine vc_reg (S := ⟨[(0, .p (.sl 1 false (List.map eI64 a0_))), (2, .loc 2 0)], [(2, [.p (.sl 2 true (List.map e_api_Entry [])), .p (.int .i64 0)])], []⟩) (APath.fin (by kernel_rfl)) (by kernel_rfl) ?_
  refine vc_seq ?_
  refine vc_reg (S := ⟨[(0, .p (.sl 1 false (List.map eI64 a0_))), (2, .loc 2 0), (3, .loc 3 0)], [(2, [.p (.sl 2 true (List.map e_api_Entry [])), .p (.int .i64 0)]), (3, [.p (.sl 2 true (List.map e_api_Entry [])), .p (.int .i64 0)])], []⟩) (APath.fin (by kernel_rfl)) (by kernel_rfl) ?_
  refine vc_seq ?_
  refine vc_seq ?_
  refine vc_reg (S := ⟨[(0, .p (.sl 1 false (List.map eI64 a0_))), (2, .loc 2 0), (3, .loc 3 0), (4, .p (.int .i64 0))], [(2, [.p (.sl 2 true (List.map e_api_Entry [])), .p (.int .i64 0)]), (3, [.p (.sl 2 true (List.map e_api_Entry [])), .p (.int .i64 0)])], []⟩) (APath.fin (by kernel_rfl)) (by kernel_rfl) ?_
  refine vc_block ?_
  obtain ⟨o515, ho515, h⟩ := bind_some h
  refine vc_loop ((loop_sim (fun (x : Int × Int × (List api_Entry)) s => ∃ (a1 : AV) (H2 : List HO), s = ⟨[(0, .p (.sl 1 false (List.map eI64 a0_))), (2, .loc 2 0), (3, .loc 3 0), (4, .p (.int .i64 x.1))], [(2, [.p (.sl 2 true (List.map e_api_Entry [])), .p (.int .i64 0)]), (3, [a1, .p (.int .i64 x.2.1)])], H2⟩ ∧ HP H2 [.arr a1 2 false (List.map e_api_Entry x.2.2)]) (fun x : Int × Int × (List api_Entry) => law27_list_L1 N a0_ x.1 x.2.1 x.2.2) (fun (p : Int × Int × (List api_Entry)) e s => e = .exit 0 ∧ (∃ (a506 : AV) (H507 : List HO), s = ⟨[(0, .p (.sl 1 false (List.map eI64 a0_))), (2, .loc 2 0), (3, .loc 3 0), (4, .p (.int .i64 p.1))], [(2, [.p (.sl 2 true (List.map e_api_Entry [])), .p (.int .i64 0)]), (3, [a506, .p (.int .i64 p.2.1)])], H507⟩ ∧ HP H507 [.arr a506 2 false (List.map e_api_Entry p.2.2)])) ?_ N _ o515 _ ho515 ⟨(.p (.sl 2 true [])), [], (by show _ = _; kernel_rfl), (HP.pick (HP.nilArr hH 2 false) [0] rfl)⟩).mono ?_)
  · clear h ho515
    rintro ⟨i3, i4, l5⟩ o s h hR
    obtain ⟨a1, H2, rfl, hH⟩ := hR
    replace hH : HP H2 [.arr a1 2 false (List.map e_api_Entry l5)] := hH
    have hfa1 := own_form (HP.get hH 0 rfl)
    replace h : law27_list_L1 N a0_ i3 i4 l5 = some o := h
    unfold law27_list_L1 at h
    refine vc_seq ?_
    refine vc_seq ?_
    refine vc_reg (S := ⟨[(0, .p (.sl 1 false (List.map eI64 a0_))), (2, .loc 2 0), (3, .loc 3 0), (4, .p (.int .i64 i3)), (9, .p (.bool (decide ((w64 (i3 + 1)) < ((List.length a0_ : Nat) : Int)))))], [(2, [.p (.sl 2 true (List.map e_api_Entry [])), .p (.int .i64 0)]), (3, [a1, .p (.int .i64 i4)])], H2⟩) (APath.chunk 3 (by rcases hfa1 with ha1e | ⟨_, _, ha1e⟩ <;> subst ha1e <;> kernel_rfl) (APath.one (.val 8 .len [.t 7]) (by kernel_rfl) (st_val (ys := [.p (.sl 1 false (List.map eI64 a0_))]) (by rcases hfa1 with ha1e | ⟨_, _, ha1e⟩ <;> subst ha1e <;> kernel_rfl) (vexec_len eI64)) (APath.fin (by rcases hfa1 with ha1e | ⟨_, _, ha1e⟩ <;> subst ha1e <;> kernel_rfl)))) (by rcases hfa1 with ha1e | ⟨_, _, ha1e⟩ <;> subst ha1e <;> kernel_rfl) ?_
    refine vc_ite (by kernel_rfl) h (fun hc508 h => ?_) (fun hc508 h => ?_)
    · refine vc_skip ?_
      refine vc_kp ?_
      refine vc_seq ?_
      refine vc_block ?_
      refine vc_seq ?_
      obtain ⟨e509, he509, h⟩ := bind_some h
      obtain ⟨e510, he510, h⟩ := bind_some h
      obtain ⟨l513, hl513, h⟩ := bind_some h
      obtain ⟨a511, H512, ha511, hH⟩ := HP.app (k := 0) (a := a1) (sz := 2) (frz := false) e_api_Entry hH rfl hl513
      replace hH : HP H512 [.arr a511 2 false (List.map e_api_Entry l513)] := hH
      have hfa511 := own_form (HP.get hH 0 rfl)
      refine vc_regD (S := ⟨[(0, .p (.sl 1 false (List.map eI64 a0_))), (2, .loc 2 0), (3, .loc 3 0), (4, .p (.int .i64 i3))], [(2, [.p (.sl 2 true (List.map e_api_Entry [])), .p (.int .i64 0)]), (3, [a511, .p (.int .i64 i4)])], H512⟩) (by rcases hfa1 with ha1e | ⟨_, _, ha1e⟩ <;> subst ha1e <;> kernel_rfl) (APath.chunk 4 (by rcases hfa1 with ha1e | ⟨_, _, ha1e⟩ <;> rcases hfa511 with ha511e | ⟨_, _, ha511e⟩ <;> subst ha1e ha511e <;> kernel_rfl) (APath.one (.val 16 (.iaddrS 1) [.t 14, .t 15]) (by kernel_rfl) (st_val (ys := [.p (.sl 1 false (List.map eI64 a0_)), .p (.int .i64 i3)]) (by rcases hfa1 with ha1e | ⟨_, _, ha1e⟩ <;> rcases hfa511 with ha511e | ⟨_, _, ha511e⟩ <;> subst ha1e ha511e <;> kernel_rfl) (vexec_iaddrS eI64 he509)) (APath.one (.load 17 (.t 16) 1 false) (by kernel_rfl) (st_loadP (sz := 1) (off := 0) (cs := [.int .i64 e509]) (r := .p (.int .i64 e509)) eI64 he509 (by rcases hfa1 with ha1e | ⟨_, _, ha1e⟩ <;> rcases hfa511 with ha511e | ⟨_, _, ha511e⟩ <;> subst ha1e ha511e <;> kernel_rfl) (by rcases hfa1 with ha1e | ⟨_, _, ha1e⟩ <;> rcases hfa511 with ha511e | ⟨_, _, ha511e⟩ <;> subst ha1e ha511e <;> kernel_rfl) (by rcases hfa1 with ha1e | ⟨_, _, ha1e⟩ <;> rcases hfa511 with ha511e | ⟨_, _, ha511e⟩ <;> subst ha1e ha511e <;> kernel_rfl)) (APath.chunk 3 (by rcases hfa1 with ha1e | ⟨_, _, ha1e⟩ <;> rcases hfa511 with ha511e | ⟨_, _, ha511e⟩ <;> subst ha1e ha511e <;> kernel_rfl) (APath.one (.val 21 (.iaddrS 1) [.t 18, .t 20]) (by kernel_rfl) (st_val (ys := [.p (.sl 1 false (List.map eI64 a0_)), .p (.int .i64 (w64 (i3 + 1)))]) (by rcases hfa1 with ha1e | ⟨_, _, ha1e⟩ <;> rcases hfa511 with ha511e | ⟨_, _, ha511e⟩ <;> subst ha1e ha511e <;> kernel_rfl) (vexec_iaddrS eI64 he510)) (APath.one (.load 22 (.t 21) 1 false) (by kernel_rfl) (st_loadP (sz := 1) (off := 0) (cs := [.int .i64 e510]) (r := .p (.int .i64 e510)) eI64 he510 (by rcases hfa1 with ha1e | ⟨_, _, ha1e⟩ <;> rcases hfa511 with ha511e | ⟨_, _, ha511e⟩ <;> subst ha1e ha511e <;> kernel_rfl) (by rcases hfa1 with ha1e | ⟨_, _, ha1e⟩ <;> rcases hfa511 with ha511e | ⟨_, _, ha511e⟩ <;> subst ha1e ha511e <;> kernel_rfl) (by rcases hfa1 with ha1e | ⟨_, _, ha1e⟩ <;> rcases hfa511 with ha511e | ⟨_, _, ha511e⟩ <;> subst ha1e ha511e <;> kernel_rfl)) (APath.chunk 2 (by rcases hfa1 with ha1e | ⟨_, _, ha1e⟩ <;> rcases hfa511 with ha511e | ⟨_, _, ha511e⟩ <;> subst ha1e ha511e <;> kernel_rfl) (APath.one (.app 25 (.t 13) (.t 24) 2 16) (by kernel_rfl) (st_app (H := H2) (a := a1) (b := .p (.sl 2 true (List.map e_api_Entry [(api_Entry.mk e509 e510)]))) (by rcases hfa1 with ha1e | ⟨_, _, ha1e⟩ <;> rcases hfa511 with ha511e | ⟨_, _, ha511e⟩ <;> subst ha1e ha511e <;> kernel_rfl) (by rcases hfa1 with ha1e | ⟨_, _, ha1e⟩ <;> rcases hfa511 with ha511e | ⟨_, _, ha511e⟩ <;> subst ha1e ha511e <;> kernel_rfl) (by rcases hfa1 with ha1e | ⟨_, _, ha1e⟩ <;> rcases hfa511 with ha511e | ⟨_, _, ha511e⟩ <;> subst ha1e ha511e <;> kernel_rfl) (by rcases hfa1 with ha1e | ⟨_, _, ha1e⟩ <;> rcases hfa511 with ha511e | ⟨_, _, ha511e⟩ <;> subst ha1e ha511e <;> kernel_rfl) ha511) (APath.fin (by rcases hfa1 with ha1e | ⟨_, _, ha1e⟩ <;> rcases hfa511 with ha511e | ⟨_, _, ha511e⟩ <;> subst ha1e ha511e <;> kernel_rfl)))))))))) (by rcases hfa1 with ha1e | ⟨_, _, ha1e⟩ <;> rcases hfa511 with ha511e | ⟨_, _, ha511e⟩ <;> subst ha1e ha511e <;> kernel_rfl) ?_
      obtain ⟨e514, he514, h⟩ := bind_some h
      refine vc_regD (S := ⟨[(0, .p (.sl 1 false (List.map eI64 a0_))), (2, .loc 2 0), (3, .loc 3 0), (4, .p (.int .i64 i3))], [(2, [.p (.sl 2 true (List.map e_api_Entry [])), .p (.int .i64 0)]), (3, [a511, .p (.int .i64 (w64 (i4 + e514)))])], H512⟩) (by rcases hfa511 with ha511e | ⟨_, _, ha511e⟩ <;> subst ha511e <;> kernel_rfl) (APath.chunk 5 (by rcases hfa511 with ha511e | ⟨_, _, ha511e⟩ <;> subst ha511e <;> kernel_rfl) (APath.one (.val 32 (.iaddrS 1) [.t 29, .t 31]) (by kernel_rfl) (st_val (ys := [.p (.sl 1 false (List.map eI64 a0_)), .p (.int .i64 (w64 (i3 + 1)))]) (by rcases hfa511 with ha511e | ⟨_, _, ha511e⟩ <;> subst ha511e <;> kernel_rfl) (vexec_iaddrS eI64 he514)) (APath.one (.load 33 (.t 32) 1 false) (by kernel_rfl) (st_loadP (sz := 1) (off := 0) (cs := [.int .i64 e514]) (r := .p (.int .i64 e514)) eI64 he514 (by rcases hfa511 with ha511e | ⟨_, _, ha511e⟩ <;> subst ha511e <;> kernel_rfl) (by rcases hfa511 with ha511e | ⟨_, _, ha511e⟩ <;> subst ha511e <;> kernel_rfl) (by rcases hfa511 with ha511e | ⟨_, _, ha511e⟩ <;> subst ha511e <;> kernel_rfl)) (APath.fin (by rcases hfa511 with ha511e | ⟨_, _, ha511e⟩ <;> subst ha511e <;> kernel_rfl))))) (by rcases hfa511 with ha511e | ⟨_, _, ha511e⟩ <;> subst ha511e <;> kernel_rfl) ?_
      refine vc_reg (S := ⟨[(0, .p (.sl 1 false (List.map eI64 a0_))), (2, .loc 2 0), (3, .loc 3 0), (4, .p (.int .i64 (w64 (i3 + 2))))], [(2, [.p (.sl 2 true (List.map e_api_Entry [])), .p (.int .i64 0)]), (3, [a511, .p (.int .i64 (w64 (i4 + e514)))])], H512⟩) (APath.fin (by rcases hfa511 with ha511e | ⟨_, _, ha511e⟩ <;> subst ha511e <;> kernel_rfl)) (by rcases hfa511 with ha511e | ⟨_, _, ha511e⟩ <;> subst ha511e <;> kernel_rfl) ?_
      obtain rfl := some_inj h
      exact ⟨_, rfl, ⟨a511, H512, (by show _ = _; rcases hfa511 with ha511e | ⟨_, _, ha511e⟩ <;> subst ha511e <;> kernel_rfl), (HP.pick hH [0] rfl)⟩⟩
    · refine vc_exit ?_
      try show vc _ _ _ _ _
      obtain rfl := some_inj h
      exact ⟨_, rfl, rfl, ⟨a1, H2, (by show _ = _; rcases hfa1 with ha1e | ⟨_, _, ha1e⟩ <;> subst ha1e <;> kernel_rfl), (HP.pick hH [0] rfl)⟩⟩
  · rintro e s hq
    obtain ⟨rfl, hR⟩ := hq
    obtain ⟨a506, H507, rfl, hH⟩ := hR
    replace hH : HP H507 [.arr a506 2 false (List.map e_api_Entry o515.2.2)] := hH
    have hfa506 := own_form (HP.get hH 0 rfl)
    try show vc _ _ _ _ _
    refine vc_seq ?_
    refine vc_reg (S := ⟨[(2, .loc 2 0)], [(2, [a506, .p (.int .i64 o515.2.1)])], H507⟩) (APath.fin (by rcases hfa506 with ha506e | ⟨_, _, ha506e⟩ <;> subst ha506e <;> kernel_rfl)) (by rcases hfa506 with ha506e | ⟨_, _, ha506e⟩ <;> subst ha506e <;> kernel_rfl) ?_
    refine vc_ret ?_
    obtain rfl := some_inj h
    exact ret_own (H := H507) (ys := [.agg [a506, .p (.int .i64 o515.2.1)]]) (xs := [.agg [.p (.sl 2 false (List.map e_api_Entry o515.2.2)), .p (.int .i64 o515.2.1)]]) (by rcases hfa506 with ha506e | ⟨_, _, ha506e⟩ <;> subst ha506e <;> kernel_rfl) (by rcases hfa506 with ha506e | ⟨_, _, ha506e⟩ <;> subst ha506e <;> kernel_rfl) (pureVL_cons (pureV_agg (pureL_cons (HP.pure (k := 0) (frz := false) e_api_Entry hH rfl).1 (pureL_cons rfl pureL_nil))) pureVL_nil) (by kernel_rfl)
/- gates.check -/
theorem gates_check_ok (N : Nat) (a0_ : api_Gates) (a1_ : Int) (a2_ : Int) (a3_ : Int) (r : Int) (h : gates_check N a0_ a1_ a2_ a3_ = some r) : PCall Try.prog 30 [.agg [.p (.sl 2 false (List.map e_api_Entry a0_.Entries)), .p (.int .i64 a0_.Cycle)], .p (.int .i64 a1_), .p (.int .i64 a2_), .p (.int .i64 a3_)] (.p (.int .i64 r)) := by
  unfold gates_check at h
  have hH : HP ([] : List HO) [] := trivial
  refine pcall_of chk30 rfl rfl (vc_sound _ _ _ ?_) rfl
  refine vc_seq ?_
  refine vc_reg (S := ⟨[(1, .p (.int .i64 a1_)), (2, .p (.int .i64 a2_)), (3, .p (.int .i64 a3_)), (4, .loc 4 0)], [(4, [.p (.sl 2 false (List.map e_api_Entry a0_.Entries)), .p (.int .i64 a0_.Cycle)])], []⟩) (APath.fin (by kernel_rfl)) (by kernel_rfl) ?_
  refine vc_seq ?_
  refine vc_seq ?_
  obtain ⟨r1, hr1, h⟩ := bind_some h
  refine vc_reg (S := ⟨[(1, .p (.int .i64 a1_)), (2, .p (.int .i64 a2_)), (3, .p (.int .i64 a3_)), (9, .p (.int .i64 r1))], [], []⟩) (APath.chunk 1 (by kernel_rfl) (APath.one (.call (some 11) 15 [.t 10]) (by kernel_rfl) (st_call (by kernel_rfl) (gates_Check_ok N a0_ r1 hr1)) (APath.fin (by kernel_rfl)))) (by kernel_rfl) ?_
  refine vc_seq ?_
  refine vc_reg (S := ⟨[(1, .p (.int .i64 a1_)), (2, .p (.int .i64 a2_)), (3, .p (.int .i64 a3_)), (9, .p (.int .i64 r1)), (13, .p (.bool (r1 != 0)))], [], []⟩) (APath.fin (by kernel_rfl)) (by kernel_rfl) ?_
  refine vc_ite (by kernel_rfl) h (fun hc2 h => ?_) (fun hc2 h => ?_)
  · refine vc_seq ?_
    refine vc_reg (S := ⟨[(8, .p (.int .i64 r1))], [], []⟩) (APath.fin (by kernel_rfl)) (by kernel_rfl) ?_
    refine vc_ret ?_
    obtain rfl := some_inj h
    exact ret_of (by kernel_rfl)
  · refine vc_skip ?_
    refine vc_kp ?_
    refine vc_seq ?_
    refine vc_seq ?_
    refine vc_regX ⟨[(36, .p (.bool ((decide (a1_ < 0)) || ((decide (a1_ ≥ 8)) || ((decide (a2_ < (-1099511627776))) || ((decide (a2_ > 1099511627776)) || ((decide (a3_ < 0)) || (decide (a3_ > 1099511627776)))))))))], [], []⟩ ?_ ?_
    · rcases Bool.eq_false_or_eq_true (decide (a1_ < 0)) with hc3 | hc4
      · exact ⟨_, (APath.chunk 1 (by kernel_rfl) (APath.one (.val 16 (.bin .lss) [.t 15, .k (.p (.int .i64 0))]) (by kernel_rfl) (st_bool (c := (decide (a1_ < 0))) (by kernel_rfl) hc3) (APath.fin (by kernel_rfl)))), by simp only [hc3]; kernel_rfl⟩
      · rcases Bool.eq_false_or_eq_true (decide (a1_ ≥ 8)) with hc5 | hc6
        · exact ⟨_, (APath.chunk 1 (by kernel_rfl) (APath.one (.val 16 (.bin .lss) [.t 15, .k (.p (.int .i64 0))]) (by kernel_rfl) (st_bool (c := (decide (a1_ < 0))) (by kernel_rfl) hc4) (APath.chunk 2 (by kernel_rfl) (APath.oneG (.val 19 (.bin .geq) [.t 18, .k (.p (.int .i64 8))]) 17 false (by kernel_rfl) (by kernel_rfl) (st_bool (c := (decide (a1_ ≥ 8))) (by kernel_rfl) hc5) (APath.fin (by kernel_rfl)))))), by simp only [hc4, hc5]; kernel_rfl⟩
        · rcases Bool.eq_false_or_eq_true (decide (a2_ < (-1099511627776))) with hc7 | hc8
          · exact ⟨_, (APath.chunk 1 (by kernel_rfl) (APath.one (.val 16 (.bin .lss) [.t 15, .k (.p (.int .i64 0))]) (by kernel_rfl) (st_bool (c := (decide (a1_ < 0))) (by kernel_rfl) hc4) (APath.chunk 2 (by kernel_rfl) (APath.oneG (.val 19 (.bin .geq) [.t 18, .k (.p (.int .i64 8))]) 17 false (by kernel_rfl) (by kernel_rfl) (st_bool (c := (decide (a1_ ≥ 8))) (by kernel_rfl) hc6) (APath.chunk 3 (by kernel_rfl) (APath.oneG (.val 23 (.bin .lss) [.t 22, .k (.p (.int .i64 (-1099511627776)))]) 21 false (by kernel_rfl) (by kernel_rfl) (st_bool (c := (decide (a2_ < (-1099511627776)))) (by kernel_rfl) hc7) (APath.fin (by kernel_rfl)))))))), by simp only [hc4, hc6, hc7]; kernel_rfl⟩
          · rcases Bool.eq_false_or_eq_true (decide (a2_ > 1099511627776)) with hc9 | hc10
            · exact ⟨_, (APath.chunk 1 (by kernel_rfl) (APath.one (.val 16 (.bin .lss) [.t 15, .k (.p (.int .i64 0))]) (by kernel_rfl) (st_bool (c := (decide (a1_ < 0))) (by kernel_rfl) hc4) (APath.chunk 2 (by kernel_rfl) (APath.oneG (.val 19 (.bin .geq) [.t 18, .k (.p (.int .i64 8))]) 17 false (by kernel_rfl) (by kernel_rfl) (st_bool (c := (decide (a1_ ≥ 8))) (by kernel_rfl) hc6) (APath.chunk 3 (by kernel_rfl) (APath.oneG (.val 23 (.bin .lss) [.t 22, .k (.p (.int .i64 (-1099511627776)))]) 21 false (by kernel_rfl) (by kernel_rfl) (st_bool (c := (decide (a2_ < (-1099511627776)))) (by kernel_rfl) hc8) (APath.chunk 3 (by kernel_rfl) (APath.oneG (.val 27 (.bin .gtr) [.t 26, .k (.p (.int .i64 1099511627776))]) 25 false (by kernel_rfl) (by kernel_rfl) (st_bool (c := (decide (a2_ > 1099511627776))) (by kernel_rfl) hc9) (APath.fin (by kernel_rfl)))))))))), by simp only [hc4, hc6, hc8, hc9]; kernel_rfl⟩
            · rcases Bool.eq_false_or_eq_true (decide (a3_ < 0)) with hc11 | hc12
              · exact ⟨_, (APath.chunk 1 (by kernel_rfl) (APath.one (.val 16 (.bin .lss) [.t 15, .k (.p (.int .i64 0))]) (by kernel_rfl) (st_bool (c := (decide (a1_ < 0))) (by kernel_rfl) hc4) (APath.chunk 2 (by kernel_rfl) (APath.oneG (.val 19 (.bin .geq) [.t 18, .k (.p (.int .i64 8))]) 17 false (by kernel_rfl) (by kernel_rfl) (st_bool (c := (decide (a1_ ≥ 8))) (by kernel_rfl) hc6) (APath.chunk 3 (by kernel_rfl) (APath.oneG (.val 23 (.bin .lss) [.t 22, .k (.p (.int .i64 (-1099511627776)))]) 21 false (by kernel_rfl) (by kernel_rfl) (st_bool (c := (decide (a2_ < (-1099511627776)))) (by kernel_rfl) hc8) (APath.chunk 3 (by kernel_rfl) (APath.oneG (.val 27 (.bin .gtr) [.t 26, .k (.p (.int .i64 1099511627776))]) 25 false (by kernel_rfl) (by kernel_rfl) (st_bool (c := (decide (a2_ > 1099511627776))) (by kernel_rfl) hc10) (APath.chunk 3 (by kernel_rfl) (APath.oneG (.val 31 (.bin .lss) [.t 30, .k (.p (.int .i64 0))]) 29 false (by kernel_rfl) (by kernel_rfl) (st_bool (c := (decide (a3_ < 0))) (by kernel_rfl) hc11) (APath.fin (by kernel_rfl)))))))))))), by simp only [hc4, hc6, hc8, hc10, hc11]; kernel_rfl⟩
              · exact ⟨_, (APath.chunk 1 (by kernel_rfl) (APath.one (.val 16 (.bin .lss) [.t 15, .k (.p (.int .i64 0))]) (by kernel_rfl) (st_bool (c := (decide (a1_ < 0))) (by kernel_rfl) hc4) (APath.chunk 2 (by kernel_rfl) (APath.oneG (.val 19 (.bin .geq) [.t 18, .k (.p (.int .i64 8))]) 17 false (by kernel_rfl) (by kernel_rfl) (st_bool (c := (decide (a1_ ≥ 8))) (by kernel_rfl) hc6) (APath.chunk 3 (by kernel_rfl) (APath.oneG (.val 23 (.bin .lss) [.t 22, .k (.p (.int .i64 (-1099511627776)))]) 21 false (by kernel_rfl) (by kernel_rfl) (st_bool (c := (decide (a2_ < (-1099511627776)))) (by kernel_rfl) hc8) (APath.chunk 3 (by kernel_rfl) (APath.oneG (.val 27 (.bin .gtr) [.t 26, .k (.p (.int .i64 1099511627776))]) 25 false (by kernel_rfl) (by kernel_rfl) (st_bool (c := (decide (a2_ > 1099511627776))) (by kernel_rfl) hc10) (APath.chunk 3 (by kernel_rfl) (APath.oneG (.val 31 (.bin .lss) [.t 30, .k (.p (.int .i64 0))]) 29 false (by kernel_rfl) (by kernel_rfl) (st_bool (c := (decide (a3_ < 0))) (by kernel_rfl) hc12) (APath.fin (by kernel_rfl)))))))))))), by simp only [hc4, hc6, hc8, hc10, hc12]; kernel_rfl⟩
    · refine vc_ite (by kernel_rfl) h (fun hc13 h => ?_) (fun hc13 h => ?_)
      · refine vc_seq ?_
        refine vc_reg (S := ⟨[(8, .p (.int .i64 2))], [], []⟩) (APath.fin (by kernel_rfl)) (by kernel_rfl) ?_
        refine vc_ret ?_
        obtain rfl := some_inj h
        exact ret_of (by kernel_rfl)
      · refine vc_skip ?_
        refine vc_kp ?_
        refine vc_seq ?_
        refine vc_reg (S := ⟨[(8, .p (.int .i64 0))], [], []⟩) (APath.fin (by kernel_rfl)) (by kernel_rfl) ?_
        refine vc_ret ?_
        obtain rfl := some_inj h
        exact ret_of (by kernel_rfl)
/- gates.find -/
theorem gates_find_ok (N : Nat) (a0_ : api_Gates) (a1_ : Int) (r : Int × Int) (h : gates_find N a0_ a1_ = some r) : PCall Try.prog 31 [.agg [.p (.sl 2 false (List.map e_api_Entry a0_.Entries)), .p (.int .i64 a0_.Cycle)], .p (.int .i64 a1_)] (.tup [.p (.int .i64 r.1), .p (.int .i64 r.2)]) := by
  unfold gates_find at h
  have hH : HP ([] : List HO) [] := trivial
  refine pcall_of chk31 rfl rfl (vc_sound _ _ _ ?_) rfl
  refine vc_seq ?_
  refine vc_reg (S := ⟨[(1, .p (.int .i64 a1_)), (2, .loc 2 0), (4, .p (.int .i64 0))], [(2, [.p (.sl 2 false (List.map e_api_Entry a0_.Entries)), .p (.int .i64 a0_.Cycle)])], []⟩) (APath.fin (by kernel_rfl)) (by kernel_rfl) ?_
  refine vc_scope (scope_simX 0 (by kernel_rfl) ?_)
  obtain ⟨m1, hm1, h⟩ := bind_some h
  obtain ⟨m2, hm2, h⟩ := bind_some h
  refine vc_regD (S := ⟨[(1, .p (.int .i64 m2)), (2, .loc 2 0), (4, .p (.int .i64 0))], [(2, [.p (.sl 2 false (List.map e_api_Entry a0_.Entries)), .p (.int .i64 a0_.Cycle)])], []⟩) (by kernel_rfl) (APath.chunk 3 (by kernel_rfl) (APath.one (.val 9 (.bin .rem) [.t 6, .t 8]) (by kernel_rfl) (st_val (ys := [.p (.int .i64 a1_), .p (.int .i64 a0_.Cycle)]) (by kernel_rfl) (vexec_rem hm1)) (APath.chunk 5 (by kernel_rfl) (APath.one (.val 15 (.bin .rem) [.t 12, .t 14]) (by kernel_rfl) (st_val (ys := [.p (.int .i64 (w64 (m1 + a0_.Cycle))), .p (.int .i64 a0_.Cycle)]) (by kernel_rfl) (vexec_rem hm2)) (APath.fin (by kernel_rfl)))))) (by kernel_rfl) ?_
  refine ⟨rfl, ?_⟩
  obtain ⟨o509, ho509, h⟩ := bind_some h
  refine ScopeOK.mk (fun (x : Int × Int) s => s = ⟨[(1, .p (.int .i64 x.1)), (2, .loc 2 0), (4, .p (.int .i64 x.2))], [(2, [.p (.sl 2 false (List.map e_api_Entry a0_.Entries)), .p (.int .i64 a0_.Cycle)])], []⟩) (fun x : Int × Int => gates_find_L1 N a0_ x.1 x.2) (fun (p : Int × Int) e s => e = .ret ∧ ∃ xs, resL s i31.res = some xs ∧ tupOf xs = .tup [.p (.int .i64 p.1), .p (.int .i64 p.2)]) ho509 (by show _ = _; kernel_rfl) ?_ ?_
  · clear h ho509
    rintro ⟨i3, i4⟩ o s h hR
    obtain rfl := hR
    replace h : gates_find_L1 N a0_ i3 i4 = some o := h
    unfold gates_find_L1 at h
    refine vc_seq ?_
    refine vc_seq ?_
    obtain ⟨e505, he505, h⟩ := bind_some h
    refine vc_reg (S := ⟨[(1, .p (.int .i64 i3)), (2, .loc 2 0), (4, .p (.int .i64 i4)), (23, .p (.bool (decide (i3 ≥ e505.Long))))], [(2, [.p (.sl 2 false (List.map e_api_Entry a0_.Entries)), .p (.int .i64 a0_.Cycle)])], []⟩) (APath.chunk 4 (by kernel_rfl) (APath.one (.val 20 (.iaddrS 2) [.t 18, .t 19]) (by kernel_rfl) (st_val (ys := [.p (.sl 2 false (List.map e_api_Entry a0_.Entries)), .p (.int .i64 i4)]) (by kernel_rfl) (vexec_iaddrS e_api_Entry he505)) (APath.chunk 1 (by kernel_rfl) (APath.one (.load 22 (.t 21) 1 false) (by kernel_rfl) (st_loadP (sz := 2) (off := 1) (cs := [.int .i64 e505.Long]) (r := .p (.int .i64 e505.Long)) e_api_Entry he505 (by kernel_rfl) (by kernel_rfl) (by kernel_rfl)) (APath.fin (by kernel_rfl)))))) (by kernel_rfl) ?_
    refine vc_ite (by kernel_rfl) h (fun hc506 h => ?_) (fun hc506 h => ?_)
    · refine vc_seq ?_
      obtain ⟨e507, he507, h⟩ := bind_some h
      refine vc_reg (S := ⟨[(1, .p (.int .i64 (w64 (i3 - e507.Long)))), (2, .loc 2 0), (4, .p (.int .i64 i4))], [(2, [.p (.sl 2 false (List.map e_api_Entry a0_.Entries)), .p (.int .i64 a0_.Cycle)])], []⟩) (APath.chunk 4 (by kernel_rfl) (APath.one (.val 28 (.iaddrS 2) [.t 26, .t 27]) (by kernel_rfl) (st_val (ys := [.p (.sl 2 false (List.map e_api_Entry a0_.Entries)), .p (.int .i64 i4)]) (by kernel_rfl) (vexec_iaddrS e_api_Entry he507)) (APath.chunk 1 (by kernel_rfl) (APath.one (.load 30 (.t 29) 1 false) (by kernel_rfl) (st_loadP (sz := 2) (off := 1) (cs := [.int .i64 e507.Long]) (r := .p (.int .i64 e507.Long)) e_api_Entry he507 (by kernel_rfl) (by kernel_rfl) (by kernel_rfl)) (APath.fin (by kernel_rfl)))))) (by kernel_rfl) ?_
      refine vc_seq ?_
      refine vc_reg (S := ⟨[(1, .p (.int .i64 (w64 (i3 - e507.Long)))), (2, .loc 2 0), (4, .p (.int .i64 (w64 (i4 + 1))))], [(2, [.p (.sl 2 false (List.map e_api_Entry a0_.Entries)), .p (.int .i64 a0_.Cycle)])], []⟩) (APath.fin (by kernel_rfl)) (by kernel_rfl) ?_
      refine vc_goto ?_
      obtain rfl := some_inj h
      exact ⟨rfl, _, rfl, (by show _ = _; kernel_rfl)⟩
    · refine vc_skip ?_
      refine vc_kp ?_
      refine vc_seq ?_
      obtain ⟨e508, he508, h⟩ := bind_some h
      refine vc_regD (S := ⟨[(4, .p (.int .i64 i4)), (5, .p (.int .i64 (w64 (e508.Long - i3))))], [], []⟩) (by kernel_rfl) (APath.chunk 4 (by kernel_rfl) (APath.one (.val 38 (.iaddrS 2) [.t 36, .t 37]) (by kernel_rfl) (st_val (ys := [.p (.sl 2 false (List.map e_api_Entry a0_.Entries)), .p (.int .i64 i4)]) (by kernel_rfl) (vexec_iaddrS e_api_Entry he508)) (APath.chunk 1 (by kernel_rfl) (APath.one (.load 40 (.t 39) 1 false) (by kernel_rfl) (st_loadP (sz := 2) (off := 1) (cs := [.int .i64 e508.Long]) (r := .p (.int .i64 e508.Long)) e_api_Entry he508 (by kernel_rfl) (by kernel_rfl) (by kernel_rfl)) (APath.fin (by kernel_rfl)))))) (by kernel_rfl) ?_
      refine vc_ret ?_
      obtain rfl := some_inj h
      exact ⟨_, rfl, rfl, ret_of (by kernel_rfl)⟩
  · rintro e s _ hq
    obtain ⟨rfl, hq⟩ := hq
    obtain rfl := some_inj h
    exact hq
/- gates.stretch -/
theorem gates_stretch_ok (N : Nat) (a0_ : api_Gates) (a1_ : Int) (a2_ : Int → Option (Bool)) (a2_f : Nat) (a2_p a2_c : List AV) (ha2_n : (noLocL a2_p && noLocL a2_c) = true) (its : List Thing) (ha2_ : ∀ (H : List HO) (x0 : Int) (r : Bool), HP H its → a2_ x0 = some r → VCall Try.prog (.fn a2_f a2_p a2_c) [.p (.int .i64 x0)] H (.p (.bool r)) H) (H : List HO) (hH : HP H (its)) (r : Int) (h : gates_stretch N a0_ a1_ a2_ = some r) : ACall Try.prog 34 [.agg [.p (.sl 2 false (List.map e_api_Entry a0_.Entries)), .p (.int .i64 a0_.Cycle)], .p (.int .i64 a1_), .fn a2_f a2_p a2_c] H (.p (.int .i64 r)) H := by
  unfold gates_stretch at h
  refine acall_of chk34 rfl (by simpa [noLocL, noLoc.noLocL, noLoc] using ha2_n) rfl (vc_sound _ _ _ ?_)
  refine vc_seq ?_
  refine vc_reg (S := ⟨[(1, .p (.int .i64 a1_)), (2, .fn a2_f a2_p a2_c), (3, .loc 3 0)], [(3, [.p (.sl 2 false (List.map e_api_Entry a0_.Entries)), .p (.int .i64 a0_.Cycle)])], H⟩) (APath.fin (by kernel_rfl)) (by kernel_rfl) ?_
  refine vc_seq ?_
  obtain ⟨r1, hr1, h⟩ := bind_some h
  refine vc_reg (S := ⟨[(2, .fn a2_f a2_p a2_c), (3, .loc 3 0), (7, .p (.int .i64 r1.1)), (8, .p (.int .i64 r1.2))], [(3, [.p (.sl 2 false (List.map e_api_Entry a0_.Entries)), .p (.int .i64 a0_.Cycle)])], H⟩) (APath.chunk 2 (by kernel_rfl) (APath.one (.call (some 13) 31 [.t 11, .t 12]) (by kernel_rfl) (st_call (by kernel_rfl) (gates_find_ok N a0_ a1_ r1 hr1)) (APath.fin (by kernel_rfl)))) (by kernel_rfl) ?_
  refine vc_seq ?_
  refine vc_reg (S := ⟨[(2, .fn a2_f a2_p a2_c), (3, .loc 3 0), (7, .p (.int .i64 r1.1)), (8, .p (.int .i64 r1.2)), (9, .p (.int .i64 0))], [(3, [.p (.sl 2 false (List.map e_api_Entry a0_.Entries)), .p (.int .i64 a0_.Cycle)])], H⟩) (APath.fin (by kernel_rfl)) (by kernel_rfl) ?_
  refine vc_seq ?_
  refine vc_seq ?_
  refine vc_reg (S := ⟨[(2, .fn a2_f a2_p a2_c), (3, .loc 3 0), (7, .p (.int .i64 r1.1)), (8, .p (.int .i64 r1.2)), (9, .p (.int .i64 0)), (19, .p (.int .i64 (w64 (((List.length a0_.Entries : Nat) : Int) + 1)))), (20, .p (.int .i64 0))], [(3, [.p (.sl 2 false (List.map e_api_Entry a0_.Entries)), .p (.int .i64 a0_.Cycle)])], H⟩) (APath.chunk 2 (by kernel_rfl) (APath.one (.val 18 .len [.t 17]) (by kernel_rfl) (st_val (ys := [.p (.sl 2 false (List.map e_api_Entry a0_.Entries))]) (by kernel_rfl) (vexec_len e_api_Entry)) (APath.fin (by kernel_rfl)))) (by kernel_rfl) ?_
  refine vc_block ?_
  obtain ⟨o512, ho512, h⟩ := bind_some h
  refine vc_loop ((loop_sim (fun (x : Int × Int × Int × Int) s => s = ⟨[(2, .fn a2_f a2_p a2_c), (3, .loc 3 0), (7, .p (.int .i64 x.1)), (8, .p (.int .i64 x.2.1)), (9, .p (.int .i64 x.2.2.1)), (19, .p (.int .i64 (w64 (((List.length a0_.Entries : Nat) : Int) + 1)))), (20, .p (.int .i64 x.2.2.2))], [(3, [.p (.sl 2 false (List.map e_api_Entry a0_.Entries)), .p (.int .i64 a0_.Cycle)])], H⟩) (fun x : Int × Int × Int × Int => gates_stretch_L1 N a0_ a2_ x.1 x.2.1 x.2.2.1 x.2.2.2) (fun (p : (Int × Int × Int × Int) ⊕ (Int)) e s => match p with | (.inl p) => e = .exit 0 ∧ (s = ⟨[(2, .fn a2_f a2_p a2_c), (3, .loc 3 0), (7, .p (.int .i64 p.1)), (8, .p (.int .i64 p.2.1)), (9, .p (.int .i64 p.2.2.1)), (19, .p (.int .i64 (w64 (((List.length a0_.Entries : Nat) : Int) + 1)))), (20, .p (.int .i64 p.2.2.2))], [(3, [.p (.sl 2 false (List.map e_api_Entry a0_.Entries)), .p (.int .i64 a0_.Cycle)])], H⟩) | (.inr p) => e = .ret ∧ ∃ xs, rawL s i34.res = some xs ∧ tupOf xs = .p (.int .i64 p) ∧ s.H = H) ?_ N _ o512 _ ho512 (by show _ = _; kernel_rfl)).mono ?_)
  · clear h ho512
    rintro ⟨i2, i3, i4, i5⟩ o s h hR
    obtain rfl := hR
    replace h : gates_stretch_L1 N a0_ a2_ i2 i3 i4 i5 = some o := h
    unfold gates_stretch_L1 at h
    refine vc_seq ?_
    refine vc_reg (S := ⟨[(2, .fn a2_f a2_p a2_c), (3, .loc 3 0), (7, .p (.int .i64 i2)), (8, .p (.int .i64 i3)), (9, .p (.int .i64 i4)), (19, .p (.int .i64 (w64 (((List.length a0_.Entries : Nat) : Int) + 1)))), (20, .p (.int .i64 i5)), (21, .p (.bool (decide (i5 < (w64 (((List.length a0_.Entries : Nat) : Int) + 1))))))], [(3, [.p (.sl 2 false (List.map e_api_Entry a0_.Entries)), .p (.int .i64 a0_.Cycle)])], H⟩) (APath.fin (by kernel_rfl)) (by kernel_rfl) ?_
    refine vc_seq ?_
    refine vc_ite (by kernel_rfl) h (fun hc506 h => ?_) (fun hc506 h => ?_)
    · refine vc_skip ?_
      refine vc_kp ?_
      refine vc_seq ?_
      refine vc_block ?_
      refine vc_seq ?_
      refine vc_seq ?_
      obtain ⟨e507, he507, h⟩ := bind_some h
      obtain ⟨r508, hr508, h⟩ := bind_some h
      have hvr508 := ha2_ _ e507.Mask _ hH hr508
      refine vc_reg (S := ⟨[(2, .fn a2_f a2_p a2_c), (3, .loc 3 0), (7, .p (.int .i64 i2)), (8, .p (.int .i64 i3)), (9, .p (.int .i64 i4)), (19, .p (.int .i64 (w64 (((List.length a0_.Entries : Nat) : Int) + 1)))), (20, .p (.int .i64 i5)), (30, .p (.bool (!r508)))], [(3, [.p (.sl 2 false (List.map e_api_Entry a0_.Entries)), .p (.int .i64 a0_.Cycle)])], H⟩) (APath.chunk 4 (by kernel_rfl) (APath.one (.val 26 (.iaddrS 2) [.t 24, .t 25]) (by kernel_rfl) (st_val (ys := [.p (.sl 2 false (List.map e_api_Entry a0_.Entries)), .p (.int .i64 i2)]) (by kernel_rfl) (vexec_iaddrS e_api_Entry he507)) (APath.chunk 1 (by kernel_rfl) (APath.one (.load 28 (.t 27) 1 false) (by kernel_rfl) (st_loadP (sz := 2) (off := 0) (cs := [.int .i64 e507.Mask]) (r := .p (.int .i64 e507.Mask)) e_api_Entry he507 (by kernel_rfl) (by kernel_rfl) (by kernel_rfl)) (APath.one (.callV (some 29) (.t 22) [.t 28]) (by kernel_rfl) (st_callV (H := H) (ys := [.p (.int .i64 e507.Mask)]) (by kernel_rfl) (by kernel_rfl) (by kernel_rfl) hvr508) (APath.fin (by kernel_rfl))))))) (by kernel_rfl) ?_
      refine vc_ite (by kernel_rfl) h (fun hc509 h => ?_) (fun hc509 h => ?_)
      · refine vc_seq ?_
        refine vc_reg (S := ⟨[(6, .p (.int .i64 i4))], [], H⟩) (APath.fin (by kernel_rfl)) (by kernel_rfl) ?_
        refine vc_ret ?_
        obtain rfl := some_inj h
        exact ⟨_, rfl, rfl, ret_ofA (by kernel_rfl) (by kernel_rfl)⟩
      · refine vc_skip ?_
        refine vc_kp ?_
        refine vc_seq ?_
        refine vc_reg (S := ⟨[(2, .fn a2_f a2_p a2_c), (3, .loc 3 0), (7, .p (.int .i64 i2)), (9, .p (.int .i64 (w64 (i4 + i3)))), (19, .p (.int .i64 (w64 (((List.length a0_.Entries : Nat) : Int) + 1)))), (20, .p (.int .i64 i5))], [(3, [.p (.sl 2 false (List.map e_api_Entry a0_.Entries)), .p (.int .i64 a0_.Cycle)])], H⟩) (APath.fin (by kernel_rfl)) (by kernel_rfl) ?_
        refine vc_seq ?_
        obtain ⟨m510, hm510, h⟩ := bind_some h
        refine vc_reg (S := ⟨[(2, .fn a2_f a2_p a2_c), (3, .loc 3 0), (7, .p (.int .i64 m510)), (9, .p (.int .i64 (w64 (i4 + i3)))), (19, .p (.int .i64 (w64 (((List.length a0_.Entries : Nat) : Int) + 1)))), (20, .p (.int .i64 i5))], [(3, [.p (.sl 2 false (List.map e_api_Entry a0_.Entries)), .p (.int .i64 a0_.Cycle)])], H⟩) (APath.chunk 4 (by kernel_rfl) (APath.one (.val 39 .len [.t 38]) (by kernel_rfl) (st_val (ys := [.p (.sl 2 false (List.map e_api_Entry a0_.Entries))]) (by kernel_rfl) (vexec_len e_api_Entry)) (APath.one (.val 40 (.bin .rem) [.t 36, .t 39]) (by kernel_rfl) (st_val (ys := [.p (.int .i64 (w64 (i2 + 1))), .p (.int .i64 ((List.length a0_.Entries : Nat) : Int))]) (by kernel_rfl) (vexec_rem hm510)) (APath.fin (by kernel_rfl))))) (by kernel_rfl) ?_
        obtain ⟨e511, he511, h⟩ := bind_some h
        refine vc_reg (S := ⟨[(2, .fn a2_f a2_p a2_c), (3, .loc 3 0), (7, .p (.int .i64 m510)), (8, .p (.int .i64 e511.Long)), (9, .p (.int .i64 (w64 (i4 + i3)))), (19, .p (.int .i64 (w64 (((List.length a0_.Entries : Nat) : Int) + 1)))), (20, .p (.int .i64 i5))], [(3, [.p (.sl 2 false (List.map e_api_Entry a0_.Entries)), .p (.int .i64 a0_.Cycle)])], H⟩) (APath.chunk 3 (by kernel_rfl) (APath.one (.val 44 (.iaddrS 2) [.t 42, .t 43]) (by kernel_rfl) (st_val (ys := [.p (.sl 2 false (List.map e_api_Entry a0_.Entries)), .p (.int .i64 m510)]) (by kernel_rfl) (vexec_iaddrS e_api_Entry he511)) (APath.chunk 1 (by kernel_rfl) (APath.one (.load 46 (.t 45) 1 false) (by kernel_rfl) (st_loadP (sz := 2) (off := 1) (cs := [.int .i64 e511.Long]) (r := .p (.int .i64 e511.Long)) e_api_Entry he511 (by kernel_rfl) (by kernel_rfl) (by kernel_rfl)) (APath.fin (by kernel_rfl)))))) (by kernel_rfl) ?_
        refine vc_kp ?_
        refine vc_reg (S := ⟨[(2, .fn a2_f a2_p a2_c), (3, .loc 3 0), (7, .p (.int .i64 m510)), (8, .p (.int .i64 e511.Long)), (9, .p (.int .i64 (w64 (i4 + i3)))), (19, .p (.int .i64 (w64 (((List.length a0_.Entries : Nat) : Int) + 1)))), (20, .p (.int .i64 (w64 (i5 + 1))))], [(3, [.p (.sl 2 false (List.map e_api_Entry a0_.Entries)), .p (.int .i64 a0_.Cycle)])], H⟩) (APath.fin (by kernel_rfl)) (by kernel_rfl) ?_
        obtain rfl := some_inj h
        exact ⟨_, rfl, (by show _ = _; kernel_rfl)⟩
    · refine vc_exit ?_
      try show vc _ _ _ _ _
      obtain rfl := some_inj h
      exact ⟨_, rfl, rfl, (by show _ = _; kernel_rfl)⟩
  · rintro e s hq
    rcases o512 with p513 | p514
    · dsimp only at h hq
      obtain ⟨rfl, hR⟩ := hq
      obtain rfl := hR
      try show vc _ _ _ _ _
      refine vc_seq ?_
      refine vc_reg (S := ⟨[(6, .p (.int .i64 a0_.Cycle))], [], H⟩) (APath.fin (by kernel_rfl)) (by kernel_rfl) ?_
      refine vc_ret ?_
      obtain rfl := some_inj h
      exact ret_ofA (by kernel_rfl) (by kernel_rfl)
    · dsimp only at h hq
      obtain ⟨rfl, hq⟩ := hq
      obtain rfl := some_inj h
      exact hq
/- gates.Turn$1 -/
theorem gates_Turn_1_ok (N : Nat) (a0_ : Int) (c0_ : Int) (k0_ : Nat) (H : List HO) (hH : HP H [.cel k0_ [.p (.int .i64 c0_)]]) (r : Bool) (h : gates_Turn_1 N a0_ c0_ = some r) : ACall Try.prog 35 [.p (.int .i64 a0_), .ptr k0_ 0] H (.p (.bool r)) H := by
  unfold gates_Turn_1 at h
  refine acall_of chk35 rfl rfl rfl (vc_sound _ _ _ ?_)
  refine vc_seq ?_
  refine vc_reg (S := ⟨[(0, .p (.int .i64 a0_)), (1, .ptr k0_ 0)], [], H⟩) (APath.fin (by kernel_rfl)) (by kernel_rfl) ?_
  refine vc_seq ?_
  have hlc1 := HP.get hH 0 rfl
  refine vc_reg (S := ⟨[(3, .p (.bool (a0_ == c0_)))], [], H⟩) (APath.chunk 1 (by kernel_rfl) (APath.one (.load 5 (.t 1) 1 false) (by kernel_rfl) (st_loadC (H := H) (id := k0_) (off := 0) (cs := [.p (.int .i64 c0_)]) (c := [.p (.int .i64 c0_)]) (r := .p (.int .i64 c0_)) (by kernel_rfl) (by kernel_rfl) hlc1 (by kernel_rfl) (by kernel_rfl) (by kernel_rfl)) (APath.fin (by kernel_rfl)))) (by kernel_rfl) ?_
  replace hH : HP H [] := HP.pick hH [] rfl
  refine vc_ret ?_
  obtain rfl := some_inj h
  exact ret_ofA (by kernel_rfl) (by kernel_rfl)
/- isochronref27.At -/
theorem ref27_At_ok (N : Nat) (a0_ : api_Gates) (a1_ : Int) (r : Int × Int) (h : ref27_At N a0_ a1_ = some r) : PCall Try.prog 36 [.agg [.p (.sl 2 false (List.map e_api_Entry a0_.Entries)), .p (.int .i64 a0_.Cycle)], .p (.int .i64 a1_)] (.tup [.p (.int .i64 r.1), .p (.int .i64 r.2)]) := by
  unfold ref27_At at h
  have hH : HP ([] : List HO) [] := trivial
  refine pcall_of chk36 rfl rfl (vc_sound _ _ _ ?_) rfl
  refine vc_seq ?_
  refine vc_reg (S := ⟨[(1, .p (.int .i64 a1_)), (2, .loc 2 0)], [(2, [.p (.sl 2 false (List.map e_api_Entry a0_.Entries)), .p (.int .i64 a0_.Cycle)])], []⟩) (APath.fin (by kernel_rfl)) (by kernel_rfl) ?_
  refine vc_seq ?_
  obtain ⟨m1, hm1, h⟩ := bind_some h
  refine vc_reg (S := ⟨[(2, .loc 2 0), (6, .p (.int .i64 m1))], [(2, [.p (.sl 2 false (List.map e_api_Entry a0_.Entries)), .p (.int .i64 a0_.Cycle)])], []⟩) (APath.chunk 3 (by kernel_rfl) (APath.one (.val 11 (.bin .rem) [.t 8, .t 10]) (by kernel_rfl) (st_val (ys := [.p (.int .i64 a1_), .p (.int .i64 a0_.Cycle)]) (by kernel_rfl) (vexec_rem hm1)) (APath.fin (by kernel_rfl)))) (by kernel_rfl) ?_
  obtain ⟨j502, hj502, h⟩ := bind_some h
  refine vc_joinK [2, 6] (fun s => s = ⟨[(2, .loc 2 0), (6, .p (.int .i64 j502))], [(2, [.p (.sl 2 false (List.map e_api_Entry a0_.Entries)), .p (.int .i64 a0_.Cycle)])], []⟩) ?_ ?_
  · clear h
    have h := hj502
    refine vc_seq ?_
    refine vc_reg (S := ⟨[(2, .loc 2 0), (6, .p (.int .i64 m1)), (13, .p (.bool (decide (m1 < 0))))], [(2, [.p (.sl 2 false (List.map e_api_Entry a0_.Entries)), .p (.int .i64 a0_.Cycle)])], []⟩) (APath.fin (by kernel_rfl)) (by kernel_rfl) ?_
    refine vc_ite (by kernel_rfl) h (fun hc503 h => ?_) (fun hc503 h => ?_)
    · refine vc_reg (S := ⟨[(2, .loc 2 0), (6, .p (.int .i64 (w64 (m1 + a0_.Cycle))))], [(2, [.p (.sl 2 false (List.map e_api_Entry a0_.Entries)), .p (.int .i64 a0_.Cycle)])], []⟩) (APath.fin (by kernel_rfl)) (by kernel_rfl) ?_
      obtain rfl := some_inj h
      exact ⟨rfl, (by show _ = _; kernel_rfl)⟩
    · refine vc_skip ?_
      obtain rfl := some_inj h
      exact ⟨rfl, (by show _ = _; kernel_rfl)⟩
  · clear hj502
    rintro s hR
    obtain rfl := hR
    refine vc_seq ?_
    refine vc_reg (S := ⟨[(2, .loc 2 0), (6, .p (.int .i64 j502)), (7, .p (.int .i64 0))], [(2, [.p (.sl 2 false (List.map e_api_Entry a0_.Entries)), .p (.int .i64 a0_.Cycle)])], []⟩) (APath.fin (by kernel_rfl)) (by kernel_rfl) ?_
    refine vc_seq ?_
    refine vc_block ?_
    obtain ⟨o1009, ho1009, h⟩ := bind_some h
    refine vc_loop ((loop_sim (fun (x : Int × Int) s => s = ⟨[(2, .loc 2 0), (6, .p (.int .i64 x.1)), (7, .p (.int .i64 x.2))], [(2, [.p (.sl 2 false (List.map e_api_Entry a0_.Entries)), .p (.int .i64 a0_.Cycle)])], []⟩) (fun x : Int × Int => ref27_At_L1 N a0_ x.1 x.2) (fun (p : Int × Int) e s => e = .exit 0 ∧ (s = ⟨[(2, .loc 2 0), (6, .p (.int .i64 p.1)), (7, .p (.int .i64 p.2))], [(2, [.p (.sl 2 false (List.map e_api_Entry a0_.Entries)), .p (.int .i64 a0_.Cycle)])], []⟩)) ?_ N _ o1009 _ ho1009 (by show _ = _; kernel_rfl)).mono ?_)
    · clear h ho1009
      rintro ⟨i504, i505⟩ o s h hR
      obtain rfl := hR
      replace h : ref27_At_L1 N a0_ i504 i505 = some o := h
      unfold ref27_At_L1 at h
      refine vc_seq ?_
      refine vc_seq ?_
      obtain ⟨e1006, he1006, h⟩ := bind_some h
      refine vc_reg (S := ⟨[(2, .loc 2 0), (6, .p (.int .i64 i504)), (7, .p (.int .i64 i505)), (25, .p (.bool (decide (i504 ≥ e1006.Long))))], [(2, [.p (.sl 2 false (List.map e_api_Entry a0_.Entries)), .p (.int .i64 a0_.Cycle)])], []⟩) (APath.chunk 4 (by kernel_rfl) (APath.one (.val 22 (.iaddrS 2) [.t 20, .t 21]) (by kernel_rfl) (st_val (ys := [.p (.sl 2 false (List.map e_api_Entry a0_.Entries)), .p (.int .i64 i505)]) (by kernel_rfl) (vexec_iaddrS e_api_Entry he1006)) (APath.chunk 1 (by kernel_rfl) (APath.one (.load 24 (.t 23) 1 false) (by kernel_rfl) (st_loadP (sz := 2) (off := 1) (cs := [.int .i64 e1006.Long]) (r := .p (.int .i64 e1006.Long)) e_api_Entry he1006 (by kernel_rfl) (by kernel_rfl) (by kernel_rfl)) (APath.fin (by kernel_rfl)))))) (by kernel_rfl) ?_
      refine vc_ite (by kernel_rfl) h (fun hc1007 h => ?_) (fun hc1007 h => ?_)
      · refine vc_skip ?_
        refine vc_kp ?_
        refine vc_block ?_
        refine vc_seq ?_
        obtain ⟨e1008, he1008, h⟩ := bind_some h
        refine vc_reg (S := ⟨[(2, .loc 2 0), (6, .p (.int .i64 (w64 (i504 - e1008.Long)))), (7, .p (.int .i64 i505))], [(2, [.p (.sl 2 false (List.map e_api_Entry a0_.Entries)), .p (.int .i64 a0_.Cycle)])], []⟩) (APath.chunk 4 (by kernel_rfl) (APath.one (.val 30 (.iaddrS 2) [.t 28, .t 29]) (by kernel_rfl) (st_val (ys := [.p (.sl 2 false (List.map e_api_Entry a0_.Entries)), .p (.int .i64 i505)]) (by kernel_rfl) (vexec_iaddrS e_api_Entry he1008)) (APath.chunk 1 (by kernel_rfl) (APath.one (.load 32 (.t 31) 1 false) (by kernel_rfl) (st_loadP (sz := 2) (off := 1) (cs := [.int .i64 e1008.Long]) (r := .p (.int .i64 e1008.Long)) e_api_Entry he1008 (by kernel_rfl) (by kernel_rfl) (by kernel_rfl)) (APath.fin (by kernel_rfl)))))) (by kernel_rfl) ?_
        refine vc_reg (S := ⟨[(2, .loc 2 0), (6, .p (.int .i64 (w64 (i504 - e1008.Long)))), (7, .p (.int .i64 (w64 (i505 + 1))))], [(2, [.p (.sl 2 false (List.map e_api_Entry a0_.Entries)), .p (.int .i64 a0_.Cycle)])], []⟩) (APath.fin (by kernel_rfl)) (by kernel_rfl) ?_
        obtain rfl := some_inj h
        exact ⟨_, rfl, (by show _ = _; kernel_rfl)⟩
      · refine vc_exit ?_
        try show vc _ _ _ _ _
        obtain rfl := some_inj h
        exact ⟨_, rfl, rfl, (by show _ = _; kernel_rfl)⟩
    · rintro e s hq
      obtain ⟨rfl, hR⟩ := hq
      obtain rfl := hR
      try show vc _ _ _ _ _
      refine vc_seq ?_
      refine vc_reg (S := ⟨[(4, .p (.int .i64 o1009.2)), (5, .p (.int .i64 o1009.1))], [], []⟩) (APath.fin (by kernel_rfl)) (by kernel_rfl) ?_
      refine vc_ret ?_
      obtain rfl := some_inj h
      exact ret_of (by kernel_rfl)
/- isochronref27.Right -/
theorem ref27_Right_ok (N : Nat) (a0_ : api_Gates) (r : Bool) (h : ref27_Right N a0_ = some r) : PCall Try.prog 37 [.agg [.p (.sl 2 false (List.map e_api_Entry a0_.Entries)), .p (.int .i64 a0_.Cycle)]] (.p (.bool r)) := by
  unfold ref27_Right at h
  have hH : HP ([] : List HO) [] := trivial
  refine pcall_of chk37 rfl rfl (vc_sound _ _ _ ?_) rfl
  refine vc_seq ?_
  refine vc_reg (S := ⟨[(1, .loc 1 0)], [(1, [.p (.sl 2 false (List.map e_api_Entry a0_.Entries)), .p (.int .i64 a0_.Cycle)])], []⟩) (APath.fin (by kernel_rfl)) (by kernel_rfl) ?_
  refine vc_seq ?_
  refine vc_seq ?_
  refine vc_regX ⟨[(1, .loc 1 0), (15, .p (.bool ((decide (((List.length a0_.Entries : Nat) : Int) < 1)) || (decide (((List.length a0_.Entries : Nat) : Int) > 128)))))], [(1, [.p (.sl 2 false (List.map e_api_Entry a0_.Entries)), .p (.int .i64 a0_.Cycle)])], []⟩ ?_ ?_
  · rcases Bool.eq_false_or_eq_true (decide (((List.length a0_.Entries : Nat) : Int) < 1)) with hc1 | hc2
    · exact ⟨_, (APath.chunk 2 (by kernel_rfl) (APath.one (.val 8 .len [.t 7]) (by kernel_rfl) (st_val (ys := [.p (.sl 2 false (List.map e_api_Entry a0_.Entries))]) (by kernel_rfl) (vexec_len e_api_Entry)) (APath.one (.val 9 (.bin .lss) [.t 8, .k (.p (.int .i64 1))]) (by kernel_rfl) (st_bool (c := (decide (((List.length a0_.Entries : Nat) : Int) < 1))) (by kernel_rfl) hc1) (APath.fin (by kernel_rfl))))), by simp only [hc1]; kernel_rfl⟩
    · exact ⟨_, (APath.chunk 2 (by kernel_rfl) (APath.one (.val 8 .len [.t 7]) (by kernel_rfl) (st_val (ys := [.p (.sl 2 false (List.map e_api_Entry a0_.Entries))]) (by kernel_rfl) (vexec_len e_api_Entry)) (APath.one (.val 9 (.bin .lss) [.t 8, .k (.p (.int .i64 1))]) (by kernel_rfl) (st_bool (c := (decide (((List.length a0_.Entries : Nat) : Int) < 1))) (by kernel_rfl) hc2) (APath.chunk 3 (by kernel_rfl) (APath.oneG (.val 13 .len [.t 12]) 10 false (by kernel_rfl) (by kernel_rfl) (st_val (ys := [.p (.sl 2 false (List.map e_api_Entry a0_.Entries))]) (by kernel_rfl) (vexec_len e_api_Entry)) (APath.fin (by kernel_rfl))))))), by simp only [hc2]; kernel_rfl⟩
  · refine vc_ite (by kernel_rfl) h (fun hc3 h => ?_) (fun hc3 h => ?_)
    · refine vc_seq ?_
      refine vc_reg (S := ⟨[(2, .p (.bool false))], [], []⟩) (APath.fin (by kernel_rfl)) (by kernel_rfl) ?_
      refine vc_ret ?_
      obtain rfl := some_inj h
      exact ret_of (by kernel_rfl)
    · refine vc_skip ?_
      refine vc_kp ?_
      refine vc_seq ?_
      refine vc_reg (S := ⟨[(1, .loc 1 0), (3, .p (.int .i64 0))], [(1, [.p (.sl 2 false (List.map e_api_Entry a0_.Entries)), .p (.int .i64 a0_.Cycle)])], []⟩) (APath.fin (by kernel_rfl)) (by kernel_rfl) ?_
      refine vc_seq ?_
      refine vc_seq ?_
      refine vc_reg (S := ⟨[(1, .loc 1 0), (3, .p (.int .i64 0)), (4, .p (.int .i64 0))], [(1, [.p (.sl 2 false (List.map e_api_Entry a0_.Entries)), .p (.int .i64 a0_.Cycle)])], []⟩) (APath.fin (by kernel_rfl)) (by kernel_rfl) ?_
      refine vc_block ?_
      obtain ⟨o515, ho515, h⟩ := bind_some h
      refine vc_loop ((loop_sim (fun (x : Int × Int) s => s = ⟨[(1, .loc 1 0), (3, .p (.int .i64 x.1)), (4, .p (.int .i64 x.2))], [(1, [.p (.sl 2 false (List.map e_api_Entry a0_.Entries)), .p (.int .i64 a0_.Cycle)])], []⟩) (fun x : Int × Int => ref27_Right_L1 N a0_ x.1 x.2) (fun (p : (Int × Int) ⊕ (Bool)) e s => match p with | (.inl p) => e = .exit 0 ∧ (s = ⟨[(1, .loc 1 0), (3, .p (.int .i64 p.1)), (4, .p (.int .i64 p.2))], [(1, [.p (.sl 2 false (List.map e_api_Entry a0_.Entries)), .p (.int .i64 a0_.Cycle)])], []⟩) | (.inr p) => e = .ret ∧ ∃ xs, resL s i37.res = some xs ∧ tupOf xs = .p (.bool p)) ?_ N _ o515 _ ho515 (by show _ = _; kernel_rfl)).mono ?_)
      · clear h ho515
        rintro ⟨i4, i5⟩ o s h hR
        obtain rfl := hR
        replace h : ref27_Right_L1 N a0_ i4 i5 = some o := h
        unfold ref27_Right_L1 at h
        refine vc_seq ?_
        refine vc_seq ?_
        refine vc_reg (S := ⟨[(1, .loc 1 0), (3, .p (.int .i64 i4)), (4, .p (.int .i64 i5)), (20, .p (.bool (decide (i5 < ((List.length a0_.Entries : Nat) : Int)))))], [(1, [.p (.sl 2 false (List.map e_api_Entry a0_.Entries)), .p (.int .i64 a0_.Cycle)])], []⟩) (APath.chunk 3 (by kernel_rfl) (APath.one (.val 19 .len [.t 18]) (by kernel_rfl) (st_val (ys := [.p (.sl 2 false (List.map e_api_Entry a0_.Entries))]) (by kernel_rfl) (vexec_len e_api_Entry)) (APath.fin (by kernel_rfl)))) (by kernel_rfl) ?_
        refine vc_ite (by kernel_rfl) h (fun hc506 h => ?_) (fun hc506 h => ?_)
        · refine vc_skip ?_
          refine vc_kp ?_
          refine vc_seq ?_
          refine vc_block ?_
          refine vc_seq ?_
          obtain ⟨e507, he507, h⟩ := bind_some h
          refine vc_reg (S := ⟨[(1, .loc 1 0), (3, .p (.int .i64 i4)), (4, .p (.int .i64 i5)), (5, .loc 5 0)], [(1, [.p (.sl 2 false (List.map e_api_Entry a0_.Entries)), .p (.int .i64 a0_.Cycle)]), (5, [.p (.int .i64 e507.Mask), .p (.int .i64 e507.Long)])], []⟩) (APath.chunk 3 (by kernel_rfl) (APath.one (.val 26 (.iaddrS 2) [.t 24, .t 25]) (by kernel_rfl) (st_val (ys := [.p (.sl 2 false (List.map e_api_Entry a0_.Entries)), .p (.int .i64 i5)]) (by kernel_rfl) (vexec_iaddrS e_api_Entry he507)) (APath.one (.load 27 (.t 26) 2 true) (by kernel_rfl) (st_loadP (sz := 2) (off := 0) (cs := [.int .i64 e507.Mask, .int .i64 e507.Long]) (r := .agg [.p (.int .i64 e507.Mask), .p (.int .i64 e507.Long)]) e_api_Entry he507 (by kernel_rfl) (by kernel_rfl) (by kernel_rfl)) (APath.fin (by kernel_rfl))))) (by kernel_rfl) ?_
          refine vc_seq ?_
          refine vc_seq ?_
          refine vc_regX ⟨[(1, .loc 1 0), (3, .p (.int .i64 i4)), (4, .p (.int .i64 i5)), (5, .loc 5 0), (45, .p (.bool ((decide (e507.Mask < 0)) || ((decide (e507.Mask > 255)) || ((decide (e507.Long < 1)) || (decide (e507.Long > 9600000)))))))], [(1, [.p (.sl 2 false (List.map e_api_Entry a0_.Entries)), .p (.int .i64 a0_.Cycle)]), (5, [.p (.int .i64 e507.Mask), .p (.int .i64 e507.Long)])], []⟩ ?_ ?_
          · rcases Bool.eq_false_or_eq_true (decide (e507.Mask < 0)) with hc508 | hc509
            · exact ⟨_, (APath.chunk 2 (by kernel_rfl) (APath.one (.val 30 (.bin .lss) [.t 29, .k (.p (.int .i64 0))]) (by kernel_rfl) (st_bool (c := (decide (e507.Mask < 0))) (by kernel_rfl) hc508) (APath.fin (by kernel_rfl)))), by simp only [hc508]; kernel_rfl⟩
            · rcases Bool.eq_false_or_eq_true (decide (e507.Mask > 255)) with hc510 | hc511
              · exact ⟨_, (APath.chunk 2 (by kernel_rfl) (APath.one (.val 30 (.bin .lss) [.t 29, .k (.p (.int .i64 0))]) (by kernel_rfl) (st_bool (c := (decide (e507.Mask < 0))) (by kernel_rfl) hc509) (APath.chunk 3 (by kernel_rfl) (APath.oneG (.val 34 (.bin .gtr) [.t 33, .k (.p (.int .i64 255))]) 31 false (by kernel_rfl) (by kernel_rfl) (st_bool (c := (decide (e507.Mask > 255))) (by kernel_rfl) hc510) (APath.fin (by kernel_rfl)))))), by simp only [hc509, hc510]; kernel_rfl⟩
              · rcases Bool.eq_false_or_eq_true (decide (e507.Long < 1)) with hc512 | hc513
                · exact ⟨_, (APath.chunk 2 (by kernel_rfl) (APath.one (.val 30 (.bin .lss) [.t 29, .k (.p (.int .i64 0))]) (by kernel_rfl) (st_bool (c := (decide (e507.Mask < 0))) (by kernel_rfl) hc509) (APath.chunk 3 (by kernel_rfl) (APath.oneG (.val 34 (.bin .gtr) [.t 33, .k (.p (.int .i64 255))]) 31 false (by kernel_rfl) (by kernel_rfl) (st_bool (c := (decide (e507.Mask > 255))) (by kernel_rfl) hc511) (APath.chunk 4 (by kernel_rfl) (APath.oneG (.val 39 (.bin .lss) [.t 38, .k (.p (.int .i64 1))]) 36 false (by kernel_rfl) (by kernel_rfl) (st_bool (c := (decide (e507.Long < 1))) (by kernel_rfl) hc512) (APath.fin (by kernel_rfl)))))))), by simp only [hc509, hc511, hc512]; kernel_rfl⟩
                · exact ⟨_, (APath.chunk 2 (by kernel_rfl) (APath.one (.val 30 (.bin .lss) [.t 29, .k (.p (.int .i64 0))]) (by kernel_rfl) (st_bool (c := (decide (e507.Mask < 0))) (by kernel_rfl) hc509) (APath.chunk 3 (by kernel_rfl) (APath.oneG (.val 34 (.bin .gtr) [.t 33, .k (.p (.int .i64 255))]) 31 false (by kernel_rfl) (by kernel_rfl) (st_bool (c := (decide (e507.Mask > 255))) (by kernel_rfl) hc511) (APath.chunk 4 (by kernel_rfl) (APath.oneG (.val 39 (.bin .lss) [.t 38, .k (.p (.int .i64 1))]) 36 false (by kernel_rfl) (by kernel_rfl) (st_bool (c := (decide (e507.Long < 1))) (by kernel_rfl) hc513) (APath.fin (by kernel_rfl)))))))), by simp only [hc509, hc511, hc513]; kernel_rfl⟩
          · refine vc_ite (by kernel_rfl) h (fun hc514 h => ?_) (fun hc514 h => ?_)
            · refine vc_seq ?_
              refine vc_reg (S := ⟨[(2, .p (.bool false))], [], []⟩) (APath.fin (by kernel_rfl)) (by kernel_rfl) ?_
              refine vc_ret ?_
              obtain rfl := some_inj h
              exact ⟨_, rfl, rfl, ret_of (by kernel_rfl)⟩
            · refine vc_skip ?_
              refine vc_kp ?_
              refine vc_reg (S := ⟨[(1, .loc 1 0), (3, .p (.int .i64 (w64 (i4 + e507.Long)))), (4, .p (.int .i64 i5))], [(1, [.p (.sl 2 false (List.map e_api_Entry a0_.Entries)), .p (.int .i64 a0_.Cycle)])], []⟩) (APath.fin (by kernel_rfl)) (by kernel_rfl) ?_
              refine vc_kp ?_
              refine vc_reg (S := ⟨[(1, .loc 1 0), (3, .p (.int .i64 (w64 (i4 + e507.Long)))), (4, .p (.int .i64 (w64 (i5 + 1))))], [(1, [.p (.sl 2 false (List.map e_api_Entry a0_.Entries)), .p (.int .i64 a0_.Cycle)])], []⟩) (APath.fin (by kernel_rfl)) (by kernel_rfl) ?_
              obtain rfl := some_inj h
              exact ⟨_, rfl, (by show _ = _; kernel_rfl)⟩
        · refine vc_exit ?_
          try show vc _ _ _ _ _
          obtain rfl := some_inj h
          exact ⟨_, rfl, rfl, (by show _ = _; kernel_rfl)⟩
      · rintro e s hq
        rcases o515 with p516 | p519
        · dsimp only at h hq
          obtain ⟨rfl, hR⟩ := hq
          obtain rfl := hR
          try show vc _ _ _ _ _
          refine vc_seq ?_
          refine vc_regX ⟨[(2, .p (.bool ((p516.1 == a0_.Cycle) && (decide (p516.1 ≤ 9600000)))))], [], []⟩ ?_ ?_
          · rcases Bool.eq_false_or_eq_true (p516.1 == a0_.Cycle) with hc517 | hc518
            · exact ⟨_, (APath.chunk 3 (by kernel_rfl) (APath.one (.val 53 (.bin .eql) [.t 50, .t 52]) (by kernel_rfl) (st_bool (c := (p516.1 == a0_.Cycle)) (by kernel_rfl) hc517) (APath.fin (by kernel_rfl)))), by simp only [hc517]; kernel_rfl⟩
            · exact ⟨_, (APath.chunk 3 (by kernel_rfl) (APath.one (.val 53 (.bin .eql) [.t 50, .t 52]) (by kernel_rfl) (st_bool (c := (p516.1 == a0_.Cycle)) (by kernel_rfl) hc518) (APath.fin (by kernel_rfl)))), by simp only [hc518]; kernel_rfl⟩
          · refine vc_ret ?_
            obtain rfl := some_inj h
            exact ret_of (by kernel_rfl)
        · dsimp only at h hq
          obtain ⟨rfl, hq⟩ := hq
          obtain rfl := some_inj h
          exact hq
/- gates.Fit$1 -/
theorem gates_Fit_1_ok (N : Nat) (a0_ : Int) (c0_ : Int) (k0_ : Nat) (H : List HO) (hH : HP H [.cel k0_ [.p (.int .i64 c0_)]]) (r : Bool) (h : gates_Fit_1 N a0_ c0_ = some r) : ACall Try.prog 40 [.p (.int .i64 a0_), .ptr k0_ 0] H (.p (.bool r)) H := by
  unfold gates_Fit_1 at h
  refine acall_of chk40 rfl rfl rfl (vc_sound _ _ _ ?_)
  refine vc_seq ?_
  refine vc_reg (S := ⟨[(0, .p (.int .i64 a0_)), (1, .ptr k0_ 0)], [], H⟩) (APath.fin (by kernel_rfl)) (by kernel_rfl) ?_
  refine vc_seq ?_
  have hlc1 := HP.get hH 0 rfl
  obtain ⟨sh2, hsh2, h⟩ := bind_some h
  refine vc_reg (S := ⟨[(3, .p (.bool ((andI .i64 sh2 1) == 0)))], [], H⟩) (APath.chunk 1 (by kernel_rfl) (APath.one (.load 5 (.t 1) 1 false) (by kernel_rfl) (st_loadC (H := H) (id := k0_) (off := 0) (cs := [.p (.int .i64 c0_)]) (c := [.p (.int .i64 c0_)]) (r := .p (.int .i64 c0_)) (by kernel_rfl) (by kernel_rfl) hlc1 (by kernel_rfl) (by kernel_rfl) (by kernel_rfl)) (APath.one (.val 6 (.sh .shr) [.t 4, .t 5]) (by kernel_rfl) (st_val (ys := [.p (.int .i64 a0_), .p (.int .i64 c0_)]) (by kernel_rfl) (vexec_shr hsh2)) (APath.fin (by kernel_rfl))))) (by kernel_rfl) ?_
  replace hH : HP H [] := HP.pick hH [] rfl
  refine vc_ret ?_
  obtain rfl := some_inj h
  exact ret_ofA (by kernel_rfl) (by kernel_rfl)
/- gates.open$1 -/
theorem gates_open_1_ok (N : Nat) (a0_ : Int) (c0_ : Int) (k0_ : Nat) (H : List HO) (hH : HP H [.cel k0_ [.p (.int .i64 c0_)]]) (r : Bool) (h : gates_open_1 N a0_ c0_ = some r) : ACall Try.prog 42 [.p (.int .i64 a0_), .ptr k0_ 0] H (.p (.bool r)) H := by
  unfold gates_open_1 at h
  refine acall_of chk42 rfl rfl rfl (vc_sound _ _ _ ?_)
  refine vc_seq ?_
  refine vc_reg (S := ⟨[(0, .p (.int .i64 a0_)), (1, .ptr k0_ 0)], [], H⟩) (APath.fin (by kernel_rfl)) (by kernel_rfl) ?_
  refine vc_seq ?_
  have hlc1 := HP.get hH 0 rfl
  obtain ⟨sh2, hsh2, h⟩ := bind_some h
  refine vc_reg (S := ⟨[(3, .p (.bool ((andI .i64 sh2 1) == 1)))], [], H⟩) (APath.chunk 1 (by kernel_rfl) (APath.one (.load 5 (.t 1) 1 false) (by kernel_rfl) (st_loadC (H := H) (id := k0_) (off := 0) (cs := [.p (.int .i64 c0_)]) (c := [.p (.int .i64 c0_)]) (r := .p (.int .i64 c0_)) (by kernel_rfl) (by kernel_rfl) hlc1 (by kernel_rfl) (by kernel_rfl) (by kernel_rfl)) (APath.one (.val 6 (.sh .shr) [.t 4, .t 5]) (by kernel_rfl) (st_val (ys := [.p (.int .i64 a0_), .p (.int .i64 c0_)]) (by kernel_rfl) (vexec_shr hsh2)) (APath.fin (by kernel_rfl))))) (by kernel_rfl) ?_
  replace hH : HP H [] := HP.pick hH [] rfl
  refine vc_ret ?_
  obtain rfl := some_inj h
  exact ret_ofA (by kernel_rfl) (by kernel_rfl)
/- isochronref27.Bit -/
theorem ref27_Bit_ok (N : Nat) (a0_ : Int) (a1_ : Int) (r : Bool) (h : ref27_Bit N a0_ a1_ = some r) : PCall Try.prog 43 [.p (.int .i64 a0_), .p (.int .i64 a1_)] (.p (.bool r)) := by
  unfold ref27_Bit at h
  have hH : HP ([] : List HO) [] := trivial
  refine pcall_of chk43 rfl rfl (vc_sound _ _ _ ?_) rfl
  refine vc_seq ?_
  refine vc_reg (S := ⟨[(0, .p (.int .i64 a0_)), (1, .p (.int .i64 a1_))], [], []⟩) (APath.fin (by kernel_rfl)) (by kernel_rfl) ?_
  refine vc_seq ?_
  obtain ⟨sh1, hsh1, h⟩ := bind_some h
  refine vc_reg (S := ⟨[(4, .p (.bool ((Int.tmod sh1 2) == 1)))], [], []⟩) (APath.chunk 3 (by kernel_rfl) (APath.one (.val 8 (.sh .shr) [.t 5, .t 7]) (by kernel_rfl) (st_val (ys := [.p (.int .i64 a0_), .p (.int .u64 (IntKind.u64.wrap (a1_)))]) (by kernel_rfl) (vexec_shr hsh1)) (APath.fin (by kernel_rfl)))) (by kernel_rfl) ?_
  refine vc_ret ?_
  obtain rfl := some_inj h
  exact ret_of (by kernel_rfl)
/- isochronlaw27.lists -/
theorem law27_lists_ok (N : Nat) (a0_ : ref27_Draft) (a1_ : api_Gates) (a2_ : Int) (r : Arr3_api_Gates) (h : law27_lists N a0_ a1_ a2_ = some r) : PCall Try.prog 10 [.agg [.p (.sl 1 false (List.map (eI .u8) a0_.Masks)), .p (.sl 1 false (List.map (eI .u8) a0_.Longs))], .agg [.p (.sl 2 false (List.map e_api_Entry a1_.Entries)), .p (.int .i64 a1_.Cycle)], .p (.int .u8 a2_)] (.agg [.p (.sl 2 false (List.map e_api_Entry r.x0.Entries)), .p (.int .i64 r.x0.Cycle), .p (.sl 2 false (List.map e_api_Entry r.x1.Entries)), .p (.int .i64 r.x1.Cycle), .p (.sl 2 false (List.map e_api_Entry r.x2.Entries)), .p (.int .i64 r.x2.Cycle)]) := by
  unfold law27_lists at h
  have hH : HP ([] : List HO) [] := trivial
  refine pcall_of chk10 rfl rfl (vc_sound _ _ _ ?_) rfl
  refine vc_seq ?_
  refine vc_reg (S := ⟨[(2, .p (.int .u8 a2_)), (3, .loc 3 0), (4, .loc 4 0), (6, .loc 6 0)], [(3, [.p (.sl 1 false (List.map (eI .u8) a0_.Masks)), .p (.sl 1 false (List.map (eI .u8) a0_.Longs))]), (4, [.p (.sl 2 false (List.map e_api_Entry a1_.Entries)), .p (.int .i64 a1_.Cycle)]), (6, [.p (.sl 2 true (List.map e_api_Entry [])), .p (.int .i64 0), .p (.sl 2 true (List.map e_api_Entry [])), .p (.int .i64 0), .p (.sl 2 true (List.map e_api_Entry [])), .p (.int .i64 0)])], []⟩) (APath.fin (by kernel_rfl)) (by kernel_rfl) ?_
  refine vc_seq ?_
  obtain ⟨r1, hr1, h⟩ := bind_some h
  refine vc_reg (S := ⟨[(2, .p (.int .u8 a2_)), (4, .loc 4 0), (6, .loc 6 0), (7, .loc 7 0)], [(4, [.p (.sl 2 false (List.map e_api_Entry a1_.Entries)), .p (.int .i64 a1_.Cycle)]), (6, [.p (.sl 2 true (List.map e_api_Entry [])), .p (.int .i64 0), .p (.sl 2 true (List.map e_api_Entry [])), .p (.int .i64 0), .p (.sl 2 true (List.map e_api_Entry [])), .p (.int .i64 0)]), (7, [.p (.sl 2 false (List.map e_api_Entry r1.Entries)), .p (.int .i64 r1.Cycle)])], []⟩) (APath.chunk 1 (by kernel_rfl) (APath.one (.call (some 10) 24 [.t 9]) (by kernel_rfl) (st_call (by kernel_rfl) (ref27_Draft_Gates_ok N a0_ r1 hr1)) (APath.fin (by kernel_rfl)))) (by kernel_rfl) ?_
  refine vc_seq ?_
  obtain ⟨l2, hl2, h⟩ := bind_some h
  refine vc_reg (S := ⟨[(2, .p (.int .u8 a2_)), (4, .loc 4 0), (6, .loc 6 0), (7, .loc 7 0)], [(4, [.p (.sl 2 false (List.map e_api_Entry l2)), .p (.int .i64 a1_.Cycle)]), (6, [.p (.sl 2 true (List.map e_api_Entry [])), .p (.int .i64 0), .p (.sl 2 true (List.map e_api_Entry [])), .p (.int .i64 0), .p (.sl 2 true (List.map e_api_Entry [])), .p (.int .i64 0)]), (7, [.p (.sl 2 false (List.map e_api_Entry r1.Entries)), .p (.int .i64 r1.Cycle)])], []⟩) (APath.chunk 4 (by kernel_rfl) (APath.one (.val 15 .len [.t 14]) (by kernel_rfl) (st_val (ys := [.p (.sl 2 false (List.map e_api_Entry a1_.Entries))]) (by kernel_rfl) (vexec_len e_api_Entry)) (APath.chunk 1 (by kernel_rfl) (APath.one (.val 17 (.slice 2 false true false) [.t 12, .t 16]) (by kernel_rfl) (st_val (ys := [.p (.sl 2 false (List.map e_api_Entry a1_.Entries)), .p (.int .i64 (if 140 < ((List.length a1_.Entries : Nat) : Int) then 140 else ((List.length a1_.Entries : Nat) : Int)))]) (by kernel_rfl) (vexec_sliceHi e_api_Entry hl2)) (APath.fin (by kernel_rfl)))))) (by kernel_rfl) ?_
  refine vc_seq ?_
  obtain ⟨l5, hl5, h⟩ := bind_some h
  obtain ⟨a3, H4, ha3, hH⟩ := app_nil (sz := 2) e_api_Entry hH hl5
  replace hH : HP H4 [.arr a3 2 false (List.map e_api_Entry l5)] := hH
  have hfa3 := own_form (HP.get hH 0 rfl)
  refine vc_regD (S := ⟨[(2, .p (.int .u8 a2_)), (4, .loc 4 0), (6, .loc 6 0), (7, .loc 7 0), (8, .loc 8 0)], [(4, [.p (.sl 2 false (List.map e_api_Entry l2)), .p (.int .i64 a1_.Cycle)]), (6, [.p (.sl 2 true (List.map e_api_Entry [])), .p (.int .i64 0), .p (.sl 2 true (List.map e_api_Entry [])), .p (.int .i64 0), .p (.sl 2 true (List.map e_api_Entry [])), .p (.int .i64 0)]), (7, [.p (.sl 2 false (List.map e_api_Entry r1.Entries)), .p (.int .i64 r1.Cycle)]), (8, [a3, .p (.int .i64 r1.Cycle)])], H4⟩) (by kernel_rfl) (APath.chunk 3 (by rcases hfa3 with ha3e | ⟨_, _, ha3e⟩ <;> subst ha3e <;> kernel_rfl) (APath.one (.app 22 (.t 19) (.t 21) 2 16) (by kernel_rfl) (st_app (H := []) (a := .p (.sl 2 true (List.map e_api_Entry []))) (b := .p (.sl 2 false (List.map e_api_Entry r1.Entries))) (by rcases hfa3 with ha3e | ⟨_, _, ha3e⟩ <;> subst ha3e <;> kernel_rfl) (by rcases hfa3 with ha3e | ⟨_, _, ha3e⟩ <;> subst ha3e <;> kernel_rfl) (by rcases hfa3 with ha3e | ⟨_, _, ha3e⟩ <;> subst ha3e <;> kernel_rfl) (by rcases hfa3 with ha3e | ⟨_, _, ha3e⟩ <;> subst ha3e <;> kernel_rfl) ha3) (APath.fin (by rcases hfa3 with ha3e | ⟨_, _, ha3e⟩ <;> subst ha3e <;> kernel_rfl)))) (by rcases hfa3 with ha3e | ⟨_, _, ha3e⟩ <;> subst ha3e <;> kernel_rfl) ?_
  obtain ⟨j508, hj508, h⟩ := bind_some h
  refine vc_joinK [4, 6, 7, 8] (fun s => ∃ (a506 : AV) (H507 : List HO), s = ⟨[(4, .loc 4 0), (6, .loc 6 0), (7, .loc 7 0), (8, .loc 8 0)], [(4, [.p (.sl 2 false (List.map e_api_Entry l2)), .p (.int .i64 a1_.Cycle)]), (6, [.p (.sl 2 true (List.map e_api_Entry [])), .p (.int .i64 0), .p (.sl 2 true (List.map e_api_Entry [])), .p (.int .i64 0), .p (.sl 2 true (List.map e_api_Entry [])), .p (.int .i64 0)]), (7, [.p (.sl 2 false (List.map e_api_Entry r1.Entries)), .p (.int .i64 r1.Cycle)]), (8, [a506, .p (.int .i64 j508.1)])], H507⟩ ∧ HP H507 [.arr a506 2 false (List.map e_api_Entry j508.2)]) ?_ ?_
  · clear h
    have h := hj508
    refine vc_seq ?_
    refine vc_regX ⟨[(2, .p (.int .u8 a2_)), (4, .loc 4 0), (6, .loc 6 0), (7, .loc 7 0), (8, .loc 8 0), (34, .p (.bool ((decide (((List.length l2 : Nat) : Int) > 0)) && (decide ((Int.tmod a2_ 4) > 0)))))], [(4, [.p (.sl 2 false (List.map e_api_Entry l2)), .p (.int .i64 a1_.Cycle)]), (6, [.p (.sl 2 true (List.map e_api_Entry [])), .p (.int .i64 0), .p (.sl 2 true (List.map e_api_Entry [])), .p (.int .i64 0), .p (.sl 2 true (List.map e_api_Entry [])), .p (.int .i64 0)]), (7, [.p (.sl 2 false (List.map e_api_Entry r1.Entries)), .p (.int .i64 r1.Cycle)]), (8, [a3, .p (.int .i64 r1.Cycle)])], H4⟩ ?_ ?_
    · rcases Bool.eq_false_or_eq_true (decide (((List.length l2 : Nat) : Int) > 0)) with hc509 | hc510
      · exact ⟨_, (APath.chunk 2 (by rcases hfa3 with ha3e | ⟨_, _, ha3e⟩ <;> subst ha3e <;> kernel_rfl) (APath.one (.val 28 .len [.t 27]) (by kernel_rfl) (st_val (ys := [.p (.sl 2 false (List.map e_api_Entry l2))]) (by rcases hfa3 with ha3e | ⟨_, _, ha3e⟩ <;> subst ha3e <;> kernel_rfl) (vexec_len e_api_Entry)) (APath.one (.val 29 (.bin .gtr) [.t 28, .k (.p (.int .i64 0))]) (by kernel_rfl) (st_bool (c := (decide (((List.length l2 : Nat) : Int) > 0))) (by rcases hfa3 with ha3e | ⟨_, _, ha3e⟩ <;> subst ha3e <;> kernel_rfl) hc509) (APath.fin (by rcases hfa3 with ha3e | ⟨_, _, ha3e⟩ <;> subst ha3e <;> kernel_rfl))))), by simp only [hc509]; rcases hfa3 with ha3e | ⟨_, _, ha3e⟩ <;> subst ha3e <;> kernel_rfl⟩
      · exact ⟨_, (APath.chunk 2 (by rcases hfa3 with ha3e | ⟨_, _, ha3e⟩ <;> subst ha3e <;> kernel_rfl) (APath.one (.val 28 .len [.t 27]) (by kernel_rfl) (st_val (ys := [.p (.sl 2 false (List.map e_api_Entry l2))]) (by rcases hfa3 with ha3e | ⟨_, _, ha3e⟩ <;> subst ha3e <;> kernel_rfl) (vexec_len e_api_Entry)) (APath.one (.val 29 (.bin .gtr) [.t 28, .k (.p (.int .i64 0))]) (by kernel_rfl) (st_bool (c := (decide (((List.length l2 : Nat) : Int) > 0))) (by rcases hfa3 with ha3e | ⟨_, _, ha3e⟩ <;> subst ha3e <;> kernel_rfl) hc510) (APath.fin (by rcases hfa3 with ha3e | ⟨_, _, ha3e⟩ <;> subst ha3e <;> kernel_rfl))))), by simp only [hc510]; rcases hfa3 with ha3e | ⟨_, _, ha3e⟩ <;> subst ha3e <;> kernel_rfl⟩
    · refine vc_ite (by kernel_rfl) h (fun hc511 h => ?_) (fun hc511 h => ?_)
      · have hln512 := HP.len (k := 0) (a := a3) (sz := 2) (frz := false) (l := l5) e_api_Entry hH rfl
        obtain ⟨m513, hm513, h⟩ := bind_some h
        obtain ⟨e514, he514, h⟩ := bind_some h
        obtain ⟨e515, he515, h⟩ := bind_some h
        obtain ⟨id516, ver517, _, hid516f, hid516, hid516a, hid516v⟩ := HP.elem (k := 0) (a := a3) (sz := 2) (frz := false) e_api_Entry hH rfl he515
        obtain ⟨H518, hH518, hH⟩ := HP.setRow (k := 0) (off := 0) (cs := [.p (.int .i64 e514.Mask), .p (.int .i64 e514.Long)]) (ps := [.int .i64 e514.Mask, .int .i64 e514.Long]) (e' := e514) e_api_Entry hH rfl hid516a hid516 (hid516f rfl) he515 (by kernel_rfl) (by kernel_rfl)
        replace hH : HP H518 [.arr a3 2 false (List.map e_api_Entry (List.set l5 (Int.toNat m513) e514))] := hH
        refine vc_regD (S := ⟨[(4, .loc 4 0), (6, .loc 6 0), (7, .loc 7 0), (8, .loc 8 0)], [(4, [.p (.sl 2 false (List.map e_api_Entry l2)), .p (.int .i64 a1_.Cycle)]), (6, [.p (.sl 2 true (List.map e_api_Entry [])), .p (.int .i64 0), .p (.sl 2 true (List.map e_api_Entry [])), .p (.int .i64 0), .p (.sl 2 true (List.map e_api_Entry [])), .p (.int .i64 0)]), (7, [.p (.sl 2 false (List.map e_api_Entry r1.Entries)), .p (.int .i64 r1.Cycle)]), (8, [a3, .p (.int .i64 r1.Cycle)])], H518⟩) (by rcases hfa3 with ha3e | ⟨_, _, ha3e⟩ <;> subst ha3e <;> kernel_rfl) (APath.chunk 6 (by rcases hfa3 with ha3e | ⟨_, _, ha3e⟩ <;> subst ha3e <;> kernel_rfl) (APath.one (.val 41 .len [.t 40]) (by kernel_rfl) (st_val (ys := [a3]) (by rcases hfa3 with ha3e | ⟨_, _, ha3e⟩ <;> subst ha3e <;> kernel_rfl) hln512) (APath.one (.val 42 (.bin .rem) [.t 38, .t 41]) (by kernel_rfl) (st_val (ys := [.p (.int .i64 (w64 (a2_))), .p (.int .i64 ((List.length l5 : Nat) : Int))]) (by rcases hfa3 with ha3e | ⟨_, _, ha3e⟩ <;> subst ha3e <;> kernel_rfl) (vexec_rem hm513)) (APath.chunk 2 (by rcases hfa3 with ha3e | ⟨_, _, ha3e⟩ <;> subst ha3e <;> kernel_rfl) (APath.one (.val 45 (.iaddrS 2) [.t 44, .k (.p (.int .i64 0))]) (by kernel_rfl) (st_val (ys := [.p (.sl 2 false (List.map e_api_Entry l2)), .p (.int .i64 0)]) (by rcases hfa3 with ha3e | ⟨_, _, ha3e⟩ <;> subst ha3e <;> kernel_rfl) (vexec_iaddrS e_api_Entry he514)) (APath.one (.load 46 (.t 45) 2 true) (by kernel_rfl) (st_loadP (sz := 2) (off := 0) (cs := [.int .i64 e514.Mask, .int .i64 e514.Long]) (r := .agg [.p (.int .i64 e514.Mask), .p (.int .i64 e514.Long)]) e_api_Entry he514 (by rcases hfa3 with ha3e | ⟨_, _, ha3e⟩ <;> subst ha3e <;> kernel_rfl) (by rcases hfa3 with ha3e | ⟨_, _, ha3e⟩ <;> subst ha3e <;> kernel_rfl) (by rcases hfa3 with ha3e | ⟨_, _, ha3e⟩ <;> subst ha3e <;> kernel_rfl)) (APath.one (.val 47 (.iaddrS 2) [.t 36, .t 42]) (by kernel_rfl) (st_val (ys := [a3, .p (.int .i64 m513)]) (by rcases hfa3 with ha3e | ⟨_, _, ha3e⟩ <;> subst ha3e <;> kernel_rfl) (hid516v .i64)) (APath.one (.store (.t 47) (.t 46) 2) (by kernel_rfl) (st_storeH (H := H4) (v := .agg [.p (.int .i64 e514.Mask), .p (.int .i64 e514.Long)]) (by rcases hfa3 with ha3e | ⟨_, _, ha3e⟩ <;> subst ha3e <;> kernel_rfl) (by rcases hfa3 with ha3e | ⟨_, _, ha3e⟩ <;> subst ha3e <;> kernel_rfl) (by rcases hfa3 with ha3e | ⟨_, _, ha3e⟩ <;> subst ha3e <;> kernel_rfl) (by rcases hfa3 with ha3e | ⟨_, _, ha3e⟩ <;> subst ha3e <;> kernel_rfl) hH518) APath.done)))))))) (by rcases hfa3 with ha3e | ⟨_, _, ha3e⟩ <;> subst ha3e <;> kernel_rfl) ?_
        obtain rfl := some_inj h
        exact ⟨rfl, ⟨a3, H518, (by show _ = _; rcases hfa3 with ha3e | ⟨_, _, ha3e⟩ <;> subst ha3e <;> kernel_rfl), (HP.pick hH [0] rfl)⟩⟩
      · refine vc_reg (S := ⟨[(4, .loc 4 0), (6, .loc 6 0), (7, .loc 7 0), (8, .loc 8 0)], [(4, [.p (.sl 2 false (List.map e_api_Entry l2)), .p (.int .i64 a1_.Cycle)]), (6, [.p (.sl 2 true (List.map e_api_Entry [])), .p (.int .i64 0), .p (.sl 2 true (List.map e_api_Entry [])), .p (.int .i64 0), .p (.sl 2 true (List.map e_api_Entry [])), .p (.int .i64 0)]), (7, [.p (.sl 2 false (List.map e_api_Entry r1.Entries)), .p (.int .i64 r1.Cycle)]), (8, [a3, .p (.int .i64 a1_.Cycle)])], H4⟩) (APath.fin (by rcases hfa3 with ha3e | ⟨_, _, ha3e⟩ <;> subst ha3e <;> kernel_rfl)) (by rcases hfa3 with ha3e | ⟨_, _, ha3e⟩ <;> subst ha3e <;> kernel_rfl) ?_
        obtain rfl := some_inj h
        exact ⟨rfl, ⟨a3, H4, (by show _ = _; rcases hfa3 with ha3e | ⟨_, _, ha3e⟩ <;> subst ha3e <;> kernel_rfl), (HP.pick hH [0] rfl)⟩⟩
  · clear hj508
    rintro s hR
    obtain ⟨a506, H507, rfl, hH⟩ := hR
    replace hH : HP H507 [.arr a506 2 false (List.map e_api_Entry j508.2)] := hH
    have hfa506 := own_form (HP.get hH 0 rfl)
    refine vc_seq ?_
    refine vc_reg (S := ⟨[(6, .loc 6 0)], [(6, [.p (.sl 2 false (List.map e_api_Entry r1.Entries)), .p (.int .i64 r1.Cycle), .p (.sl 2 false (List.map e_api_Entry l2)), .p (.int .i64 a1_.Cycle), a506, .p (.int .i64 j508.1)])], H507⟩) (APath.fin (by rcases hfa506 with ha506e | ⟨_, _, ha506e⟩ <;> subst ha506e <;> kernel_rfl)) (by rcases hfa506 with ha506e | ⟨_, _, ha506e⟩ <;> subst ha506e <;> kernel_rfl) ?_
    refine vc_ret ?_
    obtain rfl := some_inj h
    exact ret_own (H := H507) (ys := [.agg [.p (.sl 2 false (List.map e_api_Entry r1.Entries)), .p (.int .i64 r1.Cycle), .p (.sl 2 false (List.map e_api_Entry l2)), .p (.int .i64 a1_.Cycle), a506, .p (.int .i64 j508.1)]]) (xs := [.agg [.p (.sl 2 false (List.map e_api_Entry r1.Entries)), .p (.int .i64 r1.Cycle), .p (.sl 2 false (List.map e_api_Entry l2)), .p (.int .i64 a1_.Cycle), .p (.sl 2 false (List.map e_api_Entry j508.2)), .p (.int .i64 j508.1)]]) (by rcases hfa506 with ha506e | ⟨_, _, ha506e⟩ <;> subst ha506e <;> kernel_rfl) (by rcases hfa506 with ha506e | ⟨_, _, ha506e⟩ <;> subst ha506e <;> kernel_rfl) (pureVL_cons (pureV_agg (pureL_cons rfl (pureL_cons rfl (pureL_cons rfl (pureL_cons rfl (pureL_cons (HP.pure (k := 0) (frz := false) e_api_Entry hH rfl).1 (pureL_cons rfl pureL_nil))))))) pureVL_nil) (by kernel_rfl)
/- gates.Mask -/
theorem gates_Mask_ok (N : Nat) (a0_ : api_Gates) (a1_ : Int) (r : Int × Int) (h : gates_Mask N a0_ a1_ = some r) : PCall Try.prog 11 [.agg [.p (.sl 2 false (List.map e_api_Entry a0_.Entries)), .p (.int .i64 a0_.Cycle)], .p (.int .i64 a1_)] (.tup [.p (.int .i64 r.1), .p (.int .i64 r.2)]) := by
  unfold gates_Mask at h
  have hH : HP ([] : List HO) [] := trivial
  refine pcall_of chk11 rfl rfl (vc_sound _ _ _ ?_) rfl
  refine vc_seq ?_
  refine vc_reg (S := ⟨[(1, .p (.int .i64 a1_)), (2, .loc 2 0)], [(2, [.p (.sl 2 false (List.map e_api_Entry a0_.Entries)), .p (.int .i64 a0_.Cycle)])], []⟩) (APath.fin (by kernel_rfl)) (by kernel_rfl) ?_
  refine vc_seq ?_
  refine vc_seq ?_
  obtain ⟨r1, hr1, h⟩ := bind_some h
  refine vc_reg (S := ⟨[(1, .p (.int .i64 a1_)), (2, .loc 2 0), (6, .p (.int .i64 r1))], [(2, [.p (.sl 2 false (List.map e_api_Entry a0_.Entries)), .p (.int .i64 a0_.Cycle)])], []⟩) (APath.chunk 2 (by kernel_rfl) (APath.one (.call (some 11) 30 [.t 9, .k (.p (.int .i64 0)), .t 10, .k (.p (.int .i64 0))]) (by kernel_rfl) (st_call (by kernel_rfl) (gates_check_ok N a0_ 0 a1_ 0 r1 hr1)) (APath.fin (by kernel_rfl)))) (by kernel_rfl) ?_
  refine vc_seq ?_
  refine vc_reg (S := ⟨[(1, .p (.int .i64 a1_)), (2, .loc 2 0), (6, .p (.int .i64 r1)), (13, .p (.bool (r1 != 0)))], [(2, [.p (.sl 2 false (List.map e_api_Entry a0_.Entries)), .p (.int .i64 a0_.Cycle)])], []⟩) (APath.fin (by kernel_rfl)) (by kernel_rfl) ?_
  refine vc_ite (by kernel_rfl) h (fun hc2 h => ?_) (fun hc2 h => ?_)
  · refine vc_seq ?_
    refine vc_reg (S := ⟨[(4, .p (.int .i64 0)), (5, .p (.int .i64 r1))], [], []⟩) (APath.fin (by kernel_rfl)) (by kernel_rfl) ?_
    refine vc_ret ?_
    obtain rfl := some_inj h
    exact ret_of (by kernel_rfl)
  · refine vc_skip ?_
    refine vc_kp ?_
    refine vc_seq ?_
    obtain ⟨r3, hr3, h⟩ := bind_some h
    refine vc_reg (S := ⟨[(2, .loc 2 0), (7, .p (.int .i64 r3.1))], [(2, [.p (.sl 2 false (List.map e_api_Entry a0_.Entries)), .p (.int .i64 a0_.Cycle)])], []⟩) (APath.chunk 2 (by kernel_rfl) (APath.one (.call (some 18) 31 [.t 16, .t 17]) (by kernel_rfl) (st_call (by kernel_rfl) (gates_find_ok N a0_ a1_ r3 hr3)) (APath.fin (by kernel_rfl)))) (by kernel_rfl) ?_
    refine vc_seq ?_
    obtain ⟨e4, he4, h⟩ := bind_some h
    refine vc_reg (S := ⟨[(4, .p (.int .i64 e4.Mask)), (5, .p (.int .i64 0))], [], []⟩) (APath.chunk 3 (by kernel_rfl) (APath.one (.val 24 (.iaddrS 2) [.t 22, .t 23]) (by kernel_rfl) (st_val (ys := [.p (.sl 2 false (List.map e_api_Entry a0_.Entries)), .p (.int .i64 r3.1)]) (by kernel_rfl) (vexec_iaddrS e_api_Entry he4)) (APath.chunk 1 (by kernel_rfl) (APath.one (.load 26 (.t 25) 1 false) (by kernel_rfl) (st_loadP (sz := 2) (off := 0) (cs := [.int .i64 e4.Mask]) (r := .p (.int .i64 e4.Mask)) e_api_Entry he4 (by kernel_rfl) (by kernel_rfl) (by kernel_rfl)) (APath.fin (by kernel_rfl)))))) (by kernel_rfl) ?_
    refine vc_ret ?_
    obtain rfl := some_inj h
    exact ret_of (by kernel_rfl)
/- gates.Turn -/
theorem gates_Turn_ok (N : Nat) (a0_ : api_Gates) (a1_ : Int) (r : Int × Int) (h : gates_Turn N a0_ a1_ = some r) : PCall Try.prog 13 [.agg [.p (.sl 2 false (List.map e_api_Entry a0_.Entries)), .p (.int .i64 a0_.Cycle)], .p (.int .i64 a1_)] (.tup [.p (.int .i64 r.1), .p (.int .i64 r.2)]) := by
  unfold gates_Turn at h
  have hH : HP ([] : List HO) [] := trivial
  refine pcall_of chk13 rfl rfl (vc_sound _ _ _ ?_) rfl
  refine vc_seq ?_
  refine vc_reg (S := ⟨[(1, .p (.int .i64 a1_)), (2, .loc 2 0)], [(2, [.p (.sl 2 false (List.map e_api_Entry a0_.Entries)), .p (.int .i64 a0_.Cycle)])], []⟩) (APath.fin (by kernel_rfl)) (by kernel_rfl) ?_
  refine vc_seq ?_
  refine vc_seq ?_
  obtain ⟨r1, hr1, h⟩ := bind_some h
  refine vc_reg (S := ⟨[(1, .p (.int .i64 a1_)), (2, .loc 2 0), (6, .p (.int .i64 r1))], [(2, [.p (.sl 2 false (List.map e_api_Entry a0_.Entries)), .p (.int .i64 a0_.Cycle)])], []⟩) (APath.chunk 2 (by kernel_rfl) (APath.one (.call (some 13) 30 [.t 11, .k (.p (.int .i64 0)), .t 12, .k (.p (.int .i64 0))]) (by kernel_rfl) (st_call (by kernel_rfl) (gates_check_ok N a0_ 0 a1_ 0 r1 hr1)) (APath.fin (by kernel_rfl)))) (by kernel_rfl) ?_
  refine vc_seq ?_
  refine vc_reg (S := ⟨[(1, .p (.int .i64 a1_)), (2, .loc 2 0), (6, .p (.int .i64 r1)), (15, .p (.bool (r1 != 0)))], [(2, [.p (.sl 2 false (List.map e_api_Entry a0_.Entries)), .p (.int .i64 a0_.Cycle)])], []⟩) (APath.fin (by kernel_rfl)) (by kernel_rfl) ?_
  refine vc_ite (by kernel_rfl) h (fun hc2 h => ?_) (fun hc2 h => ?_)
  · refine vc_seq ?_
    refine vc_reg (S := ⟨[(4, .p (.int .i64 0)), (5, .p (.int .i64 r1))], [], []⟩) (APath.fin (by kernel_rfl)) (by kernel_rfl) ?_
    refine vc_ret ?_
    obtain rfl := some_inj h
    exact ret_of (by kernel_rfl)
  · refine vc_skip ?_
    refine vc_kp ?_
    refine vc_seq ?_
    obtain ⟨r3, hr3, h⟩ := bind_some h
    refine vc_reg (S := ⟨[(1, .p (.int .i64 a1_)), (2, .loc 2 0), (7, .p (.int .i64 r3.1))], [(2, [.p (.sl 2 false (List.map e_api_Entry a0_.Entries)), .p (.int .i64 a0_.Cycle)])], []⟩) (APath.chunk 2 (by kernel_rfl) (APath.one (.call (some 20) 31 [.t 18, .t 19]) (by kernel_rfl) (st_call (by kernel_rfl) (gates_find_ok N a0_ a1_ r3 hr3)) (APath.fin (by kernel_rfl)))) (by kernel_rfl) ?_
    refine vc_seq ?_
    obtain ⟨e4, he4, h⟩ := bind_some h
    obtain ⟨id5, H6, hid5, hH6, hH⟩ := HP.newCell hH [.p (.int .i64 0)]
    replace hH : HP H6 [.cel id5 [.p (.int .i64 0)]] := hH
    obtain ⟨H7, hH7, hH⟩ := HP.setCell (k := 0) (off := 0) (cs := [.p (.int .i64 0)]) (vs := [.p (.int .i64 e4.Mask)]) (cs' := [.p (.int .i64 e4.Mask)]) hH rfl (by kernel_rfl)
    replace hH : HP H7 [.cel id5 [.p (.int .i64 e4.Mask)]] := hH
    refine vc_reg (S := ⟨[(1, .p (.int .i64 a1_)), (2, .loc 2 0), (9, .ptr id5 0)], [(2, [.p (.sl 2 false (List.map e_api_Entry a0_.Entries)), .p (.int .i64 a0_.Cycle)])], H7⟩) (APath.chunk 3 (by kernel_rfl) (APath.one (.val 26 (.iaddrS 2) [.t 24, .t 25]) (by kernel_rfl) (st_val (ys := [.p (.sl 2 false (List.map e_api_Entry a0_.Entries)), .p (.int .i64 r3.1)]) (by kernel_rfl) (vexec_iaddrS e_api_Entry he4)) (APath.chunk 1 (by kernel_rfl) (APath.one (.load 28 (.t 27) 1 false) (by kernel_rfl) (st_loadP (sz := 2) (off := 0) (cs := [.int .i64 e4.Mask]) (r := .p (.int .i64 e4.Mask)) e_api_Entry he4 (by kernel_rfl) (by kernel_rfl) (by kernel_rfl)) (APath.one (.newH 9 [.p (.int .i64 0)]) (by kernel_rfl) (st_newH (H := []) (by kernel_rfl) hid5 hH6) (APath.one (.store (.t 9) (.t 28) 1) (by kernel_rfl) (st_storeH (H := H6) (v := .p (.int .i64 e4.Mask)) (by kernel_rfl) (by kernel_rfl) (by kernel_rfl) (by kernel_rfl) hH7) APath.done)))))) (by kernel_rfl) ?_
    refine vc_seq ?_
    obtain ⟨r8, hr8, h⟩ := bind_some h
    have hvr8 := (gates_stretch_ok N a0_ a1_ (fun x0 => gates_Turn_1 N x0 e4.Mask)   35 [] [.ptr id5 0] (by kernel_rfl) [.cel id5 [.p (.int .i64 e4.Mask)]] (fun H x0 r hH h => VCall.of (by kernel_rfl) (gates_Turn_1_ok N x0 e4.Mask id5 H hH r h)) H7 (HP.pick hH [0] rfl) r8 hr8)
    refine vc_reg (S := ⟨[(1, .p (.int .i64 a1_)), (2, .loc 2 0), (10, .p (.int .i64 r8))], [(2, [.p (.sl 2 false (List.map e_api_Entry a0_.Entries)), .p (.int .i64 a0_.Cycle)])], H7⟩) (APath.chunk 3 (by kernel_rfl) (APath.one (.call (some 32) 34 [.t 29, .t 30, .t 31]) (by kernel_rfl) (st_callH (H := H7) (ys := [.agg [.p (.sl 2 false (List.map e_api_Entry a0_.Entries)), .p (.int .i64 a0_.Cycle)], .p (.int .i64 a1_), .fn 35 [] [.ptr id5 0]]) (by kernel_rfl) (by kernel_rfl) (by kernel_rfl) hvr8) (APath.fin (by kernel_rfl)))) (by kernel_rfl) ?_
    replace hH : HP H7 [] := HP.pick hH [] rfl
    refine vc_seq ?_
    refine vc_seq ?_
    refine vc_reg (S := ⟨[(1, .p (.int .i64 a1_)), (10, .p (.int .i64 r8)), (36, .p (.bool (r8 == a0_.Cycle)))], [], H7⟩) (APath.fin (by kernel_rfl)) (by kernel_rfl) ?_
    refine vc_ite (by kernel_rfl) h (fun hc9 h => ?_) (fun hc9 h => ?_)
    · refine vc_seq ?_
      refine vc_reg (S := ⟨[(4, .p (.int .i64 0)), (5, .p (.int .i64 4))], [], H7⟩) (APath.fin (by kernel_rfl)) (by kernel_rfl) ?_
      refine vc_ret ?_
      obtain rfl := some_inj h
      exact ret_of (by kernel_rfl)
    · refine vc_skip ?_
      refine vc_kp ?_
      refine vc_seq ?_
      refine vc_reg (S := ⟨[(4, .p (.int .i64 (w64 (a1_ + r8)))), (5, .p (.int .i64 0))], [], H7⟩) (APath.fin (by kernel_rfl)) (by kernel_rfl) ?_
      refine vc_ret ?_
      obtain rfl := some_inj h
      exact ret_of (by kernel_rfl)
/- isochronref27.Check -/
theorem ref27_Check_ok (N : Nat) (a0_ : api_Gates) (r : Int) (h : ref27_Check N a0_ = some r) : PCall Try.prog 16 [.agg [.p (.sl 2 false (List.map e_api_Entry a0_.Entries)), .p (.int .i64 a0_.Cycle)]] (.p (.int .i64 r)) := by
  unfold ref27_Check at h
  have hH : HP ([] : List HO) [] := trivial
  refine pcall_of chk16 rfl rfl (vc_sound _ _ _ ?_) rfl
  refine vc_seq ?_
  refine vc_reg (S := ⟨[(1, .loc 1 0)], [(1, [.p (.sl 2 false (List.map e_api_Entry a0_.Entries)), .p (.int .i64 a0_.Cycle)])], []⟩) (APath.fin (by kernel_rfl)) (by kernel_rfl) ?_
  refine vc_seq ?_
  refine vc_seq ?_
  obtain ⟨r1, hr1, h⟩ := bind_some h
  refine vc_reg (S := ⟨[(4, .p (.bool r1))], [], []⟩) (APath.chunk 1 (by kernel_rfl) (APath.one (.call (some 4) 37 [.t 3]) (by kernel_rfl) (st_call (by kernel_rfl) (ref27_Right_ok N a0_ r1 hr1)) APath.done)) (by kernel_rfl) ?_
  refine vc_ite (by kernel_rfl) h (fun hc2 h => ?_) (fun hc2 h => ?_)
  · refine vc_seq ?_
    refine vc_reg (S := ⟨[(2, .p (.int .i64 0))], [], []⟩) (APath.fin (by kernel_rfl)) (by kernel_rfl) ?_
    refine vc_ret ?_
    obtain rfl := some_inj h
    exact ret_of (by kernel_rfl)
  · refine vc_skip ?_
    refine vc_kp ?_
    refine vc_seq ?_
    refine vc_reg (S := ⟨[(2, .p (.int .i64 370))], [], []⟩) (APath.fin (by kernel_rfl)) (by kernel_rfl) ?_
    refine vc_ret ?_
    obtain rfl := some_inj h
    exact ret_of (by kernel_rfl)
/- isochronlaw27.mask -/
theorem law27_mask_ok (N : Nat) (a0_ : api_Gates) (a1_ : Int) (r : Int) (h : law27_mask N a0_ a1_ = some r) : PCall Try.prog 25 [.agg [.p (.sl 2 false (List.map e_api_Entry a0_.Entries)), .p (.int .i64 a0_.Cycle)], .p (.int .i64 a1_)] (.p (.int .i64 r)) := by
  unfold law27_mask at h
  have hH : HP ([] : List HO) [] := trivial
  refine pcall_of chk25 rfl rfl (vc_sound _ _ _ ?_) rfl
  refine vc_seq ?_
  refine vc_reg (S := ⟨[(1, .p (.int .i64 a1_)), (2, .loc 2 0)], [(2, [.p (.sl 2 false (List.map e_api_Entry a0_.Entries)), .p (.int .i64 a0_.Cycle)])], []⟩) (APath.fin (by kernel_rfl)) (by kernel_rfl) ?_
  refine vc_seq ?_
  obtain ⟨r1, hr1, h⟩ := bind_some h
  refine vc_reg (S := ⟨[(5, .p (.int .i64 r1.1)), (6, .p (.int .i64 r1.2))], [], []⟩) (APath.chunk 2 (by kernel_rfl) (APath.one (.call (some 10) 11 [.t 8, .t 9]) (by kernel_rfl) (st_call (by kernel_rfl) (gates_Mask_ok N a0_ a1_ r1 hr1)) (APath.fin (by kernel_rfl)))) (by kernel_rfl) ?_
  refine vc_seq ?_
  refine vc_seq ?_
  refine vc_reg (S := ⟨[(5, .p (.int .i64 r1.1)), (14, .p (.bool (r1.2 != 0)))], [], []⟩) (APath.fin (by kernel_rfl)) (by kernel_rfl) ?_
  refine vc_ite (by kernel_rfl) h (fun hc2 h => ?_) (fun hc2 h => ?_)
  · refine vc_seq ?_
    refine vc_reg (S := ⟨[(4, .p (.int .i64 (-1)))], [], []⟩) (APath.fin (by kernel_rfl)) (by kernel_rfl) ?_
    refine vc_ret ?_
    obtain rfl := some_inj h
    exact ret_of (by kernel_rfl)
  · refine vc_skip ?_
    refine vc_kp ?_
    refine vc_seq ?_
    refine vc_reg (S := ⟨[(4, .p (.int .i64 r1.1))], [], []⟩) (APath.fin (by kernel_rfl)) (by kernel_rfl) ?_
    refine vc_ret ?_
    obtain rfl := some_inj h
    exact ret_of (by kernel_rfl)
/- isochronref27.times -/
theorem ref27_times_ok (N : Nat) (a0_ : api_Gates) (a1_ : Int) (a2_ : Int) (a3_ : Int) (r : Int) (h : ref27_times N a0_ a1_ a2_ a3_ = some r) : PCall Try.prog 32 [.agg [.p (.sl 2 false (List.map e_api_Entry a0_.Entries)), .p (.int .i64 a0_.Cycle)], .p (.int .i64 a1_), .p (.int .i64 a2_), .p (.int .i64 a3_)] (.p (.int .i64 r)) := by
  unfold ref27_times at h
  have hH : HP ([] : List HO) [] := trivial
  refine pcall_of chk32 rfl rfl (vc_sound _ _ _ ?_) rfl
  refine vc_seq ?_
  refine vc_reg (S := ⟨[(1, .p (.int .i64 a1_)), (2, .p (.int .i64 a2_)), (3, .p (.int .i64 a3_)), (4, .loc 4 0)], [(4, [.p (.sl 2 false (List.map e_api_Entry a0_.Entries)), .p (.int .i64 a0_.Cycle)])], []⟩) (APath.fin (by kernel_rfl)) (by kernel_rfl) ?_
  refine vc_seq ?_
  refine vc_seq ?_
  obtain ⟨r1, hr1, h⟩ := bind_some h
  refine vc_reg (S := ⟨[(1, .p (.int .i64 a1_)), (2, .p (.int .i64 a2_)), (3, .p (.int .i64 a3_)), (11, .p (.bool (!r1)))], [], []⟩) (APath.chunk 1 (by kernel_rfl) (APath.one (.call (some 10) 37 [.t 9]) (by kernel_rfl) (st_call (by kernel_rfl) (ref27_Right_ok N a0_ r1 hr1)) (APath.fin (by kernel_rfl)))) (by kernel_rfl) ?_
  refine vc_ite (by kernel_rfl) h (fun hc2 h => ?_) (fun hc2 h => ?_)
  · refine vc_seq ?_
    refine vc_reg (S := ⟨[(8, .p (.int .i64 370))], [], []⟩) (APath.fin (by kernel_rfl)) (by kernel_rfl) ?_
    refine vc_ret ?_
    obtain rfl := some_inj h
    exact ret_of (by kernel_rfl)
  · refine vc_skip ?_
    refine vc_kp ?_
    refine vc_seq ?_
    refine vc_seq ?_
    refine vc_regX ⟨[(33, .p (.bool ((decide (a1_ < 0)) || ((decide (a1_ > 7)) || ((decide (a2_ < (-1099511627776))) || ((decide (a2_ > 1099511627776)) || ((decide (a3_ < 0)) || (decide (a3_ > 1099511627776)))))))))], [], []⟩ ?_ ?_
    · rcases Bool.eq_false_or_eq_true (decide (a1_ < 0)) with hc3 | hc4
      · exact ⟨_, (APath.chunk 1 (by kernel_rfl) (APath.one (.val 13 (.bin .lss) [.t 12, .k (.p (.int .i64 0))]) (by kernel_rfl) (st_bool (c := (decide (a1_ < 0))) (by kernel_rfl) hc3) (APath.fin (by kernel_rfl)))), by simp only [hc3]; kernel_rfl⟩
      · rcases Bool.eq_false_or_eq_true (decide (a1_ > 7)) with hc5 | hc6
        · exact ⟨_, (APath.chunk 1 (by kernel_rfl) (APath.one (.val 13 (.bin .lss) [.t 12, .k (.p (.int .i64 0))]) (by kernel_rfl) (st_bool (c := (decide (a1_ < 0))) (by kernel_rfl) hc4) (APath.chunk 2 (by kernel_rfl) (APath.oneG (.val 16 (.bin .gtr) [.t 15, .k (.p (.int .i64 7))]) 14 false (by kernel_rfl) (by kernel_rfl) (st_bool (c := (decide (a1_ > 7))) (by kernel_rfl) hc5) (APath.fin (by kernel_rfl)))))), by simp only [hc4, hc5]; kernel_rfl⟩
        · rcases Bool.eq_false_or_eq_true (decide (a2_ < (-1099511627776))) with hc7 | hc8
          · exact ⟨_, (APath.chunk 1 (by kernel_rfl) (APath.one (.val 13 (.bin .lss) [.t 12, .k (.p (.int .i64 0))]) (by kernel_rfl) (st_bool (c := (decide (a1_ < 0))) (by kernel_rfl) hc4) (APath.chunk 2 (by kernel_rfl) (APath.oneG (.val 16 (.bin .gtr) [.t 15, .k (.p (.int .i64 7))]) 14 false (by kernel_rfl) (by kernel_rfl) (st_bool (c := (decide (a1_ > 7))) (by kernel_rfl) hc6) (APath.chunk 3 (by kernel_rfl) (APath.oneG (.val 20 (.bin .lss) [.t 19, .k (.p (.int .i64 (-1099511627776)))]) 18 false (by kernel_rfl) (by kernel_rfl) (st_bool (c := (decide (a2_ < (-1099511627776)))) (by kernel_rfl) hc7) (APath.fin (by kernel_rfl)))))))), by simp only [hc4, hc6, hc7]; kernel_rfl⟩
          · rcases Bool.eq_false_or_eq_true (decide (a2_ > 1099511627776)) with hc9 | hc10
            · exact ⟨_, (APath.chunk 1 (by kernel_rfl) (APath.one (.val 13 (.bin .lss) [.t 12, .k (.p (.int .i64 0))]) (by kernel_rfl) (st_bool (c := (decide (a1_ < 0))) (by kernel_rfl) hc4) (APath.chunk 2 (by kernel_rfl) (APath.oneG (.val 16 (.bin .gtr) [.t 15, .k (.p (.int .i64 7))]) 14 false (by kernel_rfl) (by kernel_rfl) (st_bool (c := (decide (a1_ > 7))) (by kernel_rfl) hc6) (APath.chunk 3 (by kernel_rfl) (APath.oneG (.val 20 (.bin .lss) [.t 19, .k (.p (.int .i64 (-1099511627776)))]) 18 false (by kernel_rfl) (by kernel_rfl) (st_bool (c := (decide (a2_ < (-1099511627776)))) (by kernel_rfl) hc8) (APath.chunk 3 (by kernel_rfl) (APath.oneG (.val 24 (.bin .gtr) [.t 23, .k (.p (.int .i64 1099511627776))]) 22 false (by kernel_rfl) (by kernel_rfl) (st_bool (c := (decide (a2_ > 1099511627776))) (by kernel_rfl) hc9) (APath.fin (by kernel_rfl)))))))))), by simp only [hc4, hc6, hc8, hc9]; kernel_rfl⟩
            · rcases Bool.eq_false_or_eq_true (decide (a3_ < 0)) with hc11 | hc12
              · exact ⟨_, (APath.chunk 1 (by kernel_rfl) (APath.one (.val 13 (.bin .lss) [.t 12, .k (.p (.int .i64 0))]) (by kernel_rfl) (st_bool (c := (decide (a1_ < 0))) (by kernel_rfl) hc4) (APath.chunk 2 (by kernel_rfl) (APath.oneG (.val 16 (.bin .gtr) [.t 15, .k (.p (.int .i64 7))]) 14 false (by kernel_rfl) (by kernel_rfl) (st_bool (c := (decide (a1_ > 7))) (by kernel_rfl) hc6) (APath.chunk 3 (by kernel_rfl) (APath.oneG (.val 20 (.bin .lss) [.t 19, .k (.p (.int .i64 (-1099511627776)))]) 18 false (by kernel_rfl) (by kernel_rfl) (st_bool (c := (decide (a2_ < (-1099511627776)))) (by kernel_rfl) hc8) (APath.chunk 3 (by kernel_rfl) (APath.oneG (.val 24 (.bin .gtr) [.t 23, .k (.p (.int .i64 1099511627776))]) 22 false (by kernel_rfl) (by kernel_rfl) (st_bool (c := (decide (a2_ > 1099511627776))) (by kernel_rfl) hc10) (APath.chunk 3 (by kernel_rfl) (APath.oneG (.val 28 (.bin .lss) [.t 27, .k (.p (.int .i64 0))]) 26 false (by kernel_rfl) (by kernel_rfl) (st_bool (c := (decide (a3_ < 0))) (by kernel_rfl) hc11) (APath.fin (by kernel_rfl)))))))))))), by simp only [hc4, hc6, hc8, hc10, hc11]; kernel_rfl⟩
              · exact ⟨_, (APath.chunk 1 (by kernel_rfl) (APath.one (.val 13 (.bin .lss) [.t 12, .k (.p (.int .i64 0))]) (by kernel_rfl) (st_bool (c := (decide (a1_ < 0))) (by kernel_rfl) hc4) (APath.chunk 2 (by kernel_rfl) (APath.oneG (.val 16 (.bin .gtr) [.t 15, .k (.p (.int .i64 7))]) 14 false (by kernel_rfl) (by kernel_rfl) (st_bool (c := (decide (a1_ > 7))) (by kernel_rfl) hc6) (APath.chunk 3 (by kernel_rfl) (APath.oneG (.val 20 (.bin .lss) [.t 19, .k (.p (.int .i64 (-1099511627776)))]) 18 false (by kernel_rfl) (by kernel_rfl) (st_bool (c := (decide (a2_ < (-1099511627776)))) (by kernel_rfl) hc8) (APath.chunk 3 (by kernel_rfl) (APath.oneG (.val 24 (.bin .gtr) [.t 23, .k (.p (.int .i64 1099511627776))]) 22 false (by kernel_rfl) (by kernel_rfl) (st_bool (c := (decide (a2_ > 1099511627776))) (by kernel_rfl) hc10) (APath.chunk 3 (by kernel_rfl) (APath.oneG (.val 28 (.bin .lss) [.t 27, .k (.p (.int .i64 0))]) 26 false (by kernel_rfl) (by kernel_rfl) (st_bool (c := (decide (a3_ < 0))) (by kernel_rfl) hc12) (APath.fin (by kernel_rfl)))))))))))), by simp only [hc4, hc6, hc8, hc10, hc12]; kernel_rfl⟩
    · refine vc_ite (by kernel_rfl) h (fun hc13 h => ?_) (fun hc13 h => ?_)
      · refine vc_seq ?_
        refine vc_reg (S := ⟨[(8, .p (.int .i64 2))], [], []⟩) (APath.fin (by kernel_rfl)) (by kernel_rfl) ?_
        refine vc_ret ?_
        obtain rfl := some_inj h
        exact ret_of (by kernel_rfl)
      · refine vc_skip ?_
        refine vc_kp ?_
        refine vc_seq ?_
        refine vc_reg (S := ⟨[(8, .p (.int .i64 0))], [], []⟩) (APath.fin (by kernel_rfl)) (by kernel_rfl) ?_
        refine vc_ret ?_
        obtain rfl := some_inj h
        exact ret_of (by kernel_rfl)
/- isochronref27.State -/
theorem ref27_State_ok (N : Nat) (a0_ : api_Gates) (a1_ : Int) (r : Int) (h : ref27_State N a0_ a1_ = some r) : PCall Try.prog 33 [.agg [.p (.sl 2 false (List.map e_api_Entry a0_.Entries)), .p (.int .i64 a0_.Cycle)], .p (.int .i64 a1_)] (.p (.int .i64 r)) := by
  unfold ref27_State at h
  have hH : HP ([] : List HO) [] := trivial
  refine pcall_of chk33 rfl rfl (vc_sound _ _ _ ?_) rfl
  refine vc_seq ?_
  refine vc_reg (S := ⟨[(1, .p (.int .i64 a1_)), (2, .loc 2 0)], [(2, [.p (.sl 2 false (List.map e_api_Entry a0_.Entries)), .p (.int .i64 a0_.Cycle)])], []⟩) (APath.fin (by kernel_rfl)) (by kernel_rfl) ?_
  refine vc_seq ?_
  obtain ⟨r1, hr1, h⟩ := bind_some h
  refine vc_reg (S := ⟨[(2, .loc 2 0), (5, .p (.int .i64 r1.1))], [(2, [.p (.sl 2 false (List.map e_api_Entry a0_.Entries)), .p (.int .i64 a0_.Cycle)])], []⟩) (APath.chunk 2 (by kernel_rfl) (APath.one (.call (some 10) 36 [.t 8, .t 9]) (by kernel_rfl) (st_call (by kernel_rfl) (ref27_At_ok N a0_ a1_ r1 hr1)) (APath.fin (by kernel_rfl)))) (by kernel_rfl) ?_
  refine vc_seq ?_
  obtain ⟨e2, he2, h⟩ := bind_some h
  refine vc_reg (S := ⟨[(4, .p (.int .i64 e2.Mask))], [], []⟩) (APath.chunk 3 (by kernel_rfl) (APath.one (.val 16 (.iaddrS 2) [.t 14, .t 15]) (by kernel_rfl) (st_val (ys := [.p (.sl 2 false (List.map e_api_Entry a0_.Entries)), .p (.int .i64 r1.1)]) (by kernel_rfl) (vexec_iaddrS e_api_Entry he2)) (APath.chunk 1 (by kernel_rfl) (APath.one (.load 18 (.t 17) 1 false) (by kernel_rfl) (st_loadP (sz := 2) (off := 0) (cs := [.int .i64 e2.Mask]) (r := .p (.int .i64 e2.Mask)) e_api_Entry he2 (by kernel_rfl) (by kernel_rfl) (by kernel_rfl)) (APath.fin (by kernel_rfl)))))) (by kernel_rfl) ?_
  refine vc_ret ?_
  obtain rfl := some_inj h
  exact ret_of (by kernel_rfl)
/- gates.open -/
theorem gates_open_ok (N : Nat) (a0_ : api_Gates) (a1_ : Int) (a2_ : Int) (r : Int) (h : gates_open N a0_ a1_ a2_ = some r) : PCall Try.prog 38 [.agg [.p (.sl 2 false (List.map e_api_Entry a0_.Entries)), .p (.int .i64 a0_.Cycle)], .p (.int .i64 a1_), .p (.int .i64 a2_)] (.p (.int .i64 r)) := by
  unfold gates_open at h
  have hH : HP ([] : List HO) [] := trivial
  refine pcall_of chk38 rfl rfl (vc_sound _ _ _ ?_) rfl
  refine vc_seq ?_
  obtain ⟨id1, H2, hid1, hH2, hH⟩ := HP.newCell hH [.p (.int .i64 a1_)]
  replace hH : HP H2 [.cel id1 [.p (.int .i64 a1_)]] := hH
  refine vc_reg (S := ⟨[(2, .p (.int .i64 a2_)), (3, .loc 3 0), (4, .ptr id1 0)], [(3, [.p (.sl 2 false (List.map e_api_Entry a0_.Entries)), .p (.int .i64 a0_.Cycle)])], H2⟩) (APath.chunk 1 (by kernel_rfl) (APath.one (.boxH 4 (.t 1)) (by kernel_rfl) (st_boxH (H := []) (v := .p (.int .i64 a1_)) (by kernel_rfl) (by kernel_rfl) (by kernel_rfl) hid1 hH2) (APath.fin (by kernel_rfl)))) (by kernel_rfl) ?_
  refine vc_seq ?_
  obtain ⟨r3, hr3, h⟩ := bind_some h
  have hvr3 := (gates_stretch_ok N a0_ a2_ (fun x0 => gates_open_1 N x0 a1_)   42 [] [.ptr id1 0] (by kernel_rfl) [.cel id1 [.p (.int .i64 a1_)]] (fun H x0 r hH h => VCall.of (by kernel_rfl) (gates_open_1_ok N x0 a1_ id1 H hH r h)) H2 (HP.pick hH [0] rfl) r3 hr3)
  refine vc_reg (S := ⟨[(3, .loc 3 0), (7, .p (.int .i64 r3))], [(3, [.p (.sl 2 false (List.map e_api_Entry a0_.Entries)), .p (.int .i64 a0_.Cycle)])], H2⟩) (APath.chunk 3 (by kernel_rfl) (APath.one (.call (some 11) 34 [.t 8, .t 9, .t 10]) (by kernel_rfl) (st_callH (H := H2) (ys := [.agg [.p (.sl 2 false (List.map e_api_Entry a0_.Entries)), .p (.int .i64 a0_.Cycle)], .p (.int .i64 a2_), .fn 42 [] [.ptr id1 0]]) (by kernel_rfl) (by kernel_rfl) (by kernel_rfl) hvr3) (APath.fin (by kernel_rfl)))) (by kernel_rfl) ?_
  replace hH : HP H2 [] := HP.pick hH [] rfl
  refine vc_seq ?_
  refine vc_seq ?_
  refine vc_reg (S := ⟨[(7, .p (.int .i64 r3)), (15, .p (.bool (r3 == a0_.Cycle)))], [], H2⟩) (APath.fin (by kernel_rfl)) (by kernel_rfl) ?_
  refine vc_ite (by kernel_rfl) h (fun hc4 h => ?_) (fun hc4 h => ?_)
  · refine vc_seq ?_
    refine vc_reg (S := ⟨[(6, .p (.int .i64 1099511627776))], [], H2⟩) (APath.fin (by kernel_rfl)) (by kernel_rfl) ?_
    refine vc_ret ?_
    obtain rfl := some_inj h
    exact ret_of (by kernel_rfl)
  · refine vc_skip ?_
    refine vc_kp ?_
    refine vc_seq ?_
    refine vc_reg (S := ⟨[(6, .p (.int .i64 r3))], [], H2⟩) (APath.fin (by kernel_rfl)) (by kernel_rfl) ?_
    refine vc_ret ?_
    obtain rfl := some_inj h
    exact ret_of (by kernel_rfl)
/- isochronref27.Span -/
theorem ref27_Span_ok (N : Nat) (a0_ : api_Gates) (a1_ : Int) (a2_ : Int) (r : Int) (h : ref27_Span N a0_ a1_ a2_ = some r) : PCall Try.prog 39 [.agg [.p (.sl 2 false (List.map e_api_Entry a0_.Entries)), .p (.int .i64 a0_.Cycle)], .p (.int .i64 a1_), .p (.int .i64 a2_)] (.p (.int .i64 r)) := by
  unfold ref27_Span at h
  have hH : HP ([] : List HO) [] := trivial
  refine pcall_of chk39 rfl rfl (vc_sound _ _ _ ?_) rfl
  refine vc_seq ?_
  refine vc_reg (S := ⟨[(1, .p (.int .i64 a1_)), (2, .p (.int .i64 a2_)), (3, .loc 3 0)], [(3, [.p (.sl 2 false (List.map e_api_Entry a0_.Entries)), .p (.int .i64 a0_.Cycle)])], []⟩) (APath.fin (by kernel_rfl)) (by kernel_rfl) ?_
  refine vc_seq ?_
  obtain ⟨r1, hr1, h⟩ := bind_some h
  refine vc_reg (S := ⟨[(1, .p (.int .i64 a1_)), (3, .loc 3 0), (7, .p (.int .i64 r1.1)), (8, .p (.int .i64 r1.2))], [(3, [.p (.sl 2 false (List.map e_api_Entry a0_.Entries)), .p (.int .i64 a0_.Cycle)])], []⟩) (APath.chunk 2 (by kernel_rfl) (APath.one (.call (some 15) 36 [.t 13, .t 14]) (by kernel_rfl) (st_call (by kernel_rfl) (ref27_At_ok N a0_ a2_ r1 hr1)) (APath.fin (by kernel_rfl)))) (by kernel_rfl) ?_
  refine vc_seq ?_
  refine vc_reg (S := ⟨[(1, .p (.int .i64 a1_)), (3, .loc 3 0), (7, .p (.int .i64 r1.1)), (9, .p (.int .i64 (w64 (0 - r1.2))))], [(3, [.p (.sl 2 false (List.map e_api_Entry a0_.Entries)), .p (.int .i64 a0_.Cycle)])], []⟩) (APath.fin (by kernel_rfl)) (by kernel_rfl) ?_
  refine vc_seq ?_
  refine vc_seq ?_
  refine vc_reg (S := ⟨[(1, .p (.int .i64 a1_)), (3, .loc 3 0), (7, .p (.int .i64 r1.1)), (9, .p (.int .i64 (w64 (0 - r1.2)))), (10, .p (.int .i64 0))], [(3, [.p (.sl 2 false (List.map e_api_Entry a0_.Entries)), .p (.int .i64 a0_.Cycle)])], []⟩) (APath.fin (by kernel_rfl)) (by kernel_rfl) ?_
  refine vc_block ?_
  obtain ⟨o509, ho509, h⟩ := bind_some h
  refine vc_loop ((loop_sim (fun (x : Int × Int) s => s = ⟨[(1, .p (.int .i64 a1_)), (3, .loc 3 0), (7, .p (.int .i64 r1.1)), (9, .p (.int .i64 x.1)), (10, .p (.int .i64 x.2))], [(3, [.p (.sl 2 false (List.map e_api_Entry a0_.Entries)), .p (.int .i64 a0_.Cycle)])], []⟩) (fun x : Int × Int => ref27_Span_L1 N a0_ a1_ r1 x.1 x.2) (fun (p : (Int × Int) ⊕ (Int)) e s => match p with | (.inl p) => e = .exit 0 ∧ (s = ⟨[(1, .p (.int .i64 a1_)), (3, .loc 3 0), (7, .p (.int .i64 r1.1)), (9, .p (.int .i64 p.1)), (10, .p (.int .i64 p.2))], [(3, [.p (.sl 2 false (List.map e_api_Entry a0_.Entries)), .p (.int .i64 a0_.Cycle)])], []⟩) | (.inr p) => e = .ret ∧ ∃ xs, resL s i39.res = some xs ∧ tupOf xs = .p (.int .i64 p)) ?_ N _ o509 _ ho509 (by show _ = _; kernel_rfl)).mono ?_)
  · clear h ho509
    rintro ⟨i2, i3⟩ o s h hR
    obtain rfl := hR
    replace h : ref27_Span_L1 N a0_ a1_ r1 i2 i3 = some o := h
    unfold ref27_Span_L1 at h
    refine vc_seq ?_
    refine vc_seq ?_
    refine vc_reg (S := ⟨[(1, .p (.int .i64 a1_)), (3, .loc 3 0), (7, .p (.int .i64 r1.1)), (9, .p (.int .i64 i2)), (10, .p (.int .i64 i3)), (24, .p (.bool (decide (i3 < ((List.length a0_.Entries : Nat) : Int)))))], [(3, [.p (.sl 2 false (List.map e_api_Entry a0_.Entries)), .p (.int .i64 a0_.Cycle)])], []⟩) (APath.chunk 3 (by kernel_rfl) (APath.one (.val 23 .len [.t 22]) (by kernel_rfl) (st_val (ys := [.p (.sl 2 false (List.map e_api_Entry a0_.Entries))]) (by kernel_rfl) (vexec_len e_api_Entry)) (APath.fin (by kernel_rfl)))) (by kernel_rfl) ?_
    refine vc_ite (by kernel_rfl) h (fun hc504 h => ?_) (fun hc504 h => ?_)
    · refine vc_skip ?_
      refine vc_kp ?_
      refine vc_seq ?_
      refine vc_block ?_
      refine vc_seq ?_
      obtain ⟨m505, hm505, h⟩ := bind_some h
      obtain ⟨e506, he506, h⟩ := bind_some h
      refine vc_regD (S := ⟨[(1, .p (.int .i64 a1_)), (3, .loc 3 0), (7, .p (.int .i64 r1.1)), (9, .p (.int .i64 i2)), (10, .p (.int .i64 i3)), (11, .loc 11 0)], [(3, [.p (.sl 2 false (List.map e_api_Entry a0_.Entries)), .p (.int .i64 a0_.Cycle)]), (11, [.p (.int .i64 e506.Mask), .p (.int .i64 e506.Long)])], []⟩) (by kernel_rfl) (APath.chunk 7 (by kernel_rfl) (APath.one (.val 34 .len [.t 33]) (by kernel_rfl) (st_val (ys := [.p (.sl 2 false (List.map e_api_Entry a0_.Entries))]) (by kernel_rfl) (vexec_len e_api_Entry)) (APath.one (.val 35 (.bin .rem) [.t 31, .t 34]) (by kernel_rfl) (st_val (ys := [.p (.int .i64 (w64 (r1.1 + i3))), .p (.int .i64 ((List.length a0_.Entries : Nat) : Int))]) (by kernel_rfl) (vexec_rem hm505)) (APath.one (.val 36 (.iaddrS 2) [.t 28, .t 35]) (by kernel_rfl) (st_val (ys := [.p (.sl 2 false (List.map e_api_Entry a0_.Entries)), .p (.int .i64 m505)]) (by kernel_rfl) (vexec_iaddrS e_api_Entry he506)) (APath.one (.load 37 (.t 36) 2 true) (by kernel_rfl) (st_loadP (sz := 2) (off := 0) (cs := [.int .i64 e506.Mask, .int .i64 e506.Long]) (r := .agg [.p (.int .i64 e506.Mask), .p (.int .i64 e506.Long)]) e_api_Entry he506 (by kernel_rfl) (by kernel_rfl) (by kernel_rfl)) (APath.fin (by kernel_rfl))))))) (by kernel_rfl) ?_
      refine vc_seq ?_
      refine vc_seq ?_
      obtain ⟨r507, hr507, h⟩ := bind_some h
      refine vc_reg (S := ⟨[(1, .p (.int .i64 a1_)), (3, .loc 3 0), (7, .p (.int .i64 r1.1)), (9, .p (.int .i64 i2)), (10, .p (.int .i64 i3)), (11, .loc 11 0), (42, .p (.bool (!r507)))], [(3, [.p (.sl 2 false (List.map e_api_Entry a0_.Entries)), .p (.int .i64 a0_.Cycle)]), (11, [.p (.int .i64 e506.Mask), .p (.int .i64 e506.Long)])], []⟩) (APath.chunk 3 (by kernel_rfl) (APath.one (.call (some 41) 43 [.t 39, .t 40]) (by kernel_rfl) (st_call (by kernel_rfl) (ref27_Bit_ok N e506.Mask a1_ r507 hr507)) (APath.fin (by kernel_rfl)))) (by kernel_rfl) ?_
      refine vc_ite (by kernel_rfl) h (fun hc508 h => ?_) (fun hc508 h => ?_)
      · refine vc_seq ?_
        refine vc_reg (S := ⟨[(6, .p (.int .i64 (if 0 > i2 then 0 else i2)))], [], []⟩) (APath.fin (by kernel_rfl)) (by kernel_rfl) ?_
        refine vc_ret ?_
        obtain rfl := some_inj h
        exact ⟨_, rfl, rfl, ret_of (by kernel_rfl)⟩
      · refine vc_skip ?_
        refine vc_kp ?_
        refine vc_reg (S := ⟨[(1, .p (.int .i64 a1_)), (3, .loc 3 0), (7, .p (.int .i64 r1.1)), (9, .p (.int .i64 (w64 (i2 + e506.Long)))), (10, .p (.int .i64 i3))], [(3, [.p (.sl 2 false (List.map e_api_Entry a0_.Entries)), .p (.int .i64 a0_.Cycle)])], []⟩) (APath.fin (by kernel_rfl)) (by kernel_rfl) ?_
        refine vc_kp ?_
        refine vc_reg (S := ⟨[(1, .p (.int .i64 a1_)), (3, .loc 3 0), (7, .p (.int .i64 r1.1)), (9, .p (.int .i64 (w64 (i2 + e506.Long)))), (10, .p (.int .i64 (w64 (i3 + 1))))], [(3, [.p (.sl 2 false (List.map e_api_Entry a0_.Entries)), .p (.int .i64 a0_.Cycle)])], []⟩) (APath.fin (by kernel_rfl)) (by kernel_rfl) ?_
        obtain rfl := some_inj h
        exact ⟨_, rfl, (by show _ = _; kernel_rfl)⟩
    · refine vc_exit ?_
      try show vc _ _ _ _ _
      obtain rfl := some_inj h
      exact ⟨_, rfl, rfl, (by show _ = _; kernel_rfl)⟩
  · rintro e s hq
    rcases o509 with p510 | p511
    · dsimp only at h hq
      obtain ⟨rfl, hR⟩ := hq
      obtain rfl := hR
      try show vc _ _ _ _ _
      refine vc_seq ?_
      refine vc_reg (S := ⟨[(6, .p (.int .i64 1099511627776))], [], []⟩) (APath.fin (by kernel_rfl)) (by kernel_rfl) ?_
      refine vc_ret ?_
      obtain rfl := some_inj h
      exact ret_of (by kernel_rfl)
    · dsimp only at h hq
      obtain ⟨rfl, hq⟩ := hq
      obtain rfl := some_inj h
      exact hq
/- isochronref27.Earliest -/
theorem ref27_Earliest_ok (N : Nat) (a0_ : api_Gates) (a1_ : Int) (a2_ : Int) (a3_ : Int) (r : Int × Bool) (h : ref27_Earliest N a0_ a1_ a2_ a3_ = some r) : PCall Try.prog 41 [.agg [.p (.sl 2 false (List.map e_api_Entry a0_.Entries)), .p (.int .i64 a0_.Cycle)], .p (.int .i64 a1_), .p (.int .i64 a2_), .p (.int .i64 a3_)] (.tup [.p (.int .i64 r.1), .p (.bool r.2)]) := by
  unfold ref27_Earliest at h
  have hH : HP ([] : List HO) [] := trivial
  refine pcall_of chk41 rfl rfl (vc_sound _ _ _ ?_) rfl
  refine vc_seq ?_
  refine vc_reg (S := ⟨[(1, .p (.int .i64 a1_)), (2, .p (.int .i64 a2_)), (3, .p (.int .i64 a3_)), (4, .loc 4 0)], [(4, [.p (.sl 2 false (List.map e_api_Entry a0_.Entries)), .p (.int .i64 a0_.Cycle)])], []⟩) (APath.fin (by kernel_rfl)) (by kernel_rfl) ?_
  refine vc_seq ?_
  refine vc_seq ?_
  obtain ⟨j4, hj, h⟩ := bind_some h
  refine vc_regXR (fun s => s = ⟨[(1, .p (.int .i64 a1_)), (2, .p (.int .i64 a2_)), (3, .p (.int .i64 a3_)), (4, .loc 4 0), (23, .p (.bool j4))], [(4, [.p (.sl 2 false (List.map e_api_Entry a0_.Entries)), .p (.int .i64 a0_.Cycle)])], []⟩) ?_ ?_
  · clear h
    rcases ite_some hj with ⟨hc1, hj⟩ | ⟨hc2, hj⟩
    · obtain rfl := some_inj hj
      exact ⟨_, (APath.chunk 1 (by kernel_rfl) (APath.one (.val 15 (.bin .eql) [.t 14, .k (.p (.int .i64 0))]) (by kernel_rfl) (st_bool (c := (a3_ == 0)) (by kernel_rfl) hc1) (APath.fin (by kernel_rfl)))), (by show _ = _; kernel_rfl)⟩
    · obtain ⟨r3, hr3, hj⟩ := bind_some hj
      obtain rfl := some_inj hj
      exact ⟨_, (APath.chunk 1 (by kernel_rfl) (APath.one (.val 15 (.bin .eql) [.t 14, .k (.p (.int .i64 0))]) (by kernel_rfl) (st_bool (c := (a3_ == 0)) (by kernel_rfl) hc2) (APath.chunk 4 (by kernel_rfl) (APath.oneG (.call (some 20) 39 [.t 17, .t 18, .t 19]) 16 false (by kernel_rfl) (by kernel_rfl) (st_call (by kernel_rfl) (ref27_Span_ok N a0_ a1_ a2_ r3 hr3)) (APath.fin (by kernel_rfl)))))), (by show _ = _; kernel_rfl)⟩
  · clear hj
    rintro s hR
    obtain rfl := hR
    refine vc_ite (by kernel_rfl) h (fun hc5 h => ?_) (fun hc5 h => ?_)
    · refine vc_seq ?_
      refine vc_reg (S := ⟨[(8, .p (.int .i64 a2_)), (9, .p (.bool true))], [], []⟩) (APath.fin (by kernel_rfl)) (by kernel_rfl) ?_
      refine vc_ret ?_
      obtain rfl := some_inj h
      exact ret_of (by kernel_rfl)
    · refine vc_skip ?_
      refine vc_kp ?_
      refine vc_seq ?_
      obtain ⟨r6, hr6, h⟩ := bind_some h
      refine vc_reg (S := ⟨[(1, .p (.int .i64 a1_)), (2, .p (.int .i64 a2_)), (3, .p (.int .i64 a3_)), (4, .loc 4 0), (10, .p (.int .i64 r6.1)), (11, .p (.int .i64 r6.2))], [(4, [.p (.sl 2 false (List.map e_api_Entry a0_.Entries)), .p (.int .i64 a0_.Cycle)])], []⟩) (APath.chunk 2 (by kernel_rfl) (APath.one (.call (some 28) 36 [.t 26, .t 27]) (by kernel_rfl) (st_call (by kernel_rfl) (ref27_At_ok N a0_ a2_ r6 hr6)) (APath.fin (by kernel_rfl)))) (by kernel_rfl) ?_
      refine vc_seq ?_
      refine vc_reg (S := ⟨[(1, .p (.int .i64 a1_)), (3, .p (.int .i64 a3_)), (4, .loc 4 0), (10, .p (.int .i64 r6.1)), (12, .p (.int .i64 (w64 (a2_ - r6.2))))], [(4, [.p (.sl 2 false (List.map e_api_Entry a0_.Entries)), .p (.int .i64 a0_.Cycle)])], []⟩) (APath.fin (by kernel_rfl)) (by kernel_rfl) ?_
      refine vc_seq ?_
      refine vc_seq ?_
      refine vc_reg (S := ⟨[(1, .p (.int .i64 a1_)), (3, .p (.int .i64 a3_)), (4, .loc 4 0), (10, .p (.int .i64 r6.1)), (12, .p (.int .i64 (w64 (a2_ - r6.2)))), (13, .p (.int .i64 0))], [(4, [.p (.sl 2 false (List.map e_api_Entry a0_.Entries)), .p (.int .i64 a0_.Cycle)])], []⟩) (APath.fin (by kernel_rfl)) (by kernel_rfl) ?_
      refine vc_block ?_
      obtain ⟨o514, ho514, h⟩ := bind_some h
      refine vc_loop ((loop_sim (fun (x : Int × Int) s => s = ⟨[(1, .p (.int .i64 a1_)), (3, .p (.int .i64 a3_)), (4, .loc 4 0), (10, .p (.int .i64 r6.1)), (12, .p (.int .i64 x.1)), (13, .p (.int .i64 x.2))], [(4, [.p (.sl 2 false (List.map e_api_Entry a0_.Entries)), .p (.int .i64 a0_.Cycle)])], []⟩) (fun x : Int × Int => ref27_Earliest_L1 N a0_ a1_ a3_ r6 x.1 x.2) (fun (p : (Int × Int) ⊕ (Int × Bool)) e s => match p with | (.inl p) => e = .exit 0 ∧ (s = ⟨[(1, .p (.int .i64 a1_)), (3, .p (.int .i64 a3_)), (4, .loc 4 0), (10, .p (.int .i64 r6.1)), (12, .p (.int .i64 p.1)), (13, .p (.int .i64 p.2))], [(4, [.p (.sl 2 false (List.map e_api_Entry a0_.Entries)), .p (.int .i64 a0_.Cycle)])], []⟩) | (.inr p) => e = .ret ∧ ∃ xs, resL s i41.res = some xs ∧ tupOf xs = .tup [.p (.int .i64 p.1), .p (.bool p.2)]) ?_ N _ o514 _ ho514 (by show _ = _; kernel_rfl)).mono ?_)
      · clear h ho514
        rintro ⟨i7, i8⟩ o s h hR
        obtain rfl := hR
        replace h : ref27_Earliest_L1 N a0_ a1_ a3_ r6 i7 i8 = some o := h
        unfold ref27_Earliest_L1 at h
        refine vc_seq ?_
        refine vc_seq ?_
        refine vc_reg (S := ⟨[(1, .p (.int .i64 a1_)), (3, .p (.int .i64 a3_)), (4, .loc 4 0), (10, .p (.int .i64 r6.1)), (12, .p (.int .i64 i7)), (13, .p (.int .i64 i8)), (38, .p (.bool (decide (i8 < ((List.length a0_.Entries : Nat) : Int)))))], [(4, [.p (.sl 2 false (List.map e_api_Entry a0_.Entries)), .p (.int .i64 a0_.Cycle)])], []⟩) (APath.chunk 3 (by kernel_rfl) (APath.one (.val 37 .len [.t 36]) (by kernel_rfl) (st_val (ys := [.p (.sl 2 false (List.map e_api_Entry a0_.Entries))]) (by kernel_rfl) (vexec_len e_api_Entry)) (APath.fin (by kernel_rfl)))) (by kernel_rfl) ?_
        refine vc_ite (by kernel_rfl) h (fun hc509 h => ?_) (fun hc509 h => ?_)
        · refine vc_skip ?_
          refine vc_kp ?_
          refine vc_seq ?_
          refine vc_block ?_
          refine vc_seq ?_
          obtain ⟨m510, hm510, h⟩ := bind_some h
          obtain ⟨e511, he511, h⟩ := bind_some h
          refine vc_regD (S := ⟨[(1, .p (.int .i64 a1_)), (3, .p (.int .i64 a3_)), (4, .loc 4 0), (10, .p (.int .i64 r6.1)), (12, .p (.int .i64 (w64 (i7 + e511.Long)))), (13, .p (.int .i64 i8))], [(4, [.p (.sl 2 false (List.map e_api_Entry a0_.Entries)), .p (.int .i64 a0_.Cycle)])], []⟩) (by kernel_rfl) (APath.chunk 8 (by kernel_rfl) (APath.one (.val 49 .len [.t 48]) (by kernel_rfl) (st_val (ys := [.p (.sl 2 false (List.map e_api_Entry a0_.Entries))]) (by kernel_rfl) (vexec_len e_api_Entry)) (APath.one (.val 50 (.bin .rem) [.t 46, .t 49]) (by kernel_rfl) (st_val (ys := [.p (.int .i64 (w64 (r6.1 + i8))), .p (.int .i64 ((List.length a0_.Entries : Nat) : Int))]) (by kernel_rfl) (vexec_rem hm510)) (APath.one (.val 51 (.iaddrS 2) [.t 43, .t 50]) (by kernel_rfl) (st_val (ys := [.p (.sl 2 false (List.map e_api_Entry a0_.Entries)), .p (.int .i64 m510)]) (by kernel_rfl) (vexec_iaddrS e_api_Entry he511)) (APath.chunk 1 (by kernel_rfl) (APath.one (.load 53 (.t 52) 1 false) (by kernel_rfl) (st_loadP (sz := 2) (off := 1) (cs := [.int .i64 e511.Long]) (r := .p (.int .i64 e511.Long)) e_api_Entry he511 (by kernel_rfl) (by kernel_rfl) (by kernel_rfl)) (APath.fin (by kernel_rfl)))))))) (by kernel_rfl) ?_
          refine vc_seq ?_
          obtain ⟨r512, hr512, h⟩ := bind_some h
          refine vc_reg (S := ⟨[(1, .p (.int .i64 a1_)), (3, .p (.int .i64 a3_)), (4, .loc 4 0), (10, .p (.int .i64 r6.1)), (12, .p (.int .i64 (w64 (i7 + e511.Long)))), (13, .p (.int .i64 i8)), (60, .p (.bool (decide (r512 ≥ a3_))))], [(4, [.p (.sl 2 false (List.map e_api_Entry a0_.Entries)), .p (.int .i64 a0_.Cycle)])], []⟩) (APath.chunk 3 (by kernel_rfl) (APath.one (.call (some 58) 39 [.t 55, .t 56, .t 57]) (by kernel_rfl) (st_call (by kernel_rfl) (ref27_Span_ok N a0_ a1_ (w64 (i7 + e511.Long)) r512 hr512)) (APath.fin (by kernel_rfl)))) (by kernel_rfl) ?_
          refine vc_ite (by kernel_rfl) h (fun hc513 h => ?_) (fun hc513 h => ?_)
          · refine vc_seq ?_
            refine vc_reg (S := ⟨[(8, .p (.int .i64 (w64 (i7 + e511.Long)))), (9, .p (.bool true))], [], []⟩) (APath.fin (by kernel_rfl)) (by kernel_rfl) ?_
            refine vc_ret ?_
            obtain rfl := some_inj h
            exact ⟨_, rfl, rfl, ret_of (by kernel_rfl)⟩
          · refine vc_skip ?_
            refine vc_kp ?_
            refine vc_reg (S := ⟨[(1, .p (.int .i64 a1_)), (3, .p (.int .i64 a3_)), (4, .loc 4 0), (10, .p (.int .i64 r6.1)), (12, .p (.int .i64 (w64 (i7 + e511.Long)))), (13, .p (.int .i64 (w64 (i8 + 1))))], [(4, [.p (.sl 2 false (List.map e_api_Entry a0_.Entries)), .p (.int .i64 a0_.Cycle)])], []⟩) (APath.fin (by kernel_rfl)) (by kernel_rfl) ?_
            obtain rfl := some_inj h
            exact ⟨_, rfl, (by show _ = _; kernel_rfl)⟩
        · refine vc_exit ?_
          try show vc _ _ _ _ _
          obtain rfl := some_inj h
          exact ⟨_, rfl, rfl, (by show _ = _; kernel_rfl)⟩
      · rintro e s hq
        rcases o514 with p515 | p516
        · dsimp only at h hq
          obtain ⟨rfl, hR⟩ := hq
          obtain rfl := hR
          try show vc _ _ _ _ _
          refine vc_seq ?_
          refine vc_reg (S := ⟨[(8, .p (.int .i64 0)), (9, .p (.bool false))], [], []⟩) (APath.fin (by kernel_rfl)) (by kernel_rfl) ?_
          refine vc_ret ?_
          obtain rfl := some_inj h
          exact ret_of (by kernel_rfl)
        · dsimp only at h hq
          obtain ⟨rfl, hq⟩ := hq
          obtain rfl := some_inj h
          exact hq
/- isochronref27.Mask -/
theorem ref27_Mask_ok (N : Nat) (a0_ : api_Gates) (a1_ : Int) (r : Int × Int) (h : ref27_Mask N a0_ a1_ = some r) : PCall Try.prog 12 [.agg [.p (.sl 2 false (List.map e_api_Entry a0_.Entries)), .p (.int .i64 a0_.Cycle)], .p (.int .i64 a1_)] (.tup [.p (.int .i64 r.1), .p (.int .i64 r.2)]) := by
  unfold ref27_Mask at h
  have hH : HP ([] : List HO) [] := trivial
  refine pcall_of chk12 rfl rfl (vc_sound _ _ _ ?_) rfl
  refine vc_seq ?_
  refine vc_reg (S := ⟨[(1, .p (.int .i64 a1_)), (2, .loc 2 0)], [(2, [.p (.sl 2 false (List.map e_api_Entry a0_.Entries)), .p (.int .i64 a0_.Cycle)])], []⟩) (APath.fin (by kernel_rfl)) (by kernel_rfl) ?_
  refine vc_seq ?_
  obtain ⟨r1, hr1, h⟩ := bind_some h
  refine vc_reg (S := ⟨[(1, .p (.int .i64 a1_)), (2, .loc 2 0), (6, .p (.int .i64 r1))], [(2, [.p (.sl 2 false (List.map e_api_Entry a0_.Entries)), .p (.int .i64 a0_.Cycle)])], []⟩) (APath.chunk 2 (by kernel_rfl) (APath.one (.call (some 9) 32 [.t 7, .k (.p (.int .i64 0)), .t 8, .k (.p (.int .i64 0))]) (by kernel_rfl) (st_call (by kernel_rfl) (ref27_times_ok N a0_ 0 a1_ 0 r1 hr1)) (APath.fin (by kernel_rfl)))) (by kernel_rfl) ?_
  refine vc_seq ?_
  refine vc_seq ?_
  refine vc_reg (S := ⟨[(1, .p (.int .i64 a1_)), (2, .loc 2 0), (6, .p (.int .i64 r1)), (11, .p (.bool (r1 != 0)))], [(2, [.p (.sl 2 false (List.map e_api_Entry a0_.Entries)), .p (.int .i64 a0_.Cycle)])], []⟩) (APath.fin (by kernel_rfl)) (by kernel_rfl) ?_
  refine vc_ite (by kernel_rfl) h (fun hc2 h => ?_) (fun hc2 h => ?_)
  · refine vc_seq ?_
    refine vc_reg (S := ⟨[(4, .p (.int .i64 0)), (5, .p (.int .i64 r1))], [], []⟩) (APath.fin (by kernel_rfl)) (by kernel_rfl) ?_
    refine vc_ret ?_
    obtain rfl := some_inj h
    exact ret_of (by kernel_rfl)
  · refine vc_skip ?_
    refine vc_kp ?_
    refine vc_seq ?_
    obtain ⟨r3, hr3, h⟩ := bind_some h
    refine vc_reg (S := ⟨[(4, .p (.int .i64 r3)), (5, .p (.int .i64 0))], [], []⟩) (APath.chunk 2 (by kernel_rfl) (APath.one (.call (some 15) 33 [.t 13, .t 14]) (by kernel_rfl) (st_call (by kernel_rfl) (ref27_State_ok N a0_ a1_ r3 hr3)) (APath.fin (by kernel_rfl)))) (by kernel_rfl) ?_
    refine vc_ret ?_
    obtain rfl := some_inj h
    exact ret_of (by kernel_rfl)
/- isochronref27.Turn -/
theorem ref27_Turn_ok (N : Nat) (a0_ : api_Gates) (a1_ : Int) (r : Int × Int) (h : ref27_Turn N a0_ a1_ = some r) : PCall Try.prog 14 [.agg [.p (.sl 2 false (List.map e_api_Entry a0_.Entries)), .p (.int .i64 a0_.Cycle)], .p (.int .i64 a1_)] (.tup [.p (.int .i64 r.1), .p (.int .i64 r.2)]) := by
  unfold ref27_Turn at h
  have hH : HP ([] : List HO) [] := trivial
  refine pcall_of chk14 rfl rfl (vc_sound _ _ _ ?_) rfl
  refine vc_seq ?_
  refine vc_reg (S := ⟨[(1, .p (.int .i64 a1_)), (2, .loc 2 0)], [(2, [.p (.sl 2 false (List.map e_api_Entry a0_.Entries)), .p (.int .i64 a0_.Cycle)])], []⟩) (APath.fin (by kernel_rfl)) (by kernel_rfl) ?_
  refine vc_seq ?_
  obtain ⟨r1, hr1, h⟩ := bind_some h
  refine vc_reg (S := ⟨[(1, .p (.int .i64 a1_)), (2, .loc 2 0), (6, .p (.int .i64 r1))], [(2, [.p (.sl 2 false (List.map e_api_Entry a0_.Entries)), .p (.int .i64 a0_.Cycle)])], []⟩) (APath.chunk 2 (by kernel_rfl) (APath.one (.call (some 13) 32 [.t 11, .k (.p (.int .i64 0)), .t 12, .k (.p (.int .i64 0))]) (by kernel_rfl) (st_call (by kernel_rfl) (ref27_times_ok N a0_ 0 a1_ 0 r1 hr1)) (APath.fin (by kernel_rfl)))) (by kernel_rfl) ?_
  refine vc_seq ?_
  refine vc_seq ?_
  refine vc_reg (S := ⟨[(1, .p (.int .i64 a1_)), (2, .loc 2 0), (6, .p (.int .i64 r1)), (15, .p (.bool (r1 != 0)))], [(2, [.p (.sl 2 false (List.map e_api_Entry a0_.Entries)), .p (.int .i64 a0_.Cycle)])], []⟩) (APath.fin (by kernel_rfl)) (by kernel_rfl) ?_
  refine vc_ite (by kernel_rfl) h (fun hc2 h => ?_) (fun hc2 h => ?_)
  · refine vc_seq ?_
    refine vc_reg (S := ⟨[(4, .p (.int .i64 0)), (5, .p (.int .i64 r1))], [], []⟩) (APath.fin (by kernel_rfl)) (by kernel_rfl) ?_
    refine vc_ret ?_
    obtain rfl := some_inj h
    exact ret_of (by kernel_rfl)
  · refine vc_skip ?_
    refine vc_kp ?_
    refine vc_seq ?_
    obtain ⟨r3, hr3, h⟩ := bind_some h
    refine vc_reg (S := ⟨[(1, .p (.int .i64 a1_)), (2, .loc 2 0), (7, .p (.int .i64 r3.1)), (8, .p (.int .i64 r3.2))], [(2, [.p (.sl 2 false (List.map e_api_Entry a0_.Entries)), .p (.int .i64 a0_.Cycle)])], []⟩) (APath.chunk 2 (by kernel_rfl) (APath.one (.call (some 20) 36 [.t 18, .t 19]) (by kernel_rfl) (st_call (by kernel_rfl) (ref27_At_ok N a0_ a1_ r3 hr3)) (APath.fin (by kernel_rfl)))) (by kernel_rfl) ?_
    refine vc_seq ?_
    refine vc_reg (S := ⟨[(2, .loc 2 0), (7, .p (.int .i64 r3.1)), (9, .p (.int .i64 (w64 (a1_ - r3.2))))], [(2, [.p (.sl 2 false (List.map e_api_Entry a0_.Entries)), .p (.int .i64 a0_.Cycle)])], []⟩) (APath.fin (by kernel_rfl)) (by kernel_rfl) ?_
    refine vc_seq ?_
    refine vc_seq ?_
    refine vc_reg (S := ⟨[(2, .loc 2 0), (7, .p (.int .i64 r3.1)), (9, .p (.int .i64 (w64 (a1_ - r3.2)))), (10, .p (.int .i64 0))], [(2, [.p (.sl 2 false (List.map e_api_Entry a0_.Entries)), .p (.int .i64 a0_.Cycle)])], []⟩) (APath.fin (by kernel_rfl)) (by kernel_rfl) ?_
    refine vc_block ?_
    obtain ⟨o512, ho512, h⟩ := bind_some h
    refine vc_loop ((loop_sim (fun (x : Int × Int) s => s = ⟨[(2, .loc 2 0), (7, .p (.int .i64 r3.1)), (9, .p (.int .i64 x.1)), (10, .p (.int .i64 x.2))], [(2, [.p (.sl 2 false (List.map e_api_Entry a0_.Entries)), .p (.int .i64 a0_.Cycle)])], []⟩) (fun x : Int × Int => ref27_Turn_L1 N a0_ r3 x.1 x.2) (fun (p : (Int × Int) ⊕ (Int × Int)) e s => match p with | (.inl p) => e = .exit 0 ∧ (s = ⟨[(2, .loc 2 0), (7, .p (.int .i64 r3.1)), (9, .p (.int .i64 p.1)), (10, .p (.int .i64 p.2))], [(2, [.p (.sl 2 false (List.map e_api_Entry a0_.Entries)), .p (.int .i64 a0_.Cycle)])], []⟩) | (.inr p) => e = .ret ∧ ∃ xs, resL s i14.res = some xs ∧ tupOf xs = .tup [.p (.int .i64 p.1), .p (.int .i64 p.2)]) ?_ N _ o512 _ ho512 (by show _ = _; kernel_rfl)).mono ?_)
    · clear h ho512
      rintro ⟨i4, i5⟩ o s h hR
      obtain rfl := hR
      replace h : ref27_Turn_L1 N a0_ r3 i4 i5 = some o := h
      unfold ref27_Turn_L1 at h
      refine vc_seq ?_
      refine vc_seq ?_
      refine vc_reg (S := ⟨[(2, .loc 2 0), (7, .p (.int .i64 r3.1)), (9, .p (.int .i64 i4)), (10, .p (.int .i64 i5)), (30, .p (.bool (decide (i5 < ((List.length a0_.Entries : Nat) : Int)))))], [(2, [.p (.sl 2 false (List.map e_api_Entry a0_.Entries)), .p (.int .i64 a0_.Cycle)])], []⟩) (APath.chunk 3 (by kernel_rfl) (APath.one (.val 29 .len [.t 28]) (by kernel_rfl) (st_val (ys := [.p (.sl 2 false (List.map e_api_Entry a0_.Entries))]) (by kernel_rfl) (vexec_len e_api_Entry)) (APath.fin (by kernel_rfl)))) (by kernel_rfl) ?_
      refine vc_ite (by kernel_rfl) h (fun hc506 h => ?_) (fun hc506 h => ?_)
      · refine vc_skip ?_
        refine vc_kp ?_
        refine vc_seq ?_
        refine vc_block ?_
        refine vc_seq ?_
        obtain ⟨m507, hm507, h⟩ := bind_some h
        obtain ⟨e508, he508, h⟩ := bind_some h
        refine vc_regD (S := ⟨[(2, .loc 2 0), (7, .p (.int .i64 r3.1)), (9, .p (.int .i64 (w64 (i4 + e508.Long)))), (10, .p (.int .i64 i5))], [(2, [.p (.sl 2 false (List.map e_api_Entry a0_.Entries)), .p (.int .i64 a0_.Cycle)])], []⟩) (by kernel_rfl) (APath.chunk 8 (by kernel_rfl) (APath.one (.val 41 .len [.t 40]) (by kernel_rfl) (st_val (ys := [.p (.sl 2 false (List.map e_api_Entry a0_.Entries))]) (by kernel_rfl) (vexec_len e_api_Entry)) (APath.one (.val 42 (.bin .rem) [.t 38, .t 41]) (by kernel_rfl) (st_val (ys := [.p (.int .i64 (w64 (r3.1 + i5))), .p (.int .i64 ((List.length a0_.Entries : Nat) : Int))]) (by kernel_rfl) (vexec_rem hm507)) (APath.one (.val 43 (.iaddrS 2) [.t 35, .t 42]) (by kernel_rfl) (st_val (ys := [.p (.sl 2 false (List.map e_api_Entry a0_.Entries)), .p (.int .i64 m507)]) (by kernel_rfl) (vexec_iaddrS e_api_Entry he508)) (APath.chunk 1 (by kernel_rfl) (APath.one (.load 45 (.t 44) 1 false) (by kernel_rfl) (st_loadP (sz := 2) (off := 1) (cs := [.int .i64 e508.Long]) (r := .p (.int .i64 e508.Long)) e_api_Entry he508 (by kernel_rfl) (by kernel_rfl) (by kernel_rfl)) (APath.fin (by kernel_rfl)))))))) (by kernel_rfl) ?_
        refine vc_seq ?_
        obtain ⟨r509, hr509, h⟩ := bind_some h
        obtain ⟨e510, he510, h⟩ := bind_some h
        refine vc_regD (S := ⟨[(2, .loc 2 0), (7, .p (.int .i64 r3.1)), (9, .p (.int .i64 (w64 (i4 + e508.Long)))), (10, .p (.int .i64 i5)), (56, .p (.bool (r509 != e510.Mask)))], [(2, [.p (.sl 2 false (List.map e_api_Entry a0_.Entries)), .p (.int .i64 a0_.Cycle)])], []⟩) (by kernel_rfl) (APath.chunk 2 (by kernel_rfl) (APath.one (.callP 49 33 [.t 47, .t 48]) (by kernel_rfl) (st_callP (by kernel_rfl) (ref27_State_ok N a0_ (w64 (i4 + e508.Long)) r509 hr509)) (APath.chunk 3 (by kernel_rfl) (APath.one (.val 53 (.iaddrS 2) [.t 51, .t 52]) (by kernel_rfl) (st_val (ys := [.p (.sl 2 false (List.map e_api_Entry a0_.Entries)), .p (.int .i64 r3.1)]) (by kernel_rfl) (vexec_iaddrS e_api_Entry he510)) (APath.chunk 1 (by kernel_rfl) (APath.one (.load 55 (.t 54) 1 false) (by kernel_rfl) (st_loadP (sz := 2) (off := 0) (cs := [.int .i64 e510.Mask]) (r := .p (.int .i64 e510.Mask)) e_api_Entry he510 (by kernel_rfl) (by kernel_rfl) (by kernel_rfl)) (APath.fin (by kernel_rfl)))))))) (by kernel_rfl) ?_
        refine vc_ite (by kernel_rfl) h (fun hc511 h => ?_) (fun hc511 h => ?_)
        · refine vc_seq ?_
          refine vc_reg (S := ⟨[(4, .p (.int .i64 (w64 (i4 + e508.Long)))), (5, .p (.int .i64 0))], [], []⟩) (APath.fin (by kernel_rfl)) (by kernel_rfl) ?_
          refine vc_ret ?_
          obtain rfl := some_inj h
          exact ⟨_, rfl, rfl, ret_of (by kernel_rfl)⟩
        · refine vc_skip ?_
          refine vc_kp ?_
          refine vc_reg (S := ⟨[(2, .loc 2 0), (7, .p (.int .i64 r3.1)), (9, .p (.int .i64 (w64 (i4 + e508.Long)))), (10, .p (.int .i64 (w64 (i5 + 1))))], [(2, [.p (.sl 2 false (List.map e_api_Entry a0_.Entries)), .p (.int .i64 a0_.Cycle)])], []⟩) (APath.fin (by kernel_rfl)) (by kernel_rfl) ?_
          obtain rfl := some_inj h
          exact ⟨_, rfl, (by show _ = _; kernel_rfl)⟩
      · refine vc_exit ?_
        try show vc _ _ _ _ _
        obtain rfl := some_inj h
        exact ⟨_, rfl, rfl, (by show _ = _; kernel_rfl)⟩
    · rintro e s hq
      rcases o512 with p513 | p514
      · dsimp only at h hq
        obtain ⟨rfl, hR⟩ := hq
        obtain rfl := hR
        try show vc _ _ _ _ _
        refine vc_seq ?_
        refine vc_reg (S := ⟨[(4, .p (.int .i64 0)), (5, .p (.int .i64 4))], [], []⟩) (APath.fin (by kernel_rfl)) (by kernel_rfl) ?_
        refine vc_ret ?_
        obtain rfl := some_inj h
        exact ret_of (by kernel_rfl)
      · dsimp only at h hq
        obtain ⟨rfl, hq⟩ := hq
        obtain rfl := some_inj h
        exact hq
/- gates.Open -/
theorem gates_Open_ok (N : Nat) (a0_ : api_Gates) (a1_ : Int) (a2_ : Int) (r : Int × Int) (h : gates_Open N a0_ a1_ a2_ = some r) : PCall Try.prog 18 [.agg [.p (.sl 2 false (List.map e_api_Entry a0_.Entries)), .p (.int .i64 a0_.Cycle)], .p (.int .i64 a1_), .p (.int .i64 a2_)] (.tup [.p (.int .i64 r.1), .p (.int .i64 r.2)]) := by
  unfold gates_Open at h
  have hH : HP ([] : List HO) [] := trivial
  refine pcall_of chk18 rfl rfl (vc_sound _ _ _ ?_) rfl
  refine vc_seq ?_
  refine vc_reg (S := ⟨[(1, .p (.int .i64 a1_)), (2, .p (.int .i64 a2_)), (3, .loc 3 0)], [(3, [.p (.sl 2 false (List.map e_api_Entry a0_.Entries)), .p (.int .i64 a0_.Cycle)])], []⟩) (APath.fin (by kernel_rfl)) (by kernel_rfl) ?_
  refine vc_seq ?_
  refine vc_seq ?_
  obtain ⟨r1, hr1, h⟩ := bind_some h
  refine vc_reg (S := ⟨[(1, .p (.int .i64 a1_)), (2, .p (.int .i64 a2_)), (3, .loc 3 0), (8, .p (.int .i64 r1))], [(3, [.p (.sl 2 false (List.map e_api_Entry a0_.Entries)), .p (.int .i64 a0_.Cycle)])], []⟩) (APath.chunk 3 (by kernel_rfl) (APath.one (.call (some 12) 30 [.t 9, .t 10, .t 11, .k (.p (.int .i64 0))]) (by kernel_rfl) (st_call (by kernel_rfl) (gates_check_ok N a0_ a1_ a2_ 0 r1 hr1)) (APath.fin (by kernel_rfl)))) (by kernel_rfl) ?_
  refine vc_seq ?_
  refine vc_reg (S := ⟨[(1, .p (.int .i64 a1_)), (2, .p (.int .i64 a2_)), (3, .loc 3 0), (8, .p (.int .i64 r1)), (14, .p (.bool (r1 != 0)))], [(3, [.p (.sl 2 false (List.map e_api_Entry a0_.Entries)), .p (.int .i64 a0_.Cycle)])], []⟩) (APath.fin (by kernel_rfl)) (by kernel_rfl) ?_
  refine vc_ite (by kernel_rfl) h (fun hc2 h => ?_) (fun hc2 h => ?_)
  · refine vc_seq ?_
    refine vc_reg (S := ⟨[(6, .p (.int .i64 0)), (7, .p (.int .i64 r1))], [], []⟩) (APath.fin (by kernel_rfl)) (by kernel_rfl) ?_
    refine vc_ret ?_
    obtain rfl := some_inj h
    exact ret_of (by kernel_rfl)
  · refine vc_skip ?_
    refine vc_kp ?_
    refine vc_seq ?_
    obtain ⟨r3, hr3, h⟩ := bind_some h
    refine vc_reg (S := ⟨[(6, .p (.int .i64 r3)), (7, .p (.int .i64 0))], [], []⟩) (APath.chunk 3 (by kernel_rfl) (APath.one (.call (some 19) 38 [.t 16, .t 17, .t 18]) (by kernel_rfl) (st_call (by kernel_rfl) (gates_open_ok N a0_ a1_ a2_ r3 hr3)) (APath.fin (by kernel_rfl)))) (by kernel_rfl) ?_
    refine vc_ret ?_
    obtain rfl := some_inj h
    exact ret_of (by kernel_rfl)
/- isochronref27.Open -/
theorem ref27_Open_ok (N : Nat) (a0_ : api_Gates) (a1_ : Int) (a2_ : Int) (r : Int × Int) (h : ref27_Open N a0_ a1_ a2_ = some r) : PCall Try.prog 19 [.agg [.p (.sl 2 false (List.map e_api_Entry a0_.Entries)), .p (.int .i64 a0_.Cycle)], .p (.int .i64 a1_), .p (.int .i64 a2_)] (.tup [.p (.int .i64 r.1), .p (.int .i64 r.2)]) := by
  unfold ref27_Open at h
  have hH : HP ([] : List HO) [] := trivial
  refine pcall_of chk19 rfl rfl (vc_sound _ _ _ ?_) rfl
  refine vc_seq ?_
  refine vc_reg (S := ⟨[(1, .p (.int .i64 a1_)), (2, .p (.int .i64 a2_)), (3, .loc 3 0)], [(3, [.p (.sl 2 false (List.map e_api_Entry a0_.Entries)), .p (.int .i64 a0_.Cycle)])], []⟩) (APath.fin (by kernel_rfl)) (by kernel_rfl) ?_
  refine vc_seq ?_
  obtain ⟨r1, hr1, h⟩ := bind_some h
  refine vc_reg (S := ⟨[(1, .p (.int .i64 a1_)), (2, .p (.int .i64 a2_)), (3, .loc 3 0), (8, .p (.int .i64 r1))], [(3, [.p (.sl 2 false (List.map e_api_Entry a0_.Entries)), .p (.int .i64 a0_.Cycle)])], []⟩) (APath.chunk 3 (by kernel_rfl) (APath.one (.call (some 12) 32 [.t 9, .t 10, .t 11, .k (.p (.int .i64 0))]) (by kernel_rfl) (st_call (by kernel_rfl) (ref27_times_ok N a0_ a1_ a2_ 0 r1 hr1)) (APath.fin (by kernel_rfl)))) (by kernel_rfl) ?_
  refine vc_seq ?_
  refine vc_seq ?_
  refine vc_reg (S := ⟨[(1, .p (.int .i64 a1_)), (2, .p (.int .i64 a2_)), (3, .loc 3 0), (8, .p (.int .i64 r1)), (14, .p (.bool (r1 != 0)))], [(3, [.p (.sl 2 false (List.map e_api_Entry a0_.Entries)), .p (.int .i64 a0_.Cycle)])], []⟩) (APath.fin (by kernel_rfl)) (by kernel_rfl) ?_
  refine vc_ite (by kernel_rfl) h (fun hc2 h => ?_) (fun hc2 h => ?_)
  · refine vc_seq ?_
    refine vc_reg (S := ⟨[(6, .p (.int .i64 0)), (7, .p (.int .i64 r1))], [], []⟩) (APath.fin (by kernel_rfl)) (by kernel_rfl) ?_
    refine vc_ret ?_
    obtain rfl := some_inj h
    exact ret_of (by kernel_rfl)
  · refine vc_skip ?_
    refine vc_kp ?_
    refine vc_seq ?_
    obtain ⟨r3, hr3, h⟩ := bind_some h
    refine vc_reg (S := ⟨[(6, .p (.int .i64 r3)), (7, .p (.int .i64 0))], [], []⟩) (APath.chunk 3 (by kernel_rfl) (APath.one (.call (some 19) 39 [.t 16, .t 17, .t 18]) (by kernel_rfl) (st_call (by kernel_rfl) (ref27_Span_ok N a0_ a1_ a2_ r3 hr3)) (APath.fin (by kernel_rfl)))) (by kernel_rfl) ?_
    refine vc_ret ?_
    obtain rfl := some_inj h
    exact ret_of (by kernel_rfl)
/- gates.Fits -/
theorem gates_Fits_ok (N : Nat) (a0_ : api_Gates) (a1_ : Int) (a2_ : Int) (a3_ : Int) (r : Bool × Int) (h : gates_Fits N a0_ a1_ a2_ a3_ = some r) : PCall Try.prog 20 [.agg [.p (.sl 2 false (List.map e_api_Entry a0_.Entries)), .p (.int .i64 a0_.Cycle)], .p (.int .i64 a1_), .p (.int .i64 a2_), .p (.int .i64 a3_)] (.tup [.p (.bool r.1), .p (.int .i64 r.2)]) := by
  unfold gates_Fits at h
  have hH : HP ([] : List HO) [] := trivial
  refine pcall_of chk20 rfl rfl (vc_sound _ _ _ ?_) rfl
  refine vc_seq ?_
  refine vc_reg (S := ⟨[(1, .p (.int .i64 a1_)), (2, .p (.int .i64 a2_)), (3, .p (.int .i64 a3_)), (4, .loc 4 0)], [(4, [.p (.sl 2 false (List.map e_api_Entry a0_.Entries)), .p (.int .i64 a0_.Cycle)])], []⟩) (APath.fin (by kernel_rfl)) (by kernel_rfl) ?_
  refine vc_seq ?_
  refine vc_seq ?_
  obtain ⟨r1, hr1, h⟩ := bind_some h
  refine vc_reg (S := ⟨[(1, .p (.int .i64 a1_)), (2, .p (.int .i64 a2_)), (3, .p (.int .i64 a3_)), (4, .loc 4 0), (10, .p (.int .i64 r1))], [(4, [.p (.sl 2 false (List.map e_api_Entry a0_.Entries)), .p (.int .i64 a0_.Cycle)])], []⟩) (APath.chunk 4 (by kernel_rfl) (APath.one (.call (some 15) 30 [.t 11, .t 12, .t 13, .t 14]) (by kernel_rfl) (st_call (by kernel_rfl) (gates_check_ok N a0_ a1_ a2_ a3_ r1 hr1)) (APath.fin (by kernel_rfl)))) (by kernel_rfl) ?_
  refine vc_seq ?_
  refine vc_reg (S := ⟨[(1, .p (.int .i64 a1_)), (2, .p (.int .i64 a2_)), (3, .p (.int .i64 a3_)), (4, .loc 4 0), (10, .p (.int .i64 r1)), (17, .p (.bool (r1 != 0)))], [(4, [.p (.sl 2 false (List.map e_api_Entry a0_.Entries)), .p (.int .i64 a0_.Cycle)])], []⟩) (APath.fin (by kernel_rfl)) (by kernel_rfl) ?_
  refine vc_ite (by kernel_rfl) h (fun hc2 h => ?_) (fun hc2 h => ?_)
  · refine vc_seq ?_
    refine vc_reg (S := ⟨[(8, .p (.bool false)), (9, .p (.int .i64 r1))], [], []⟩) (APath.fin (by kernel_rfl)) (by kernel_rfl) ?_
    refine vc_ret ?_
    obtain rfl := some_inj h
    exact ret_of (by kernel_rfl)
  · refine vc_skip ?_
    refine vc_kp ?_
    refine vc_seq ?_
    obtain ⟨r3, hr3, h⟩ := bind_some h
    refine vc_reg (S := ⟨[(8, .p (.bool (decide (r3 ≥ a3_)))), (9, .p (.int .i64 0))], [], []⟩) (APath.chunk 3 (by kernel_rfl) (APath.one (.call (some 22) 38 [.t 19, .t 20, .t 21]) (by kernel_rfl) (st_call (by kernel_rfl) (gates_open_ok N a0_ a1_ a2_ r3 hr3)) (APath.fin (by kernel_rfl)))) (by kernel_rfl) ?_
    refine vc_ret ?_
    obtain rfl := some_inj h
    exact ret_of (by kernel_rfl)
/- isochronref27.Fits -/
theorem ref27_Fits_ok (N : Nat) (a0_ : api_Gates) (a1_ : Int) (a2_ : Int) (a3_ : Int) (r : Bool × Int) (h : ref27_Fits N a0_ a1_ a2_ a3_ = some r) : PCall Try.prog 21 [.agg [.p (.sl 2 false (List.map e_api_Entry a0_.Entries)), .p (.int .i64 a0_.Cycle)], .p (.int .i64 a1_), .p (.int .i64 a2_), .p (.int .i64 a3_)] (.tup [.p (.bool r.1), .p (.int .i64 r.2)]) := by
  unfold ref27_Fits at h
  have hH : HP ([] : List HO) [] := trivial
  refine pcall_of chk21 rfl rfl (vc_sound _ _ _ ?_) rfl
  refine vc_seq ?_
  refine vc_reg (S := ⟨[(1, .p (.int .i64 a1_)), (2, .p (.int .i64 a2_)), (3, .p (.int .i64 a3_)), (4, .loc 4 0)], [(4, [.p (.sl 2 false (List.map e_api_Entry a0_.Entries)), .p (.int .i64 a0_.Cycle)])], []⟩) (APath.fin (by kernel_rfl)) (by kernel_rfl) ?_
  refine vc_seq ?_
  obtain ⟨r1, hr1, h⟩ := bind_some h
  refine vc_reg (S := ⟨[(1, .p (.int .i64 a1_)), (2, .p (.int .i64 a2_)), (3, .p (.int .i64 a3_)), (4, .loc 4 0), (10, .p (.int .i64 r1))], [(4, [.p (.sl 2 false (List.map e_api_Entry a0_.Entries)), .p (.int .i64 a0_.Cycle)])], []⟩) (APath.chunk 4 (by kernel_rfl) (APath.one (.call (some 15) 32 [.t 11, .t 12, .t 13, .t 14]) (by kernel_rfl) (st_call (by kernel_rfl) (ref27_times_ok N a0_ a1_ a2_ a3_ r1 hr1)) (APath.fin (by kernel_rfl)))) (by kernel_rfl) ?_
  refine vc_seq ?_
  refine vc_seq ?_
  refine vc_reg (S := ⟨[(1, .p (.int .i64 a1_)), (2, .p (.int .i64 a2_)), (3, .p (.int .i64 a3_)), (4, .loc 4 0), (10, .p (.int .i64 r1)), (17, .p (.bool (r1 != 0)))], [(4, [.p (.sl 2 false (List.map e_api_Entry a0_.Entries)), .p (.int .i64 a0_.Cycle)])], []⟩) (APath.fin (by kernel_rfl)) (by kernel_rfl) ?_
  refine vc_ite (by kernel_rfl) h (fun hc2 h => ?_) (fun hc2 h => ?_)
  · refine vc_seq ?_
    refine vc_reg (S := ⟨[(8, .p (.bool false)), (9, .p (.int .i64 r1))], [], []⟩) (APath.fin (by kernel_rfl)) (by kernel_rfl) ?_
    refine vc_ret ?_
    obtain rfl := some_inj h
    exact ret_of (by kernel_rfl)
  · refine vc_skip ?_
    refine vc_kp ?_
    refine vc_seq ?_
    obtain ⟨j6, hj, h⟩ := bind_some h
    refine vc_regXR (fun s => s = ⟨[(8, .p (.bool j6)), (9, .p (.int .i64 0))], [], []⟩) ?_ ?_
    · clear h
      rcases ite_some hj with ⟨hc3, hj⟩ | ⟨hc4, hj⟩
      · obtain rfl := some_inj hj
        exact ⟨_, (APath.chunk 1 (by kernel_rfl) (APath.one (.val 20 (.bin .eql) [.t 19, .k (.p (.int .i64 0))]) (by kernel_rfl) (st_bool (c := (a3_ == 0)) (by kernel_rfl) hc3) (APath.fin (by kernel_rfl)))), (by show _ = _; kernel_rfl)⟩
      · obtain ⟨r5, hr5, hj⟩ := bind_some hj
        obtain rfl := some_inj hj
        exact ⟨_, (APath.chunk 1 (by kernel_rfl) (APath.one (.val 20 (.bin .eql) [.t 19, .k (.p (.int .i64 0))]) (by kernel_rfl) (st_bool (c := (a3_ == 0)) (by kernel_rfl) hc4) (APath.chunk 4 (by kernel_rfl) (APath.oneG (.call (some 25) 39 [.t 22, .t 23, .t 24]) 21 false (by kernel_rfl) (by kernel_rfl) (st_call (by kernel_rfl) (ref27_Span_ok N a0_ a1_ a2_ r5 hr5)) (APath.fin (by kernel_rfl)))))), (by show _ = _; kernel_rfl)⟩
    · clear hj
      rintro s hR
      obtain rfl := hR
      refine vc_ret ?_
      obtain rfl := some_inj h
      exact ret_of (by kernel_rfl)
/- gates.Fit -/
theorem gates_Fit_ok (N : Nat) (a0_ : api_Gates) (a1_ : Int) (a2_ : Int) (a3_ : Int) (r : Int × Int) (h : gates_Fit N a0_ a1_ a2_ a3_ = some r) : PCall Try.prog 22 [.agg [.p (.sl 2 false (List.map e_api_Entry a0_.Entries)), .p (.int .i64 a0_.Cycle)], .p (.int .i64 a1_), .p (.int .i64 a2_), .p (.int .i64 a3_)] (.tup [.p (.int .i64 r.1), .p (.int .i64 r.2)]) := by
  unfold gates_Fit at h
  have hH : HP ([] : List HO) [] := trivial
  refine pcall_of chk22 rfl rfl (vc_sound _ _ _ ?_) rfl
  refine vc_seq ?_
  obtain ⟨id1, H2, hid1, hH2, hH⟩ := HP.newCell hH [.p (.int .i64 a1_)]
  replace hH : HP H2 [.cel id1 [.p (.int .i64 a1_)]] := hH
  refine vc_reg (S := ⟨[(2, .p (.int .i64 a2_)), (3, .p (.int .i64 a3_)), (4, .loc 4 0), (5, .ptr id1 0)], [(4, [.p (.sl 2 false (List.map e_api_Entry a0_.Entries)), .p (.int .i64 a0_.Cycle)])], H2⟩) (APath.chunk 1 (by kernel_rfl) (APath.one (.boxH 5 (.t 1)) (by kernel_rfl) (st_boxH (H := []) (v := .p (.int .i64 a1_)) (by kernel_rfl) (by kernel_rfl) (by kernel_rfl) hid1 hH2) (APath.fin (by kernel_rfl)))) (by kernel_rfl) ?_
  refine vc_seq ?_
  refine vc_seq ?_
  have hlc3 := HP.get hH 0 rfl
  obtain ⟨r4, hr4, h⟩ := bind_some h
  refine vc_reg (S := ⟨[(2, .p (.int .i64 a2_)), (3, .p (.int .i64 a3_)), (4, .loc 4 0), (5, .ptr id1 0), (10, .p (.int .i64 r4))], [(4, [.p (.sl 2 false (List.map e_api_Entry a0_.Entries)), .p (.int .i64 a0_.Cycle)])], H2⟩) (APath.chunk 1 (by kernel_rfl) (APath.one (.load 14 (.t 5) 1 false) (by kernel_rfl) (st_loadC (H := H2) (id := id1) (off := 0) (cs := [.p (.int .i64 a1_)]) (c := [.p (.int .i64 a1_)]) (r := .p (.int .i64 a1_)) (by kernel_rfl) (by kernel_rfl) hlc3 (by kernel_rfl) (by kernel_rfl) (by kernel_rfl)) (APath.chunk 2 (by kernel_rfl) (APath.one (.call (some 17) 30 [.t 13, .t 14, .t 15, .t 16]) (by kernel_rfl) (st_call (by kernel_rfl) (gates_check_ok N a0_ a1_ a2_ a3_ r4 hr4)) (APath.fin (by kernel_rfl)))))) (by kernel_rfl) ?_
  refine vc_seq ?_
  refine vc_reg (S := ⟨[(2, .p (.int .i64 a2_)), (3, .p (.int .i64 a3_)), (4, .loc 4 0), (5, .ptr id1 0), (10, .p (.int .i64 r4)), (19, .p (.bool (r4 != 0)))], [(4, [.p (.sl 2 false (List.map e_api_Entry a0_.Entries)), .p (.int .i64 a0_.Cycle)])], H2⟩) (APath.fin (by kernel_rfl)) (by kernel_rfl) ?_
  refine vc_ite (by kernel_rfl) h (fun hc5 h => ?_) (fun hc5 h => ?_)
  · refine vc_seq ?_
    refine vc_reg (S := ⟨[(8, .p (.int .i64 0)), (9, .p (.int .i64 r4))], [], H2⟩) (APath.fin (by kernel_rfl)) (by kernel_rfl) ?_
    replace hH : HP H2 [] := HP.pick hH [] rfl
    refine vc_ret ?_
    obtain rfl := some_inj h
    exact ret_of (by kernel_rfl)
  · refine vc_skip ?_
    refine vc_kp ?_
    refine vc_seq ?_
    refine vc_seq ?_
    refine vc_reg (S := ⟨[(2, .p (.int .i64 a2_)), (3, .p (.int .i64 a3_)), (4, .loc 4 0), (5, .ptr id1 0), (11, .p (.int .i64 a2_))], [(4, [.p (.sl 2 false (List.map e_api_Entry a0_.Entries)), .p (.int .i64 a0_.Cycle)])], H2⟩) (APath.fin (by kernel_rfl)) (by kernel_rfl) ?_
    refine vc_block ?_
    obtain ⟨o512, ho512, h⟩ := bind_some h
    refine vc_loop ((loop_sim (fun (x : Int) s => s = ⟨[(2, .p (.int .i64 a2_)), (3, .p (.int .i64 a3_)), (4, .loc 4 0), (5, .ptr id1 0), (11, .p (.int .i64 x))], [(4, [.p (.sl 2 false (List.map e_api_Entry a0_.Entries)), .p (.int .i64 a0_.Cycle)])], H2⟩) (fun x : Int => gates_Fit_L1 N a0_ a1_ a2_ a3_ x) (fun (p : (Int) ⊕ (Int × Int)) e s => match p with | (.inl p) => e = .exit 0 ∧ (s = ⟨[(2, .p (.int .i64 a2_)), (3, .p (.int .i64 a3_)), (4, .loc 4 0), (5, .ptr id1 0), (11, .p (.int .i64 p))], [(4, [.p (.sl 2 false (List.map e_api_Entry a0_.Entries)), .p (.int .i64 a0_.Cycle)])], H2⟩) | (.inr p) => e = .ret ∧ ∃ xs, resL s i22.res = some xs ∧ tupOf xs = .tup [.p (.int .i64 p.1), .p (.int .i64 p.2)]) ?_ N _ o512 _ ho512 (by show _ = _; kernel_rfl)).mono ?_)
    · clear h ho512
      rintro i6 o s h hR
      obtain rfl := hR
      replace h : gates_Fit_L1 N a0_ a1_ a2_ a3_ i6 = some o := h
      unfold gates_Fit_L1 at h
      refine vc_seq ?_
      refine vc_seq ?_
      refine vc_reg (S := ⟨[(2, .p (.int .i64 a2_)), (3, .p (.int .i64 a3_)), (4, .loc 4 0), (5, .ptr id1 0), (11, .p (.int .i64 i6)), (28, .p (.bool (decide (i6 < (w64 (a2_ + (w64 (2 * a0_.Cycle))))))))], [(4, [.p (.sl 2 false (List.map e_api_Entry a0_.Entries)), .p (.int .i64 a0_.Cycle)])], H2⟩) (APath.fin (by kernel_rfl)) (by kernel_rfl) ?_
      refine vc_ite (by kernel_rfl) h (fun hc507 h => ?_) (fun hc507 h => ?_)
      · refine vc_skip ?_
        refine vc_kp ?_
        refine vc_block ?_
        refine vc_seq ?_
        have hlc508 := HP.get hH 0 rfl
        obtain ⟨r509, hr509, h⟩ := bind_some h
        refine vc_reg (S := ⟨[(2, .p (.int .i64 a2_)), (3, .p (.int .i64 a3_)), (4, .loc 4 0), (5, .ptr id1 0), (11, .p (.int .i64 i6)), (12, .p (.int .i64 r509))], [(4, [.p (.sl 2 false (List.map e_api_Entry a0_.Entries)), .p (.int .i64 a0_.Cycle)])], H2⟩) (APath.chunk 1 (by kernel_rfl) (APath.one (.load 30 (.t 5) 1 false) (by kernel_rfl) (st_loadC (H := H2) (id := id1) (off := 0) (cs := [.p (.int .i64 a1_)]) (c := [.p (.int .i64 a1_)]) (r := .p (.int .i64 a1_)) (by kernel_rfl) (by kernel_rfl) hlc508 (by kernel_rfl) (by kernel_rfl) (by kernel_rfl)) (APath.chunk 1 (by kernel_rfl) (APath.one (.call (some 32) 38 [.t 29, .t 30, .t 31]) (by kernel_rfl) (st_call (by kernel_rfl) (gates_open_ok N a0_ a1_ i6 r509 hr509)) (APath.fin (by kernel_rfl)))))) (by kernel_rfl) ?_
        refine vc_seq ?_
        refine vc_seq ?_
        refine vc_reg (S := ⟨[(2, .p (.int .i64 a2_)), (3, .p (.int .i64 a3_)), (4, .loc 4 0), (5, .ptr id1 0), (11, .p (.int .i64 i6)), (12, .p (.int .i64 r509)), (35, .p (.bool (decide (r509 ≥ a3_))))], [(4, [.p (.sl 2 false (List.map e_api_Entry a0_.Entries)), .p (.int .i64 a0_.Cycle)])], H2⟩) (APath.fin (by kernel_rfl)) (by kernel_rfl) ?_
        refine vc_ite (by kernel_rfl) h (fun hc510 h => ?_) (fun hc510 h => ?_)
        · refine vc_seq ?_
          refine vc_reg (S := ⟨[(8, .p (.int .i64 i6)), (9, .p (.int .i64 0))], [], H2⟩) (APath.fin (by kernel_rfl)) (by kernel_rfl) ?_
          replace hH : HP H2 [] := HP.pick hH [] rfl
          refine vc_ret ?_
          obtain rfl := some_inj h
          exact ⟨_, rfl, rfl, ret_of (by kernel_rfl)⟩
        · refine vc_skip ?_
          refine vc_kp ?_
          refine vc_seq ?_
          refine vc_reg (S := ⟨[(2, .p (.int .i64 a2_)), (3, .p (.int .i64 a3_)), (4, .loc 4 0), (5, .ptr id1 0), (11, .p (.int .i64 (w64 (i6 + r509))))], [(4, [.p (.sl 2 false (List.map e_api_Entry a0_.Entries)), .p (.int .i64 a0_.Cycle)])], H2⟩) (APath.fin (by kernel_rfl)) (by kernel_rfl) ?_
          obtain ⟨r511, hr511, h⟩ := bind_some h
          have hvr511 := (gates_stretch_ok N a0_ (w64 (i6 + r509)) (fun x0 => gates_Fit_1 N x0 a1_)   40 [] [.ptr id1 0] (by kernel_rfl) [.cel id1 [.p (.int .i64 a1_)]] (fun H x0 r hH h => VCall.of (by kernel_rfl) (gates_Fit_1_ok N x0 a1_ id1 H hH r h)) H2 (HP.pick hH [0] rfl) r511 hr511)
          refine vc_reg (S := ⟨[(2, .p (.int .i64 a2_)), (3, .p (.int .i64 a3_)), (4, .loc 4 0), (5, .ptr id1 0), (11, .p (.int .i64 (w64 ((w64 (i6 + r509)) + r511))))], [(4, [.p (.sl 2 false (List.map e_api_Entry a0_.Entries)), .p (.int .i64 a0_.Cycle)])], H2⟩) (APath.chunk 4 (by kernel_rfl) (APath.one (.call (some 44) 34 [.t 41, .t 42, .t 43]) (by kernel_rfl) (st_callH (H := H2) (ys := [.agg [.p (.sl 2 false (List.map e_api_Entry a0_.Entries)), .p (.int .i64 a0_.Cycle)], .p (.int .i64 (w64 (i6 + r509))), .fn 40 [] [.ptr id1 0]]) (by kernel_rfl) (by kernel_rfl) (by kernel_rfl) hvr511) (APath.fin (by kernel_rfl)))) (by kernel_rfl) ?_
          obtain rfl := some_inj h
          exact ⟨_, rfl, (by show _ = _; kernel_rfl)⟩
      · refine vc_exit ?_
        try show vc _ _ _ _ _
        obtain rfl := some_inj h
        exact ⟨_, rfl, rfl, (by show _ = _; kernel_rfl)⟩
    · rintro e s hq
      rcases o512 with p513 | p514
      · dsimp only at h hq
        obtain ⟨rfl, hR⟩ := hq
        obtain rfl := hR
        try show vc _ _ _ _ _
        refine vc_seq ?_
        refine vc_reg (S := ⟨[(8, .p (.int .i64 0)), (9, .p (.int .i64 4))], [], H2⟩) (APath.fin (by kernel_rfl)) (by kernel_rfl) ?_
        replace hH : HP H2 [] := HP.pick hH [] rfl
        refine vc_ret ?_
        obtain rfl := some_inj h
        exact ret_of (by kernel_rfl)
      · dsimp only at h hq
        obtain ⟨rfl, hq⟩ := hq
        obtain rfl := some_inj h
        exact hq
/- isochronref27.Fit -/
theorem ref27_Fit_ok (N : Nat) (a0_ : api_Gates) (a1_ : Int) (a2_ : Int) (a3_ : Int) (r : Int × Int) (h : ref27_Fit N a0_ a1_ a2_ a3_ = some r) : PCall Try.prog 23 [.agg [.p (.sl 2 false (List.map e_api_Entry a0_.Entries)), .p (.int .i64 a0_.Cycle)], .p (.int .i64 a1_), .p (.int .i64 a2_), .p (.int .i64 a3_)] (.tup [.p (.int .i64 r.1), .p (.int .i64 r.2)]) := by
  unfold ref27_Fit at h
  have hH : HP ([] : List HO) [] := trivial
  refine pcall_of chk23 rfl rfl (vc_sound _ _ _ ?_) rfl
  refine vc_seq ?_
  refine vc_reg (S := ⟨[(1, .p (.int .i64 a1_)), (2, .p (.int .i64 a2_)), (3, .p (.int .i64 a3_)), (4, .loc 4 0)], [(4, [.p (.sl 2 false (List.map e_api_Entry a0_.Entries)), .p (.int .i64 a0_.Cycle)])], []⟩) (APath.fin (by kernel_rfl)) (by kernel_rfl) ?_
  refine vc_seq ?_
  obtain ⟨r1, hr1, h⟩ := bind_some h
  refine vc_reg (S := ⟨[(1, .p (.int .i64 a1_)), (2, .p (.int .i64 a2_)), (3, .p (.int .i64 a3_)), (4, .loc 4 0), (10, .p (.int .i64 r1))], [(4, [.p (.sl 2 false (List.map e_api_Entry a0_.Entries)), .p (.int .i64 a0_.Cycle)])], []⟩) (APath.chunk 4 (by kernel_rfl) (APath.one (.call (some 17) 32 [.t 13, .t 14, .t 15, .t 16]) (by kernel_rfl) (st_call (by kernel_rfl) (ref27_times_ok N a0_ a1_ a2_ a3_ r1 hr1)) (APath.fin (by kernel_rfl)))) (by kernel_rfl) ?_
  refine vc_seq ?_
  refine vc_seq ?_
  refine vc_reg (S := ⟨[(1, .p (.int .i64 a1_)), (2, .p (.int .i64 a2_)), (3, .p (.int .i64 a3_)), (4, .loc 4 0), (10, .p (.int .i64 r1)), (19, .p (.bool (r1 != 0)))], [(4, [.p (.sl 2 false (List.map e_api_Entry a0_.Entries)), .p (.int .i64 a0_.Cycle)])], []⟩) (APath.fin (by kernel_rfl)) (by kernel_rfl) ?_
  refine vc_ite (by kernel_rfl) h (fun hc2 h => ?_) (fun hc2 h => ?_)
  · refine vc_seq ?_
    refine vc_reg (S := ⟨[(8, .p (.int .i64 0)), (9, .p (.int .i64 r1))], [], []⟩) (APath.fin (by kernel_rfl)) (by kernel_rfl) ?_
    refine vc_ret ?_
    obtain rfl := some_inj h
    exact ret_of (by kernel_rfl)
  · refine vc_skip ?_
    refine vc_kp ?_
    refine vc_seq ?_
    obtain ⟨r3, hr3, h⟩ := bind_some h
    refine vc_reg (S := ⟨[(11, .p (.int .i64 r3.1)), (12, .p (.bool r3.2))], [], []⟩) (APath.chunk 4 (by kernel_rfl) (APath.one (.call (some 26) 41 [.t 22, .t 23, .t 24, .t 25]) (by kernel_rfl) (st_call (by kernel_rfl) (ref27_Earliest_ok N a0_ a1_ a2_ a3_ r3 hr3)) (APath.fin (by kernel_rfl)))) (by kernel_rfl) ?_
    refine vc_seq ?_
    refine vc_seq ?_
    refine vc_reg (S := ⟨[(11, .p (.int .i64 r3.1)), (30, .p (.bool (!r3.2)))], [], []⟩) (APath.fin (by kernel_rfl)) (by kernel_rfl) ?_
    refine vc_ite (by kernel_rfl) h (fun hc4 h => ?_) (fun hc4 h => ?_)
    · refine vc_seq ?_
      refine vc_reg (S := ⟨[(8, .p (.int .i64 0)), (9, .p (.int .i64 4))], [], []⟩) (APath.fin (by kernel_rfl)) (by kernel_rfl) ?_
      refine vc_ret ?_
      obtain rfl := some_inj h
      exact ret_of (by kernel_rfl)
    · refine vc_skip ?_
      refine vc_kp ?_
      refine vc_seq ?_
      refine vc_reg (S := ⟨[(8, .p (.int .i64 r3.1)), (9, .p (.int .i64 0))], [], []⟩) (APath.fin (by kernel_rfl)) (by kernel_rfl) ?_
      refine vc_ret ?_
      obtain rfl := some_inj h
      exact ret_of (by kernel_rfl)
/- isochronlaw27.open -/
theorem law27_open_ok (N : Nat) (a0_ : api_Gates) (a1_ : Int) (a2_ : Int) (r : Int) (h : law27_open N a0_ a1_ a2_ = some r) : PCall Try.prog 26 [.agg [.p (.sl 2 false (List.map e_api_Entry a0_.Entries)), .p (.int .i64 a0_.Cycle)], .p (.int .i64 a1_), .p (.int .i64 a2_)] (.p (.int .i64 r)) := by
  unfold law27_open at h
  have hH : HP ([] : List HO) [] := trivial
  refine pcall_of chk26 rfl rfl (vc_sound _ _ _ ?_) rfl
  refine vc_seq ?_
  refine vc_reg (S := ⟨[(1, .p (.int .i64 a1_)), (2, .p (.int .i64 a2_)), (3, .loc 3 0)], [(3, [.p (.sl 2 false (List.map e_api_Entry a0_.Entries)), .p (.int .i64 a0_.Cycle)])], []⟩) (APath.fin (by kernel_rfl)) (by kernel_rfl) ?_
  refine vc_seq ?_
  obtain ⟨r1, hr1, h⟩ := bind_some h
  refine vc_reg (S := ⟨[(7, .p (.int .i64 r1.1)), (8, .p (.int .i64 r1.2))], [], []⟩) (APath.chunk 3 (by kernel_rfl) (APath.one (.call (some 13) 18 [.t 10, .t 11, .t 12]) (by kernel_rfl) (st_call (by kernel_rfl) (gates_Open_ok N a0_ a1_ a2_ r1 hr1)) (APath.fin (by kernel_rfl)))) (by kernel_rfl) ?_
  refine vc_seq ?_
  refine vc_seq ?_
  refine vc_reg (S := ⟨[(7, .p (.int .i64 r1.1)), (17, .p (.bool (r1.2 != 0)))], [], []⟩) (APath.fin (by kernel_rfl)) (by kernel_rfl) ?_
  refine vc_ite (by kernel_rfl) h (fun hc2 h => ?_) (fun hc2 h => ?_)
  · refine vc_seq ?_
    refine vc_reg (S := ⟨[(6, .p (.int .i64 (-1)))], [], []⟩) (APath.fin (by kernel_rfl)) (by kernel_rfl) ?_
    refine vc_ret ?_
    obtain rfl := some_inj h
    exact ret_of (by kernel_rfl)
  · refine vc_skip ?_
    refine vc_kp ?_
    refine vc_seq ?_
    refine vc_reg (S := ⟨[(6, .p (.int .i64 r1.1))], [], []⟩) (APath.fin (by kernel_rfl)) (by kernel_rfl) ?_
    refine vc_ret ?_
    obtain rfl := some_inj h
    exact ret_of (by kernel_rfl)
/- isochronlaw27.fits -/
theorem law27_fits_ok (N : Nat) (a0_ : api_Gates) (a1_ : Int) (a2_ : Int) (a3_ : Int) (r : Bool) (h : law27_fits N a0_ a1_ a2_ a3_ = some r) : PCall Try.prog 27 [.agg [.p (.sl 2 false (List.map e_api_Entry a0_.Entries)), .p (.int .i64 a0_.Cycle)], .p (.int .i64 a1_), .p (.int .i64 a2_), .p (.int .i64 a3_)] (.p (.bool r)) := by
  unfold law27_fits at h
  have hH : HP ([] : List HO) [] := trivial
  refine pcall_of chk27 rfl rfl (vc_sound _ _ _ ?_) rfl
  refine vc_seq ?_
  refine vc_reg (S := ⟨[(1, .p (.int .i64 a1_)), (2, .p (.int .i64 a2_)), (3, .p (.int .i64 a3_)), (4, .loc 4 0)], [(4, [.p (.sl 2 false (List.map e_api_Entry a0_.Entries)), .p (.int .i64 a0_.Cycle)])], []⟩) (APath.fin (by kernel_rfl)) (by kernel_rfl) ?_
  refine vc_seq ?_
  obtain ⟨r1, hr1, h⟩ := bind_some h
  refine vc_reg (S := ⟨[(9, .p (.bool r1.1)), (10, .p (.int .i64 r1.2))], [], []⟩) (APath.chunk 4 (by kernel_rfl) (APath.one (.call (some 16) 20 [.t 12, .t 13, .t 14, .t 15]) (by kernel_rfl) (st_call (by kernel_rfl) (gates_Fits_ok N a0_ a1_ a2_ a3_ r1 hr1)) (APath.fin (by kernel_rfl)))) (by kernel_rfl) ?_
  refine vc_seq ?_
  refine vc_regX ⟨[(8, .p (.bool (r1.1 && (r1.2 == 0))))], [], []⟩ ?_ ?_
  · rcases Bool.eq_false_or_eq_true r1.1 with hc2 | hc3
    · exact ⟨_, (APath.one (.val 19 .mov [.t 9]) (by kernel_rfl) (st_bool (c := r1.1) (by kernel_rfl) hc2) (APath.fin (by kernel_rfl))), by simp only [hc2]; kernel_rfl⟩
    · exact ⟨_, (APath.one (.val 19 .mov [.t 9]) (by kernel_rfl) (st_bool (c := r1.1) (by kernel_rfl) hc3) (APath.fin (by kernel_rfl))), by simp only [hc3]; kernel_rfl⟩
  · refine vc_ret ?_
    obtain rfl := some_inj h
    exact ret_of (by kernel_rfl)
/- isochronlaw27.fit -/
theorem law27_fit_ok (N : Nat) (a0_ : api_Gates) (a1_ : Int) (a2_ : Int) (a3_ : Int) (r : Int) (h : law27_fit N a0_ a1_ a2_ a3_ = some r) : PCall Try.prog 29 [.agg [.p (.sl 2 false (List.map e_api_Entry a0_.Entries)), .p (.int .i64 a0_.Cycle)], .p (.int .i64 a1_), .p (.int .i64 a2_), .p (.int .i64 a3_)] (.p (.int .i64 r)) := by
  unfold law27_fit at h
  have hH : HP ([] : List HO) [] := trivial
  refine pcall_of chk29 rfl rfl (vc_sound _ _ _ ?_) rfl
  refine vc_seq ?_
  refine vc_reg (S := ⟨[(1, .p (.int .i64 a1_)), (2, .p (.int .i64 a2_)), (3, .p (.int .i64 a3_)), (4, .loc 4 0)], [(4, [.p (.sl 2 false (List.map e_api_Entry a0_.Entries)), .p (.int .i64 a0_.Cycle)])], []⟩) (APath.fin (by kernel_rfl)) (by kernel_rfl) ?_
  refine vc_seq ?_
  obtain ⟨r1, hr1, h⟩ := bind_some h
  refine vc_reg (S := ⟨[(9, .p (.int .i64 r1.1)), (10, .p (.int .i64 r1.2))], [], []⟩) (APath.chunk 4 (by kernel_rfl) (APath.one (.call (some 16) 22 [.t 12, .t 13, .t 14, .t 15]) (by kernel_rfl) (st_call (by kernel_rfl) (gates_Fit_ok N a0_ a1_ a2_ a3_ r1 hr1)) (APath.fin (by kernel_rfl)))) (by kernel_rfl) ?_
  refine vc_seq ?_
  refine vc_seq ?_
  refine vc_reg (S := ⟨[(9, .p (.int .i64 r1.1)), (20, .p (.bool (r1.2 != 0)))], [], []⟩) (APath.fin (by kernel_rfl)) (by kernel_rfl) ?_
  refine vc_ite (by kernel_rfl) h (fun hc2 h => ?_) (fun hc2 h => ?_)
  · refine vc_seq ?_
    refine vc_reg (S := ⟨[(8, .p (.int .i64 (-1)))], [], []⟩) (APath.fin (by kernel_rfl)) (by kernel_rfl) ?_
    refine vc_ret ?_
    obtain rfl := some_inj h
    exact ret_of (by kernel_rfl)
  · refine vc_skip ?_
    refine vc_kp ?_
    refine vc_seq ?_
    refine vc_reg (S := ⟨[(8, .p (.int .i64 r1.1))], [], []⟩) (APath.fin (by kernel_rfl)) (by kernel_rfl) ?_
    refine vc_ret ?_
    obtain rfl := some_inj h
    exact ret_of (by kernel_rfl)
/- isochronlaw27.works -/
theorem law27_works_ok (N : Nat) (r : Bool) (h : law27_works N = some r) : PCall Try.prog 17 [] (.p (.bool r)) := by
  unfold law27_works at h
  have hH : HP ([] : List HO) [] := trivial
  refine pcall_of chk17 rfl rfl (vc_sound _ _ _ ?_) rfl
  refine vc_seq ?_
  refine vc_reg (S := ⟨[], [], []⟩) (APath.fin (by kernel_rfl)) (by kernel_rfl) ?_
  refine vc_seq ?_
  obtain ⟨r1, hr1, h⟩ := bind_some h
  refine vc_reg (S := ⟨[(1, .loc 1 0)], [(1, [.p (.sl 2 false (List.map e_api_Entry r1.Entries)), .p (.int .i64 r1.Cycle)])], []⟩) (APath.chunk 1 (by kernel_rfl) (APath.one (.call (some 11) 28 [.t 10]) (by kernel_rfl) (st_call (by kernel_rfl) (law27_list_ok N ([128, 10, 127, 30]) r1 hr1)) (APath.fin (by kernel_rfl)))) (by kernel_rfl) ?_
  refine vc_seq ?_
  obtain ⟨r2, hr2, h⟩ := bind_some h
  refine vc_reg (S := ⟨[(1, .loc 1 0), (3, .p (.int .i64 r2.2))], [(1, [.p (.sl 2 false (List.map e_api_Entry r1.Entries)), .p (.int .i64 r1.Cycle)])], []⟩) (APath.chunk 1 (by kernel_rfl) (APath.one (.call (some 14) 22 [.t 13, .k (.p (.int .i64 7)), .k (.p (.int .i64 0)), .k (.p (.int .i64 11))]) (by kernel_rfl) (st_call (by kernel_rfl) (gates_Fit_ok N r1 7 0 11 r2 hr2)) (APath.fin (by kernel_rfl)))) (by kernel_rfl) ?_
  refine vc_seq ?_
  obtain ⟨r3, hr3, h⟩ := bind_some h
  refine vc_reg (S := ⟨[(1, .loc 1 0), (3, .p (.int .i64 r2.2)), (4, .p (.int .i64 r3.1)), (5, .p (.int .i64 r3.2))], [(1, [.p (.sl 2 false (List.map e_api_Entry r1.Entries)), .p (.int .i64 r1.Cycle)])], []⟩) (APath.chunk 1 (by kernel_rfl) (APath.one (.call (some 19) 13 [.t 18, .k (.p (.int .i64 5))]) (by kernel_rfl) (st_call (by kernel_rfl) (gates_Turn_ok N r1 5 r3 hr3)) (APath.fin (by kernel_rfl)))) (by kernel_rfl) ?_
  refine vc_seq ?_
  obtain ⟨r4, hr4, h⟩ := bind_some h
  refine vc_reg (S := ⟨[(1, .loc 1 0), (3, .p (.int .i64 r2.2)), (4, .p (.int .i64 r3.1)), (5, .p (.int .i64 r3.2)), (6, .p (.int .i64 r4.1)), (7, .p (.int .i64 r4.2))], [(1, [.p (.sl 2 false (List.map e_api_Entry r1.Entries)), .p (.int .i64 r1.Cycle)])], []⟩) (APath.chunk 1 (by kernel_rfl) (APath.one (.call (some 24) 13 [.t 23, .k (.p (.int .i64 35))]) (by kernel_rfl) (st_call (by kernel_rfl) (gates_Turn_ok N r1 35 r4 hr4)) (APath.fin (by kernel_rfl)))) (by kernel_rfl) ?_
  refine vc_seq ?_
  obtain ⟨j12, hj, h⟩ := bind_some h
  refine vc_regXR (fun s => s = ⟨[(1, .loc 1 0), (3, .p (.int .i64 r2.2)), (4, .p (.int .i64 r3.1)), (5, .p (.int .i64 r3.2)), (6, .p (.int .i64 r4.1)), (7, .p (.int .i64 r4.2)), (8, .p (.bool j12))], [(1, [.p (.sl 2 false (List.map e_api_Entry r1.Entries)), .p (.int .i64 r1.Cycle)])], []⟩) ?_ ?_
  · clear h
    obtain ⟨r5, hr5, hj⟩ := bind_some hj
    rcases ite_some hj with ⟨hc6, hj⟩ | ⟨hc11, hj⟩
    · obtain ⟨r7, hr7, hj⟩ := bind_some hj
      rcases ite_some hj with ⟨hc8, hj⟩ | ⟨hc10, hj⟩
      · obtain ⟨r9, hr9, hj⟩ := bind_some hj
        obtain rfl := some_inj hj
        exact ⟨_, (APath.chunk 1 (by kernel_rfl) (APath.one (.call (some 28) 25 [.t 27, .k (.p (.int .i64 5))]) (by kernel_rfl) (st_call (by kernel_rfl) (law27_mask_ok N r1 5 r5 hr5)) (APath.one (.val 29 (.bin .eql) [.t 28, .k (.p (.int .i64 128))]) (by kernel_rfl) (st_bool (c := (r5 == 128)) (by kernel_rfl) hc6) (APath.chunk 2 (by kernel_rfl) (APath.oneG (.call (some 32) 25 [.t 31, .k (.p (.int .i64 10))]) 30 true (by kernel_rfl) (by kernel_rfl) (st_call (by kernel_rfl) (law27_mask_ok N r1 10 r7 hr7)) (APath.oneG (.val 33 (.bin .eql) [.t 32, .k (.p (.int .i64 127))]) 30 true (by kernel_rfl) (by kernel_rfl) (st_bool (c := (r7 == 127)) (by kernel_rfl) hc8) (APath.chunk 3 (by kernel_rfl) (APath.oneG (.call (some 37) 25 [.t 36, .k (.p (.int .i64 (-1)))]) 35 true (by kernel_rfl) (by kernel_rfl) (st_call (by kernel_rfl) (law27_mask_ok N r1 (-1) r9 hr9)) (APath.fin (by kernel_rfl)))))))))), (by show _ = _; kernel_rfl)⟩
      · obtain rfl := some_inj hj
        exact ⟨_, (APath.chunk 1 (by kernel_rfl) (APath.one (.call (some 28) 25 [.t 27, .k (.p (.int .i64 5))]) (by kernel_rfl) (st_call (by kernel_rfl) (law27_mask_ok N r1 5 r5 hr5)) (APath.one (.val 29 (.bin .eql) [.t 28, .k (.p (.int .i64 128))]) (by kernel_rfl) (st_bool (c := (r5 == 128)) (by kernel_rfl) hc6) (APath.chunk 2 (by kernel_rfl) (APath.oneG (.call (some 32) 25 [.t 31, .k (.p (.int .i64 10))]) 30 true (by kernel_rfl) (by kernel_rfl) (st_call (by kernel_rfl) (law27_mask_ok N r1 10 r7 hr7)) (APath.oneG (.val 33 (.bin .eql) [.t 32, .k (.p (.int .i64 127))]) 30 true (by kernel_rfl) (by kernel_rfl) (st_bool (c := (r7 == 127)) (by kernel_rfl) hc10) (APath.fin (by kernel_rfl)))))))), (by show _ = _; kernel_rfl)⟩
    · obtain rfl := some_inj hj
      exact ⟨_, (APath.chunk 1 (by kernel_rfl) (APath.one (.call (some 28) 25 [.t 27, .k (.p (.int .i64 5))]) (by kernel_rfl) (st_call (by kernel_rfl) (law27_mask_ok N r1 5 r5 hr5)) (APath.one (.val 29 (.bin .eql) [.t 28, .k (.p (.int .i64 128))]) (by kernel_rfl) (st_bool (c := (r5 == 128)) (by kernel_rfl) hc11) (APath.fin (by kernel_rfl))))), (by show _ = _; kernel_rfl)⟩
  · clear hj
    rintro s hR
    obtain rfl := hR
    refine vc_seq ?_
    obtain ⟨j26, hj, h⟩ := bind_some h
    refine vc_regXR (fun s => s = ⟨[(1, .loc 1 0), (3, .p (.int .i64 r2.2)), (4, .p (.int .i64 r3.1)), (5, .p (.int .i64 r3.2)), (6, .p (.int .i64 r4.1)), (7, .p (.int .i64 r4.2)), (8, .p (.bool j12)), (9, .p (.bool j26))], [(1, [.p (.sl 2 false (List.map e_api_Entry r1.Entries)), .p (.int .i64 r1.Cycle)])], []⟩) ?_ ?_
    · clear h
      obtain ⟨r13, hr13, hj⟩ := bind_some hj
      rcases ite_some hj with ⟨hc14, hj⟩ | ⟨hc25, hj⟩
      · obtain ⟨r15, hr15, hj⟩ := bind_some hj
        rcases ite_some hj with ⟨hc16, hj⟩ | ⟨hc24, hj⟩
        · obtain ⟨r17, hr17, hj⟩ := bind_some hj
          rcases ite_some hj with ⟨hc18, hj⟩ | ⟨hc23, hj⟩
          · obtain ⟨r19, hr19, hj⟩ := bind_some hj
            rcases ite_some hj with ⟨hc20, hj⟩ | ⟨hc22, hj⟩
            · obtain ⟨r21, hr21, hj⟩ := bind_some hj
              obtain rfl := some_inj hj
              exact ⟨_, (APath.chunk 1 (by kernel_rfl) (APath.one (.call (some 41) 26 [.t 40, .k (.p (.int .i64 7)), .k (.p (.int .i64 3))]) (by kernel_rfl) (st_call (by kernel_rfl) (law27_open_ok N r1 7 3 r13 hr13)) (APath.one (.val 42 (.bin .eql) [.t 41, .k (.p (.int .i64 7))]) (by kernel_rfl) (st_bool (c := (r13 == 7)) (by kernel_rfl) hc14) (APath.chunk 2 (by kernel_rfl) (APath.oneG (.call (some 45) 26 [.t 44, .k (.p (.int .i64 6)), .k (.p (.int .i64 35))]) 43 true (by kernel_rfl) (by kernel_rfl) (st_call (by kernel_rfl) (law27_open_ok N r1 6 35 r15 hr15)) (APath.oneG (.val 46 (.bin .eql) [.t 45, .k (.p (.int .i64 5))]) 43 true (by kernel_rfl) (by kernel_rfl) (st_bool (c := (r15 == 5)) (by kernel_rfl) hc16) (APath.chunk 3 (by kernel_rfl) (APath.oneG (.call (some 50) 26 [.t 49, .k (.p (.int .i64 6)), .k (.p (.int .i64 3))]) 48 true (by kernel_rfl) (by kernel_rfl) (st_call (by kernel_rfl) (law27_open_ok N r1 6 3 r17 hr17)) (APath.oneG (.val 51 (.bin .eql) [.t 50, .k (.p (.int .i64 0))]) 48 true (by kernel_rfl) (by kernel_rfl) (st_bool (c := (r17 == 0)) (by kernel_rfl) hc18) (APath.chunk 3 (by kernel_rfl) (APath.oneG (.call (some 55) 27 [.t 54, .k (.p (.int .i64 6)), .k (.p (.int .i64 35)), .k (.p (.int .i64 5))]) 53 true (by kernel_rfl) (by kernel_rfl) (st_callB (by kernel_rfl) (law27_fits_ok N r1 6 35 5 r19 hr19) hc20) (APath.chunk 3 (by kernel_rfl) (APath.oneG (.call (some 59) 27 [.t 58, .k (.p (.int .i64 6)), .k (.p (.int .i64 35)), .k (.p (.int .i64 6))]) 57 true (by kernel_rfl) (by kernel_rfl) (st_call (by kernel_rfl) (law27_fits_ok N r1 6 35 6 r21 hr21)) (APath.fin (by kernel_rfl))))))))))))))), (by show _ = _; kernel_rfl)⟩
            · obtain rfl := some_inj hj
              exact ⟨_, (APath.chunk 1 (by kernel_rfl) (APath.one (.call (some 41) 26 [.t 40, .k (.p (.int .i64 7)), .k (.p (.int .i64 3))]) (by kernel_rfl) (st_call (by kernel_rfl) (law27_open_ok N r1 7 3 r13 hr13)) (APath.one (.val 42 (.bin .eql) [.t 41, .k (.p (.int .i64 7))]) (by kernel_rfl) (st_bool (c := (r13 == 7)) (by kernel_rfl) hc14) (APath.chunk 2 (by kernel_rfl) (APath.oneG (.call (some 45) 26 [.t 44, .k (.p (.int .i64 6)), .k (.p (.int .i64 35))]) 43 true (by kernel_rfl) (by kernel_rfl) (st_call (by kernel_rfl) (law27_open_ok N r1 6 35 r15 hr15)) (APath.oneG (.val 46 (.bin .eql) [.t 45, .k (.p (.int .i64 5))]) 43 true (by kernel_rfl) (by kernel_rfl) (st_bool (c := (r15 == 5)) (by kernel_rfl) hc16) (APath.chunk 3 (by kernel_rfl) (APath.oneG (.call (some 50) 26 [.t 49, .k (.p (.int .i64 6)), .k (.p (.int .i64 3))]) 48 true (by kernel_rfl) (by kernel_rfl) (st_call (by kernel_rfl) (law27_open_ok N r1 6 3 r17 hr17)) (APath.oneG (.val 51 (.bin .eql) [.t 50, .k (.p (.int .i64 0))]) 48 true (by kernel_rfl) (by kernel_rfl) (st_bool (c := (r17 == 0)) (by kernel_rfl) hc18) (APath.chunk 3 (by kernel_rfl) (APath.oneG (.call (some 55) 27 [.t 54, .k (.p (.int .i64 6)), .k (.p (.int .i64 35)), .k (.p (.int .i64 5))]) 53 true (by kernel_rfl) (by kernel_rfl) (st_callB (by kernel_rfl) (law27_fits_ok N r1 6 35 5 r19 hr19) hc22) (APath.fin (by kernel_rfl))))))))))))), (by show _ = _; kernel_rfl)⟩
          · obtain rfl := some_inj hj
            exact ⟨_, (APath.chunk 1 (by kernel_rfl) (APath.one (.call (some 41) 26 [.t 40, .k (.p (.int .i64 7)), .k (.p (.int .i64 3))]) (by kernel_rfl) (st_call (by kernel_rfl) (law27_open_ok N r1 7 3 r13 hr13)) (APath.one (.val 42 (.bin .eql) [.t 41, .k (.p (.int .i64 7))]) (by kernel_rfl) (st_bool (c := (r13 == 7)) (by kernel_rfl) hc14) (APath.chunk 2 (by kernel_rfl) (APath.oneG (.call (some 45) 26 [.t 44, .k (.p (.int .i64 6)), .k (.p (.int .i64 35))]) 43 true (by kernel_rfl) (by kernel_rfl) (st_call (by kernel_rfl) (law27_open_ok N r1 6 35 r15 hr15)) (APath.oneG (.val 46 (.bin .eql) [.t 45, .k (.p (.int .i64 5))]) 43 true (by kernel_rfl) (by kernel_rfl) (st_bool (c := (r15 == 5)) (by kernel_rfl) hc16) (APath.chunk 3 (by kernel_rfl) (APath.oneG (.call (some 50) 26 [.t 49, .k (.p (.int .i64 6)), .k (.p (.int .i64 3))]) 48 true (by kernel_rfl) (by kernel_rfl) (st_call (by kernel_rfl) (law27_open_ok N r1 6 3 r17 hr17)) (APath.oneG (.val 51 (.bin .eql) [.t 50, .k (.p (.int .i64 0))]) 48 true (by kernel_rfl) (by kernel_rfl) (st_bool (c := (r17 == 0)) (by kernel_rfl) hc23) (APath.fin (by kernel_rfl))))))))))), (by show _ = _; kernel_rfl)⟩
        · obtain rfl := some_inj hj
          exact ⟨_, (APath.chunk 1 (by kernel_rfl) (APath.one (.call (some 41) 26 [.t 40, .k (.p (.int .i64 7)), .k (.p (.int .i64 3))]) (by kernel_rfl) (st_call (by kernel_rfl) (law27_open_ok N r1 7 3 r13 hr13)) (APath.one (.val 42 (.bin .eql) [.t 41, .k (.p (.int .i64 7))]) (by kernel_rfl) (st_bool (c := (r13 == 7)) (by kernel_rfl) hc14) (APath.chunk 2 (by kernel_rfl) (APath.oneG (.call (some 45) 26 [.t 44, .k (.p (.int .i64 6)), .k (.p (.int .i64 35))]) 43 true (by kernel_rfl) (by kernel_rfl) (st_call (by kernel_rfl) (law27_open_ok N r1 6 35 r15 hr15)) (APath.oneG (.val 46 (.bin .eql) [.t 45, .k (.p (.int .i64 5))]) 43 true (by kernel_rfl) (by kernel_rfl) (st_bool (c := (r15 == 5)) (by kernel_rfl) hc24) (APath.fin (by kernel_rfl)))))))), (by show _ = _; kernel_rfl)⟩
      · obtain rfl := some_inj hj
        exact ⟨_, (APath.chunk 1 (by kernel_rfl) (APath.one (.call (some 41) 26 [.t 40, .k (.p (.int .i64 7)), .k (.p (.int .i64 3))]) (by kernel_rfl) (st_call (by kernel_rfl) (law27_open_ok N r1 7 3 r13 hr13)) (APath.one (.val 42 (.bin .eql) [.t 41, .k (.p (.int .i64 7))]) (by kernel_rfl) (st_bool (c := (r13 == 7)) (by kernel_rfl) hc25) (APath.fin (by kernel_rfl))))), (by show _ = _; kernel_rfl)⟩
    · clear hj
      rintro s hR
      obtain rfl := hR
      refine vc_seq ?_
      obtain ⟨j45, hj, h⟩ := bind_some h
      refine vc_regXR (fun s => s = ⟨[(0, .p (.bool j45))], [], []⟩) ?_ ?_
      · clear h
        rcases ite_some hj with ⟨hc27, hj⟩ | ⟨hc44, hj⟩
        · rcases ite_some hj with ⟨hc28, hj⟩ | ⟨hc43, hj⟩
          · obtain ⟨r29, hr29, hj⟩ := bind_some hj
            rcases ite_some hj with ⟨hc30, hj⟩ | ⟨hc42, hj⟩
            · obtain ⟨r31, hr31, hj⟩ := bind_some hj
              rcases ite_some hj with ⟨hc32, hj⟩ | ⟨hc41, hj⟩
              · rcases ite_some hj with ⟨hc33, hj⟩ | ⟨hc40, hj⟩
                · rcases ite_some hj with ⟨hc34, hj⟩ | ⟨hc39, hj⟩
                  · rcases ite_some hj with ⟨hc35, hj⟩ | ⟨hc38, hj⟩
                    · rcases ite_some hj with ⟨hc36, hj⟩ | ⟨hc37, hj⟩
                      · obtain rfl := some_inj hj
                        exact ⟨_, (APath.one (.val 62 .mov [.t 8]) (by kernel_rfl) (st_bool (c := j12) (by kernel_rfl) hc27) (APath.chunk 1 (by kernel_rfl) (APath.oneG (.val 64 .mov [.t 9]) 63 true (by kernel_rfl) (by kernel_rfl) (st_bool (c := j26) (by kernel_rfl) hc28) (APath.chunk 3 (by kernel_rfl) (APath.oneG (.call (some 68) 29 [.t 67, .k (.p (.int .i64 6)), .k (.p (.int .i64 35)), .k (.p (.int .i64 5))]) 66 true (by kernel_rfl) (by kernel_rfl) (st_call (by kernel_rfl) (law27_fit_ok N r1 6 35 5 r29 hr29)) (APath.oneG (.val 69 (.bin .eql) [.t 68, .k (.p (.int .i64 35))]) 66 true (by kernel_rfl) (by kernel_rfl) (st_bool (c := (r29 == 35)) (by kernel_rfl) hc30) (APath.chunk 3 (by kernel_rfl) (APath.oneG (.call (some 73) 29 [.t 72, .k (.p (.int .i64 6)), .k (.p (.int .i64 35)), .k (.p (.int .i64 6))]) 71 true (by kernel_rfl) (by kernel_rfl) (st_call (by kernel_rfl) (law27_fit_ok N r1 6 35 6 r31 hr31)) (APath.oneG (.val 74 (.bin .eql) [.t 73, .k (.p (.int .i64 50))]) 71 true (by kernel_rfl) (by kernel_rfl) (st_bool (c := (r31 == 50)) (by kernel_rfl) hc32) (APath.chunk 3 (by kernel_rfl) (APath.oneG (.val 78 (.bin .eql) [.t 77, .k (.p (.int .i64 4))]) 76 true (by kernel_rfl) (by kernel_rfl) (st_bool (c := (r2.2 == 4)) (by kernel_rfl) hc33) (APath.chunk 3 (by kernel_rfl) (APath.oneG (.val 82 (.bin .eql) [.t 81, .k (.p (.int .i64 10))]) 80 true (by kernel_rfl) (by kernel_rfl) (st_bool (c := (r3.1 == 10)) (by kernel_rfl) hc34) (APath.chunk 3 (by kernel_rfl) (APath.oneG (.val 86 (.bin .eql) [.t 85, .k (.p (.int .i64 0))]) 84 true (by kernel_rfl) (by kernel_rfl) (st_bool (c := (r3.2 == 0)) (by kernel_rfl) hc35) (APath.chunk 3 (by kernel_rfl) (APath.oneG (.val 90 (.bin .eql) [.t 89, .k (.p (.int .i64 40))]) 88 true (by kernel_rfl) (by kernel_rfl) (st_bool (c := (r4.1 == 40)) (by kernel_rfl) hc36) (APath.fin (by kernel_rfl))))))))))))))))))), (by show _ = _; kernel_rfl)⟩
                      · obtain rfl := some_inj hj
                        exact ⟨_, (APath.one (.val 62 .mov [.t 8]) (by kernel_rfl) (st_bool (c := j12) (by kernel_rfl) hc27) (APath.chunk 1 (by kernel_rfl) (APath.oneG (.val 64 .mov [.t 9]) 63 true (by kernel_rfl) (by kernel_rfl) (st_bool (c := j26) (by kernel_rfl) hc28) (APath.chunk 3 (by kernel_rfl) (APath.oneG (.call (some 68) 29 [.t 67, .k (.p (.int .i64 6)), .k (.p (.int .i64 35)), .k (.p (.int .i64 5))]) 66 true (by kernel_rfl) (by kernel_rfl) (st_call (by kernel_rfl) (law27_fit_ok N r1 6 35 5 r29 hr29)) (APath.oneG (.val 69 (.bin .eql) [.t 68, .k (.p (.int .i64 35))]) 66 true (by kernel_rfl) (by kernel_rfl) (st_bool (c := (r29 == 35)) (by kernel_rfl) hc30) (APath.chunk 3 (by kernel_rfl) (APath.oneG (.call (some 73) 29 [.t 72, .k (.p (.int .i64 6)), .k (.p (.int .i64 35)), .k (.p (.int .i64 6))]) 71 true (by kernel_rfl) (by kernel_rfl) (st_call (by kernel_rfl) (law27_fit_ok N r1 6 35 6 r31 hr31)) (APath.oneG (.val 74 (.bin .eql) [.t 73, .k (.p (.int .i64 50))]) 71 true (by kernel_rfl) (by kernel_rfl) (st_bool (c := (r31 == 50)) (by kernel_rfl) hc32) (APath.chunk 3 (by kernel_rfl) (APath.oneG (.val 78 (.bin .eql) [.t 77, .k (.p (.int .i64 4))]) 76 true (by kernel_rfl) (by kernel_rfl) (st_bool (c := (r2.2 == 4)) (by kernel_rfl) hc33) (APath.chunk 3 (by kernel_rfl) (APath.oneG (.val 82 (.bin .eql) [.t 81, .k (.p (.int .i64 10))]) 80 true (by kernel_rfl) (by kernel_rfl) (st_bool (c := (r3.1 == 10)) (by kernel_rfl) hc34) (APath.chunk 3 (by kernel_rfl) (APath.oneG (.val 86 (.bin .eql) [.t 85, .k (.p (.int .i64 0))]) 84 true (by kernel_rfl) (by kernel_rfl) (st_bool (c := (r3.2 == 0)) (by kernel_rfl) hc35) (APath.chunk 3 (by kernel_rfl) (APath.oneG (.val 90 (.bin .eql) [.t 89, .k (.p (.int .i64 40))]) 88 true (by kernel_rfl) (by kernel_rfl) (st_bool (c := (r4.1 == 40)) (by kernel_rfl) hc37) (APath.fin (by kernel_rfl))))))))))))))))))), (by show _ = _; kernel_rfl)⟩
                    · obtain rfl := some_inj hj
                      exact ⟨_, (APath.one (.val 62 .mov [.t 8]) (by kernel_rfl) (st_bool (c := j12) (by kernel_rfl) hc27) (APath.chunk 1 (by kernel_rfl) (APath.oneG (.val 64 .mov [.t 9]) 63 true (by kernel_rfl) (by kernel_rfl) (st_bool (c := j26) (by kernel_rfl) hc28) (APath.chunk 3 (by kernel_rfl) (APath.oneG (.call (some 68) 29 [.t 67, .k (.p (.int .i64 6)), .k (.p (.int .i64 35)), .k (.p (.int .i64 5))]) 66 true (by kernel_rfl) (by kernel_rfl) (st_call (by kernel_rfl) (law27_fit_ok N r1 6 35 5 r29 hr29)) (APath.oneG (.val 69 (.bin .eql) [.t 68, .k (.p (.int .i64 35))]) 66 true (by kernel_rfl) (by kernel_rfl) (st_bool (c := (r29 == 35)) (by kernel_rfl) hc30) (APath.chunk 3 (by kernel_rfl) (APath.oneG (.call (some 73) 29 [.t 72, .k (.p (.int .i64 6)), .k (.p (.int .i64 35)), .k (.p (.int .i64 6))]) 71 true (by kernel_rfl) (by kernel_rfl) (st_call (by kernel_rfl) (law27_fit_ok N r1 6 35 6 r31 hr31)) (APath.oneG (.val 74 (.bin .eql) [.t 73, .k (.p (.int .i64 50))]) 71 true (by kernel_rfl) (by kernel_rfl) (st_bool (c := (r31 == 50)) (by kernel_rfl) hc32) (APath.chunk 3 (by kernel_rfl) (APath.oneG (.val 78 (.bin .eql) [.t 77, .k (.p (.int .i64 4))]) 76 true (by kernel_rfl) (by kernel_rfl) (st_bool (c := (r2.2 == 4)) (by kernel_rfl) hc33) (APath.chunk 3 (by kernel_rfl) (APath.oneG (.val 82 (.bin .eql) [.t 81, .k (.p (.int .i64 10))]) 80 true (by kernel_rfl) (by kernel_rfl) (st_bool (c := (r3.1 == 10)) (by kernel_rfl) hc34) (APath.chunk 3 (by kernel_rfl) (APath.oneG (.val 86 (.bin .eql) [.t 85, .k (.p (.int .i64 0))]) 84 true (by kernel_rfl) (by kernel_rfl) (st_bool (c := (r3.2 == 0)) (by kernel_rfl) hc38) (APath.fin (by kernel_rfl))))))))))))))))), (by show _ = _; kernel_rfl)⟩
                  · obtain rfl := some_inj hj
                    exact ⟨_, (APath.one (.val 62 .mov [.t 8]) (by kernel_rfl) (st_bool (c := j12) (by kernel_rfl) hc27) (APath.chunk 1 (by kernel_rfl) (APath.oneG (.val 64 .mov [.t 9]) 63 true (by kernel_rfl) (by kernel_rfl) (st_bool (c := j26) (by kernel_rfl) hc28) (APath.chunk 3 (by kernel_rfl) (APath.oneG (.call (some 68) 29 [.t 67, .k (.p (.int .i64 6)), .k (.p (.int .i64 35)), .k (.p (.int .i64 5))]) 66 true (by kernel_rfl) (by kernel_rfl) (st_call (by kernel_rfl) (law27_fit_ok N r1 6 35 5 r29 hr29)) (APath.oneG (.val 69 (.bin .eql) [.t 68, .k (.p (.int .i64 35))]) 66 true (by kernel_rfl) (by kernel_rfl) (st_bool (c := (r29 == 35)) (by kernel_rfl) hc30) (APath.chunk 3 (by kernel_rfl) (APath.oneG (.call (some 73) 29 [.t 72, .k (.p (.int .i64 6)), .k (.p (.int .i64 35)), .k (.p (.int .i64 6))]) 71 true (by kernel_rfl) (by kernel_rfl) (st_call (by kernel_rfl) (law27_fit_ok N r1 6 35 6 r31 hr31)) (APath.oneG (.val 74 (.bin .eql) [.t 73, .k (.p (.int .i64 50))]) 71 true (by kernel_rfl) (by kernel_rfl) (st_bool (c := (r31 == 50)) (by kernel_rfl) hc32) (APath.chunk 3 (by kernel_rfl) (APath.oneG (.val 78 (.bin .eql) [.t 77, .k (.p (.int .i64 4))]) 76 true (by kernel_rfl) (by kernel_rfl) (st_bool (c := (r2.2 == 4)) (by kernel_rfl) hc33) (APath.chunk 3 (by kernel_rfl) (APath.oneG (.val 82 (.bin .eql) [.t 81, .k (.p (.int .i64 10))]) 80 true (by kernel_rfl) (by kernel_rfl) (st_bool (c := (r3.1 == 10)) (by kernel_rfl) hc39) (APath.fin (by kernel_rfl))))))))))))))), (by show _ = _; kernel_rfl)⟩
                · obtain rfl := some_inj hj
                  exact ⟨_, (APath.one (.val 62 .mov [.t 8]) (by kernel_rfl) (st_bool (c := j12) (by kernel_rfl) hc27) (APath.chunk 1 (by kernel_rfl) (APath.oneG (.val 64 .mov [.t 9]) 63 true (by kernel_rfl) (by kernel_rfl) (st_bool (c := j26) (by kernel_rfl) hc28) (APath.chunk 3 (by kernel_rfl) (APath.oneG (.call (some 68) 29 [.t 67, .k (.p (.int .i64 6)), .k (.p (.int .i64 35)), .k (.p (.int .i64 5))]) 66 true (by kernel_rfl) (by kernel_rfl) (st_call (by kernel_rfl) (law27_fit_ok N r1 6 35 5 r29 hr29)) (APath.oneG (.val 69 (.bin .eql) [.t 68, .k (.p (.int .i64 35))]) 66 true (by kernel_rfl) (by kernel_rfl) (st_bool (c := (r29 == 35)) (by kernel_rfl) hc30) (APath.chunk 3 (by kernel_rfl) (APath.oneG (.call (some 73) 29 [.t 72, .k (.p (.int .i64 6)), .k (.p (.int .i64 35)), .k (.p (.int .i64 6))]) 71 true (by kernel_rfl) (by kernel_rfl) (st_call (by kernel_rfl) (law27_fit_ok N r1 6 35 6 r31 hr31)) (APath.oneG (.val 74 (.bin .eql) [.t 73, .k (.p (.int .i64 50))]) 71 true (by kernel_rfl) (by kernel_rfl) (st_bool (c := (r31 == 50)) (by kernel_rfl) hc32) (APath.chunk 3 (by kernel_rfl) (APath.oneG (.val 78 (.bin .eql) [.t 77, .k (.p (.int .i64 4))]) 76 true (by kernel_rfl) (by kernel_rfl) (st_bool (c := (r2.2 == 4)) (by kernel_rfl) hc40) (APath.fin (by kernel_rfl))))))))))))), (by show _ = _; kernel_rfl)⟩
              · obtain rfl := some_inj hj
                exact ⟨_, (APath.one (.val 62 .mov [.t 8]) (by kernel_rfl) (st_bool (c := j12) (by kernel_rfl) hc27) (APath.chunk 1 (by kernel_rfl) (APath.oneG (.val 64 .mov [.t 9]) 63 true (by kernel_rfl) (by kernel_rfl) (st_bool (c := j26) (by kernel_rfl) hc28) (APath.chunk 3 (by kernel_rfl) (APath.oneG (.call (some 68) 29 [.t 67, .k (.p (.int .i64 6)), .k (.p (.int .i64 35)), .k (.p (.int .i64 5))]) 66 true (by kernel_rfl) (by kernel_rfl) (st_call (by kernel_rfl) (law27_fit_ok N r1 6 35 5 r29 hr29)) (APath.oneG (.val 69 (.bin .eql) [.t 68, .k (.p (.int .i64 35))]) 66 true (by kernel_rfl) (by kernel_rfl) (st_bool (c := (r29 == 35)) (by kernel_rfl) hc30) (APath.chunk 3 (by kernel_rfl) (APath.oneG (.call (some 73) 29 [.t 72, .k (.p (.int .i64 6)), .k (.p (.int .i64 35)), .k (.p (.int .i64 6))]) 71 true (by kernel_rfl) (by kernel_rfl) (st_call (by kernel_rfl) (law27_fit_ok N r1 6 35 6 r31 hr31)) (APath.oneG (.val 74 (.bin .eql) [.t 73, .k (.p (.int .i64 50))]) 71 true (by kernel_rfl) (by kernel_rfl) (st_bool (c := (r31 == 50)) (by kernel_rfl) hc41) (APath.fin (by kernel_rfl))))))))))), (by show _ = _; kernel_rfl)⟩
            · obtain rfl := some_inj hj
              exact ⟨_, (APath.one (.val 62 .mov [.t 8]) (by kernel_rfl) (st_bool (c := j12) (by kernel_rfl) hc27) (APath.chunk 1 (by kernel_rfl) (APath.oneG (.val 64 .mov [.t 9]) 63 true (by kernel_rfl) (by kernel_rfl) (st_bool (c := j26) (by kernel_rfl) hc28) (APath.chunk 3 (by kernel_rfl) (APath.oneG (.call (some 68) 29 [.t 67, .k (.p (.int .i64 6)), .k (.p (.int .i64 35)), .k (.p (.int .i64 5))]) 66 true (by kernel_rfl) (by kernel_rfl) (st_call (by kernel_rfl) (law27_fit_ok N r1 6 35 5 r29 hr29)) (APath.oneG (.val 69 (.bin .eql) [.t 68, .k (.p (.int .i64 35))]) 66 true (by kernel_rfl) (by kernel_rfl) (st_bool (c := (r29 == 35)) (by kernel_rfl) hc42) (APath.fin (by kernel_rfl)))))))), (by show _ = _; kernel_rfl)⟩
          · obtain rfl := some_inj hj
            exact ⟨_, (APath.one (.val 62 .mov [.t 8]) (by kernel_rfl) (st_bool (c := j12) (by kernel_rfl) hc27) (APath.chunk 1 (by kernel_rfl) (APath.oneG (.val 64 .mov [.t 9]) 63 true (by kernel_rfl) (by kernel_rfl) (st_bool (c := j26) (by kernel_rfl) hc43) (APath.fin (by kernel_rfl))))), (by show _ = _; kernel_rfl)⟩
        · obtain rfl := some_inj hj
          exact ⟨_, (APath.one (.val 62 .mov [.t 8]) (by kernel_rfl) (st_bool (c := j12) (by kernel_rfl) hc44) (APath.fin (by kernel_rfl))), (by show _ = _; kernel_rfl)⟩
      · clear hj
        rintro s hR
        obtain rfl := hR
        refine vc_ret ?_
        obtain rfl := some_inj h
        exact ret_of (by kernel_rfl)
end Go.Sh
