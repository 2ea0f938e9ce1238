/- SynthHolds returns true for every input: the Go text computes a plain Lean function (proved in the texts that this one imports), and that function returns true. No conditions. -/
import Derived.Test.YtlajapegdomhfaaGreatRows
import Derived.Test.YtlajapegdomhfaaGreatSynthHoldsRd
import Derived.Test.YtlajapegdomhfaaGreatSynthHoldsOkSynthHolds
import Derived.Test.YtlajapegdomhfaaGreatSynthHoldsSyn9
import Derived.WalkKit
import Derived.ProofKit
import Derived.OpenShut
namespace Go.Proofs.YtlajapegdomhfaaGreat.synthHolds
open Go.ChangeShapes Go.WideShapes Go.ChangeAt Go.RowKit Go.Eng Go.Sh
set_option linter.unusedVariables false
theorem own : ownKnob Tryz.prog.godebug = none := by kernel_rfl
theorem lay : laidOutB Tryz.prog = true := by kernel_rfl
set_option maxRecDepth 100000 in
theorem lifted (os : Os) (started : os.Started) (H : Type) (enc : TypeId × Value → H) :
    ReturnsInHanded {} Tryz.checked os 4 .any (Rows.synthHoldsSpec.pre6 enc Tryz.prog Tryz.f4 Rows.synthHoldsRow.domain false) (Rows.synthHoldsSpec.post enc Tryz.prog Tryz.f4 false true false false) := by
  refine returnsInHanded_of_change (C := Tryz.checked) own started (by kernel_rfl) Tryz.func4
    (ChangeSpec.witness6 (enc := enc) (C := Tryz.checked) false ⟨#[], #[.agg #[.int .u8 0, .int .u8 0, .slice none 0 0, .slice none 0 0, .slice none 0 0, .slice none 0 0, .slice none 0 0, .int .u8 0, .int .u8 0, .int .u8 0, .slice none 0 0, .bool false], .slice none 0 0, .agg #[.int .u8 0, .int .u8 0], .agg #[.int .i64 0, .int .i64 0], .slice none 0 0], []⟩ 8 (by kernel_rfl) (by kernel_rfl) (by kernel_rfl) (by kernel_rfl)) ?_
  intro W base args ds gs before hval0 hW hcnd _
  have hval : ∀ (j : Nat) t v, Tryz.f4.params[j]? = some t → args[j]? = some v → Value.okWide Tryz.prog W .any base t v := hval0
  have hlt : ∀ p ∈ before, p.block < W.heap.size := fun p hp => hW.lt p hp
  have hW' := hW
  obtain ⟨p, q, hA0, hV, rfl, hfz, hnd⟩ := hW
  have hA : DataW.TrodAll enc Tryz.prog W 0 (fun _ => true) true Tryz.f4.params.toList args.toList ds p := hA0
  rw [Tryz.params4] at hA hval
  obtain ⟨v0, vs0, d0, ds0, p0, q0, hargs, rfl, rfl, h0, r0⟩ := trodAll_cons hA
  obtain ⟨v1, vs1, d1, ds1, p1, q1, e1, rfl, rfl, h1, r1⟩ := trodAll_cons r0
  subst e1
  obtain ⟨v2, vs2, d2, ds2, p2, q2, e2, rfl, rfl, h2, r2⟩ := trodAll_cons r1
  subst e2
  obtain ⟨v3, vs3, d3, ds3, p3, q3, e3, rfl, rfl, h3, r3⟩ := trodAll_cons r2
  subst e3
  obtain ⟨v4, vs4, d4, ds4, p4, q4, e4, rfl, rfl, h4, r4⟩ := trodAll_cons r3
  subst e4
  obtain ⟨e5, rfl, rfl⟩ := trodAll_nil r4
  subst e5
  obtain rfl : args = #[v0, v1, v2, v3, v4] := by cases args; simp_all
  obtain ⟨rfl, rfl⟩ := trodVars_none hV
  clear hA0 hval0
  simp only [List.append_nil] at hW'
  obtain ⟨xs0, y0, z0⟩ := open_agg (P := Tryz.prog) (n := 60) (D := D_law28_Case) (by kernel_rfl) (by kernel_rfl) (hval 0 28 v0 rfl rfl) h0
  obtain ⟨a0, rfl, g0⟩ := rd_law28_Case xs0 y0
  obtain ⟨x1, y1, z1⟩ := open_cell (P := Tryz.prog) (n := 60) (c := .sl 1 [.int .u8]) (by kernel_rfl) (by kernel_rfl) (hval 1 22 v1 rfl rfl) h1
  obtain ⟨a1, rfl, g1⟩ := okPC_sl (rd_int (k := .u8)) y1
  obtain ⟨xs2, y2, z2⟩ := open_agg (P := Tryz.prog) (n := 60) (D := D_Arr2_u8) (by kernel_rfl) (by kernel_rfl) (hval 2 48 v2 rfl rfl) h2
  obtain ⟨a2, rfl, g2⟩ := rd_Arr2_u8 xs2 y2
  obtain ⟨xs3, y3, z3⟩ := open_agg (P := Tryz.prog) (n := 60) (D := D_api_Entry) (by kernel_rfl) (by kernel_rfl) (hval 3 50 v3 rfl rfl) h3
  obtain ⟨a3, rfl, g3⟩ := rd_api_Entry xs3 y3
  obtain ⟨x4, y4, z4⟩ := open_cell (P := Tryz.prog) (n := 60) (c := .sl 2 D_api_Gates) (by kernel_rfl) (by kernel_rfl) (hval 4 41 v4 rfl rfl) h4
  obtain ⟨a4, rfl, g4⟩ := okPC_sl rd_api_Gates y4
  obtain ⟨N, hN⟩ := synthHolds_true a0 a1 a2 a3 a4 g0 g1 g2 g3 g4
  have hP := law28_SynthHolds_ok true hN
  refine (hP.run_law W [v0, v1, v2, v3, v4] (by rw [VRL]; exact ⟨_, _, rfl, z0, by rw [VRL]; exact ⟨_, _, rfl, z1, by rw [VRL]; exact ⟨_, _, rfl, z2, by rw [VRL]; exact ⟨_, _, rfl, z3, by rw [VRL]; exact ⟨_, _, rfl, z4, by rw [VRL]⟩⟩⟩⟩⟩)).mono fun e W' ⟨he, hg⟩ => ?_
  subst he
  exact ⟨_, rfl, Eng.post_of_below (pa := (p0 ++ (p1 ++ (p2 ++ (p3 ++ (p4 ++ [])))))) (pv := []) hW' (fun _ _ _ => (trodAll_cons_mk (shut_bool Tryz.underlying4 _) trodAll_mk0)) (fun sp hs => (trodAll_cons_mk (stays lay (by kernel_rfl) (of_decide_eq_true (by kernel_rfl)) h0 hg (fun x hx => hlt x (by simp [hx])) (fun x hx => hs x (by simp [hx]))) (trodAll_cons_mk (stays lay (by kernel_rfl) (of_decide_eq_true (by kernel_rfl)) h1 hg (fun x hx => hlt x (by simp [hx])) (fun x hx => hs x (by simp [hx]))) (trodAll_cons_mk (stays lay (by kernel_rfl) (of_decide_eq_true (by kernel_rfl)) h2 hg (fun x hx => hlt x (by simp [hx])) (fun x hx => hs x (by simp [hx]))) (trodAll_cons_mk (stays lay (by kernel_rfl) (of_decide_eq_true (by kernel_rfl)) h3 hg (fun x hx => hlt x (by simp [hx])) (fun x hx => hs x (by simp [hx]))) (trodAll_cons_mk (stays lay (by kernel_rfl) (of_decide_eq_true (by kernel_rfl)) h4 hg (fun x hx => hlt x (by simp [hx])) (fun x hx => hs x (by simp [hx]))) trodAll_mk0)))))) (fun _ _ => rfl) (by simp)
    hg (ok_one (by kernel_rfl) rfl (okWide_bool_mk Tryz.underlying4 _))⟩
theorem over : Rows.synthHoldsRow.holds Tryz.pinned (OpenSpec.ofChange Rows.synthHoldsSpec) :=
  OpenClaim.holds_of_wide 4 Tryz.f4 rfl rfl rfl rfl rfl rfl rfl ⟨rfl, rfl, rfl, rfl, rfl⟩ rfl rfl rfl rfl rfl (by kernel_rfl) Tryz.func4 (by kernel_rfl)
    (of_decide_eq_true (by kernel_rfl)) (by unfold Func.isWrapper; first | (rw [if_pos (by decide +kernel)]; kernel_rfl) | (rw [if_neg (by decide +kernel)]; exact ⟨rfl, rfl⟩))
    (fun os started H enc _ => lifted os started H enc)
theorem proved : Rows.SynthHoldsSaid :=
  over
#print axioms proved
end Go.Proofs.YtlajapegdomhfaaGreat.synthHolds

