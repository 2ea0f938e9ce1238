/- Part of the proof; written by a program out of the texts in wip/. -/
import Derived.Test.YtmplmekdilmdgaaStreamKnownE27
set_option linter.unusedVariables false
set_option linter.unusedSimpArgs false
namespace Go.Eng
open Go
section
variable {P : Program} {n : Nat} {s : St}
theorem acall_ofW {f : Nat} {F : IFn} (hk : chkF P f F = true) {args : List AV} {H H' : List HO} {r : AV} (hl : args.length = F.nargs) (hno : noLocL args = true) (hr : noLoc r = true)
    (h : EvI P F.nt F.body ⟨argsFr args 0, [], H⟩ (endQ fun s' => ∃ xs, rawL s' F.res = some xs ∧ tupOf (weakVs xs) = r ∧ s'.H = H')) : ACall P f args H r H' := by
  unfold chkF at hk
  split at hk
  · rename_i fn hf
    split at hk
    · rename_i c hb
      simp only [Bool.and_eq_true, decide_eq_true_eq, Bool.not_eq_true'] at hk
      obtain ⟨⟨⟨⟨hc, hres⟩, hna⟩, hnt⟩, hname⟩ := hk
      refine ⟨⟨fn, hf, by rw [hb]; rfl, hname⟩, hr, fun ok0 ρ w vs hhr hv => ?_⟩
      have hrel := entry_rel (n := fn.ntmps) hhr hv hno (by omega)
      refine calls_FR (r := none) (m := 0) (callsIn_of_wp_marks hf hb trivial (wpIn_mono (h c (by rw [← hnt]; exact hc) _ _ _ _ (by rw [← hnt]; exact hrel)) ?_))
      rintro e a' w' ⟨s', g', h1, h2⟩
      have key : (∃ xs, rawL s' F.res = some xs ∧ tupOf (weakVs xs) = r ∧ s'.H = H') → LeavesInM (FR none) 0 P fn a'.tmps (fun e w' => ∃ v' ρ', e = .returned v' ∧ HR (k0 ok0 ρ H w) ρ' H' w' ∧ VR (cx (k0 ok0 ρ H w) ⟨ρ', noB⟩ H' w') r v' ∧
          Later (cx (k0 ok0 ρ H w) ⟨ρ, noB⟩ H w) (cx (k0 ok0 ρ H w) ⟨ρ', noB⟩ H' w')) a'.defers .returning w' := by
        rintro ⟨xs, x1, rfl, rfl⟩
        refine h1.leavesAll fun w2 h2 => ?_
        obtain ⟨us, u1, u2⟩ := raw_sound (P := P) h2 hres x1
        refine ⟨_, ?_, _, g'.ρ, rfl, h2.toHR, VR.later h2.noBoxes _ _ hr (tupOf_VR u2.weakVs), h2.hist.trans h2.noBoxes⟩
        rw [results_eq]
        have hm : (fn.results.mapM (m := Sem) (resF a'.tmps)).run P w2 = .ok us.toArray w2 := by
          rw [← Array.toArray_toList (xs := fn.results), List.mapM_toArray, Sem.run_map, u1]
          rfl
        simp only [Sem.run_bind, hm, Result.andThen_ok, Sem.run_pure]
      cases e with
      | normal => exact key h2
      | ret => exact key h2
      | _ => exact h2.elim
    · cases hk
  · cases hk
theorem ret_ofAW {res : List RV} {r : AV} {H : List HO} (h : (rawL s res).map (fun xs => tupOf (weakVs xs)) = some r) (hH : s.H = H) : ∃ xs, rawL s res = some xs ∧ tupOf (weakVs xs) = r ∧ s.H = H := by
  cases hs : rawL s res with
  | none => rw [hs] at h; cases h
  | some xs => rw [hs] at h; exact ⟨xs, rfl, by simpa using h, hH⟩
theorem vexec_slice3 {α : Type} {l r : List α} {sz : Nat} {f : Bool} {k k' k'' : IntKind} {lo hi : Int} (enc : α → List PC) (h : subI l lo hi = some r) :
    vexec (.slice sz true true true) [.p (.sl sz f (l.map enc)), .p (.int k lo), .p (.int k' hi), .p (.int k'' hi)] = some (.p (.sl sz true (r.map enc))) := by
  obtain ⟨h1, h2, h3, h4, h5⟩ := sub_map enc h
  have h0 : 0 ≤ hi := by omega
  simp only [vexec, sliceV, bound, if_true, if_pos h1, if_pos h0, Option.bind_some]
  rw [if_pos ⟨rfl, by omega, by simp; omega, trivial, trivial, fun _ => trivial⟩, h5]
end
end Go.Eng
namespace Go.Eng
open Go
section
variable {P : Program} {s : St}
end
end Go.Eng

