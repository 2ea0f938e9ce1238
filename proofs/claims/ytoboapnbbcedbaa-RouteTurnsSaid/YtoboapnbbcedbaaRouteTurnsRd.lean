/- Part of the proof; written by a program out of the texts in wip/. -/
import Derived.Test.YtoboapnbbcedbaaRouteTurnsSh
import Derived.Test.YtoboapnbbcedbaaRouteTurnsE21
namespace Go.Sh
open Go Go.Eng
set_option linter.unusedVariables false
def D_ref16_Draft : List CD := [.int .u8, .int .u8, .sl 1 [.int .u8], .sl 1 [.int .u8], .sl 1 [.int .u8], .sl 1 [.int .u8]]
def Rg_ref16_Draft (v : ref16_Draft) : Prop := InK .u8 v.Bridges ∧ InK .u8 v.Stations ∧ (v.Chords.length ≤ maxLen ∧ ∀ x ∈ v.Chords, InK .u8 x) ∧ (v.Homes.length ≤ maxLen ∧ ∀ x ∈ v.Homes, InK .u8 x) ∧ (v.Pers.length ≤ maxLen ∧ ∀ x ∈ v.Pers, InK .u8 x) ∧ (v.Delays.length ≤ maxLen ∧ ∀ x ∈ v.Delays, InK .u8 x)
theorem rd_ref16_Draft : ∀ xs, okPCs D_ref16_Draft xs → ∃ v, xs = e_ref16_Draft v ∧ Rg_ref16_Draft v := by
  intro xs h0
  obtain ⟨x0, t0, rfl, c0, h1⟩ := okPCs_cons h0
  obtain ⟨n0, rfl, r0⟩ := okPC_int c0
  obtain ⟨x1, t1, rfl, c1, h2⟩ := okPCs_cons h1
  obtain ⟨n1, rfl, r1⟩ := okPC_int c1
  obtain ⟨x2, t2, rfl, c2, h3⟩ := okPCs_cons h2
  obtain ⟨n2, rfl, r2⟩ := okPC_sl (rd_int (k := .u8)) c2
  obtain ⟨x3, t3, rfl, c3, h4⟩ := okPCs_cons h3
  obtain ⟨n3, rfl, r3⟩ := okPC_sl (rd_int (k := .u8)) c3
  obtain ⟨x4, t4, rfl, c4, h5⟩ := okPCs_cons h4
  obtain ⟨n4, rfl, r4⟩ := okPC_sl (rd_int (k := .u8)) c4
  obtain ⟨x5, t5, rfl, c5, h6⟩ := okPCs_cons h5
  obtain ⟨n5, rfl, r5⟩ := okPC_sl (rd_int (k := .u8)) c5
  obtain rfl := okPCs_nil h6
  exact ⟨⟨n0, n1, n2, n3, n4, n5⟩, rfl, ⟨r0, r1, r2, r3, r4, r5⟩⟩
end Go.Sh

