/- Part of the proof; written by a program out of the texts in wip/. -/
import Derived.Test.YtoboapnbbcedbaaRouteTreesSh
import Derived.Test.YtoboapnbbcedbaaRouteTreesE21
namespace Go.Sh
open Go Go.Eng
set_option linter.unusedVariables false
def D_api_Link : List CD := [.int .i64, .int .i64, .int .i64, .int .i64]
def Rg_api_Link (v : api_Link) : Prop := InK .i64 v.A ∧ InK .i64 v.B ∧ InK .i64 v.Per ∧ InK .i64 v.Delay
theorem rd_api_Link : ∀ xs, okPCs D_api_Link xs → ∃ v, xs = e_api_Link v ∧ Rg_api_Link v := by
  intro xs h0
  obtain ⟨x0, t0, rfl, c0, h1⟩ := okPCs_cons h0
  obtain ⟨n0, rfl, r0⟩ := okPC_int c0
  obtain ⟨x1, t1, rfl, c1, h2⟩ := okPCs_cons h1
  obtain ⟨n1, rfl, r1⟩ := okPC_int c1
  obtain ⟨x2, t2, rfl, c2, h3⟩ := okPCs_cons h2
  obtain ⟨n2, rfl, r2⟩ := okPC_int c2
  obtain ⟨x3, t3, rfl, c3, h4⟩ := okPCs_cons h3
  obtain ⟨n3, rfl, r3⟩ := okPC_int c3
  obtain rfl := okPCs_nil h4
  exact ⟨⟨n0, n1, n2, n3⟩, rfl, ⟨r0, r1, r2, r3⟩⟩
def D_api_Topo : List CD := [.int .i64, .sl 1 [.bool], .sl 4 D_api_Link]
def Rg_api_Topo (v : api_Topo) : Prop := InK .i64 v.Nodes ∧ (v.Station.length ≤ maxLen ∧ ∀ x ∈ v.Station, True) ∧ (v.Links.length ≤ maxLen ∧ ∀ x ∈ v.Links, Rg_api_Link x)
theorem rd_api_Topo : ∀ xs, okPCs D_api_Topo xs → ∃ v, xs = e_api_Topo v ∧ Rg_api_Topo v := by
  intro xs h0
  obtain ⟨x0, t0, rfl, c0, h1⟩ := okPCs_cons h0
  obtain ⟨n0, rfl, r0⟩ := okPC_int c0
  obtain ⟨x1, t1, rfl, c1, h2⟩ := okPCs_cons h1
  obtain ⟨n1, rfl, r1⟩ := okPC_sl rd_bool c1
  obtain ⟨x2, t2, rfl, c2, h3⟩ := okPCs_cons h2
  obtain ⟨n2, rfl, r2⟩ := okPC_sl rd_api_Link c2
  obtain rfl := okPCs_nil h3
  exact ⟨⟨n0, n1, n2⟩, rfl, ⟨r0, r1, r2⟩⟩
end Go.Sh

