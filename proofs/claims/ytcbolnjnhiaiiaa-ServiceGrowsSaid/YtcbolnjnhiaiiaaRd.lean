/- What the arguments of the laws read as; written by sym.py. -/
import Derived.Test.YtcbolnjnhiaiiaaSh
import Derived.Test.YtcbolnjnhiaiiaaE21
namespace Go.Sh
open Go Go.Eng
set_option linter.unusedVariables false
def D_ref30_Draft : List CD := [.sl 1 [.int .u8], .sl 1 [.int .u8]]
def Rg_ref30_Draft (v : ref30_Draft) : Prop := (v.Masks.length ≤ maxLen ∧ ∀ x ∈ v.Masks, InK .u8 x) ∧ (v.Longs.length ≤ maxLen ∧ ∀ x ∈ v.Longs, InK .u8 x)
theorem rd_ref30_Draft : ∀ xs, okPCs D_ref30_Draft xs → ∃ v, xs = e_ref30_Draft v ∧ Rg_ref30_Draft v := by
  intro xs h0
  obtain ⟨x0, t0, rfl, c0, h1⟩ := okPCs_cons h0
  obtain ⟨n0, rfl, r0⟩ := okPC_sl (rd_int (k := .u8)) c0
  obtain ⟨x1, t1, rfl, c1, h2⟩ := okPCs_cons h1
  obtain ⟨n1, rfl, r1⟩ := okPC_sl (rd_int (k := .u8)) c1
  obtain rfl := okPCs_nil h2
  exact ⟨⟨n0, n1⟩, rfl, ⟨r0, r1⟩⟩
def D_api_Entry : List CD := [.int .i64, .int .i64]
def Rg_api_Entry (v : api_Entry) : Prop := InK .i64 v.Mask ∧ InK .i64 v.Long
theorem rd_api_Entry : ∀ xs, okPCs D_api_Entry xs → ∃ v, xs = e_api_Entry v ∧ Rg_api_Entry v := by
  intro xs h0
  obtain ⟨x0, t0, rfl, c0, h1⟩ := okPCs_cons h0
  obtain ⟨n0, rfl, r0⟩ := okPC_int c0
  obtain ⟨x1, t1, rfl, c1, h2⟩ := okPCs_cons h1
  obtain ⟨n1, rfl, r1⟩ := okPC_int c1
  obtain rfl := okPCs_nil h2
  exact ⟨⟨n0, n1⟩, rfl, ⟨r0, r1⟩⟩
def D_api_Gates : List CD := [.sl 2 D_api_Entry, .int .i64]
def Rg_api_Gates (v : api_Gates) : Prop := (v.Entries.length ≤ maxLen ∧ ∀ x ∈ v.Entries, Rg_api_Entry x) ∧ InK .i64 v.Cycle
theorem rd_api_Gates : ∀ xs, okPCs D_api_Gates xs → ∃ v, xs = e_api_Gates v ∧ Rg_api_Gates v := by
  intro xs h0
  obtain ⟨x0, t0, rfl, c0, h1⟩ := okPCs_cons h0
  obtain ⟨n0, rfl, r0⟩ := okPC_sl rd_api_Entry c0
  obtain ⟨x1, t1, rfl, c1, h2⟩ := okPCs_cons h1
  obtain ⟨n1, rfl, r1⟩ := okPC_int c1
  obtain rfl := okPCs_nil h2
  exact ⟨⟨n0, n1⟩, rfl, ⟨r0, r1⟩⟩
def D_Arr2_i64 : List CD := [.int .i64, .int .i64]
def Rg_Arr2_i64 (v : Arr2_i64) : Prop := InK .i64 v.x0 ∧ InK .i64 v.x1
theorem rd_Arr2_i64 : ∀ xs, okPCs D_Arr2_i64 xs → ∃ v, xs = e_Arr2_i64 v ∧ Rg_Arr2_i64 v := by
  intro xs h0
  obtain ⟨x0, t0, rfl, c0, h1⟩ := okPCs_cons h0
  obtain ⟨n0, rfl, r0⟩ := okPC_int c0
  obtain ⟨x1, t1, rfl, c1, h2⟩ := okPCs_cons h1
  obtain ⟨n1, rfl, r1⟩ := okPC_int c1
  obtain rfl := okPCs_nil h2
  exact ⟨⟨n0, n1⟩, rfl, ⟨r0, r1⟩⟩
def D_Arr2_u8 : List CD := [.int .u8, .int .u8]
def Rg_Arr2_u8 (v : Arr2_u8) : Prop := InK .u8 v.x0 ∧ InK .u8 v.x1
theorem rd_Arr2_u8 : ∀ xs, okPCs D_Arr2_u8 xs → ∃ v, xs = e_Arr2_u8 v ∧ Rg_Arr2_u8 v := by
  intro xs h0
  obtain ⟨x0, t0, rfl, c0, h1⟩ := okPCs_cons h0
  obtain ⟨n0, rfl, r0⟩ := okPC_int c0
  obtain ⟨x1, t1, rfl, c1, h2⟩ := okPCs_cons h1
  obtain ⟨n1, rfl, r1⟩ := okPC_int c1
  obtain rfl := okPCs_nil h2
  exact ⟨⟨n0, n1⟩, rfl, ⟨r0, r1⟩⟩
def D_api_Serve : List CD := [.int .i64, .int .i64]
def Rg_api_Serve (v : api_Serve) : Prop := InK .i64 v.Rate ∧ InK .i64 v.Latency
theorem rd_api_Serve : ∀ xs, okPCs D_api_Serve xs → ∃ v, xs = e_api_Serve v ∧ Rg_api_Serve v := by
  intro xs h0
  obtain ⟨x0, t0, rfl, c0, h1⟩ := okPCs_cons h0
  obtain ⟨n0, rfl, r0⟩ := okPC_int c0
  obtain ⟨x1, t1, rfl, c1, h2⟩ := okPCs_cons h1
  obtain ⟨n1, rfl, r1⟩ := okPC_int c1
  obtain rfl := okPCs_nil h2
  exact ⟨⟨n0, n1⟩, rfl, ⟨r0, r1⟩⟩
def D_service_opening : List CD := [.int .i64, .int .i64]
def Rg_service_opening (v : service_opening) : Prop := InK .i64 v.from_ ∧ InK .i64 v.long
theorem rd_service_opening : ∀ xs, okPCs D_service_opening xs → ∃ v, xs = e_service_opening v ∧ Rg_service_opening v := by
  intro xs h0
  obtain ⟨x0, t0, rfl, c0, h1⟩ := okPCs_cons h0
  obtain ⟨n0, rfl, r0⟩ := okPC_int c0
  obtain ⟨x1, t1, rfl, c1, h2⟩ := okPCs_cons h1
  obtain ⟨n1, rfl, r1⟩ := okPC_int c1
  obtain rfl := okPCs_nil h2
  exact ⟨⟨n0, n1⟩, rfl, ⟨r0, r1⟩⟩
def D_ref30_Opening : List CD := [.int .i64, .int .i64]
def Rg_ref30_Opening (v : ref30_Opening) : Prop := InK .i64 v.Begin ∧ InK .i64 v.End
theorem rd_ref30_Opening : ∀ xs, okPCs D_ref30_Opening xs → ∃ v, xs = e_ref30_Opening v ∧ Rg_ref30_Opening v := by
  intro xs h0
  obtain ⟨x0, t0, rfl, c0, h1⟩ := okPCs_cons h0
  obtain ⟨n0, rfl, r0⟩ := okPC_int c0
  obtain ⟨x1, t1, rfl, c1, h2⟩ := okPCs_cons h1
  obtain ⟨n1, rfl, r1⟩ := okPC_int c1
  obtain rfl := okPCs_nil h2
  exact ⟨⟨n0, n1⟩, rfl, ⟨r0, r1⟩⟩
end Go.Sh
