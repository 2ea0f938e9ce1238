/- What the arguments of the laws read as; written by sym.py. -/
import Derived.Test.YtpadgoejolfllaaSh
import Derived.Test.YtpadgoejolfllaaE21
namespace Go.Sh
open Go Go.Eng
set_option linter.unusedVariables false
def D_ref27_Draft : List CD := [.sl 1 [.int .u8], .sl 1 [.int .u8]]
def Rg_ref27_Draft (v : ref27_Draft) : Prop := (v.Masks.length ≤ maxLen ∧ ∀ x ∈ v.Masks, InK .u8 x) ∧ (v.Longs.length ≤ maxLen ∧ ∀ x ∈ v.Longs, InK .u8 x)
theorem rd_ref27_Draft : ∀ xs, okPCs D_ref27_Draft xs → ∃ v, xs = e_ref27_Draft v ∧ Rg_ref27_Draft v := by
  intro xs h0
  obtain ⟨x0, t0, rfl, c0, h1⟩ := okPCs_cons h0
  obtain ⟨n0, rfl, r0⟩ := okPC_sl (rd_int (k := .u8)) c0
  obtain ⟨x1, t1, rfl, c1, h2⟩ := okPCs_cons h1
  obtain ⟨n1, rfl, r1⟩ := okPC_sl (rd_int (k := .u8)) c1
  obtain rfl := okPCs_nil h2
  exact ⟨⟨n0, n1⟩, rfl, ⟨r0, r1⟩⟩
def D_ref29_Draft : List CD := [.sl 1 [.int .u8], .sl 1 [.int .u8], .sl 1 [.int .u8], .sl 1 [.int .u8], .int .i16, .bool, .int .u8]
def Rg_ref29_Draft (v : ref29_Draft) : Prop := Rg_ref27_Draft v.Oper ∧ Rg_ref27_Draft v.Admin ∧ InK .i16 v.Base ∧ True ∧ InK .u8 v.Later
theorem rd_ref29_Draft : ∀ xs, okPCs D_ref29_Draft xs → ∃ v, xs = e_ref29_Draft v ∧ Rg_ref29_Draft v := by
  intro xs h0
  obtain ⟨x0, t0, rfl, c0, h1⟩ := okPCs_cons h0
  obtain ⟨n0, rfl, r0⟩ := okPC_sl (rd_int (k := .u8)) c0
  obtain ⟨x1, t1, rfl, c1, h2⟩ := okPCs_cons h1
  obtain ⟨n1, rfl, r1⟩ := okPC_sl (rd_int (k := .u8)) c1
  obtain ⟨x2, t2, rfl, c2, h3⟩ := okPCs_cons h2
  obtain ⟨n2, rfl, r2⟩ := okPC_sl (rd_int (k := .u8)) c2
  obtain ⟨x3, t3, rfl, c3, h4⟩ := okPCs_cons h3
  obtain ⟨n3, rfl, r3⟩ := okPC_sl (rd_int (k := .u8)) c3
  obtain ⟨x4, t4, rfl, c4, h5⟩ := okPCs_cons h4
  obtain ⟨n4, rfl, r4⟩ := okPC_int c4
  obtain ⟨x5, t5, rfl, c5, h6⟩ := okPCs_cons h5
  obtain ⟨n5, rfl⟩ := okPC_bool c5
  obtain ⟨x6, t6, rfl, c6, h7⟩ := okPCs_cons h6
  obtain ⟨n6, rfl, r6⟩ := okPC_int c6
  obtain rfl := okPCs_nil h7
  exact ⟨⟨⟨n0, n1⟩, ⟨n2, n3⟩, n4, n5, n6⟩, rfl, ⟨⟨r0, r1⟩, ⟨r2, r3⟩, r4, trivial, r6⟩⟩
def D_api_Entry : List CD := [.int .i64, .int .i64]
def Rg_api_Entry (v : api_Entry) : Prop := InK .i64 v.Mask ∧ InK .i64 v.Long
theorem rd_api_Entry : ∀ xs, okPCs D_api_Entry xs → ∃ v, xs = e_api_Entry v ∧ Rg_api_Entry v := by
  intro xs h0
  obtain ⟨x0, t0, rfl, c0, h1⟩ := okPCs_cons h0
  obtain ⟨n0, rfl, r0⟩ := okPC_int c0
  obtain ⟨x1, t1, rfl, c1, h2⟩ := okPCs_cons h1
  obtain ⟨n1, rfl, r1⟩ := okPC_int c1
  obtain rfl := okPCs_nil h2
  exact ⟨⟨n0, n1⟩, rfl, ⟨r0, r1⟩⟩
def D_api_Gates : List CD := [.sl 2 D_api_Entry, .int .i64]
def Rg_api_Gates (v : api_Gates) : Prop := (v.Entries.length ≤ maxLen ∧ ∀ x ∈ v.Entries, Rg_api_Entry x) ∧ InK .i64 v.Cycle
theorem rd_api_Gates : ∀ xs, okPCs D_api_Gates xs → ∃ v, xs = e_api_Gates v ∧ Rg_api_Gates v := by
  intro xs h0
  obtain ⟨x0, t0, rfl, c0, h1⟩ := okPCs_cons h0
  obtain ⟨n0, rfl, r0⟩ := okPC_sl rd_api_Entry c0
  obtain ⟨x1, t1, rfl, c1, h2⟩ := okPCs_cons h1
  obtain ⟨n1, rfl, r1⟩ := okPC_int c1
  obtain rfl := okPCs_nil h2
  exact ⟨⟨n0, n1⟩, rfl, ⟨r0, r1⟩⟩
def D_law29_Bend : List CD := [.int .u8, .int .i64, .sl 2 D_api_Entry, .int .i64]
def Rg_law29_Bend (v : law29_Bend) : Prop := InK .u8 v.What ∧ InK .i64 v.N_ ∧ Rg_api_Gates v.G
theorem rd_law29_Bend : ∀ xs, okPCs D_law29_Bend xs → ∃ v, xs = e_law29_Bend v ∧ Rg_law29_Bend v := by
  intro xs h0
  obtain ⟨x0, t0, rfl, c0, h1⟩ := okPCs_cons h0
  obtain ⟨n0, rfl, r0⟩ := okPC_int c0
  obtain ⟨x1, t1, rfl, c1, h2⟩ := okPCs_cons h1
  obtain ⟨n1, rfl, r1⟩ := okPC_int c1
  obtain ⟨x2, t2, rfl, c2, h3⟩ := okPCs_cons h2
  obtain ⟨n2, rfl, r2⟩ := okPC_sl rd_api_Entry c2
  obtain ⟨x3, t3, rfl, c3, h4⟩ := okPCs_cons h3
  obtain ⟨n3, rfl, r3⟩ := okPC_int c3
  obtain rfl := okPCs_nil h4
  exact ⟨⟨n0, n1, ⟨n2, n3⟩⟩, rfl, ⟨r0, r1, ⟨r2, r3⟩⟩⟩
def D_api_Change : List CD := [.sl 2 D_api_Entry, .int .i64, .int .i64, .bool, .sl 2 D_api_Entry, .int .i64, .int .i64]
def Rg_api_Change (v : api_Change) : Prop := Rg_api_Gates v.Oper ∧ InK .i64 v.Base ∧ True ∧ Rg_api_Gates v.Admin ∧ InK .i64 v.When
theorem rd_api_Change : ∀ xs, okPCs D_api_Change xs → ∃ v, xs = e_api_Change v ∧ Rg_api_Change v := by
  intro xs h0
  obtain ⟨x0, t0, rfl, c0, h1⟩ := okPCs_cons h0
  obtain ⟨n0, rfl, r0⟩ := okPC_sl rd_api_Entry c0
  obtain ⟨x1, t1, rfl, c1, h2⟩ := okPCs_cons h1
  obtain ⟨n1, rfl, r1⟩ := okPC_int c1
  obtain ⟨x2, t2, rfl, c2, h3⟩ := okPCs_cons h2
  obtain ⟨n2, rfl, r2⟩ := okPC_int c2
  obtain ⟨x3, t3, rfl, c3, h4⟩ := okPCs_cons h3
  obtain ⟨n3, rfl⟩ := okPC_bool c3
  obtain ⟨x4, t4, rfl, c4, h5⟩ := okPCs_cons h4
  obtain ⟨n4, rfl, r4⟩ := okPC_sl rd_api_Entry c4
  obtain ⟨x5, t5, rfl, c5, h6⟩ := okPCs_cons h5
  obtain ⟨n5, rfl, r5⟩ := okPC_int c5
  obtain ⟨x6, t6, rfl, c6, h7⟩ := okPCs_cons h6
  obtain ⟨n6, rfl, r6⟩ := okPC_int c6
  obtain rfl := okPCs_nil h7
  exact ⟨⟨⟨n0, n1⟩, n2, n3, ⟨n4, n5⟩, n6⟩, rfl, ⟨⟨r0, r1⟩, r2, trivial, ⟨r4, r5⟩, r6⟩⟩
def D_swap_state : List CD := [.sl 2 D_api_Entry, .int .i64, .int .i64, .bool, .sl 2 D_api_Entry, .int .i64, .int .i64]
def Rg_swap_state (v : swap_state) : Prop := Rg_api_Change v.Change
theorem rd_swap_state : ∀ xs, okPCs D_swap_state xs → ∃ v, xs = e_swap_state v ∧ Rg_swap_state v := by
  intro xs h0
  obtain ⟨x0, t0, rfl, c0, h1⟩ := okPCs_cons h0
  obtain ⟨n0, rfl, r0⟩ := okPC_sl rd_api_Entry c0
  obtain ⟨x1, t1, rfl, c1, h2⟩ := okPCs_cons h1
  obtain ⟨n1, rfl, r1⟩ := okPC_int c1
  obtain ⟨x2, t2, rfl, c2, h3⟩ := okPCs_cons h2
  obtain ⟨n2, rfl, r2⟩ := okPC_int c2
  obtain ⟨x3, t3, rfl, c3, h4⟩ := okPCs_cons h3
  obtain ⟨n3, rfl⟩ := okPC_bool c3
  obtain ⟨x4, t4, rfl, c4, h5⟩ := okPCs_cons h4
  obtain ⟨n4, rfl, r4⟩ := okPC_sl rd_api_Entry c4
  obtain ⟨x5, t5, rfl, c5, h6⟩ := okPCs_cons h5
  obtain ⟨n5, rfl, r5⟩ := okPC_int c5
  obtain ⟨x6, t6, rfl, c6, h7⟩ := okPCs_cons h6
  obtain ⟨n6, rfl, r6⟩ := okPC_int c6
  obtain rfl := okPCs_nil h7
  exact ⟨⟨⟨⟨n0, n1⟩, n2, n3, ⟨n4, n5⟩, n6⟩⟩, rfl, ⟨⟨r0, r1⟩, r2, trivial, ⟨r4, r5⟩, r6⟩⟩
def D_swap_part : List CD := [.sl 2 D_api_Entry, .int .i64, .int .i64, .int .i64]
def Rg_swap_part (v : swap_part) : Prop := Rg_api_Gates v.list ∧ InK .i64 v.at_ ∧ InK .i64 v.long
theorem rd_swap_part : ∀ xs, okPCs D_swap_part xs → ∃ v, xs = e_swap_part v ∧ Rg_swap_part v := by
  intro xs h0
  obtain ⟨x0, t0, rfl, c0, h1⟩ := okPCs_cons h0
  obtain ⟨n0, rfl, r0⟩ := okPC_sl rd_api_Entry c0
  obtain ⟨x1, t1, rfl, c1, h2⟩ := okPCs_cons h1
  obtain ⟨n1, rfl, r1⟩ := okPC_int c1
  obtain ⟨x2, t2, rfl, c2, h3⟩ := okPCs_cons h2
  obtain ⟨n2, rfl, r2⟩ := okPC_int c2
  obtain ⟨x3, t3, rfl, c3, h4⟩ := okPCs_cons h3
  obtain ⟨n3, rfl, r3⟩ := okPC_int c3
  obtain rfl := okPCs_nil h4
  exact ⟨⟨⟨n0, n1⟩, n2, n3⟩, rfl, ⟨⟨r0, r1⟩, r2, r3⟩⟩
end Go.Sh
