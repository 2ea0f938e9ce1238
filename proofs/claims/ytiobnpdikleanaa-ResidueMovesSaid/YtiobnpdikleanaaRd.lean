/- What the arguments of the laws read as; written by sym.py. -/
import Derived.Test.YtiobnpdikleanaaSh
import Derived.Test.YtiobnpdikleanaaE21
namespace Go.Sh
open Go Go.Eng
set_option linter.unusedVariables false
def D_api_Span : List CD := [.int .i64, .int .i64, .int .i64]
def Rg_api_Span (v : api_Span) : Prop := InK .i64 v.Period ∧ InK .i64 v.From ∧ InK .i64 v.Long
theorem rd_api_Span : ∀ xs, okPCs D_api_Span xs → ∃ v, xs = e_api_Span v ∧ Rg_api_Span v := by
  intro xs h0
  obtain ⟨x0, t0, rfl, c0, h1⟩ := okPCs_cons h0
  obtain ⟨n0, rfl, r0⟩ := okPC_int c0
  obtain ⟨x1, t1, rfl, c1, h2⟩ := okPCs_cons h1
  obtain ⟨n1, rfl, r1⟩ := okPC_int c1
  obtain ⟨x2, t2, rfl, c2, h3⟩ := okPCs_cons h2
  obtain ⟨n2, rfl, r2⟩ := okPC_int c2
  obtain rfl := okPCs_nil h3
  exact ⟨⟨n0, n1, n2⟩, rfl, ⟨r0, r1, r2⟩⟩
def D_Arr3_u8 : List CD := [.int .u8, .int .u8, .int .u8]
def Rg_Arr3_u8 (v : Arr3_u8) : Prop := InK .u8 v.x0 ∧ InK .u8 v.x1 ∧ InK .u8 v.x2
theorem rd_Arr3_u8 : ∀ xs, okPCs D_Arr3_u8 xs → ∃ v, xs = e_Arr3_u8 v ∧ Rg_Arr3_u8 v := by
  intro xs h0
  obtain ⟨x0, t0, rfl, c0, h1⟩ := okPCs_cons h0
  obtain ⟨n0, rfl, r0⟩ := okPC_int c0
  obtain ⟨x1, t1, rfl, c1, h2⟩ := okPCs_cons h1
  obtain ⟨n1, rfl, r1⟩ := okPC_int c1
  obtain ⟨x2, t2, rfl, c2, h3⟩ := okPCs_cons h2
  obtain ⟨n2, rfl, r2⟩ := okPC_int c2
  obtain rfl := okPCs_nil h3
  exact ⟨⟨n0, n1, n2⟩, rfl, ⟨r0, r1, r2⟩⟩
def D_Arr6_u8 : List CD := [.int .u8, .int .u8, .int .u8, .int .u8, .int .u8, .int .u8]
def Rg_Arr6_u8 (v : Arr6_u8) : Prop := InK .u8 v.x0 ∧ InK .u8 v.x1 ∧ InK .u8 v.x2 ∧ InK .u8 v.x3 ∧ InK .u8 v.x4 ∧ InK .u8 v.x5
theorem rd_Arr6_u8 : ∀ xs, okPCs D_Arr6_u8 xs → ∃ v, xs = e_Arr6_u8 v ∧ Rg_Arr6_u8 v := by
  intro xs h0
  obtain ⟨x0, t0, rfl, c0, h1⟩ := okPCs_cons h0
  obtain ⟨n0, rfl, r0⟩ := okPC_int c0
  obtain ⟨x1, t1, rfl, c1, h2⟩ := okPCs_cons h1
  obtain ⟨n1, rfl, r1⟩ := okPC_int c1
  obtain ⟨x2, t2, rfl, c2, h3⟩ := okPCs_cons h2
  obtain ⟨n2, rfl, r2⟩ := okPC_int c2
  obtain ⟨x3, t3, rfl, c3, h4⟩ := okPCs_cons h3
  obtain ⟨n3, rfl, r3⟩ := okPC_int c3
  obtain ⟨x4, t4, rfl, c4, h5⟩ := okPCs_cons h4
  obtain ⟨n4, rfl, r4⟩ := okPC_int c4
  obtain ⟨x5, t5, rfl, c5, h6⟩ := okPCs_cons h5
  obtain ⟨n5, rfl, r5⟩ := okPC_int c5
  obtain rfl := okPCs_nil h6
  exact ⟨⟨n0, n1, n2, n3, n4, n5⟩, rfl, ⟨r0, r1, r2, r3, r4, r5⟩⟩
end Go.Sh
