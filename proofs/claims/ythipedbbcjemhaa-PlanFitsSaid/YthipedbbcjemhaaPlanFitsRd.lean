/- Part of the proof; written by a program out of the texts in wip/. -/
import Derived.Test.YthipedbbcjemhaaPlanFitsSh
import Derived.Test.YthipedbbcjemhaaPlanFitsE21
namespace Go.Sh
open Go Go.Eng
set_option linter.unusedVariables false
def Zlv:List CD:=[.int .u8,.int .u8,.int .u8,.int .u8]
def ZjT (v:Zjj):Prop:=InK .u8 v.x0∧InK .u8 v.x1∧InK .u8 v.x2∧InK .u8 v.x3
theorem Zmm:∀ xs,Zbs Zlv xs→∃ v,xs=ZeI v∧ZjT v:=by
 intro xs h0
 obtain ⟨x0,t0,rfl,c0,h1⟩:=Zap h0
 obtain ⟨n0,rfl,r0⟩:=okPC_int c0
 obtain ⟨x1,t1,rfl,c1,h2⟩:=Zap h1
 obtain ⟨n1,rfl,r1⟩:=okPC_int c1
 obtain ⟨x2,t2,rfl,c2,h3⟩:=Zap h2
 obtain ⟨n2,rfl,r2⟩:=okPC_int c2
 obtain ⟨x3,t3,rfl,c3,h4⟩:=Zap h3
 obtain ⟨n3,rfl,r3⟩:=okPC_int c3
 obtain rfl:=Zd1 h4
 exact ⟨⟨n0,n1,n2,n3⟩,rfl,⟨r0,r1,r2,r3⟩⟩
def D_ref24_Draft:List CD:=[.sl 1 [.int .u8],.sl 4 Zlv]
def Zdg (v:Zav):Prop:=(v.Periods.length≤maxLen∧∀ x ∈ v.Periods,InK .u8 x)∧(v.Uses.length≤maxLen∧∀ x ∈ v.Uses,ZjT x)
theorem rd_ref24_Draft:∀ xs,Zbs D_ref24_Draft xs→∃ v,xs=Zkv v∧Zdg v:=by
 intro xs h0
 obtain ⟨x0,t0,rfl,c0,h1⟩:=Zap h0
 obtain ⟨n0,rfl,r0⟩:=okPC_sl (rd_int (k:=.u8)) c0
 obtain ⟨x1,t1,rfl,c1,h2⟩:=Zap h1
 obtain ⟨n1,rfl,r1⟩:=okPC_sl Zmm c1
 obtain rfl:=Zd1 h2
 exact ⟨⟨n0,n1⟩,rfl,⟨r0,r1⟩⟩
def Zlu:List CD:=[.int .i64,.int .i64,.int .i64,.int .i64]
def ZjS (v:ZA):Prop:=InK .i64 v.Stream∧InK .i64 v.Port∧InK .i64 v.From∧InK .i64 v.Long
theorem Zml:∀ xs,Zbs Zlu xs→∃ v,xs=Zg v∧ZjS v:=by
 intro xs h0
 obtain ⟨x0,t0,rfl,c0,h1⟩:=Zap h0
 obtain ⟨n0,rfl,r0⟩:=okPC_int c0
 obtain ⟨x1,t1,rfl,c1,h2⟩:=Zap h1
 obtain ⟨n1,rfl,r1⟩:=okPC_int c1
 obtain ⟨x2,t2,rfl,c2,h3⟩:=Zap h2
 obtain ⟨n2,rfl,r2⟩:=okPC_int c2
 obtain ⟨x3,t3,rfl,c3,h4⟩:=Zap h3
 obtain ⟨n3,rfl,r3⟩:=okPC_int c3
 obtain rfl:=Zd1 h4
 exact ⟨⟨n0,n1,n2,n3⟩,rfl,⟨r0,r1,r2,r3⟩⟩
def D_api_Problem:List CD:=[.sl 1 [.int .i64],.sl 4 Zlu]
def Zgj (v:Zf):Prop:=(v.Periods.length≤maxLen∧∀ x ∈ v.Periods,InK .i64 x)∧(v.Uses.length≤maxLen∧∀ x ∈ v.Uses,ZjS x)
theorem rd_api_Problem:∀ xs,Zbs D_api_Problem xs→∃ v,xs=Zkw v∧Zgj v:=by
 intro xs h0
 obtain ⟨x0,t0,rfl,c0,h1⟩:=Zap h0
 obtain ⟨n0,rfl,r0⟩:=okPC_sl rd_int64 c0
 obtain ⟨x1,t1,rfl,c1,h2⟩:=Zap h1
 obtain ⟨n1,rfl,r1⟩:=okPC_sl Zml c1
 obtain rfl:=Zd1 h2
 exact ⟨⟨n0,n1⟩,rfl,⟨r0,r1⟩⟩
def D_Arr4_i64:List CD:=[.int .i64,.int .i64,.int .i64,.int .i64]
def Zji (v:ZaE):Prop:=InK .i64 v.x0∧InK .i64 v.x1∧InK .i64 v.x2∧InK .i64 v.x3
theorem rd_Arr4_i64:∀ xs,Zbs D_Arr4_i64 xs→∃ v,xs=Zt v∧Zji v:=by
 intro xs h0
 obtain ⟨x0,t0,rfl,c0,h1⟩:=Zap h0
 obtain ⟨n0,rfl,r0⟩:=okPC_int c0
 obtain ⟨x1,t1,rfl,c1,h2⟩:=Zap h1
 obtain ⟨n1,rfl,r1⟩:=okPC_int c1
 obtain ⟨x2,t2,rfl,c2,h3⟩:=Zap h2
 obtain ⟨n2,rfl,r2⟩:=okPC_int c2
 obtain ⟨x3,t3,rfl,c3,h4⟩:=Zap h3
 obtain ⟨n3,rfl,r3⟩:=okPC_int c3
 obtain rfl:=Zd1 h4
 exact ⟨⟨n0,n1,n2,n3⟩,rfl,⟨r0,r1,r2,r3⟩⟩
end Go.Sh

