/- Part of the proof; written by a program out of the texts in wip/. -/
import Derived.Test.YthipedbbcjemhaaPlanChecksSh
import Derived.Test.YthipedbbcjemhaaPlanChecksE21
namespace Go.Sh
open Go Go.Eng
set_option linter.unusedVariables false
def ZkD:List CD:=[.int .u8,.int .u8,.int .u8,.int .u8]
def Zi5 (v:Zit):Prop:=InK .u8 v.x0∧InK .u8 v.x1∧InK .u8 v.x2∧InK .u8 v.x3
theorem Zlw:∀ xs,Zbn ZkD xs→∃ v,xs=Zd7 v∧Zi5 v:=by
 intro xs h0
 obtain ⟨x0,t0,rfl,c0,h1⟩:=ZaB h0
 obtain ⟨n0,rfl,r0⟩:=okPC_int c0
 obtain ⟨x1,t1,rfl,c1,h2⟩:=ZaB h1
 obtain ⟨n1,rfl,r1⟩:=okPC_int c1
 obtain ⟨x2,t2,rfl,c2,h3⟩:=ZaB h2
 obtain ⟨n2,rfl,r2⟩:=okPC_int c2
 obtain ⟨x3,t3,rfl,c3,h4⟩:=ZaB h3
 obtain ⟨n3,rfl,r3⟩:=okPC_int c3
 obtain rfl:=Zd5 h4
 exact ⟨⟨n0,n1,n2,n3⟩,rfl,⟨r0,r1,r2,r3⟩⟩
def D_ref24_Draft:List CD:=[.sl 1 [.int .u8],.sl 4 ZkD]
def ZcH (v:Zam):Prop:=(v.Periods.length≤maxLen∧∀ x ∈ v.Periods,InK .u8 x)∧(v.Uses.length≤maxLen∧∀ x ∈ v.Uses,Zi5 x)
theorem rd_ref24_Draft:∀ xs,Zbn D_ref24_Draft xs→∃ v,xs=ZjH v∧ZcH v:=by
 intro xs h0
 obtain ⟨x0,t0,rfl,c0,h1⟩:=ZaB h0
 obtain ⟨n0,rfl,r0⟩:=Zjw (rd_int (k:=.u8)) c0
 obtain ⟨x1,t1,rfl,c1,h2⟩:=ZaB h1
 obtain ⟨n1,rfl,r1⟩:=Zjw Zlw c1
 obtain rfl:=Zd5 h2
 exact ⟨⟨n0,n1⟩,rfl,⟨r0,r1⟩⟩
def ZkC:List CD:=[.int .i64,.int .i64,.int .i64,.int .i64]
def Zi4 (v:Zz):Prop:=InK .i64 v.Stream∧InK .i64 v.Port∧InK .i64 v.From∧InK .i64 v.Long
theorem Zlv:∀ xs,Zbn ZkC xs→∃ v,xs=Zf v∧Zi4 v:=by
 intro xs h0
 obtain ⟨x0,t0,rfl,c0,h1⟩:=ZaB h0
 obtain ⟨n0,rfl,r0⟩:=okPC_int c0
 obtain ⟨x1,t1,rfl,c1,h2⟩:=ZaB h1
 obtain ⟨n1,rfl,r1⟩:=okPC_int c1
 obtain ⟨x2,t2,rfl,c2,h3⟩:=ZaB h2
 obtain ⟨n2,rfl,r2⟩:=okPC_int c2
 obtain ⟨x3,t3,rfl,c3,h4⟩:=ZaB h3
 obtain ⟨n3,rfl,r3⟩:=okPC_int c3
 obtain rfl:=Zd5 h4
 exact ⟨⟨n0,n1,n2,n3⟩,rfl,⟨r0,r1,r2,r3⟩⟩
def D_api_Problem:List CD:=[.sl 1 [.int .i64],.sl 4 ZkC]
def ZfD (v:Ze):Prop:=(v.Periods.length≤maxLen∧∀ x ∈ v.Periods,InK .i64 x)∧(v.Uses.length≤maxLen∧∀ x ∈ v.Uses,Zi4 x)
theorem rd_api_Problem:∀ xs,Zbn D_api_Problem xs→∃ v,xs=ZjI v∧ZfD v:=by
 intro xs h0
 obtain ⟨x0,t0,rfl,c0,h1⟩:=ZaB h0
 obtain ⟨n0,rfl,r0⟩:=Zjw ZmM c0
 obtain ⟨x1,t1,rfl,c1,h2⟩:=ZaB h1
 obtain ⟨n1,rfl,r1⟩:=Zjw Zlv c1
 obtain rfl:=Zd5 h2
 exact ⟨⟨n0,n1⟩,rfl,⟨r0,r1⟩⟩
end Go.Sh

