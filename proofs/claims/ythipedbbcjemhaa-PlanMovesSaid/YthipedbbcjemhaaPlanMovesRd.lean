/- Part of the proof; written by a program out of the texts in wip/. -/
import Derived.Test.YthipedbbcjemhaaPlanMovesSh
import Derived.Test.YthipedbbcjemhaaPlanMovesE21
namespace Go.Sh
open Go Go.Eng
set_option linter.unusedVariables false
def ZkA:List CD:=[.int .u8,.int .u8,.int .u8,.int .u8]
def Zi0 (v:Zis):Prop:=InK .u8 v.x0∧InK .u8 v.x1∧InK .u8 v.x2∧InK .u8 v.x3
theorem Zlv:∀ xs,Zbv ZkA xs→∃ v,xs=Zd2 v∧Zi0 v:=by
 intro xs h0
 obtain ⟨x0,t0,rfl,c0,h1⟩:=Zcs h0
 obtain ⟨n0,rfl,r0⟩:=okPC_int c0
 obtain ⟨x1,t1,rfl,c1,h2⟩:=Zcs h1
 obtain ⟨n1,rfl,r1⟩:=okPC_int c1
 obtain ⟨x2,t2,rfl,c2,h3⟩:=Zcs h2
 obtain ⟨n2,rfl,r2⟩:=okPC_int c2
 obtain ⟨x3,t3,rfl,c3,h4⟩:=Zcs h3
 obtain ⟨n3,rfl,r3⟩:=okPC_int c3
 obtain rfl:=Zh2 h4
 exact ⟨⟨n0,n1,n2,n3⟩,rfl,⟨r0,r1,r2,r3⟩⟩
def D_ref24_Draft:List CD:=[.sl 1 [.int .u8],.sl 4 ZkA]
def ZdQ (v:ZaM):Prop:=(v.Periods.length≤maxLen∧∀ x ∈ v.Periods,InK .u8 x)∧(v.Uses.length≤maxLen∧∀ x ∈ v.Uses,Zi0 x)
theorem rd_ref24_Draft:∀ xs,Zbv D_ref24_Draft xs→∃ v,xs=Zjv v∧ZdQ v:=by
 intro xs h0
 obtain ⟨x0,t0,rfl,c0,h1⟩:=Zcs h0
 obtain ⟨n0,rfl,r0⟩:=okPC_sl (rd_int (k:=.u8)) c0
 obtain ⟨x1,t1,rfl,c1,h2⟩:=Zcs h1
 obtain ⟨n1,rfl,r1⟩:=okPC_sl Zlv c1
 obtain rfl:=Zh2 h2
 exact ⟨⟨n0,n1⟩,rfl,⟨r0,r1⟩⟩
end Go.Sh

