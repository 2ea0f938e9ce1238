/- Part of the proof; written by a program out of the texts in wip/. -/
import Derived.Test.YthipedbbcjemhaaPlanMeansSh
import Derived.Test.YthipedbbcjemhaaPlanMeansE21
namespace Go.Sh
open Go Go.Eng
set_option linter.unusedVariables false
def ZkC:List CD:=[.int .u8,.int .u8,.int .u8,.int .u8]
def ZiX (v:Zim):Prop:=InK .u8 v.x0∧InK .u8 v.x1∧InK .u8 v.x2∧InK .u8 v.x3
theorem Zly:∀ xs,Zby ZkC xs→∃ v,xs=ZdY v∧ZiX v:=by
 intro xs h0
 obtain ⟨x0,t0,rfl,c0,h1⟩:=Zcw h0
 obtain ⟨n0,rfl,r0⟩:=ZfX c0
 obtain ⟨x1,t1,rfl,c1,h2⟩:=Zcw h1
 obtain ⟨n1,rfl,r1⟩:=ZfX c1
 obtain ⟨x2,t2,rfl,c2,h3⟩:=Zcw h2
 obtain ⟨n2,rfl,r2⟩:=ZfX c2
 obtain ⟨x3,t3,rfl,c3,h4⟩:=Zcw h3
 obtain ⟨n3,rfl,r3⟩:=ZfX c3
 obtain rfl:=ZhV h4
 exact ⟨⟨n0,n1,n2,n3⟩,rfl,⟨r0,r1,r2,r3⟩⟩
def D_ref24_Draft:List CD:=[.sl 1 [.int .u8],.sl 4 ZkC]
def ZdM (v:ZaO):Prop:=(v.Periods.length≤maxLen∧∀ x ∈ v.Periods,InK .u8 x)∧(v.Uses.length≤maxLen∧∀ x ∈ v.Uses,ZiX x)
theorem rd_ref24_Draft:∀ xs,Zby D_ref24_Draft xs→∃ v,xs=Zjz v∧ZdM v:=by
 intro xs h0
 obtain ⟨x0,t0,rfl,c0,h1⟩:=Zcw h0
 obtain ⟨n0,rfl,r0⟩:=okPC_sl (rd_int (k:=.u8)) c0
 obtain ⟨x1,t1,rfl,c1,h2⟩:=Zcw h1
 obtain ⟨n1,rfl,r1⟩:=okPC_sl Zly c1
 obtain rfl:=ZhV h2
 exact ⟨⟨n0,n1⟩,rfl,⟨r0,r1⟩⟩
end Go.Sh

