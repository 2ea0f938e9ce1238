/- Part of the proof; written by a program out of the texts in wip/. -/
import Derived.Test.YthipedbbcjemhaaGreatPlanCoversSh
import Derived.Test.YthipedbbcjemhaaGreatPlanCoversE21
namespace Go.Sh
open Go Go.Eng
set_option linter.unusedVariables false
def D_ref16_Draft:List CD:=[.int .u8,.int .u8,.sl 1 [.int .u8],.sl 1 [.int .u8],.sl 1 [.int .u8],.sl 1 [.int .u8]]
def ZfL (v:Zae):Prop:=InK .u8 v.Bridges∧InK .u8 v.Stations∧(v.Chords.length≤maxLen∧∀ x ∈ v.Chords,InK .u8 x)∧(v.Homes.length≤maxLen∧∀ x ∈ v.Homes,InK .u8 x)∧(v.Pers.length≤maxLen∧∀ x ∈ v.Pers,InK .u8 x)∧(v.Delays.length≤maxLen∧∀ x ∈ v.Delays,InK .u8 x)
theorem rd_ref16_Draft:∀ xs,ZcM D_ref16_Draft xs→∃ v,xs=ZmL v∧ZfL v:=by
 intro xs h0
 obtain ⟨x0,t0,rfl,c0,h1⟩:=ZaL h0
 obtain ⟨n0,rfl,r0⟩:=Zdx c0
 obtain ⟨x1,t1,rfl,c1,h2⟩:=ZaL h1
 obtain ⟨n1,rfl,r1⟩:=Zdx c1
 obtain ⟨x2,t2,rfl,c2,h3⟩:=ZaL h2
 obtain ⟨n2,rfl,r2⟩:=okPC_sl (ZoB (k:=.u8)) c2
 obtain ⟨x3,t3,rfl,c3,h4⟩:=ZaL h3
 obtain ⟨n3,rfl,r3⟩:=okPC_sl (ZoB (k:=.u8)) c3
 obtain ⟨x4,t4,rfl,c4,h5⟩:=ZaL h4
 obtain ⟨n4,rfl,r4⟩:=okPC_sl (ZoB (k:=.u8)) c4
 obtain ⟨x5,t5,rfl,c5,h6⟩:=ZaL h5
 obtain ⟨n5,rfl,r5⟩:=okPC_sl (ZoB (k:=.u8)) c5
 obtain rfl:=Zio h6
 exact ⟨⟨n0,n1,n2,n3,n4,n5⟩,rfl,⟨r0,r1,r2,r3,r4,r5⟩⟩
def D_ref22_Draft:List CD:=[.bool,.bool,.int .u8,.int .u8,.int .u8,.int .u8,.int .u8,.int .u16]
def ZfK (v:ZaB):Prop:=True∧True∧InK .u8 v.Node∧InK .u8 v.Way∧InK .u8 v.Size∧InK .u8 v.Period∧InK .u8 v.Burst∧InK .u16 v.Rate
theorem rd_ref22_Draft:∀ xs,ZcM D_ref22_Draft xs→∃ v,xs=ZdW v∧ZfK v:=by
 intro xs h0
 obtain ⟨x0,t0,rfl,c0,h1⟩:=ZaL h0
 obtain ⟨n0,rfl⟩:=Zns c0
 obtain ⟨x1,t1,rfl,c1,h2⟩:=ZaL h1
 obtain ⟨n1,rfl⟩:=Zns c1
 obtain ⟨x2,t2,rfl,c2,h3⟩:=ZaL h2
 obtain ⟨n2,rfl,r2⟩:=Zdx c2
 obtain ⟨x3,t3,rfl,c3,h4⟩:=ZaL h3
 obtain ⟨n3,rfl,r3⟩:=Zdx c3
 obtain ⟨x4,t4,rfl,c4,h5⟩:=ZaL h4
 obtain ⟨n4,rfl,r4⟩:=Zdx c4
 obtain ⟨x5,t5,rfl,c5,h6⟩:=ZaL h5
 obtain ⟨n5,rfl,r5⟩:=Zdx c5
 obtain ⟨x6,t6,rfl,c6,h7⟩:=ZaL h6
 obtain ⟨n6,rfl,r6⟩:=Zdx c6
 obtain ⟨x7,t7,rfl,c7,h8⟩:=ZaL h7
 obtain ⟨n7,rfl,r7⟩:=Zdx c7
 obtain rfl:=Zio h8
 exact ⟨⟨n0,n1,n2,n3,n4,n5,n6,n7⟩,rfl,⟨trivial,trivial,r2,r3,r4,r5,r6,r7⟩⟩
def D_Arr3_u8:List CD:=[.int .u8,.int .u8,.int .u8]
def Zl6 (v:Zji):Prop:=InK .u8 v.x0∧InK .u8 v.x1∧InK .u8 v.x2
theorem rd_Arr3_u8:∀ xs,ZcM D_Arr3_u8 xs→∃ v,xs=Zqp v∧Zl6 v:=by
 intro xs h0
 obtain ⟨x0,t0,rfl,c0,h1⟩:=ZaL h0
 obtain ⟨n0,rfl,r0⟩:=Zdx c0
 obtain ⟨x1,t1,rfl,c1,h2⟩:=ZaL h1
 obtain ⟨n1,rfl,r1⟩:=Zdx c1
 obtain ⟨x2,t2,rfl,c2,h3⟩:=ZaL h2
 obtain ⟨n2,rfl,r2⟩:=Zdx c2
 obtain rfl:=Zio h3
 exact ⟨⟨n0,n1,n2⟩,rfl,⟨r0,r1,r2⟩⟩
end Go.Sh

