/- Part of the proof. -/
import Derived.Test.YthipedbbcjemhaaGreatPlanMakesSh
import Derived.Test.YthipedbbcjemhaaGreatPlanMakesE18
set_option linter.all false
namespace Go.Sh
open Go Go.Eng
def D_ref16_Draft:List CD:=[.int .u8,.int .u8,.sl 1 [.int .u8],.sl 1 [.int .u8],.sl 1 [.int .u8],.sl 1 [.int .u8]]
def Zhm (v:Zbi):Prop:=InK .u8 v.Bridges/\InK .u8 v.Stations/\(v.Chords.length<=maxLen/\∀ x∈v.Chords,InK .u8 x)/\(v.Homes.length<=maxLen/\∀ x∈v.Homes,InK .u8 x)/\(v.Pers.length<=maxLen/\∀ x∈v.Pers,InK .u8 x)/\(v.Delays.length<=maxLen/\∀ x∈v.Delays,InK .u8 x)
theorem rd_ref16_Draft:∀ xs,Zd0 D_ref16_Draft xs->∃ v,xs=ZoV v/\Zhm v:=by
 intro xs h0
 obtain ⟨x0,t0,rfl,c0,h1⟩:=Zby h0
 obtain ⟨n0,rfl,r0⟩:=Zdx c0
 obtain ⟨x1,t1,rfl,c1,h2⟩:=Zby h1
 obtain ⟨n1,rfl,r1⟩:=Zdx c1
 obtain ⟨x2,t2,rfl,c2,h3⟩:=Zby h2
 obtain ⟨n2,rfl,r2⟩:=okPC_sl (ZqJ (k:=.u8)) c2
 obtain ⟨x3,t3,rfl,c3,h4⟩:=Zby h3
 obtain ⟨n3,rfl,r3⟩:=okPC_sl (ZqJ (k:=.u8)) c3
 obtain ⟨x4,t4,rfl,c4,h5⟩:=Zby h4
 obtain ⟨n4,rfl,r4⟩:=okPC_sl (ZqJ (k:=.u8)) c4
 obtain ⟨x5,t5,rfl,c5,h6⟩:=Zby h5
 obtain ⟨n5,rfl,r5⟩:=okPC_sl (ZqJ (k:=.u8)) c5
 obtain rfl:=ZiK h6
 exact ⟨⟨n0,n1,n2,n3,n4,n5⟩,rfl,⟨r0,r1,r2,r3,r4,r5⟩⟩
def D_ref22_Draft:List CD:=[.bool,.bool,.int .u8,.int .u8,.int .u8,.int .u8,.int .u8,.int .u16]
def Zhl (v:ZbN):Prop:=True/\True/\InK .u8 v.Node/\InK .u8 v.Way/\InK .u8 v.Size/\InK .u8 v.Period/\InK .u8 v.Burst/\InK .u16 v.Rate
theorem rd_ref22_Draft:∀ xs,Zd0 D_ref22_Draft xs->∃ v,xs=Zfn v/\Zhl v:=by
 intro xs h0
 obtain ⟨x0,t0,rfl,c0,h1⟩:=Zby h0
 obtain ⟨n0,rfl⟩:=ZpC c0
 obtain ⟨x1,t1,rfl,c1,h2⟩:=Zby h1
 obtain ⟨n1,rfl⟩:=ZpC c1
 obtain ⟨x2,t2,rfl,c2,h3⟩:=Zby h2
 obtain ⟨n2,rfl,r2⟩:=Zdx c2
 obtain ⟨x3,t3,rfl,c3,h4⟩:=Zby h3
 obtain ⟨n3,rfl,r3⟩:=Zdx c3
 obtain ⟨x4,t4,rfl,c4,h5⟩:=Zby h4
 obtain ⟨n4,rfl,r4⟩:=Zdx c4
 obtain ⟨x5,t5,rfl,c5,h6⟩:=Zby h5
 obtain ⟨n5,rfl,r5⟩:=Zdx c5
 obtain ⟨x6,t6,rfl,c6,h7⟩:=Zby h6
 obtain ⟨n6,rfl,r6⟩:=Zdx c6
 obtain ⟨x7,t7,rfl,c7,h8⟩:=Zby h7
 obtain ⟨n7,rfl,r7⟩:=Zdx c7
 obtain rfl:=ZiK h8
 exact ⟨⟨n0,n1,n2,n3,n4,n5,n6,n7⟩,rfl,⟨trivial,trivial,r2,r3,r4,r5,r6,r7⟩⟩
def D_Arr3_u8:List CD:=[.int .u8,.int .u8,.int .u8]
def Zoi (v:Zlf):Prop:=InK .u8 v.x0/\InK .u8 v.x1/\InK .u8 v.x2
theorem rd_Arr3_u8:∀ xs,Zd0 D_Arr3_u8 xs->∃ v,xs=Zsw v/\Zoi v:=by
 intro xs h0
 obtain ⟨x0,t0,rfl,c0,h1⟩:=Zby h0
 obtain ⟨n0,rfl,r0⟩:=Zdx c0
 obtain ⟨x1,t1,rfl,c1,h2⟩:=Zby h1
 obtain ⟨n1,rfl,r1⟩:=Zdx c1
 obtain ⟨x2,t2,rfl,c2,h3⟩:=Zby h2
 obtain ⟨n2,rfl,r2⟩:=Zdx c2
 obtain rfl:=ZiK h3
 exact ⟨⟨n0,n1,n2⟩,rfl,⟨r0,r1,r2⟩⟩
def D_Arr4_u16:List CD:=[.int .u16,.int .u16,.int .u16,.int .u16]
def ZjV (v:Zhc):Prop:=InK .u16 v.x0/\InK .u16 v.x1/\InK .u16 v.x2/\InK .u16 v.x3
theorem rd_Arr4_u16:∀ xs,Zd0 D_Arr4_u16 xs->∃ v,xs=ZrK v/\ZjV v:=by
 intro xs h0
 obtain ⟨x0,t0,rfl,c0,h1⟩:=Zby h0
 obtain ⟨n0,rfl,r0⟩:=Zdx c0
 obtain ⟨x1,t1,rfl,c1,h2⟩:=Zby h1
 obtain ⟨n1,rfl,r1⟩:=Zdx c1
 obtain ⟨x2,t2,rfl,c2,h3⟩:=Zby h2
 obtain ⟨n2,rfl,r2⟩:=Zdx c2
 obtain ⟨x3,t3,rfl,c3,h4⟩:=Zby h3
 obtain ⟨n3,rfl,r3⟩:=Zdx c3
 obtain rfl:=ZiK h4
 exact ⟨⟨n0,n1,n2,n3⟩,rfl,⟨r0,r1,r2,r3⟩⟩
end Go.Sh

