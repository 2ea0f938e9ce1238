/-Part of the proof. -/
import Derived.Test.YtlajapegdomhfaaGreatSynthOpensSh
import Derived.Test.YtlajapegdomhfaaGreatSynthOpensE18
set_option linter.all false
namespace Go.Sh
open Go Go.Eng
def ZlJ (v:ZbQ):Prop:=InK .u8 v.Bridges/\InK .u8 v.Stations/\(v.Chords.length<=maxLen/\∀x∈v.Chords,InK .u8 x)/\(v.Homes.length<=maxLen/\∀x∈v.Homes,InK .u8 x)/\(v.Pers.length<=maxLen/\∀x∈v.Pers,InK .u8 x)/\(v.Delays.length<=maxLen/\∀x∈v.Delays,InK .u8 x)
def ZmQ:List CD:=[.bool,.bool,.int .u8,.int .u8,.int .u8,.int .u8,.int .u8,.int .u16]
def Ziu (v:Zcw):Prop:=True/\True/\InK .u8 v.Node/\InK .u8 v.Way/\InK .u8 v.Size/\InK .u8 v.Period/\InK .u8 v.Burst/\InK .u16 v.Rate
def ZqQ:∀xs,Zep ZmQ xs->∃v,xs=ZeI v/\Ziu v:=by
 intro xs h0;obtain⟨x0,t0,rfl,c0,h1⟩:=ZbO h0;obtain⟨n0,rfl⟩:=ZpL c0;obtain⟨x1,t1,rfl,c1,h2⟩:=ZbO h1;obtain⟨n1,rfl⟩:=ZpL c1;obtain⟨x2,t2,rfl,c2,h3⟩:=ZbO h2;obtain⟨n2,rfl,r2⟩:=Ze4 c2;obtain⟨x3,t3,rfl,c3,h4⟩:=ZbO h3;obtain⟨n3,rfl,r3⟩:=Ze4 c3;obtain⟨x4,t4,rfl,c4,h5⟩:=ZbO h4;obtain⟨n4,rfl,r4⟩:=Ze4 c4;obtain⟨x5,t5,rfl,c5,h6⟩:=ZbO h5;obtain⟨n5,rfl,r5⟩:=Ze4 c5;obtain⟨x6,t6,rfl,c6,h7⟩:=ZbO h6;obtain⟨n6,rfl,r6⟩:=Ze4 c6;obtain⟨x7,t7,rfl,c7,h8⟩:=ZbO h7;obtain⟨n7,rfl,r7⟩:=Ze4 c7;obtain rfl:=ZpK h8;exact⟨⟨n0,n1,n2,n3,n4,n5,n6,n7⟩,rfl,⟨trivial,trivial,r2,r3,r4,r5,r6,r7⟩⟩
def Zwv (v:ZxV):Prop:=InK .u8 v.x0/\InK .u8 v.x1/\InK .u8 v.x2
def D_law28_Case:List CD:=[.int .u8,.int .u8,.sl 1 [.int .u8],.sl 1 [.int .u8],.sl 1 [.int .u8],.sl 1 [.int .u8],.sl 8 ZmQ,.int .u8,.int .u8,.int .u8,.sl 1 [.int .u8],.bool]
def ZjR (v:ZfS):Prop:=ZlJ v.T/\(v.L.length<=maxLen/\∀x∈v.L,Ziu x)/\Zwv v.U/\(v.Some.length<=maxLen/\∀x∈v.Some,InK .u8 x)/\True
def rd_law28_Case:∀xs,Zep D_law28_Case xs->∃v,xs=Zt0 v/\ZjR v:=by
 intro xs h0;obtain⟨x0,t0,rfl,c0,h1⟩:=ZbO h0;obtain⟨n0,rfl,r0⟩:=Ze4 c0;obtain⟨x1,t1,rfl,c1,h2⟩:=ZbO h1;obtain⟨n1,rfl,r1⟩:=Ze4 c1;obtain⟨x2,t2,rfl,c2,h3⟩:=ZbO h2;obtain⟨n2,rfl,r2⟩:=Znk (Ztm (k:=.u8)) c2;obtain⟨x3,t3,rfl,c3,h4⟩:=ZbO h3;obtain⟨n3,rfl,r3⟩:=Znk (Ztm (k:=.u8)) c3;obtain⟨x4,t4,rfl,c4,h5⟩:=ZbO h4;obtain⟨n4,rfl,r4⟩:=Znk (Ztm (k:=.u8)) c4;obtain⟨x5,t5,rfl,c5,h6⟩:=ZbO h5;obtain⟨n5,rfl,r5⟩:=Znk (Ztm (k:=.u8)) c5;obtain⟨x6,t6,rfl,c6,h7⟩:=ZbO h6;obtain⟨n6,rfl,r6⟩:=Znk ZqQ c6;obtain⟨x7,t7,rfl,c7,h8⟩:=ZbO h7;obtain⟨n7,rfl,r7⟩:=Ze4 c7;obtain⟨x8,t8,rfl,c8,h9⟩:=ZbO h8;obtain⟨n8,rfl,r8⟩:=Ze4 c8;obtain⟨x9,t9,rfl,c9,h10⟩:=ZbO h9;obtain⟨n9,rfl,r9⟩:=Ze4 c9;obtain⟨x10,t10,rfl,c10,h11⟩:=ZbO h10;obtain⟨n10,rfl,r10⟩:=Znk (Ztm (k:=.u8)) c10;obtain⟨x11,t11,rfl,c11,h12⟩:=ZbO h11;obtain⟨n11,rfl⟩:=ZpL c11;obtain rfl:=ZpK h12;exact⟨⟨⟨n0,n1,n2,n3,n4,n5⟩,n6,⟨n7,n8,n9⟩,n10,n11⟩,rfl,⟨⟨r0,r1,r2,r3,r4,r5⟩,r6,⟨r7,r8,r9⟩,r10,trivial⟩⟩
end Go.Sh

