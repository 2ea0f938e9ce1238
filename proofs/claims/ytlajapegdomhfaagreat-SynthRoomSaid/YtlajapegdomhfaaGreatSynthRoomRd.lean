/-Part of the proof. -/
import Derived.Test.YtlajapegdomhfaaGreatSynthRoomSh
import Derived.Test.YtlajapegdomhfaaGreatSynthRoomE18
set_option linter.all false
namespace Go.Sh
open Go Go.Eng
def Zlw (v:ZbI):Prop:=InK .u8 v.Bridges/\InK .u8 v.Stations/\(v.Chords.length<=maxLen/\∀x∈v.Chords,InK .u8 x)/\(v.Homes.length<=maxLen/\∀x∈v.Homes,InK .u8 x)/\(v.Pers.length<=maxLen/\∀x∈v.Pers,InK .u8 x)/\(v.Delays.length<=maxLen/\∀x∈v.Delays,InK .u8 x)
def ZmB:List CD:=[.bool,.bool,.int .u8,.int .u8,.int .u8,.int .u8,.int .u8,.int .u16]
def Zid (v:Zcl):Prop:=True/\True/\InK .u8 v.Node/\InK .u8 v.Way/\InK .u8 v.Size/\InK .u8 v.Period/\InK .u8 v.Burst/\InK .u16 v.Rate
theorem ZqA:∀xs,Zd0 ZmB xs->∃v,xs=Zet v/\Zid v:=by
 intro xs h0;obtain⟨x0,t0,rfl,c0,h1⟩:=ZbG h0;obtain⟨n0,rfl⟩:=Zpq c0;obtain⟨x1,t1,rfl,c1,h2⟩:=ZbG h1;obtain⟨n1,rfl⟩:=Zpq c1;obtain⟨x2,t2,rfl,c2,h3⟩:=ZbG h2;obtain⟨n2,rfl,r2⟩:=okPC_int c2;obtain⟨x3,t3,rfl,c3,h4⟩:=ZbG h3;obtain⟨n3,rfl,r3⟩:=okPC_int c3;obtain⟨x4,t4,rfl,c4,h5⟩:=ZbG h4;obtain⟨n4,rfl,r4⟩:=okPC_int c4;obtain⟨x5,t5,rfl,c5,h6⟩:=ZbG h5;obtain⟨n5,rfl,r5⟩:=okPC_int c5;obtain⟨x6,t6,rfl,c6,h7⟩:=ZbG h6;obtain⟨n6,rfl,r6⟩:=okPC_int c6;obtain⟨x7,t7,rfl,c7,h8⟩:=ZbG h7;obtain⟨n7,rfl,r7⟩:=okPC_int c7;obtain rfl:=Zpp h8;exact⟨⟨n0,n1,n2,n3,n4,n5,n6,n7⟩,rfl,⟨trivial,trivial,r2,r3,r4,r5,r6,r7⟩⟩
def Zwo (v:ZxK):Prop:=InK .u8 v.x0/\InK .u8 v.x1/\InK .u8 v.x2
def D_law28_Case:List CD:=[.int .u8,.int .u8,.sl 1 [.int .u8],.sl 1 [.int .u8],.sl 1 [.int .u8],.sl 1 [.int .u8],.sl 8 ZmB,.int .u8,.int .u8,.int .u8,.sl 1 [.int .u8],.bool]
def Zjx (v:Zfz):Prop:=Zlw v.T/\(v.L.length<=maxLen/\∀x∈v.L,Zid x)/\Zwo v.U/\(v.Some.length<=maxLen/\∀x∈v.Some,InK .u8 x)/\True
theorem rd_law28_Case:∀xs,Zd0 D_law28_Case xs->∃v,xs=ZtY v/\Zjx v:=by
 intro xs h0;obtain⟨x0,t0,rfl,c0,h1⟩:=ZbG h0;obtain⟨n0,rfl,r0⟩:=okPC_int c0;obtain⟨x1,t1,rfl,c1,h2⟩:=ZbG h1;obtain⟨n1,rfl,r1⟩:=okPC_int c1;obtain⟨x2,t2,rfl,c2,h3⟩:=ZbG h2;obtain⟨n2,rfl,r2⟩:=Zm5 (Ztg (k:=.u8)) c2;obtain⟨x3,t3,rfl,c3,h4⟩:=ZbG h3;obtain⟨n3,rfl,r3⟩:=Zm5 (Ztg (k:=.u8)) c3;obtain⟨x4,t4,rfl,c4,h5⟩:=ZbG h4;obtain⟨n4,rfl,r4⟩:=Zm5 (Ztg (k:=.u8)) c4;obtain⟨x5,t5,rfl,c5,h6⟩:=ZbG h5;obtain⟨n5,rfl,r5⟩:=Zm5 (Ztg (k:=.u8)) c5;obtain⟨x6,t6,rfl,c6,h7⟩:=ZbG h6;obtain⟨n6,rfl,r6⟩:=Zm5 ZqA c6;obtain⟨x7,t7,rfl,c7,h8⟩:=ZbG h7;obtain⟨n7,rfl,r7⟩:=okPC_int c7;obtain⟨x8,t8,rfl,c8,h9⟩:=ZbG h8;obtain⟨n8,rfl,r8⟩:=okPC_int c8;obtain⟨x9,t9,rfl,c9,h10⟩:=ZbG h9;obtain⟨n9,rfl,r9⟩:=okPC_int c9;obtain⟨x10,t10,rfl,c10,h11⟩:=ZbG h10;obtain⟨n10,rfl,r10⟩:=Zm5 (Ztg (k:=.u8)) c10;obtain⟨x11,t11,rfl,c11,h12⟩:=ZbG h11;obtain⟨n11,rfl⟩:=Zpq c11;obtain rfl:=Zpp h12;exact⟨⟨⟨n0,n1,n2,n3,n4,n5⟩,n6,⟨n7,n8,n9⟩,n10,n11⟩,rfl,⟨⟨r0,r1,r2,r3,r4,r5⟩,r6,⟨r7,r8,r9⟩,r10,trivial⟩⟩
end Go.Sh

