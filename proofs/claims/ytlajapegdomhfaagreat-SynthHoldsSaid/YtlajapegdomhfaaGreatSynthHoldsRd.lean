/-Part of the proof. -/
import Derived.Test.YtlajapegdomhfaaGreatSynthHoldsSh
import Derived.Test.YtlajapegdomhfaaGreatSynthHoldsE18
set_option linter.all false
namespace Go.Sh
open Go Go.Eng
def ZlM (v:ZbA):Prop:=InK .u8 v.Bridges/\InK .u8 v.Stations/\(v.Chords.length<=maxLen/\∀x∈v.Chords,InK .u8 x)/\(v.Homes.length<=maxLen/\∀x∈v.Homes,InK .u8 x)/\(v.Pers.length<=maxLen/\∀x∈v.Pers,InK .u8 x)/\(v.Delays.length<=maxLen/\∀x∈v.Delays,InK .u8 x)
def ZmV:List CD:=[.bool,.bool,.int .u8,.int .u8,.int .u8,.int .u8,.int .u8,.int .u16]
def Zis (v:Zce):Prop:=True/\True/\InK .u8 v.Node/\InK .u8 v.Way/\InK .u8 v.Size/\InK .u8 v.Period/\InK .u8 v.Burst/\InK .u16 v.Rate
theorem ZqI:∀xs,Zdw ZmV xs->∃v,xs=Zep v/\Zis v:=by
 intro xs h0;obtain⟨x0,t0,rfl,c0,h1⟩:=Zbb h0;obtain⟨n0,rfl⟩:=ZpF c0;obtain⟨x1,t1,rfl,c1,h2⟩:=Zbb h1;obtain⟨n1,rfl⟩:=ZpF c1;obtain⟨x2,t2,rfl,c2,h3⟩:=Zbb h2;obtain⟨n2,rfl,r2⟩:=ZcU c2;obtain⟨x3,t3,rfl,c3,h4⟩:=Zbb h3;obtain⟨n3,rfl,r3⟩:=ZcU c3;obtain⟨x4,t4,rfl,c4,h5⟩:=Zbb h4;obtain⟨n4,rfl,r4⟩:=ZcU c4;obtain⟨x5,t5,rfl,c5,h6⟩:=Zbb h5;obtain⟨n5,rfl,r5⟩:=ZcU c5;obtain⟨x6,t6,rfl,c6,h7⟩:=Zbb h6;obtain⟨n6,rfl,r6⟩:=ZcU c6;obtain⟨x7,t7,rfl,c7,h8⟩:=Zbb h7;obtain⟨n7,rfl,r7⟩:=ZcU c7;obtain rfl:=ZiG h8;exact⟨⟨n0,n1,n2,n3,n4,n5,n6,n7⟩,rfl,⟨trivial,trivial,r2,r3,r4,r5,r6,r7⟩⟩
def Zwc (v:Zxt):Prop:=InK .u8 v.x0/\InK .u8 v.x1/\InK .u8 v.x2
def D_law28_Case:List CD:=[.int .u8,.int .u8,.sl 1 [.int .u8],.sl 1 [.int .u8],.sl 1 [.int .u8],.sl 1 [.int .u8],.sl 8 ZmV,.int .u8,.int .u8,.int .u8,.sl 1 [.int .u8],.bool]
def ZjK (v:Zfz):Prop:=ZlM v.T/\(v.L.length<=maxLen/\∀x∈v.L,Zis x)/\Zwc v.U/\(v.Some.length<=maxLen/\∀x∈v.Some,InK .u8 x)/\True
theorem rd_law28_Case:∀xs,Zdw D_law28_Case xs->∃v,xs=ZtC v/\ZjK v:=by
 intro xs h0;obtain⟨x0,t0,rfl,c0,h1⟩:=Zbb h0;obtain⟨n0,rfl,r0⟩:=ZcU c0;obtain⟨x1,t1,rfl,c1,h2⟩:=Zbb h1;obtain⟨n1,rfl,r1⟩:=ZcU c1;obtain⟨x2,t2,rfl,c2,h3⟩:=Zbb h2;obtain⟨n2,rfl,r2⟩:=okPC_sl (rd_int (k:=.u8)) c2;obtain⟨x3,t3,rfl,c3,h4⟩:=Zbb h3;obtain⟨n3,rfl,r3⟩:=okPC_sl (rd_int (k:=.u8)) c3;obtain⟨x4,t4,rfl,c4,h5⟩:=Zbb h4;obtain⟨n4,rfl,r4⟩:=okPC_sl (rd_int (k:=.u8)) c4;obtain⟨x5,t5,rfl,c5,h6⟩:=Zbb h5;obtain⟨n5,rfl,r5⟩:=okPC_sl (rd_int (k:=.u8)) c5;obtain⟨x6,t6,rfl,c6,h7⟩:=Zbb h6;obtain⟨n6,rfl,r6⟩:=okPC_sl ZqI c6;obtain⟨x7,t7,rfl,c7,h8⟩:=Zbb h7;obtain⟨n7,rfl,r7⟩:=ZcU c7;obtain⟨x8,t8,rfl,c8,h9⟩:=Zbb h8;obtain⟨n8,rfl,r8⟩:=ZcU c8;obtain⟨x9,t9,rfl,c9,h10⟩:=Zbb h9;obtain⟨n9,rfl,r9⟩:=ZcU c9;obtain⟨x10,t10,rfl,c10,h11⟩:=Zbb h10;obtain⟨n10,rfl,r10⟩:=okPC_sl (rd_int (k:=.u8)) c10;obtain⟨x11,t11,rfl,c11,h12⟩:=Zbb h11;obtain⟨n11,rfl⟩:=ZpF c11;obtain rfl:=ZiG h12;exact⟨⟨⟨n0,n1,n2,n3,n4,n5⟩,n6,⟨n7,n8,n9⟩,n10,n11⟩,rfl,⟨⟨r0,r1,r2,r3,r4,r5⟩,r6,⟨r7,r8,r9⟩,r10,trivial⟩⟩
def D_Arr2_u8:List CD:=[.int .u8,.int .u8]
def Zrs (v:Zqf):Prop:=InK .u8 v.x0/\InK .u8 v.x1
theorem rd_Arr2_u8:∀xs,Zdw D_Arr2_u8 xs->∃v,xs=Zw9 v/\Zrs v:=by
 intro xs h0;obtain⟨x0,t0,rfl,c0,h1⟩:=Zbb h0;obtain⟨n0,rfl,r0⟩:=ZcU c0;obtain⟨x1,t1,rfl,c1,h2⟩:=Zbb h1;obtain⟨n1,rfl,r1⟩:=ZcU c1;obtain rfl:=ZiG h2;exact⟨⟨n0,n1⟩,rfl,⟨r0,r1⟩⟩
def D_api_Entry:List CD:=[.int .i64,.int .i64]
def ZkJ (v:Zaw):Prop:=InK .i64 v.Mask/\InK .i64 v.Long
theorem rd_api_Entry:∀xs,Zdw D_api_Entry xs->∃v,xs=Zat v/\ZkJ v:=by
 intro xs h0;obtain⟨x0,t0,rfl,c0,h1⟩:=Zbb h0;obtain⟨n0,rfl,r0⟩:=ZcU c0;obtain⟨x1,t1,rfl,c1,h2⟩:=Zbb h1;obtain⟨n1,rfl,r1⟩:=ZcU c1;obtain rfl:=ZiG h2;exact⟨⟨n0,n1⟩,rfl,⟨r0,r1⟩⟩
def D_api_Gates:List CD:=[.sl 2 D_api_Entry,.int .i64]
def Zn6 (v:Zas):Prop:=(v.Entries.length<=maxLen/\∀x∈v.Entries,ZkJ x)/\InK .i64 v.Cycle
theorem rd_api_Gates:∀xs,Zdw D_api_Gates xs->∃v,xs=Zaz v/\Zn6 v:=by
 intro xs h0;obtain⟨x0,t0,rfl,c0,h1⟩:=Zbb h0;obtain⟨n0,rfl,r0⟩:=okPC_sl rd_api_Entry c0;obtain⟨x1,t1,rfl,c1,h2⟩:=Zbb h1;obtain⟨n1,rfl,r1⟩:=ZcU c1;obtain rfl:=ZiG h2;exact⟨⟨n0,n1⟩,rfl,⟨r0,r1⟩⟩
end Go.Sh

