/- Part of the proof. -/
import Derived.Test.YtddgnfnfojoljaaProofReasonsSh
import Derived.Test.YtddgnfnfojoljaaProofReasonsE18
set_option linter.all false
namespace Go.Sh
open Go Go.Eng
def ZlS:List CD:=[.int .u8,.int .u8,.int .u8,.int .u8]
def Zj0 (v:Zjf):Prop:=InK .u8 v.x0/\InK .u8 v.x1/\InK .u8 v.x2/\InK .u8 v.x3
theorem Zna:∀ xs,Zb8 ZlS xs->∃ v,xs=Ze4 v/\Zj0 v:=by
 intro xs h0
 obtain ⟨x0,t0,rfl,c0,h1⟩:=Za5 h0
 obtain ⟨n0,rfl,r0⟩:=Zcm c0
 obtain ⟨x1,t1,rfl,c1,h2⟩:=Za5 h1
 obtain ⟨n1,rfl,r1⟩:=Zcm c1
 obtain ⟨x2,t2,rfl,c2,h3⟩:=Za5 h2
 obtain ⟨n2,rfl,r2⟩:=Zcm c2
 obtain ⟨x3,t3,rfl,c3,h4⟩:=Za5 h3
 obtain ⟨n3,rfl,r3⟩:=Zcm c3
 obtain rfl:=Zex h4
 exact ⟨⟨n0,n1,n2,n3⟩,rfl,⟨r0,r1,r2,r3⟩⟩
def D_ref24_Draft:List CD:=[.sl 1 [.int .u8],.sl 4 ZlS]
def ZeU (v:ZbG):Prop:=(v.Periods.length<=maxLen/\∀ x∈v.Periods,InK .u8 x)/\(v.Uses.length<=maxLen/\∀ x∈v.Uses,Zj0 x)
theorem rd_ref24_Draft:∀ xs,Zb8 D_ref24_Draft xs->∃ v,xs=ZkL v/\ZeU v:=by
 intro xs h0
 obtain ⟨x0,t0,rfl,c0,h1⟩:=Za5 h0
 obtain ⟨n0,rfl,r0⟩:=okPC_sl (rd_int (k:=.u8)) c0
 obtain ⟨x1,t1,rfl,c1,h2⟩:=Za5 h1
 obtain ⟨n1,rfl,r1⟩:=okPC_sl Zna c1
 obtain rfl:=Zex h2
 exact ⟨⟨n0,n1⟩,rfl,⟨r0,r1⟩⟩
def ZlR:List CD:=[.int .i64,.int .i64,.int .i64,.int .i64]
def ZjZ (v:Zax):Prop:=InK .i64 v.From/\InK .i64 v.To/\InK .i64 v.By/\InK .i64 v.Next
theorem Zm9:∀ xs,Zb8 ZlR xs->∃ v,xs=Zah v/\ZjZ v:=by
 intro xs h0
 obtain ⟨x0,t0,rfl,c0,h1⟩:=Za5 h0
 obtain ⟨n0,rfl,r0⟩:=Zcm c0
 obtain ⟨x1,t1,rfl,c1,h2⟩:=Za5 h1
 obtain ⟨n1,rfl,r1⟩:=Zcm c1
 obtain ⟨x2,t2,rfl,c2,h3⟩:=Za5 h2
 obtain ⟨n2,rfl,r2⟩:=Zcm c2
 obtain ⟨x3,t3,rfl,c3,h4⟩:=Za5 h3
 obtain ⟨n3,rfl,r3⟩:=Zcm c3
 obtain rfl:=Zex h4
 exact ⟨⟨n0,n1,n2,n3⟩,rfl,⟨r0,r1,r2,r3⟩⟩
def D_api_Choice:List CD:=[.int .i64,.sl 4 ZlR]
def ZgY (v:Z7):Prop:=InK .i64 v.Stream/\(v.Arms.length<=maxLen/\∀ x∈v.Arms,ZjZ x)
theorem rd_api_Choice:∀ xs,Zb8 D_api_Choice xs->∃ v,xs=Zab v/\ZgY v:=by
 intro xs h0
 obtain ⟨x0,t0,rfl,c0,h1⟩:=Za5 h0
 obtain ⟨n0,rfl,r0⟩:=Zcm c0
 obtain ⟨x1,t1,rfl,c1,h2⟩:=Za5 h1
 obtain ⟨n1,rfl,r1⟩:=okPC_sl Zm9 c1
 obtain rfl:=Zex h2
 exact ⟨⟨n0,n1⟩,rfl,⟨r0,r1⟩⟩
def D_law25_Bend:List CD:=[.int .u8,.int .u8,.int .u8,.int .i64]
def ZdE (v:ZaV):Prop:=InK .u8 v.Choice/\InK .u8 v.Arm/\InK .u8 v.What/\InK .i64 v.N_
theorem rd_law25_Bend:∀ xs,Zb8 D_law25_Bend xs->∃ v,xs=ZlI v/\ZdE v:=by
 intro xs h0
 obtain ⟨x0,t0,rfl,c0,h1⟩:=Za5 h0
 obtain ⟨n0,rfl,r0⟩:=Zcm c0
 obtain ⟨x1,t1,rfl,c1,h2⟩:=Za5 h1
 obtain ⟨n1,rfl,r1⟩:=Zcm c1
 obtain ⟨x2,t2,rfl,c2,h3⟩:=Za5 h2
 obtain ⟨n2,rfl,r2⟩:=Zcm c2
 obtain ⟨x3,t3,rfl,c3,h4⟩:=Za5 h3
 obtain ⟨n3,rfl,r3⟩:=Zcm c3
 obtain rfl:=Zex h4
 exact ⟨⟨n0,n1,n2,n3⟩,rfl,⟨r0,r1,r2,r3⟩⟩
end Go.Sh

