/- Part of the proof. -/
import Derived.Test.YtddgnfnfojoljaaProofSoundSh
import Derived.Test.YtddgnfnfojoljaaProofSoundE18
set_option linter.all false
namespace Go.Sh
open Go Go.Eng
def Zlk:List CD:=[.int .u8,.int .u8,.int .u8,.int .u8]
def Zjs (v:ZiI):Prop:=InK .u8 v.x0/\InK .u8 v.x1/\InK .u8 v.x2/\InK .u8 v.x3
theorem ZmB:∀ xs,Zcf Zlk xs->∃ v,xs=ZeB v/\Zjs v:=by
 intro xs h0
 obtain ⟨x0,t0,rfl,c0,h1⟩:=Zbg h0
 obtain ⟨n0,rfl,r0⟩:=Zcu c0
 obtain ⟨x1,t1,rfl,c1,h2⟩:=Zbg h1
 obtain ⟨n1,rfl,r1⟩:=Zcu c1
 obtain ⟨x2,t2,rfl,c2,h3⟩:=Zbg h2
 obtain ⟨n2,rfl,r2⟩:=Zcu c2
 obtain ⟨x3,t3,rfl,c3,h4⟩:=Zbg h3
 obtain ⟨n3,rfl,r3⟩:=Zcu c3
 obtain rfl:=ZeA h4
 exact ⟨⟨n0,n1,n2,n3⟩,rfl,⟨r0,r1,r2,r3⟩⟩
def D_ref24_Draft:List CD:=[.sl 1 [.int .u8],.sl 4 Zlk]
def Zeu (v:ZbH):Prop:=(v.Periods.length<=maxLen/\∀ x∈v.Periods,InK .u8 x)/\(v.Uses.length<=maxLen/\∀ x∈v.Uses,Zjs x)
theorem rd_ref24_Draft:∀ xs,Zcf D_ref24_Draft xs->∃ v,xs=Zka v/\Zeu v:=by
 intro xs h0
 obtain ⟨x0,t0,rfl,c0,h1⟩:=Zbg h0
 obtain ⟨n0,rfl,r0⟩:=okPC_sl (rd_int (k:=.u8)) c0
 obtain ⟨x1,t1,rfl,c1,h2⟩:=Zbg h1
 obtain ⟨n1,rfl,r1⟩:=okPC_sl ZmB c1
 obtain rfl:=ZeA h2
 exact ⟨⟨n0,n1⟩,rfl,⟨r0,r1⟩⟩
def Zlj:List CD:=[.int .i64,.int .i64,.int .i64,.int .i64]
def Zjr (v:Zax):Prop:=InK .i64 v.From/\InK .i64 v.To/\InK .i64 v.By/\InK .i64 v.Next
theorem ZmA:∀ xs,Zcf Zlj xs->∃ v,xs=Zap v/\Zjr v:=by
 intro xs h0
 obtain ⟨x0,t0,rfl,c0,h1⟩:=Zbg h0
 obtain ⟨n0,rfl,r0⟩:=Zcu c0
 obtain ⟨x1,t1,rfl,c1,h2⟩:=Zbg h1
 obtain ⟨n1,rfl,r1⟩:=Zcu c1
 obtain ⟨x2,t2,rfl,c2,h3⟩:=Zbg h2
 obtain ⟨n2,rfl,r2⟩:=Zcu c2
 obtain ⟨x3,t3,rfl,c3,h4⟩:=Zbg h3
 obtain ⟨n3,rfl,r3⟩:=Zcu c3
 obtain rfl:=ZeA h4
 exact ⟨⟨n0,n1,n2,n3⟩,rfl,⟨r0,r1,r2,r3⟩⟩
def D_api_Choice:List CD:=[.int .i64,.sl 4 Zlj]
def ZgB (v:Z7):Prop:=InK .i64 v.Stream/\(v.Arms.length<=maxLen/\∀ x∈v.Arms,Zjr x)
theorem rd_api_Choice:∀ xs,Zcf D_api_Choice xs->∃ v,xs=Zal v/\ZgB v:=by
 intro xs h0
 obtain ⟨x0,t0,rfl,c0,h1⟩:=Zbg h0
 obtain ⟨n0,rfl,r0⟩:=Zcu c0
 obtain ⟨x1,t1,rfl,c1,h2⟩:=Zbg h1
 obtain ⟨n1,rfl,r1⟩:=okPC_sl ZmA c1
 obtain rfl:=ZeA h2
 exact ⟨⟨n0,n1⟩,rfl,⟨r0,r1⟩⟩
def D_law25_Bend:List CD:=[.int .u8,.int .u8,.int .u8,.int .i64]
def Zdr (v:ZaU):Prop:=InK .u8 v.Choice/\InK .u8 v.Arm/\InK .u8 v.What/\InK .i64 v.N_
theorem rd_law25_Bend:∀ xs,Zcf D_law25_Bend xs->∃ v,xs=Zk8 v/\Zdr v:=by
 intro xs h0
 obtain ⟨x0,t0,rfl,c0,h1⟩:=Zbg h0
 obtain ⟨n0,rfl,r0⟩:=Zcu c0
 obtain ⟨x1,t1,rfl,c1,h2⟩:=Zbg h1
 obtain ⟨n1,rfl,r1⟩:=Zcu c1
 obtain ⟨x2,t2,rfl,c2,h3⟩:=Zbg h2
 obtain ⟨n2,rfl,r2⟩:=Zcu c2
 obtain ⟨x3,t3,rfl,c3,h4⟩:=Zbg h3
 obtain ⟨n3,rfl,r3⟩:=Zcu c3
 obtain rfl:=ZeA h4
 exact ⟨⟨n0,n1,n2,n3⟩,rfl,⟨r0,r1,r2,r3⟩⟩
end Go.Sh

