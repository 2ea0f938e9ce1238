/- Part of the proof. -/
import Derived.Test.YtddgnfnfojoljaaProofChecksSh
import Derived.Test.YtddgnfnfojoljaaProofChecksE18
set_option linter.all false
namespace Go.Sh
open Go Go.Eng
def Zlf:List CD:=[.int .u8,.int .u8,.int .u8,.int .u8]
def Zjm (v:ZiB):Prop:=InK .u8 v.x0/\InK .u8 v.x1/\InK .u8 v.x2/\InK .u8 v.x3
theorem Zmu:∀ xs,Zb9 Zlf xs->∃ v,xs=ZeA v/\Zjm v:=by
 intro xs h0
 obtain ⟨x0,t0,rfl,c0,h1⟩:=Za8 h0
 obtain ⟨n0,rfl,r0⟩:=Zct c0
 obtain ⟨x1,t1,rfl,c1,h2⟩:=Za8 h1
 obtain ⟨n1,rfl,r1⟩:=Zct c1
 obtain ⟨x2,t2,rfl,c2,h3⟩:=Za8 h2
 obtain ⟨n2,rfl,r2⟩:=Zct c2
 obtain ⟨x3,t3,rfl,c3,h4⟩:=Za8 h3
 obtain ⟨n3,rfl,r3⟩:=Zct c3
 obtain rfl:=Zey h4
 exact ⟨⟨n0,n1,n2,n3⟩,rfl,⟨r0,r1,r2,r3⟩⟩
def D_ref24_Draft:List CD:=[.sl 1 [.int .u8],.sl 4 Zlf]
def Zdy (v:Zbk):Prop:=(v.Periods.length<=maxLen/\∀ x∈v.Periods,InK .u8 x)/\(v.Uses.length<=maxLen/\∀ x∈v.Uses,Zjm x)
theorem rd_ref24_Draft:∀ xs,Zb9 D_ref24_Draft xs->∃ v,xs=Zj5 v/\Zdy v:=by
 intro xs h0
 obtain ⟨x0,t0,rfl,c0,h1⟩:=Za8 h0
 obtain ⟨n0,rfl,r0⟩:=okPC_sl (Zpf (k:=.u8)) c0
 obtain ⟨x1,t1,rfl,c1,h2⟩:=Za8 h1
 obtain ⟨n1,rfl,r1⟩:=okPC_sl Zmu c1
 obtain rfl:=Zey h2
 exact ⟨⟨n0,n1⟩,rfl,⟨r0,r1⟩⟩
def Zle:List CD:=[.int .i64,.int .i64,.int .i64,.int .i64]
def Zjl (v:Zav):Prop:=InK .i64 v.From/\InK .i64 v.To/\InK .i64 v.By/\InK .i64 v.Next
theorem Zmt:∀ xs,Zb9 Zle xs->∃ v,xs=Zae v/\Zjl v:=by
 intro xs h0
 obtain ⟨x0,t0,rfl,c0,h1⟩:=Za8 h0
 obtain ⟨n0,rfl,r0⟩:=Zct c0
 obtain ⟨x1,t1,rfl,c1,h2⟩:=Za8 h1
 obtain ⟨n1,rfl,r1⟩:=Zct c1
 obtain ⟨x2,t2,rfl,c2,h3⟩:=Za8 h2
 obtain ⟨n2,rfl,r2⟩:=Zct c2
 obtain ⟨x3,t3,rfl,c3,h4⟩:=Za8 h3
 obtain ⟨n3,rfl,r3⟩:=Zct c3
 obtain rfl:=Zey h4
 exact ⟨⟨n0,n1,n2,n3⟩,rfl,⟨r0,r1,r2,r3⟩⟩
def D_api_Choice:List CD:=[.int .i64,.sl 4 Zle]
def Zgq (v:Z3):Prop:=InK .i64 v.Stream/\(v.Arms.length<=maxLen/\∀ x∈v.Arms,Zjl x)
theorem rd_api_Choice:∀ xs,Zb9 D_api_Choice xs->∃ v,xs=Z5 v/\Zgq v:=by
 intro xs h0
 obtain ⟨x0,t0,rfl,c0,h1⟩:=Za8 h0
 obtain ⟨n0,rfl,r0⟩:=Zct c0
 obtain ⟨x1,t1,rfl,c1,h2⟩:=Za8 h1
 obtain ⟨n1,rfl,r1⟩:=okPC_sl Zmt c1
 obtain rfl:=Zey h2
 exact ⟨⟨n0,n1⟩,rfl,⟨r0,r1⟩⟩
def D_law25_Bend:List CD:=[.int .u8,.int .u8,.int .u8,.int .i64]
def ZcL (v:ZaO):Prop:=InK .u8 v.Choice/\InK .u8 v.Arm/\InK .u8 v.What/\InK .i64 v.N_
theorem rd_law25_Bend:∀ xs,Zb9 D_law25_Bend xs->∃ v,xs=Zk3 v/\ZcL v:=by
 intro xs h0
 obtain ⟨x0,t0,rfl,c0,h1⟩:=Za8 h0
 obtain ⟨n0,rfl,r0⟩:=Zct c0
 obtain ⟨x1,t1,rfl,c1,h2⟩:=Za8 h1
 obtain ⟨n1,rfl,r1⟩:=Zct c1
 obtain ⟨x2,t2,rfl,c2,h3⟩:=Za8 h2
 obtain ⟨n2,rfl,r2⟩:=Zct c2
 obtain ⟨x3,t3,rfl,c3,h4⟩:=Za8 h3
 obtain ⟨n3,rfl,r3⟩:=Zct c3
 obtain rfl:=Zey h4
 exact ⟨⟨n0,n1,n2,n3⟩,rfl,⟨r0,r1,r2,r3⟩⟩
end Go.Sh

