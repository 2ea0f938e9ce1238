/- Part of the proof. -/
import Derived.Test.YthhhjjjbpcaadaaSolveSearchesSh
import Derived.Test.YthhhjjjbpcaadaaSolveSearchesE18
set_option linter.all false
namespace Go.Sh
open Go Go.Eng
def Zkq:List CD:=[.int .u8,.int .u8,.int .u8,.int .u8]
def ZiJ (v:ZhV):Prop:=InK .u8 v.x0/\InK .u8 v.x1/\InK .u8 v.x2/\InK .u8 v.x3
theorem ZlP:∀ xs,ZbP Zkq xs->∃ v,xs=Zd0 v/\ZiJ v:=by
 intro xs h0
 obtain ⟨x0,t0,rfl,c0,h1⟩:=Zbg h0
 obtain ⟨n0,rfl,r0⟩:=okPC_int c0
 obtain ⟨x1,t1,rfl,c1,h2⟩:=Zbg h1
 obtain ⟨n1,rfl,r1⟩:=okPC_int c1
 obtain ⟨x2,t2,rfl,c2,h3⟩:=Zbg h2
 obtain ⟨n2,rfl,r2⟩:=okPC_int c2
 obtain ⟨x3,t3,rfl,c3,h4⟩:=Zbg h3
 obtain ⟨n3,rfl,r3⟩:=okPC_int c3
 obtain rfl:=ZdW h4
 exact ⟨⟨n0,n1,n2,n3⟩,rfl,⟨r0,r1,r2,r3⟩⟩
def D_ref24_Draft:List CD:=[.sl 1 [.int .u8],.sl 4 Zkq]
def ZdO (v:Zbn):Prop:=(v.Periods.length<=maxLen/\∀ x∈v.Periods,InK .u8 x)/\(v.Uses.length<=maxLen/\∀ x∈v.Uses,ZiJ x)
theorem rd_ref24_Draft:∀ xs,ZbP D_ref24_Draft xs->∃ v,xs=Zje v/\ZdO v:=by
 intro xs h0
 obtain ⟨x0,t0,rfl,c0,h1⟩:=Zbg h0
 obtain ⟨n0,rfl,r0⟩:=Zi2 (ZoB (k:=.u8)) c0
 obtain ⟨x1,t1,rfl,c1,h2⟩:=Zbg h1
 obtain ⟨n1,rfl,r1⟩:=Zi2 ZlP c1
 obtain rfl:=ZdW h2
 exact ⟨⟨n0,n1⟩,rfl,⟨r0,r1⟩⟩
def Zkp:List CD:=[.int .i64,.int .i64,.int .i64,.int .i64]
def ZiI (v:Zax):Prop:=InK .i64 v.Stream/\InK .i64 v.Port/\InK .i64 v.From/\InK .i64 v.Long
theorem ZlO:∀ xs,ZbP Zkp xs->∃ v,xs=Zan v/\ZiI v:=by
 intro xs h0
 obtain ⟨x0,t0,rfl,c0,h1⟩:=Zbg h0
 obtain ⟨n0,rfl,r0⟩:=okPC_int c0
 obtain ⟨x1,t1,rfl,c1,h2⟩:=Zbg h1
 obtain ⟨n1,rfl,r1⟩:=okPC_int c1
 obtain ⟨x2,t2,rfl,c2,h3⟩:=Zbg h2
 obtain ⟨n2,rfl,r2⟩:=okPC_int c2
 obtain ⟨x3,t3,rfl,c3,h4⟩:=Zbg h3
 obtain ⟨n3,rfl,r3⟩:=okPC_int c3
 obtain rfl:=ZdW h4
 exact ⟨⟨n0,n1,n2,n3⟩,rfl,⟨r0,r1,r2,r3⟩⟩
def D_api_Problem:List CD:=[.sl 1 [.int .i64],.sl 4 Zkp]
def Zfh (v:Z3):Prop:=(v.Periods.length<=maxLen/\∀ x∈v.Periods,InK .i64 x)/\(v.Uses.length<=maxLen/\∀ x∈v.Uses,ZiI x)
theorem rd_api_Problem:∀ xs,ZbP D_api_Problem xs->∃ v,xs=Zjf v/\Zfh v:=by
 intro xs h0
 obtain ⟨x0,t0,rfl,c0,h1⟩:=Zbg h0
 obtain ⟨n0,rfl,r0⟩:=Zi2 ZnB c0
 obtain ⟨x1,t1,rfl,c1,h2⟩:=Zbg h1
 obtain ⟨n1,rfl,r1⟩:=Zi2 ZlO c1
 obtain rfl:=ZdW h2
 exact ⟨⟨n0,n1⟩,rfl,⟨r0,r1⟩⟩
end Go.Sh

