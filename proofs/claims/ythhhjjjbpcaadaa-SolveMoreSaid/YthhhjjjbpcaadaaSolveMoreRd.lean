/- Part of the proof. -/
import Derived.Test.YthhhjjjbpcaadaaSolveMoreSh
import Derived.Test.YthhhjjjbpcaadaaSolveMoreE18
set_option linter.all false
namespace Go.Sh
open Go Go.Eng
def Zje:List CD:=[.int .u8,.int .u8,.int .u8,.int .u8]
def ZhD (v:ZgX):Prop:=InK .u8 v.x0/\InK .u8 v.x1/\InK .u8 v.x2/\InK .u8 v.x3
theorem Zkz:∀ xs,Zbx Zje xs->∃ v,xs=Zdp v/\ZhD v:=by
 intro xs h0
 obtain ⟨x0,t0,rfl,c0,h1⟩:=Zck h0
 obtain ⟨n0,rfl,r0⟩:=okPC_int c0
 obtain ⟨x1,t1,rfl,c1,h2⟩:=Zck h1
 obtain ⟨n1,rfl,r1⟩:=okPC_int c1
 obtain ⟨x2,t2,rfl,c2,h3⟩:=Zck h2
 obtain ⟨n2,rfl,r2⟩:=okPC_int c2
 obtain ⟨x3,t3,rfl,c3,h4⟩:=Zck h3
 obtain ⟨n3,rfl,r3⟩:=okPC_int c3
 obtain rfl:=ZgD h4
 exact ⟨⟨n0,n1,n2,n3⟩,rfl,⟨r0,r1,r2,r3⟩⟩
def D_ref24_Draft:List CD:=[.sl 1 [.int .u8],.sl 4 Zje]
def Zdd (v:Za4):Prop:=(v.Periods.length<=maxLen/\∀ x∈v.Periods,InK .u8 x)/\(v.Uses.length<=maxLen/\∀ x∈v.Uses,ZhD x)
theorem rd_ref24_Draft:∀ xs,Zbx D_ref24_Draft xs->∃ v,xs=Zh8 v/\Zdd v:=by
 intro xs h0
 obtain ⟨x0,t0,rfl,c0,h1⟩:=Zck h0
 obtain ⟨n0,rfl,r0⟩:=Zlx (Znl (k:=.u8)) c0
 obtain ⟨x1,t1,rfl,c1,h2⟩:=Zck h1
 obtain ⟨n1,rfl,r1⟩:=Zlx Zkz c1
 obtain rfl:=ZgD h2
 exact ⟨⟨n0,n1⟩,rfl,⟨r0,r1⟩⟩
end Go.Sh

