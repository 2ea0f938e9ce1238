/- Part of the proof. -/
import Derived.Test.YthhhjjjbpcaadaaSolveLeastSh
import Derived.Test.YthhhjjjbpcaadaaSolveLeastE18
set_option linter.all false
namespace Go.Sh
open Go Go.Eng
def ZjX:List CD:=[.int .u8,.int .u8,.int .u8,.int .u8]
def Zil (v:ZhB):Prop:=InK .u8 v.x0/\InK .u8 v.x1/\InK .u8 v.x2/\InK .u8 v.x3
theorem Zld:∀ xs,ZbH ZjX xs->∃ v,xs=ZdJ v/\Zil v:=by
 intro xs h0
 obtain ⟨x0,t0,rfl,c0,h1⟩:=Zcw h0
 obtain ⟨n0,rfl,r0⟩:=Zfo c0
 obtain ⟨x1,t1,rfl,c1,h2⟩:=Zcw h1
 obtain ⟨n1,rfl,r1⟩:=Zfo c1
 obtain ⟨x2,t2,rfl,c2,h3⟩:=Zcw h2
 obtain ⟨n2,rfl,r2⟩:=Zfo c2
 obtain ⟨x3,t3,rfl,c3,h4⟩:=Zcw h3
 obtain ⟨n3,rfl,r3⟩:=Zfo c3
 obtain rfl:=Zhe h4
 exact ⟨⟨n0,n1,n2,n3⟩,rfl,⟨r0,r1,r2,r3⟩⟩
def D_ref24_Draft:List CD:=[.sl 1 [.int .u8],.sl 4 ZjX]
def Zdx (v:Zbc):Prop:=(v.Periods.length<=maxLen/\∀ x∈v.Periods,InK .u8 x)/\(v.Uses.length<=maxLen/\∀ x∈v.Uses,Zil x)
theorem rd_ref24_Draft:∀ xs,ZbH D_ref24_Draft xs->∃ v,xs=ZiP v/\Zdx v:=by
 intro xs h0
 obtain ⟨x0,t0,rfl,c0,h1⟩:=Zcw h0
 obtain ⟨n0,rfl,r0⟩:=okPC_sl (rd_int (k:=.u8)) c0
 obtain ⟨x1,t1,rfl,c1,h2⟩:=Zcw h1
 obtain ⟨n1,rfl,r1⟩:=okPC_sl Zld c1
 obtain rfl:=Zhe h2
 exact ⟨⟨n0,n1⟩,rfl,⟨r0,r1⟩⟩
end Go.Sh

