/- Part of the proof. -/
import Derived.Test.YthhhjjjbpcaadaaSolveTellsSh
import Derived.Test.YthhhjjjbpcaadaaSolveTellsE18
set_option linter.all false
namespace Go.Sh
open Go Go.Eng
def Zlb:List CD:=[.int .u8,.int .u8,.int .u8,.int .u8]
def Zjf (v:Zip):Prop:=InK .u8 v.x0/\InK .u8 v.x1/\InK .u8 v.x2/\InK .u8 v.x3
theorem ZmC:∀ xs,Zb4 Zlb xs->∃ v,xs=Zej v/\Zjf v:=by
 intro xs h0
 obtain ⟨x0,t0,rfl,c0,h1⟩:=ZcZ h0
 obtain ⟨n0,rfl,r0⟩:=okPC_int c0
 obtain ⟨x1,t1,rfl,c1,h2⟩:=ZcZ h1
 obtain ⟨n1,rfl,r1⟩:=okPC_int c1
 obtain ⟨x2,t2,rfl,c2,h3⟩:=ZcZ h2
 obtain ⟨n2,rfl,r2⟩:=okPC_int c2
 obtain ⟨x3,t3,rfl,c3,h4⟩:=ZcZ h3
 obtain ⟨n3,rfl,r3⟩:=okPC_int c3
 obtain rfl:=ZhY h4
 exact ⟨⟨n0,n1,n2,n3⟩,rfl,⟨r0,r1,r2,r3⟩⟩
def D_ref24_Draft:List CD:=[.sl 1 [.int .u8],.sl 4 Zlb]
def Zd8 (v:Zbu):Prop:=(v.Periods.length<=maxLen/\∀ x∈v.Periods,InK .u8 x)/\(v.Uses.length<=maxLen/\∀ x∈v.Uses,Zjf x)
theorem rd_ref24_Draft:∀ xs,Zb4 D_ref24_Draft xs->∃ v,xs=ZjW v/\Zd8 v:=by
 intro xs h0
 obtain ⟨x0,t0,rfl,c0,h1⟩:=ZcZ h0
 obtain ⟨n0,rfl,r0⟩:=okPC_sl (rd_int (k:=.u8)) c0
 obtain ⟨x1,t1,rfl,c1,h2⟩:=ZcZ h1
 obtain ⟨n1,rfl,r1⟩:=okPC_sl ZmC c1
 obtain rfl:=ZhY h2
 exact ⟨⟨n0,n1⟩,rfl,⟨r0,r1⟩⟩
end Go.Sh

