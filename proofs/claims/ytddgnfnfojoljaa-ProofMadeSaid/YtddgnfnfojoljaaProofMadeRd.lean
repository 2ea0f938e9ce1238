/- Part of the proof. -/
import Derived.Test.YtddgnfnfojoljaaProofMadeSh
import Derived.Test.YtddgnfnfojoljaaProofMadeE18
set_option linter.all false
namespace Go.Sh
open Go Go.Eng
def ZkS:List CD:=[.int .u8,.int .u8,.int .u8,.int .u8]
def Zi0 (v:Zig):Prop:=InK .u8 v.x0/\InK .u8 v.x1/\InK .u8 v.x2/\InK .u8 v.x3
theorem Zl8:∀ xs,Zcd ZkS xs->∃ v,xs=Zeb v/\Zi0 v:=by
 intro xs h0
 obtain ⟨x0,t0,rfl,c0,h1⟩:=Zc8 h0
 obtain ⟨n0,rfl,r0⟩:=okPC_int c0
 obtain ⟨x1,t1,rfl,c1,h2⟩:=Zc8 h1
 obtain ⟨n1,rfl,r1⟩:=okPC_int c1
 obtain ⟨x2,t2,rfl,c2,h3⟩:=Zc8 h2
 obtain ⟨n2,rfl,r2⟩:=okPC_int c2
 obtain ⟨x3,t3,rfl,c3,h4⟩:=Zc8 h3
 obtain ⟨n3,rfl,r3⟩:=okPC_int c3
 obtain rfl:=ZhO h4
 exact ⟨⟨n0,n1,n2,n3⟩,rfl,⟨r0,r1,r2,r3⟩⟩
def D_ref24_Draft:List CD:=[.sl 1 [.int .u8],.sl 4 ZkS]
def Zd7 (v:Zbx):Prop:=(v.Periods.length<=maxLen/\∀ x∈v.Periods,InK .u8 x)/\(v.Uses.length<=maxLen/\∀ x∈v.Uses,Zi0 x)
theorem rd_ref24_Draft:∀ xs,Zcd D_ref24_Draft xs->∃ v,xs=ZjG v/\Zd7 v:=by
 intro xs h0
 obtain ⟨x0,t0,rfl,c0,h1⟩:=Zc8 h0
 obtain ⟨n0,rfl,r0⟩:=Zm4 (Zo8 (k:=.u8)) c0
 obtain ⟨x1,t1,rfl,c1,h2⟩:=Zc8 h1
 obtain ⟨n1,rfl,r1⟩:=Zm4 Zl8 c1
 obtain rfl:=ZhO h2
 exact ⟨⟨n0,n1⟩,rfl,⟨r0,r1⟩⟩
def Zf7 (v:Zbe):Prop:=InK .u8 v.Choice/\InK .u8 v.Arm/\InK .u8 v.What/\InK .i64 v.N_
end Go.Sh

