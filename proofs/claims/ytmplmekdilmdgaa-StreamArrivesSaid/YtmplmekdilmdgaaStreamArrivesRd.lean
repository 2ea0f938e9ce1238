/- Part of the proof; written by a program out of the texts in wip/. -/
import Derived.Test.YtmplmekdilmdgaaStreamArrivesSh
import Derived.Test.YtmplmekdilmdgaaStreamArrivesE21
namespace Go.Sh
open Go Go.Eng
set_option linter.unusedVariables false
def Zgl (v:Zal):Prop:=InK .u8 v.Bridges∧InK .u8 v.Stations∧(v.Chords.length≤maxLen∧∀ x ∈ v.Chords,InK .u8 x)∧(v.Homes.length≤maxLen∧∀ x ∈ v.Homes,InK .u8 x)∧(v.Pers.length≤maxLen∧∀ x ∈ v.Pers,InK .u8 x)∧(v.Delays.length≤maxLen∧∀ x ∈ v.Delays,InK .u8 x)
def ZgY:List CD:=[.bool,.bool,.int .u8,.int .u8,.int .u8,.int .u8,.int .u8,.int .u16]
def ZeH (v:ZaC):Prop:=True∧True∧InK .u8 v.Node∧InK .u8 v.Way∧InK .u8 v.Size∧InK .u8 v.Period∧InK .u8 v.Burst∧InK .u16 v.Rate
theorem Zjs:∀ xs,Zb4 ZgY xs→∃ v,xs=ZcJ v∧ZeH v:=by
 intro xs h0
 obtain ⟨x0,t0,rfl,c0,h1⟩:=ZC h0
 obtain ⟨n0,rfl⟩:=Zlb c0
 obtain ⟨x1,t1,rfl,c1,h2⟩:=ZC h1
 obtain ⟨n1,rfl⟩:=Zlb c1
 obtain ⟨x2,t2,rfl,c2,h3⟩:=ZC h2
 obtain ⟨n2,rfl,r2⟩:=Z3 c2
 obtain ⟨x3,t3,rfl,c3,h4⟩:=ZC h3
 obtain ⟨n3,rfl,r3⟩:=Z3 c3
 obtain ⟨x4,t4,rfl,c4,h5⟩:=ZC h4
 obtain ⟨n4,rfl,r4⟩:=Z3 c4
 obtain ⟨x5,t5,rfl,c5,h6⟩:=ZC h5
 obtain ⟨n5,rfl,r5⟩:=Z3 c5
 obtain ⟨x6,t6,rfl,c6,h7⟩:=ZC h6
 obtain ⟨n6,rfl,r6⟩:=Z3 c6
 obtain ⟨x7,t7,rfl,c7,h8⟩:=ZC h7
 obtain ⟨n7,rfl,r7⟩:=Z3 c7
 obtain rfl:=ZeU h8
 exact ⟨⟨n0,n1,n2,n3,n4,n5,n6,n7⟩,rfl,⟨trivial,trivial,r2,r3,r4,r5,r6,r7⟩⟩
def Znd (v:Zn3):Prop:=InK .u8 v.x0∧InK .u8 v.x1∧InK .u8 v.x2
def ZkI (v:Zcd):Prop:=InK .i64 v.Burst∧InK .i64 v.Rate
def ZkH (v:Zh):Prop:=InK .i64 v.Id∧InK .i64 v.Talker∧InK .i64 v.Listener∧InK .i64 v.Class∧InK .i64 v.Size∧InK .i64 v.Period∧ZkI v.Bucket∧InK .i64 v.Deadline∧(v.Routes.length≤maxLen∧∀ x ∈ v.Routes,(x.length≤maxLen∧∀ y ∈ x,InK .i64 y))
def ZlG (v:ZL):Prop:=InK .i64 v.Grid∧InK .i64 v.Slack∧InK .i64 v.Proc∧InK .i64 v.Cap
def D_law22_Case:List CD:=[.int .u8,.int .u8,.sl 1 [.int .u8],.sl 1 [.int .u8],.sl 1 [.int .u8],.sl 1 [.int .u8],.sl 8 ZgY,.int .u8,.int .u8,.int .u8,.int .u8,.int .u8,.int .i64,.int .i64,.int .i64,.int .i64,.int .i64,.int .i64,.int .i64,.int .i64,.int .i64,.sl 1 [.sl 1 [.int .i64]],.int .i64,.int .i64,.int .i64,.int .i64]
def Zfi (v:Zc2):Prop:=Zgl v.T∧(v.L.length≤maxLen∧∀ x ∈ v.L,ZeH x)∧Znd v.U∧InK .u8 v.At∧InK .u8 v.Bit∧ZkH v.Odd∧ZlG v.Setup
theorem rd_law22_Case:∀ xs,Zb4 D_law22_Case xs→∃ v,xs=Zlr v∧Zfi v:=by
 intro xs h0
 obtain ⟨x0,t0,rfl,c0,h1⟩:=ZC h0
 obtain ⟨n0,rfl,r0⟩:=Z3 c0
 obtain ⟨x1,t1,rfl,c1,h2⟩:=ZC h1
 obtain ⟨n1,rfl,r1⟩:=Z3 c1
 obtain ⟨x2,t2,rfl,c2,h3⟩:=ZC h2
 obtain ⟨n2,rfl,r2⟩:=Zgu (Zml (k:=.u8)) c2
 obtain ⟨x3,t3,rfl,c3,h4⟩:=ZC h3
 obtain ⟨n3,rfl,r3⟩:=Zgu (Zml (k:=.u8)) c3
 obtain ⟨x4,t4,rfl,c4,h5⟩:=ZC h4
 obtain ⟨n4,rfl,r4⟩:=Zgu (Zml (k:=.u8)) c4
 obtain ⟨x5,t5,rfl,c5,h6⟩:=ZC h5
 obtain ⟨n5,rfl,r5⟩:=Zgu (Zml (k:=.u8)) c5
 obtain ⟨x6,t6,rfl,c6,h7⟩:=ZC h6
 obtain ⟨n6,rfl,r6⟩:=Zgu Zjs c6
 obtain ⟨x7,t7,rfl,c7,h8⟩:=ZC h7
 obtain ⟨n7,rfl,r7⟩:=Z3 c7
 obtain ⟨x8,t8,rfl,c8,h9⟩:=ZC h8
 obtain ⟨n8,rfl,r8⟩:=Z3 c8
 obtain ⟨x9,t9,rfl,c9,h10⟩:=ZC h9
 obtain ⟨n9,rfl,r9⟩:=Z3 c9
 obtain ⟨x10,t10,rfl,c10,h11⟩:=ZC h10
 obtain ⟨n10,rfl,r10⟩:=Z3 c10
 obtain ⟨x11,t11,rfl,c11,h12⟩:=ZC h11
 obtain ⟨n11,rfl,r11⟩:=Z3 c11
 obtain ⟨x12,t12,rfl,c12,h13⟩:=ZC h12
 obtain ⟨n12,rfl,r12⟩:=Z3 c12
 obtain ⟨x13,t13,rfl,c13,h14⟩:=ZC h13
 obtain ⟨n13,rfl,r13⟩:=Z3 c13
 obtain ⟨x14,t14,rfl,c14,h15⟩:=ZC h14
 obtain ⟨n14,rfl,r14⟩:=Z3 c14
 obtain ⟨x15,t15,rfl,c15,h16⟩:=ZC h15
 obtain ⟨n15,rfl,r15⟩:=Z3 c15
 obtain ⟨x16,t16,rfl,c16,h17⟩:=ZC h16
 obtain ⟨n16,rfl,r16⟩:=Z3 c16
 obtain ⟨x17,t17,rfl,c17,h18⟩:=ZC h17
 obtain ⟨n17,rfl,r17⟩:=Z3 c17
 obtain ⟨x18,t18,rfl,c18,h19⟩:=ZC h18
 obtain ⟨n18,rfl,r18⟩:=Z3 c18
 obtain ⟨x19,t19,rfl,c19,h20⟩:=ZC h19
 obtain ⟨n19,rfl,r19⟩:=Z3 c19
 obtain ⟨x20,t20,rfl,c20,h21⟩:=ZC h20
 obtain ⟨n20,rfl,r20⟩:=Z3 c20
 obtain ⟨x21,t21,rfl,c21,h22⟩:=ZC h21
 obtain ⟨n21,rfl,r21⟩:=Zgu (rd_sl Zom) c21
 obtain ⟨x22,t22,rfl,c22,h23⟩:=ZC h22
 obtain ⟨n22,rfl,r22⟩:=Z3 c22
 obtain ⟨x23,t23,rfl,c23,h24⟩:=ZC h23
 obtain ⟨n23,rfl,r23⟩:=Z3 c23
 obtain ⟨x24,t24,rfl,c24,h25⟩:=ZC h24
 obtain ⟨n24,rfl,r24⟩:=Z3 c24
 obtain ⟨x25,t25,rfl,c25,h26⟩:=ZC h25
 obtain ⟨n25,rfl,r25⟩:=Z3 c25
 obtain rfl:=ZeU h26
 exact ⟨⟨⟨n0,n1,n2,n3,n4,n5⟩,n6,⟨n7,n8,n9⟩,n10,n11,⟨n12,n13,n14,n15,n16,n17,⟨n18,n19⟩,n20,n21⟩,⟨n22,n23,n24,n25⟩⟩,rfl,⟨⟨r0,r1,r2,r3,r4,r5⟩,r6,⟨r7,r8,r9⟩,r10,r11,⟨r12,r13,r14,r15,r16,r17,⟨r18,r19⟩,r20,r21⟩,⟨r22,r23,r24,r25⟩⟩⟩
def D_Arr9_i8:List CD:=[.int .i8,.int .i8,.int .i8,.int .i8,.int .i8,.int .i8,.int .i8,.int .i8,.int .i8]
def ZjZ (v:Zcx):Prop:=InK .i8 v.x0∧InK .i8 v.x1∧InK .i8 v.x2∧InK .i8 v.x3∧InK .i8 v.x4∧InK .i8 v.x5∧InK .i8 v.x6∧InK .i8 v.x7∧InK .i8 v.x8
theorem rd_Arr9_i8:∀ xs,Zb4 D_Arr9_i8 xs→∃ v,xs=ZnQ v∧ZjZ v:=by
 intro xs h0
 obtain ⟨x0,t0,rfl,c0,h1⟩:=ZC h0
 obtain ⟨n0,rfl,r0⟩:=Z3 c0
 obtain ⟨x1,t1,rfl,c1,h2⟩:=ZC h1
 obtain ⟨n1,rfl,r1⟩:=Z3 c1
 obtain ⟨x2,t2,rfl,c2,h3⟩:=ZC h2
 obtain ⟨n2,rfl,r2⟩:=Z3 c2
 obtain ⟨x3,t3,rfl,c3,h4⟩:=ZC h3
 obtain ⟨n3,rfl,r3⟩:=Z3 c3
 obtain ⟨x4,t4,rfl,c4,h5⟩:=ZC h4
 obtain ⟨n4,rfl,r4⟩:=Z3 c4
 obtain ⟨x5,t5,rfl,c5,h6⟩:=ZC h5
 obtain ⟨n5,rfl,r5⟩:=Z3 c5
 obtain ⟨x6,t6,rfl,c6,h7⟩:=ZC h6
 obtain ⟨n6,rfl,r6⟩:=Z3 c6
 obtain ⟨x7,t7,rfl,c7,h8⟩:=ZC h7
 obtain ⟨n7,rfl,r7⟩:=Z3 c7
 obtain ⟨x8,t8,rfl,c8,h9⟩:=ZC h8
 obtain ⟨n8,rfl,r8⟩:=Z3 c8
 obtain rfl:=ZeU h9
 exact ⟨⟨n0,n1,n2,n3,n4,n5,n6,n7,n8⟩,rfl,⟨r0,r1,r2,r3,r4,r5,r6,r7,r8⟩⟩
end Go.Sh

