/- Part of the proof; written by a program out of the texts in wip/. -/
import Derived.Test.YtmplmekdilmdgaaStreamHopsSh
import Derived.Test.YtmplmekdilmdgaaStreamHopsE21
namespace Go.Sh
open Go Go.Eng
set_option linter.unusedVariables false
def ZgZ (v:Zau):Prop:=InK .u8 v.Bridges∧InK .u8 v.Stations∧(v.Chords.length≤maxLen∧∀ x ∈ v.Chords,InK .u8 x)∧(v.Homes.length≤maxLen∧∀ x ∈ v.Homes,InK .u8 x)∧(v.Pers.length≤maxLen∧∀ x ∈ v.Pers,InK .u8 x)∧(v.Delays.length≤maxLen∧∀ x ∈ v.Delays,InK .u8 x)
def ZhE:List CD:=[.bool,.bool,.int .u8,.int .u8,.int .u8,.int .u8,.int .u8,.int .u16]
def Zfi (v:ZaS):Prop:=True∧True∧InK .u8 v.Node∧InK .u8 v.Way∧InK .u8 v.Size∧InK .u8 v.Period∧InK .u8 v.Burst∧InK .u16 v.Rate
theorem Zkg:∀ xs,ZcA ZhE xs→∃ v,xs=Zc5 v∧Zfi v:=by
 intro xs h0
 obtain ⟨x0,t0,rfl,c0,h1⟩:=ZQ h0
 obtain ⟨n0,rfl⟩:=ZlV c0
 obtain ⟨x1,t1,rfl,c1,h2⟩:=ZQ h1
 obtain ⟨n1,rfl⟩:=ZlV c1
 obtain ⟨x2,t2,rfl,c2,h3⟩:=ZQ h2
 obtain ⟨n2,rfl,r2⟩:=okPC_int c2
 obtain ⟨x3,t3,rfl,c3,h4⟩:=ZQ h3
 obtain ⟨n3,rfl,r3⟩:=okPC_int c3
 obtain ⟨x4,t4,rfl,c4,h5⟩:=ZQ h4
 obtain ⟨n4,rfl,r4⟩:=okPC_int c4
 obtain ⟨x5,t5,rfl,c5,h6⟩:=ZQ h5
 obtain ⟨n5,rfl,r5⟩:=okPC_int c5
 obtain ⟨x6,t6,rfl,c6,h7⟩:=ZQ h6
 obtain ⟨n6,rfl,r6⟩:=okPC_int c6
 obtain ⟨x7,t7,rfl,c7,h8⟩:=ZQ h7
 obtain ⟨n7,rfl,r7⟩:=okPC_int c7
 obtain rfl:=Zgi h8
 exact ⟨⟨n0,n1,n2,n3,n4,n5,n6,n7⟩,rfl,⟨trivial,trivial,r2,r3,r4,r5,r6,r7⟩⟩
def ZnU (v:ZoH):Prop:=InK .u8 v.x0∧InK .u8 v.x1∧InK .u8 v.x2
def Zlu (v:Zbv):Prop:=InK .i64 v.Burst∧InK .i64 v.Rate
def Zlt (v:Zm):Prop:=InK .i64 v.Id∧InK .i64 v.Talker∧InK .i64 v.Listener∧InK .i64 v.Class∧InK .i64 v.Size∧InK .i64 v.Period∧Zlu v.Bucket∧InK .i64 v.Deadline∧(v.Routes.length≤maxLen∧∀ x ∈ v.Routes,(x.length≤maxLen∧∀ y ∈ x,InK .i64 y))
def Zmr (v:ZE):Prop:=InK .i64 v.Grid∧InK .i64 v.Slack∧InK .i64 v.Proc∧InK .i64 v.Cap
def D_law22_Case:List CD:=[.int .u8,.int .u8,.sl 1 [.int .u8],.sl 1 [.int .u8],.sl 1 [.int .u8],.sl 1 [.int .u8],.sl 8 ZhE,.int .u8,.int .u8,.int .u8,.int .u8,.int .u8,.int .i64,.int .i64,.int .i64,.int .i64,.int .i64,.int .i64,.int .i64,.int .i64,.int .i64,.sl 1 [.sl 1 [.int .i64]],.int .i64,.int .i64,.int .i64,.int .i64]
def Zev (v:Zbj):Prop:=ZgZ v.T∧(v.L.length≤maxLen∧∀ x ∈ v.L,Zfi x)∧ZnU v.U∧InK .u8 v.At∧InK .u8 v.Bit∧Zlt v.Odd∧Zmr v.Setup
theorem rd_law22_Case:∀ xs,ZcA D_law22_Case xs→∃ v,xs=Zmd v∧Zev v:=by
 intro xs h0
 obtain ⟨x0,t0,rfl,c0,h1⟩:=ZQ h0
 obtain ⟨n0,rfl,r0⟩:=okPC_int c0
 obtain ⟨x1,t1,rfl,c1,h2⟩:=ZQ h1
 obtain ⟨n1,rfl,r1⟩:=okPC_int c1
 obtain ⟨x2,t2,rfl,c2,h3⟩:=ZQ h2
 obtain ⟨n2,rfl,r2⟩:=Zg5 (Zm4 (k:=.u8)) c2
 obtain ⟨x3,t3,rfl,c3,h4⟩:=ZQ h3
 obtain ⟨n3,rfl,r3⟩:=Zg5 (Zm4 (k:=.u8)) c3
 obtain ⟨x4,t4,rfl,c4,h5⟩:=ZQ h4
 obtain ⟨n4,rfl,r4⟩:=Zg5 (Zm4 (k:=.u8)) c4
 obtain ⟨x5,t5,rfl,c5,h6⟩:=ZQ h5
 obtain ⟨n5,rfl,r5⟩:=Zg5 (Zm4 (k:=.u8)) c5
 obtain ⟨x6,t6,rfl,c6,h7⟩:=ZQ h6
 obtain ⟨n6,rfl,r6⟩:=Zg5 Zkg c6
 obtain ⟨x7,t7,rfl,c7,h8⟩:=ZQ h7
 obtain ⟨n7,rfl,r7⟩:=okPC_int c7
 obtain ⟨x8,t8,rfl,c8,h9⟩:=ZQ h8
 obtain ⟨n8,rfl,r8⟩:=okPC_int c8
 obtain ⟨x9,t9,rfl,c9,h10⟩:=ZQ h9
 obtain ⟨n9,rfl,r9⟩:=okPC_int c9
 obtain ⟨x10,t10,rfl,c10,h11⟩:=ZQ h10
 obtain ⟨n10,rfl,r10⟩:=okPC_int c10
 obtain ⟨x11,t11,rfl,c11,h12⟩:=ZQ h11
 obtain ⟨n11,rfl,r11⟩:=okPC_int c11
 obtain ⟨x12,t12,rfl,c12,h13⟩:=ZQ h12
 obtain ⟨n12,rfl,r12⟩:=okPC_int c12
 obtain ⟨x13,t13,rfl,c13,h14⟩:=ZQ h13
 obtain ⟨n13,rfl,r13⟩:=okPC_int c13
 obtain ⟨x14,t14,rfl,c14,h15⟩:=ZQ h14
 obtain ⟨n14,rfl,r14⟩:=okPC_int c14
 obtain ⟨x15,t15,rfl,c15,h16⟩:=ZQ h15
 obtain ⟨n15,rfl,r15⟩:=okPC_int c15
 obtain ⟨x16,t16,rfl,c16,h17⟩:=ZQ h16
 obtain ⟨n16,rfl,r16⟩:=okPC_int c16
 obtain ⟨x17,t17,rfl,c17,h18⟩:=ZQ h17
 obtain ⟨n17,rfl,r17⟩:=okPC_int c17
 obtain ⟨x18,t18,rfl,c18,h19⟩:=ZQ h18
 obtain ⟨n18,rfl,r18⟩:=okPC_int c18
 obtain ⟨x19,t19,rfl,c19,h20⟩:=ZQ h19
 obtain ⟨n19,rfl,r19⟩:=okPC_int c19
 obtain ⟨x20,t20,rfl,c20,h21⟩:=ZQ h20
 obtain ⟨n20,rfl,r20⟩:=okPC_int c20
 obtain ⟨x21,t21,rfl,c21,h22⟩:=ZQ h21
 obtain ⟨n21,rfl,r21⟩:=Zg5 (rd_sl ZoZ) c21
 obtain ⟨x22,t22,rfl,c22,h23⟩:=ZQ h22
 obtain ⟨n22,rfl,r22⟩:=okPC_int c22
 obtain ⟨x23,t23,rfl,c23,h24⟩:=ZQ h23
 obtain ⟨n23,rfl,r23⟩:=okPC_int c23
 obtain ⟨x24,t24,rfl,c24,h25⟩:=ZQ h24
 obtain ⟨n24,rfl,r24⟩:=okPC_int c24
 obtain ⟨x25,t25,rfl,c25,h26⟩:=ZQ h25
 obtain ⟨n25,rfl,r25⟩:=okPC_int c25
 obtain rfl:=Zgi h26
 exact ⟨⟨⟨n0,n1,n2,n3,n4,n5⟩,n6,⟨n7,n8,n9⟩,n10,n11,⟨n12,n13,n14,n15,n16,n17,⟨n18,n19⟩,n20,n21⟩,⟨n22,n23,n24,n25⟩⟩,rfl,⟨⟨r0,r1,r2,r3,r4,r5⟩,r6,⟨r7,r8,r9⟩,r10,r11,⟨r12,r13,r14,r15,r16,r17,⟨r18,r19⟩,r20,r21⟩,⟨r22,r23,r24,r25⟩⟩⟩
end Go.Sh

