/- Part of the proof; written by a program out of the texts in wip/. -/
import Derived.Test.YtmplmekdilmdgaaStreamGridsSh
import Derived.Test.YtmplmekdilmdgaaStreamGridsE21
namespace Go.Sh
open Go Go.Eng
set_option linter.unusedVariables false
def Rg_ref16_Draft (v:ref16_Draft):Prop:=InK .u8 v.Bridges∧InK .u8 v.Stations∧(v.Chords.length ≤ maxLen∧∀ x ∈ v.Chords,InK .u8 x)∧(v.Homes.length ≤ maxLen∧∀ x ∈ v.Homes,InK .u8 x)∧(v.Pers.length ≤ maxLen∧∀ x ∈ v.Pers,InK .u8 x)∧(v.Delays.length ≤ maxLen∧∀ x ∈ v.Delays,InK .u8 x)
def D_ref22_Draft:List CD:=[.bool,.bool,.int .u8,.int .u8,.int .u8,.int .u8,.int .u8,.int .u16]
def Rg_ref22_Draft (v:ref22_Draft):Prop:=True∧True∧InK .u8 v.Node∧InK .u8 v.Way∧InK .u8 v.Size∧InK .u8 v.Period∧InK .u8 v.Burst∧InK .u16 v.Rate
theorem rd_ref22_Draft:∀ xs,okPCs D_ref22_Draft xs→∃ v,xs=e_ref22_Draft v∧Rg_ref22_Draft v:=by
 intro xs h0
 obtain ⟨x0,t0,rfl,c0,h1⟩:=okPCs_cons h0
 obtain ⟨n0,rfl⟩:=okPC_bool c0
 obtain ⟨x1,t1,rfl,c1,h2⟩:=okPCs_cons h1
 obtain ⟨n1,rfl⟩:=okPC_bool c1
 obtain ⟨x2,t2,rfl,c2,h3⟩:=okPCs_cons h2
 obtain ⟨n2,rfl,r2⟩:=okPC_int c2
 obtain ⟨x3,t3,rfl,c3,h4⟩:=okPCs_cons h3
 obtain ⟨n3,rfl,r3⟩:=okPC_int c3
 obtain ⟨x4,t4,rfl,c4,h5⟩:=okPCs_cons h4
 obtain ⟨n4,rfl,r4⟩:=okPC_int c4
 obtain ⟨x5,t5,rfl,c5,h6⟩:=okPCs_cons h5
 obtain ⟨n5,rfl,r5⟩:=okPC_int c5
 obtain ⟨x6,t6,rfl,c6,h7⟩:=okPCs_cons h6
 obtain ⟨n6,rfl,r6⟩:=okPC_int c6
 obtain ⟨x7,t7,rfl,c7,h8⟩:=okPCs_cons h7
 obtain ⟨n7,rfl,r7⟩:=okPC_int c7
 obtain rfl:=okPCs_nil h8
 exact ⟨⟨n0,n1,n2,n3,n4,n5,n6,n7⟩,rfl,⟨trivial,trivial,r2,r3,r4,r5,r6,r7⟩⟩
def Rg_Arr3_u8 (v:Arr3_u8):Prop:=InK .u8 v.x0∧InK .u8 v.x1∧InK .u8 v.x2
def Rg_api_Bucket (v:api_Bucket):Prop:=InK .i64 v.Burst∧InK .i64 v.Rate
def Rg_api_Stream (v:api_Stream):Prop:=InK .i64 v.Id∧InK .i64 v.Talker∧InK .i64 v.Listener∧InK .i64 v.Class∧InK .i64 v.Size∧InK .i64 v.Period∧Rg_api_Bucket v.Bucket∧InK .i64 v.Deadline∧(v.Routes.length ≤ maxLen∧∀ x ∈ v.Routes,(x.length ≤ maxLen∧∀ y ∈ x,InK .i64 y))
def Rg_api_Setup (v:api_Setup):Prop:=InK .i64 v.Grid∧InK .i64 v.Slack∧InK .i64 v.Proc∧InK .i64 v.Cap
def D_law22_Case:List CD:=[.int .u8,.int .u8,.sl 1 [.int .u8],.sl 1 [.int .u8],.sl 1 [.int .u8],.sl 1 [.int .u8],.sl 8 D_ref22_Draft,.int .u8,.int .u8,.int .u8,.int .u8,.int .u8,.int .i64,.int .i64,.int .i64,.int .i64,.int .i64,.int .i64,.int .i64,.int .i64,.int .i64,.sl 1 [.sl 1 [.int .i64]],.int .i64,.int .i64,.int .i64,.int .i64]
def Rg_law22_Case (v:law22_Case):Prop:=Rg_ref16_Draft v.T∧(v.L.length ≤ maxLen∧∀ x ∈ v.L,Rg_ref22_Draft x)∧Rg_Arr3_u8 v.U∧InK .u8 v.At∧InK .u8 v.Bit∧Rg_api_Stream v.Odd∧Rg_api_Setup v.Setup
theorem rd_law22_Case:∀ xs,okPCs D_law22_Case xs→∃ v,xs=e_law22_Case v∧Rg_law22_Case v:=by
 intro xs h0
 obtain ⟨x0,t0,rfl,c0,h1⟩:=okPCs_cons h0
 obtain ⟨n0,rfl,r0⟩:=okPC_int c0
 obtain ⟨x1,t1,rfl,c1,h2⟩:=okPCs_cons h1
 obtain ⟨n1,rfl,r1⟩:=okPC_int c1
 obtain ⟨x2,t2,rfl,c2,h3⟩:=okPCs_cons h2
 obtain ⟨n2,rfl,r2⟩:=okPC_sl (rd_int (k:=.u8)) c2
 obtain ⟨x3,t3,rfl,c3,h4⟩:=okPCs_cons h3
 obtain ⟨n3,rfl,r3⟩:=okPC_sl (rd_int (k:=.u8)) c3
 obtain ⟨x4,t4,rfl,c4,h5⟩:=okPCs_cons h4
 obtain ⟨n4,rfl,r4⟩:=okPC_sl (rd_int (k:=.u8)) c4
 obtain ⟨x5,t5,rfl,c5,h6⟩:=okPCs_cons h5
 obtain ⟨n5,rfl,r5⟩:=okPC_sl (rd_int (k:=.u8)) c5
 obtain ⟨x6,t6,rfl,c6,h7⟩:=okPCs_cons h6
 obtain ⟨n6,rfl,r6⟩:=okPC_sl rd_ref22_Draft c6
 obtain ⟨x7,t7,rfl,c7,h8⟩:=okPCs_cons h7
 obtain ⟨n7,rfl,r7⟩:=okPC_int c7
 obtain ⟨x8,t8,rfl,c8,h9⟩:=okPCs_cons h8
 obtain ⟨n8,rfl,r8⟩:=okPC_int c8
 obtain ⟨x9,t9,rfl,c9,h10⟩:=okPCs_cons h9
 obtain ⟨n9,rfl,r9⟩:=okPC_int c9
 obtain ⟨x10,t10,rfl,c10,h11⟩:=okPCs_cons h10
 obtain ⟨n10,rfl,r10⟩:=okPC_int c10
 obtain ⟨x11,t11,rfl,c11,h12⟩:=okPCs_cons h11
 obtain ⟨n11,rfl,r11⟩:=okPC_int c11
 obtain ⟨x12,t12,rfl,c12,h13⟩:=okPCs_cons h12
 obtain ⟨n12,rfl,r12⟩:=okPC_int c12
 obtain ⟨x13,t13,rfl,c13,h14⟩:=okPCs_cons h13
 obtain ⟨n13,rfl,r13⟩:=okPC_int c13
 obtain ⟨x14,t14,rfl,c14,h15⟩:=okPCs_cons h14
 obtain ⟨n14,rfl,r14⟩:=okPC_int c14
 obtain ⟨x15,t15,rfl,c15,h16⟩:=okPCs_cons h15
 obtain ⟨n15,rfl,r15⟩:=okPC_int c15
 obtain ⟨x16,t16,rfl,c16,h17⟩:=okPCs_cons h16
 obtain ⟨n16,rfl,r16⟩:=okPC_int c16
 obtain ⟨x17,t17,rfl,c17,h18⟩:=okPCs_cons h17
 obtain ⟨n17,rfl,r17⟩:=okPC_int c17
 obtain ⟨x18,t18,rfl,c18,h19⟩:=okPCs_cons h18
 obtain ⟨n18,rfl,r18⟩:=okPC_int c18
 obtain ⟨x19,t19,rfl,c19,h20⟩:=okPCs_cons h19
 obtain ⟨n19,rfl,r19⟩:=okPC_int c19
 obtain ⟨x20,t20,rfl,c20,h21⟩:=okPCs_cons h20
 obtain ⟨n20,rfl,r20⟩:=okPC_int c20
 obtain ⟨x21,t21,rfl,c21,h22⟩:=okPCs_cons h21
 obtain ⟨n21,rfl,r21⟩:=okPC_sl (rd_sl rd_int64) c21
 obtain ⟨x22,t22,rfl,c22,h23⟩:=okPCs_cons h22
 obtain ⟨n22,rfl,r22⟩:=okPC_int c22
 obtain ⟨x23,t23,rfl,c23,h24⟩:=okPCs_cons h23
 obtain ⟨n23,rfl,r23⟩:=okPC_int c23
 obtain ⟨x24,t24,rfl,c24,h25⟩:=okPCs_cons h24
 obtain ⟨n24,rfl,r24⟩:=okPC_int c24
 obtain ⟨x25,t25,rfl,c25,h26⟩:=okPCs_cons h25
 obtain ⟨n25,rfl,r25⟩:=okPC_int c25
 obtain rfl:=okPCs_nil h26
 exact ⟨⟨⟨n0,n1,n2,n3,n4,n5⟩,n6,⟨n7,n8,n9⟩,n10,n11,⟨n12,n13,n14,n15,n16,n17,⟨n18,n19⟩,n20,n21⟩,⟨n22,n23,n24,n25⟩⟩,rfl,⟨⟨r0,r1,r2,r3,r4,r5⟩,r6,⟨r7,r8,r9⟩,r10,r11,⟨r12,r13,r14,r15,r16,r17,⟨r18,r19⟩,r20,r21⟩,⟨r22,r23,r24,r25⟩⟩⟩
end Go.Sh

