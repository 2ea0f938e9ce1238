/- The plain Lean functions that the Go functions of this seat compute; written by sym.py. -/
import Derived.Test.YtpadgoejolfllaaE25
namespace Go.Sh
open Go Go.Eng
set_option linter.unusedVariables false
set_option linter.unusedSimpArgs false
set_option maxRecDepth 100000
structure ref27_Draft where
  Masks : (List Int)
  Longs : (List Int)
def e_ref27_Draft (v : ref27_Draft) : List PC := [.sl 1 false (List.map (eI .u8) v.Masks), .sl 1 false (List.map (eI .u8) v.Longs)]
structure ref29_Draft where
  Oper : ref27_Draft
  Admin : ref27_Draft
  Base : Int
  Pending : Bool
  Later : Int
def e_ref29_Draft (v : ref29_Draft) : List PC := [.sl 1 false (List.map (eI .u8) v.Oper.Masks), .sl 1 false (List.map (eI .u8) v.Oper.Longs), .sl 1 false (List.map (eI .u8) v.Admin.Masks), .sl 1 false (List.map (eI .u8) v.Admin.Longs), .int .i16 v.Base, .bool v.Pending, .int .u8 v.Later]
structure api_Entry where
  Mask : Int
  Long : Int
def e_api_Entry (v : api_Entry) : List PC := [.int .i64 v.Mask, .int .i64 v.Long]
structure api_Gates where
  Entries : (List api_Entry)
  Cycle : Int
def e_api_Gates (v : api_Gates) : List PC := [.sl 2 false (List.map e_api_Entry v.Entries), .int .i64 v.Cycle]
structure law29_Bend where
  What : Int
  N_ : Int
  G : api_Gates
def e_law29_Bend (v : law29_Bend) : List PC := [.int .u8 v.What, .int .i64 v.N_, .sl 2 false (List.map e_api_Entry v.G.Entries), .int .i64 v.G.Cycle]
structure api_Change where
  Oper : api_Gates
  Base : Int
  Pending : Bool
  Admin : api_Gates
  When : Int
def e_api_Change (v : api_Change) : List PC := [.sl 2 false (List.map e_api_Entry v.Oper.Entries), .int .i64 v.Oper.Cycle, .int .i64 v.Base, .bool v.Pending, .sl 2 false (List.map e_api_Entry v.Admin.Entries), .int .i64 v.Admin.Cycle, .int .i64 v.When]
structure swap_state where
  Change : api_Change
def e_swap_state (v : swap_state) : List PC := [.sl 2 false (List.map e_api_Entry v.Change.Oper.Entries), .int .i64 v.Change.Oper.Cycle, .int .i64 v.Change.Base, .bool v.Change.Pending, .sl 2 false (List.map e_api_Entry v.Change.Admin.Entries), .int .i64 v.Change.Admin.Cycle, .int .i64 v.Change.When]
structure swap_part where
  list : api_Gates
  at_ : Int
  long : Int
def e_swap_part (v : swap_part) : List PC := [.sl 2 false (List.map e_api_Entry v.list.Entries), .int .i64 v.list.Cycle, .int .i64 v.at_, .int .i64 v.long]
abbrev s_e_api_Entry (f : Bool) (l : List api_Entry) : AV := .p (.sl 2 f (List.map e_api_Entry l))
abbrev s_eI_u8 (f : Bool) (l : List Int) : AV := .p (.sl 1 f (List.map (eI .u8) l))
abbrev s_eI64 (f : Bool) (l : List Int) : AV := .p (.sl 1 f (List.map eI64 l))
abbrev c_ref27_Draft (v : ref27_Draft) : List AV := [s_eI_u8 false v.Masks, s_eI_u8 false v.Longs]
abbrev c_ref29_Draft (v : ref29_Draft) : List AV := [s_eI_u8 false v.Oper.Masks, s_eI_u8 false v.Oper.Longs, s_eI_u8 false v.Admin.Masks, s_eI_u8 false v.Admin.Longs, .p (.int .i16 v.Base), bv v.Pending, .p (.int .u8 v.Later)]
abbrev c_api_Entry (v : api_Entry) : List AV := [iv v.Mask, iv v.Long]
abbrev c_api_Gates (v : api_Gates) : List AV := [s_e_api_Entry false v.Entries, iv v.Cycle]
abbrev c_law29_Bend (v : law29_Bend) : List AV := [.p (.int .u8 v.What), iv v.N_, s_e_api_Entry false v.G.Entries, iv v.G.Cycle]
abbrev c_api_Change (v : api_Change) : List AV := [s_e_api_Entry false v.Oper.Entries, iv v.Oper.Cycle, iv v.Base, bv v.Pending, s_e_api_Entry false v.Admin.Entries, iv v.Admin.Cycle, iv v.When]
abbrev c_swap_state (v : swap_state) : List AV := [s_e_api_Entry false v.Change.Oper.Entries, iv v.Change.Oper.Cycle, iv v.Change.Base, bv v.Change.Pending, s_e_api_Entry false v.Change.Admin.Entries, iv v.Change.Admin.Cycle, iv v.Change.When]
abbrev c_swap_part (v : swap_part) : List AV := [s_e_api_Entry false v.list.Entries, iv v.list.Cycle, iv v.at_, iv v.long]
def law29_Bend_of (N : Nat) (a0_ : law29_Bend) (a1_ : api_Change) : Option (api_Change) :=
 ((subI a0_.G.Entries 0 (if 130 < ((List.length a0_.G.Entries : Nat) : Int) then 130 else ((List.length a0_.G.Entries : Nat) : Int))).bind fun l1 =>
 (((if ((Int.tmod a0_.What 6) == 0) then (some (l1, a0_.G.Cycle, a1_.Base, a1_.Pending, a1_.Admin.Entries, a1_.Admin.Cycle, a1_.When)) else (if ((Int.tmod a0_.What 6) == 1) then (some (a1_.Oper.Entries, a1_.Oper.Cycle, a1_.Base, a1_.Pending, l1, a0_.G.Cycle, a1_.When)) else (if ((Int.tmod a0_.What 6) == 2) then (some (a1_.Oper.Entries, a1_.Oper.Cycle, a0_.N_, a1_.Pending, a1_.Admin.Entries, a1_.Admin.Cycle, a1_.When)) else (if ((Int.tmod a0_.What 6) == 3) then (some (a1_.Oper.Entries, a1_.Oper.Cycle, a1_.Base, a1_.Pending, a1_.Admin.Entries, a1_.Admin.Cycle, a0_.N_)) else (if ((Int.tmod a0_.What 6) == 4) then (some (a1_.Oper.Entries, a1_.Oper.Cycle, a1_.Base, (!a1_.Pending), a1_.Admin.Entries, a1_.Admin.Cycle, a1_.When)) else (some (a1_.Oper.Entries, a1_.Oper.Cycle, a1_.Base, a1_.Pending, a1_.Admin.Entries, a1_.Admin.Cycle, (w64 (a1_.When + (Int.tmod a0_.N_ 3))))))))))).bind fun (j502 : (List api_Entry) × Int × Int × Bool × (List api_Entry) × Int × Int) =>
 (some (api_Change.mk (api_Gates.mk j502.1 j502.2.1) j502.2.2.1 j502.2.2.2.1 (api_Gates.mk j502.2.2.2.2.1 j502.2.2.2.2.2.1) j502.2.2.2.2.2.2))))
def ref27_Draft_Gates_L1 (N : Nat) (a0_ : ref27_Draft) (i3 : Int) (i4 : Int) (l5 : (List api_Entry)) : Option ((Int × Int × (List api_Entry)) ⊕ ((Int × Int × (List api_Entry)))) :=
 (if (decide (i3 < (if (if 16 < ((List.length a0_.Masks : Nat) : Int) then 16 else ((List.length a0_.Masks : Nat) : Int)) > 1 then (if 16 < ((List.length a0_.Masks : Nat) : Int) then 16 else ((List.length a0_.Masks : Nat) : Int)) else 1))) then (((if (decide (i3 < ((List.length a0_.Masks : Nat) : Int))) then ((idx a0_.Masks i3).bind fun e1011 =>
 (some (w64 (e1011)))) else (some 127))).bind fun (j1009 : Int) =>
 (((if (decide (i3 < ((List.length a0_.Longs : Nat) : Int))) then ((idx a0_.Longs i3).bind fun e1514 =>
 (some (w64 (1 + (w64 ((Int.tmod e1514 20))))))) else (some 1))).bind fun (j1512 : Int) =>
 ((appI 16 l5 [(api_Entry.mk j1009 j1512)]).bind fun l1517 =>
 (some (.inl ((w64 (i3 + 1)), (w64 (i4 + j1512)), l1517)))))) else (some (.inr (i3, i4, l5))))
def ref27_Draft_Gates (N : Nat) (a0_ : ref27_Draft) : Option (api_Gates) :=
 ((iterF (fun x : Int × Int × (List api_Entry) => ref27_Draft_Gates_L1 N a0_ x.1 x.2.1 x.2.2) N (0, 0, [])).bind fun o1518 =>
 (some (api_Gates.mk o1518.2.2 o1518.2.1)))
def law29_list_L1 (N : Nat) (a0_ : (List Int)) (i3 : Int) (i4 : Int) (l5 : (List api_Entry)) : Option ((Int × Int × (List api_Entry)) ⊕ ((Int × Int × (List api_Entry)))) :=
 (if (decide ((w64 (i3 + 1)) < ((List.length a0_ : Nat) : Int))) then ((idx a0_ i3).bind fun e509 =>
 ((idx a0_ (w64 (i3 + 1))).bind fun e510 =>
 ((appI 16 l5 [(api_Entry.mk e509 e510)]).bind fun l513 =>
 ((idx a0_ (w64 (i3 + 1))).bind fun e514 =>
 (some (.inl ((w64 (i3 + 2)), (w64 (i4 + e514)), l513))))))) else (some (.inr (i3, i4, l5))))
def law29_list (N : Nat) (a0_ : (List Int)) : Option (api_Gates) :=
 ((iterF (fun x : Int × Int × (List api_Entry) => law29_list_L1 N a0_ x.1 x.2.1 x.2.2) N (0, 0, [])).bind fun o515 =>
 (some (api_Gates.mk o515.2.2 o515.2.1)))
def gates_Check_L1 (N : Nat) (a0_ : api_Gates) (i4 : Int) (i5 : Int) : Option ((Int × Int) ⊕ ((Int × Int) ⊕ (Int))) :=
 (if (decide (i5 < ((List.length a0_.Entries : Nat) : Int))) then ((idx a0_.Entries i5).bind fun e507 =>
 (if ((decide (e507.Mask < 0)) || ((decide (e507.Mask > 255)) || ((decide (e507.Long < 1)) || (decide (e507.Long > 9600000))))) then (some (.inr (.inr 370))) else (some (.inl ((w64 (i4 + e507.Long)), (w64 (i5 + 1))))))) else (some (.inr (.inl (i4, i5)))))
def gates_Check (N : Nat) (a0_ : api_Gates) : Option (Int) :=
 (if ((decide (((List.length a0_.Entries : Nat) : Int) < 1)) || (decide (((List.length a0_.Entries : Nat) : Int) > 128))) then (some 370) else ((iterF (fun x : Int × Int => gates_Check_L1 N a0_ x.1 x.2) N (0, 0)).bind fun o515 => match o515 with
 | (.inl p516) => (if ((p516.1 != a0_.Cycle) || (decide (p516.1 > 9600000))) then (some 370) else (some 0))
 | (.inr p520) => (some p520)))
def swap_times_L1 (N : Nat) (a0_ : (List Int)) (i1 : Int) : Option ((Int) ⊕ ((Int) ⊕ (Bool))) :=
 (if (decide (i1 < ((List.length a0_ : Nat) : Int))) then ((idx a0_ i1).bind fun e503 =>
 (if ((decide (e503 < (-1099511627776))) || (decide (e503 > 1099511627776))) then (some (.inr (.inr false))) else (some (.inl (w64 (i1 + 1)))))) else (some (.inr (.inl i1))))
def swap_times (N : Nat) (a0_ : (List Int)) : Option (Bool) :=
 ((iterF (fun x : Int => swap_times_L1 N a0_ x) N 0).bind fun o507 => match o507 with
 | (.inl p508) => (some true)
 | (.inr p509) => (some p509))
def swap_state_parts (N : Nat) (a0_ : swap_state) (a1_ : Int) (a2_ : Int) : Option (swap_state × Int × Int) :=
 (some (a0_, a1_, a2_))
def ref29_time (N : Nat) (a0_ : Int) : Option (Bool) :=
 (some ((decide (a0_ ≥ (-1099511627776))) && (decide (a0_ ≤ 1099511627776))))
def ref27_Right_L1 (N : Nat) (a0_ : api_Gates) (i4 : Int) (i5 : Int) : Option ((Int × Int) ⊕ ((Int × Int) ⊕ (Bool))) :=
 (if (decide (i5 < ((List.length a0_.Entries : Nat) : Int))) then ((idx a0_.Entries i5).bind fun e507 =>
 (if ((decide (e507.Mask < 0)) || ((decide (e507.Mask > 255)) || ((decide (e507.Long < 1)) || (decide (e507.Long > 9600000))))) then (some (.inr (.inr false))) else (some (.inl ((w64 (i4 + e507.Long)), (w64 (i5 + 1))))))) else (some (.inr (.inl (i4, i5)))))
def ref27_Right (N : Nat) (a0_ : api_Gates) : Option (Bool) :=
 (if ((decide (((List.length a0_.Entries : Nat) : Int) < 1)) || (decide (((List.length a0_.Entries : Nat) : Int) > 128))) then (some false) else ((iterF (fun x : Int × Int => ref27_Right_L1 N a0_ x.1 x.2) N (0, 0)).bind fun o515 => match o515 with
 | (.inl p516) => (some ((p516.1 == a0_.Cycle) && (decide (p516.1 ≤ 9600000))))
 | (.inr p519) => (some p519)))
def ref29_same_L1 (N : Nat) (a0_ : api_Gates) (a1_ : api_Gates) (i4 : Int) : Option ((Int) ⊕ ((Int) ⊕ (Bool))) :=
 (if (decide (i4 < ((List.length a0_.Entries : Nat) : Int))) then ((idx a0_.Entries i4).bind fun e506 =>
 ((idx a1_.Entries i4).bind fun e507 =>
 (if (!((e506.Mask == e507.Mask) && ((e506.Long == e507.Long) && true))) then (some (.inr (.inr false))) else (some (.inl (w64 (i4 + 1))))))) else (some (.inr (.inl i4))))
def ref29_same (N : Nat) (a0_ : api_Gates) (a1_ : api_Gates) : Option (Bool) :=
 (if ((a0_.Cycle != a1_.Cycle) || (((List.length a0_.Entries : Nat) : Int) != ((List.length a1_.Entries : Nat) : Int))) then (some false) else ((iterF (fun x : Int => ref29_same_L1 N a0_ a1_ x) N 0).bind fun o509 => match o509 with
 | (.inl p510) => (some true)
 | (.inr p511) => (some p511)))
def swap_state_advance (N : Nat) (a0_ : swap_state) (a1_ : Int) : Option (swap_state) :=
 (((if (!a0_.Change.Pending) then (some true) else (if (decide (a1_ < a0_.Change.When)) then (some true) else (some (decide (a0_.Change.When > 1099511627776)))))).bind fun (j8 : Bool) =>
 (if j8 then (some a0_) else (some (swap_state.mk (api_Change.mk a0_.Change.Admin a0_.Change.When false (api_Gates.mk ([]) 0) 0)))))
def ref29_Later (N : Nat) (a0_ : api_Change) (a1_ : Int) : Option (api_Change) :=
 (if ((!a0_.Pending) || ((decide (a1_ < a0_.When)) || (decide (a0_.When > 1099511627776)))) then (some a0_) else (some (api_Change.mk a0_.Admin a0_.When false (api_Gates.mk ([]) 0) 0)))
def swap_mod (N : Nat) (a0_ : Int) (a1_ : Int) : Option (Int) :=
 ((remI a0_ a1_).bind fun m1 =>
 ((remI (w64 (m1 + a1_)) a1_).bind fun m2 =>
 (some m2)))
def ref23_Mod (N : Nat) (a0_ : Int) (a1_ : Int) : Option (Int) :=
 ((remI a0_ a1_).bind fun m1 =>
 (((if (decide (m1 < 0)) then (some (w64 (m1 + a1_))) else (some m1))).bind fun (j502 : Int) =>
 (some j502)))
def ref27_At_L1 (N : Nat) (a0_ : api_Gates) (i504 : Int) (i505 : Int) : Option ((Int × Int) ⊕ ((Int × Int))) :=
 ((idx a0_.Entries i505).bind fun e1006 =>
 (if (decide (i504 ≥ e1006.Long)) then ((idx a0_.Entries i505).bind fun e1008 =>
 (some (.inl ((w64 (i504 - e1008.Long)), (w64 (i505 + 1)))))) else (some (.inr (i504, i505)))))
def ref27_At (N : Nat) (a0_ : api_Gates) (a1_ : Int) : Option (Int × Int) :=
 ((remI a1_ a0_.Cycle).bind fun m1 =>
 (((if (decide (m1 < 0)) then (some (w64 (m1 + a0_.Cycle))) else (some m1))).bind fun (j502 : Int) =>
 ((iterF (fun x : Int × Int => ref27_At_L1 N a0_ x.1 x.2) N (j502, 0)).bind fun o1009 =>
 (some (o1009.2, o1009.1)))))
def ref27_Bit (N : Nat) (a0_ : Int) (a1_ : Int) : Option (Bool) :=
 ((shrI .i64 a0_ (IntKind.u64.wrap (a1_))).bind fun sh1 =>
 (some ((Int.tmod sh1 2) == 1)))
def swap_state_parts_1 {σ : Type} (N : Nat) (y_ : σ → swap_part → Option (σ × Bool)) (c0_ : swap_state) (c1_ : Int) (c2_ : Int) (s_ : σ) : Option (σ) :=
 (((if c0_.Change.Pending then (some (decide (c1_ ≥ c0_.Change.When))) else (some false))).bind fun (j6 : Bool) =>
 (if j6 then ((swap_mod N (w64 (c1_ - c0_.Change.When)) c0_.Change.Admin.Cycle).bind fun r12 =>
 ((y_ s_ (swap_part.mk c0_.Change.Admin r12 c2_)).bind fun r14 =>
 (some r14.1))) else (((if c0_.Change.Pending then (some (if (w64 (c0_.Change.When - c1_)) < c2_ then (w64 (c0_.Change.When - c1_)) else c2_)) else (some c2_))).bind fun (j518 : Int) =>
 ((((swap_mod N (w64 (c1_ - c0_.Change.Base)) c0_.Change.Oper.Cycle).bind fun r528 => ((y_ s_ (swap_part.mk c0_.Change.Oper r528 j518)).bind fun r529 => (if r529.2 then (some ((decide (j518 < c2_)), r529.1)) else (some (false, r529.1)))))).bind fun (j537 : Bool × σ) =>
 (if j537.1 then ((y_ j537.2 (swap_part.mk c0_.Change.Admin 0 (w64 (c2_ - j518)))).bind fun r541 =>
 (some r541.1)) else (some j537.2))))))
def gates_check (N : Nat) (a0_ : api_Gates) (a1_ : Int) (a2_ : Int) (a3_ : Int) : Option (Int) :=
 ((gates_Check N a0_).bind fun r1 =>
 (if (r1 != 0) then (some r1) else (if ((decide (a1_ < 0)) || ((decide (a1_ ≥ 8)) || ((decide (a2_ < (-1099511627776))) || ((decide (a2_ > 1099511627776)) || ((decide (a3_ < 0)) || (decide (a3_ > 1099511627776))))))) then (some 2) else (some 0))))
def gates_find_L1 (N : Nat) (a0_ : api_Gates) (i3 : Int) (i4 : Int) : Option ((Int × Int) ⊕ ((Int × Int))) :=
 ((idx a0_.Entries i4).bind fun e505 =>
 (if (decide (i3 ≥ e505.Long)) then ((idx a0_.Entries i4).bind fun e507 =>
 (some (.inl ((w64 (i3 - e507.Long)), (w64 (i4 + 1)))))) else ((idx a0_.Entries i4).bind fun e508 =>
 (some (.inr (i4, (w64 (e508.Long - i3))))))))
def gates_find (N : Nat) (a0_ : api_Gates) (a1_ : Int) : Option (Int × Int) :=
 ((remI a1_ a0_.Cycle).bind fun m1 =>
 ((remI (w64 (m1 + a0_.Cycle)) a0_.Cycle).bind fun m2 =>
 ((iterF (fun x : Int × Int => gates_find_L1 N a0_ x.1 x.2) N (m2, 0)).bind fun o509 =>
 (some o509))))
def ref27_State (N : Nat) (a0_ : api_Gates) (a1_ : Int) : Option (Int) :=
 ((ref27_At N a0_ a1_).bind fun r1 =>
 ((idx a0_.Entries r1.1).bind fun e2 =>
 (some e2.Mask)))
def gates_stretch_L1 (N : Nat) (a0_ : api_Gates) (a2_ : Int → Option (Bool)) (i2 : Int) (i3 : Int) (i4 : Int) (i5 : Int) : Option ((Int × Int × Int × Int) ⊕ ((Int × Int × Int × Int) ⊕ (Int))) :=
 (if (decide (i5 < (w64 (((List.length a0_.Entries : Nat) : Int) + 1)))) then ((idx a0_.Entries i2).bind fun e507 =>
 ((a2_ e507.Mask).bind fun r508 =>
 (if (!r508) then (some (.inr (.inr i4))) else ((remI (w64 (i2 + 1)) ((List.length a0_.Entries : Nat) : Int)).bind fun m510 =>
 ((idx a0_.Entries m510).bind fun e511 =>
 (some (.inl (m510, e511.Long, (w64 (i4 + i3)), (w64 (i5 + 1)))))))))) else (some (.inr (.inl (i2, i3, i4, i5)))))
def gates_stretch (N : Nat) (a0_ : api_Gates) (a1_ : Int) (a2_ : Int → Option (Bool)) : Option (Int) :=
 ((gates_find N a0_ a1_).bind fun r1 =>
 ((iterF (fun x : Int × Int × Int × Int => gates_stretch_L1 N a0_ a2_ x.1 x.2.1 x.2.2.1 x.2.2.2) N (r1.1, r1.2, 0, 0)).bind fun o512 => match o512 with
 | (.inl p513) => (some a0_.Cycle)
 | (.inr p514) => (some p514)))
def gates_open_1 (N : Nat) (a0_ : Int) (c0_ : Int) : Option (Bool) :=
 ((shrI .i64 a0_ c0_).bind fun sh2 =>
 (some ((andI .i64 sh2 1) == 1)))
def ref29_Draft_Change (N : Nat) (a0_ : ref29_Draft) : Option (api_Change) :=
 ((ref27_Draft_Gates N a0_.Oper).bind fun r1 =>
 (((if a0_.Pending then ((ref27_Draft_Gates N a0_.Admin).bind fun r505 =>
 (some (true, r505.Entries, r505.Cycle, (w64 ((w64 (a0_.Base)) + (w64 ((w64 ((w64 (a0_.Later)) - 100)) * r1.Cycle))))))) else (some (false, [], 0, 0)))).bind fun (j503 : Bool × (List api_Entry) × Int × Int) =>
 (some (api_Change.mk r1 (w64 (a0_.Base)) j503.1 (api_Gates.mk j503.2.1 j503.2.2.1) j503.2.2.2))))
def swap_Check (N : Nat) (a0_ : api_Change) : Option (Int) :=
 ((((gates_Check N a0_.Oper).bind fun r1 => (if (r1 != 0) then (some true) else ((swap_times N ([a0_.Base])).bind fun r4 => (some (!r4)))))).bind fun (j5 : Bool) =>
 (if j5 then (some 390) else (if (!a0_.Pending) then (if ((((List.length a0_.Admin.Entries : Nat) : Int) != 0) || ((a0_.Admin.Cycle != 0) || (a0_.When != 0))) then (some 390) else (some 0)) else ((((gates_Check N a0_.Admin).bind fun r13 => (if (r13 != 0) then (some true) else (if (decide (a0_.When < (-1099511627776))) then (some true) else (some (decide (a0_.When > 2199023255552))))))).bind fun (j18 : Bool) =>
 (if j18 then (some 390) else ((remI (w64 (a0_.When - a0_.Base)) a0_.Oper.Cycle).bind fun m20 =>
 (if (m20 != 0) then (some 390) else (some 0))))))))
def swap_New (N : Nat) (a0_ : api_Gates) (a1_ : Int) : Option (api_Change × Int) :=
 ((gates_Check N a0_).bind fun r1 =>
 (if (r1 != 0) then (some ((api_Change.mk (api_Gates.mk ([]) 0) 0 false (api_Gates.mk ([]) 0) 0), r1)) else ((swap_times N ([a1_])).bind fun r3 =>
 (if (!r3) then (some ((api_Change.mk (api_Gates.mk ([]) 0) 0 false (api_Gates.mk ([]) 0) 0), 2)) else (some ((api_Change.mk a0_ a1_ false (api_Gates.mk ([]) 0) 0), 0))))))
def ref29_New (N : Nat) (a0_ : api_Gates) (a1_ : Int) : Option (api_Change × Int) :=
 ((ref27_Right N a0_).bind fun r1 =>
 (if (!r1) then (some ((api_Change.mk (api_Gates.mk ([]) 0) 0 false (api_Gates.mk ([]) 0) 0), 370)) else ((ref29_time N a1_).bind fun r3 =>
 (if (!r3) then (some ((api_Change.mk (api_Gates.mk ([]) 0) 0 false (api_Gates.mk ([]) 0) 0), 2)) else (some ((api_Change.mk a0_ a1_ false (api_Gates.mk ([]) 0) 0), 0))))))
def ref29_Same (N : Nat) (a0_ : api_Change) (a1_ : api_Change) : Option (Bool) :=
 ((((ref29_same N a0_.Oper a1_.Oper).bind fun r1 => (if r1 then (if (a0_.Base == a1_.Base) then (if (a0_.Pending == a1_.Pending) then ((ref29_same N a0_.Admin a1_.Admin).bind fun r5 => (if r5 then (some (a0_.When == a1_.When)) else (some false))) else (some false)) else (some false)) else (some false)))).bind fun (j11 : Bool) =>
 (some j11))
def swap_Advance (N : Nat) (a0_ : api_Change) (a1_ : Int) : Option (api_Change × Int) :=
 ((swap_Check N a0_).bind fun r1 =>
 (if (r1 != 0) then (some ((api_Change.mk (api_Gates.mk ([]) 0) 0 false (api_Gates.mk ([]) 0) 0), r1)) else ((swap_times N ([a1_])).bind fun r3 =>
 (if (!r3) then (some ((api_Change.mk (api_Gates.mk ([]) 0) 0 false (api_Gates.mk ([]) 0) 0), 2)) else ((swap_state_advance N (swap_state.mk a0_) a1_).bind fun r8 =>
 (some (r8.Change, 0)))))))
def swap_Set (N : Nat) (a0_ : api_Change) (a1_ : Int) (a2_ : api_Gates) (a3_ : Int) : Option (api_Change × Int) :=
 ((swap_Check N a0_).bind fun r1 =>
 (if (r1 != 0) then (some ((api_Change.mk (api_Gates.mk ([]) 0) 0 false (api_Gates.mk ([]) 0) 0), r1)) else ((swap_times N ([a1_])).bind fun r3 =>
 (if (!r3) then (some ((api_Change.mk (api_Gates.mk ([]) 0) 0 false (api_Gates.mk ([]) 0) 0), 2)) else ((gates_Check N a2_).bind fun r5 =>
 (if (r5 != 0) then (some ((api_Change.mk (api_Gates.mk ([]) 0) 0 false (api_Gates.mk ([]) 0) 0), r5)) else ((swap_times N ([a3_])).bind fun r7 =>
 (if (!r7) then (some ((api_Change.mk (api_Gates.mk ([]) 0) 0 false (api_Gates.mk ([]) 0) 0), 2)) else ((swap_state_advance N (swap_state.mk a0_) a1_).bind fun r12 =>
 ((swap_mod N (w64 (r12.Change.Base - (if a3_ > a1_ then a3_ else a1_))) r12.Change.Oper.Cycle).bind fun r18 =>
 (some ((api_Change.mk r12.Change.Oper r12.Change.Base true a2_ (w64 ((if a3_ > a1_ then a3_ else a1_) + r18))), 0))))))))))))
def ref29_Right (N : Nat) (a0_ : api_Change) : Option (Bool) :=
 ((((ref27_Right N a0_.Oper).bind fun r1 => (if (!r1) then (some true) else ((ref29_time N a0_.Base).bind fun r4 => (some (!r4)))))).bind fun (j5 : Bool) =>
 (if j5 then (some false) else (if (!a0_.Pending) then (some ((((List.length a0_.Admin.Entries : Nat) : Int) == 0) && ((a0_.Admin.Cycle == 0) && (a0_.When == 0)))) else ((((ref27_Right N a0_.Admin).bind fun r12 => (if r12 then (if (decide (a0_.When ≥ (-1099511627776))) then (if (decide (a0_.When ≤ 2199023255552)) then ((ref23_Mod N (w64 (a0_.When - a0_.Base)) a0_.Oper.Cycle).bind fun r16 => (some (r16 == 0))) else (some false)) else (some false)) else (some false)))).bind fun (j20 : Bool) =>
 (some j20)))))
def gates_Mask (N : Nat) (a0_ : api_Gates) (a1_ : Int) : Option (Int × Int) :=
 ((gates_check N a0_ 0 a1_ 0).bind fun r1 =>
 (if (r1 != 0) then (some (0, r1)) else ((gates_find N a0_ a1_).bind fun r3 =>
 ((idx a0_.Entries r3.1).bind fun e4 =>
 (some (e4.Mask, 0))))))
def ref29_At (N : Nat) (a0_ : api_Change) (a1_ : Int) : Option (Int) :=
 (if (a0_.Pending && (decide (a1_ ≥ a0_.When))) then ((ref27_State N a0_.Admin (w64 (a1_ - a0_.When))).bind fun r4 =>
 (some r4)) else ((ref27_State N a0_.Oper (w64 (a1_ - a0_.Base))).bind fun r5 =>
 (some r5)))
def gates_open (N : Nat) (a0_ : api_Gates) (a1_ : Int) (a2_ : Int) : Option (Int) :=
 ((gates_stretch N a0_ a2_ (fun x0 => gates_open_1 N x0 a1_)).bind fun r3 =>
 (if (r3 == a0_.Cycle) then (some 1099511627776) else (some r3)))
def ref29_Check (N : Nat) (a0_ : api_Change) : Option (Int) :=
 ((ref29_Right N a0_).bind fun r1 =>
 (if r1 then (some 0) else (some 390)))
def swap_Mask_R1 (N : Nat) (i20 : Int) (i21 : Int) (x19 : swap_part) : Option ((Int × Int) × Nat) :=
 ((gates_Mask N x19.list x19.at_).bind fun r521 =>
 (some ((r521.2, r521.1), 1)))
def swap_Mask (N : Nat) (a0_ : api_Change) (a1_ : Int) : Option (Int × Int) :=
 ((swap_Check N a0_).bind fun r5 =>
 (if (r5 != 0) then (some (0, r5)) else ((swap_times N ([a1_])).bind fun r9 =>
 (if (!r9) then (some (0, 2)) else ((swap_state_parts N (swap_state.mk a0_) a1_ 1).bind fun r13 =>
 ((swap_state_parts_1 N (fun (s : (Int × Int) × Nat) (x19 : swap_part) => yieldF (fun v : Int × Int => swap_Mask_R1 N v.1 v.2 x19) s) r13.1 r13.2.1 r13.2.2 ((0, 0), 0)).bind fun o524 =>
 (if (o524.2 == 0) then (some (0, 0)) else (if (o524.2 == 1) then (some (o524.1.2, o524.1.1)) else none))))))))
def ref29_Mask (N : Nat) (a0_ : api_Change) (a1_ : Int) : Option (Int × Int) :=
 ((ref29_Right N a0_).bind fun r1 =>
 (if (!r1) then (some (0, 390)) else ((ref29_time N a1_).bind fun r3 =>
 (if (!r3) then (some (0, 2)) else ((ref29_At N a0_ a1_).bind fun r5 =>
 (some (r5, 0)))))))
def ref29_Advance (N : Nat) (a0_ : api_Change) (a1_ : Int) : Option (api_Change × Int) :=
 ((ref29_Right N a0_).bind fun r1 =>
 (if (!r1) then (some ((api_Change.mk (api_Gates.mk ([]) 0) 0 false (api_Gates.mk ([]) 0) 0), 390)) else ((ref29_time N a1_).bind fun r3 =>
 (if (!r3) then (some ((api_Change.mk (api_Gates.mk ([]) 0) 0 false (api_Gates.mk ([]) 0) 0), 2)) else ((ref29_Later N a0_ a1_).bind fun r5 =>
 (some (r5, 0)))))))
def ref29_Set (N : Nat) (a0_ : api_Change) (a1_ : Int) (a2_ : api_Gates) (a3_ : Int) : Option (api_Change × Int) :=
 ((ref29_Right N a0_).bind fun r1 =>
 (if (!r1) then (some ((api_Change.mk (api_Gates.mk ([]) 0) 0 false (api_Gates.mk ([]) 0) 0), 390)) else ((ref29_time N a1_).bind fun r3 =>
 (if (!r3) then (some ((api_Change.mk (api_Gates.mk ([]) 0) 0 false (api_Gates.mk ([]) 0) 0), 2)) else ((ref27_Right N a2_).bind fun r5 =>
 (if (!r5) then (some ((api_Change.mk (api_Gates.mk ([]) 0) 0 false (api_Gates.mk ([]) 0) 0), 370)) else ((ref29_time N a3_).bind fun r7 =>
 (if (!r7) then (some ((api_Change.mk (api_Gates.mk ([]) 0) 0 false (api_Gates.mk ([]) 0) 0), 2)) else ((ref29_Later N a0_ a1_).bind fun r9 =>
 ((ref23_Mod N (w64 (r9.Base - (if a3_ > a1_ then a3_ else a1_))) r9.Oper.Cycle).bind fun r10 =>
 (some ((api_Change.mk r9.Oper r9.Base true a2_ (w64 ((if a3_ > a1_ then a3_ else a1_) + r10))), 0))))))))))))
def ref29_Fits_L1 (N : Nat) (a0_ : api_Change) (a1_ : Int) (a2_ : Int) (a3_ : Int) (i14 : Int) : Option ((Int) ⊕ ((Int) ⊕ (Bool × Int))) :=
 (if (decide (i14 < (w64 (a2_ + a3_)))) then (((if (a0_.Pending && (decide (i14 ≥ a0_.When))) then (some (a0_.When, (w64 (a2_ + a3_)), a0_.Admin.Entries, a0_.Admin.Cycle)) else (if a0_.Pending then (some (a0_.Base, (if a0_.When < (w64 (a2_ + a3_)) then a0_.When else (w64 (a2_ + a3_))), a0_.Oper.Entries, a0_.Oper.Cycle)) else (some (a0_.Base, (w64 (a2_ + a3_)), a0_.Oper.Entries, a0_.Oper.Cycle))))).bind fun (j1016 : Int × Int × (List api_Entry) × Int) =>
 ((ref27_At N (api_Gates.mk j1016.2.2.1 j1016.2.2.2) (w64 (i14 - j1016.1))).bind fun r1021 =>
 ((idx j1016.2.2.1 r1021.1).bind fun e1022 =>
 ((ref27_Bit N e1022.Mask a1_).bind fun r1023 =>
 (if (!r1023) then (some (.inr (.inr (false, 0)))) else ((idx j1016.2.2.1 r1021.1).bind fun e1025 =>
 (some (.inl (if (w64 ((w64 (i14 - r1021.2)) + e1025.Long)) < j1016.2.1 then (w64 ((w64 (i14 - r1021.2)) + e1025.Long)) else j1016.2.1))))))))) else (some (.inr (.inl i14))))
def ref29_Fits (N : Nat) (a0_ : api_Change) (a1_ : Int) (a2_ : Int) (a3_ : Int) : Option (Bool × Int) :=
 ((ref29_Right N a0_).bind fun r1 =>
 (if (!r1) then (some (false, 390)) else (((if (decide (a1_ < 0)) then (some true) else (if (decide (a1_ > 7)) then (some true) else ((ref29_time N a2_).bind fun r7 => (if (!r7) then (some true) else (if (decide (a3_ < 0)) then (some true) else (some (decide (a3_ > (w64 (4 * a0_.Oper.Cycle))))))))))).bind fun (j12 : Bool) =>
 (if j12 then (some (false, 2)) else ((iterF (fun x : Int => ref29_Fits_L1 N a0_ a1_ a2_ a3_ x) N a2_).bind fun o1026 => match o1026 with
 | (.inl p1027) => (some (true, 0))
 | (.inr p1028) => (some p1028))))))
def law29_mask (N : Nat) (a0_ : api_Change) (a1_ : Int) : Option (Int) :=
 ((swap_Mask N a0_ a1_).bind fun r1 =>
 (if (r1.2 != 0) then (some (-1)) else (some r1.1)))
def gates_Fits (N : Nat) (a0_ : api_Gates) (a1_ : Int) (a2_ : Int) (a3_ : Int) : Option (Bool × Int) :=
 ((gates_check N a0_ a1_ a2_ a3_).bind fun r1 =>
 (if (r1 != 0) then (some (false, r1)) else ((gates_open N a0_ a1_ a2_).bind fun r3 =>
 (some ((decide (r3 ≥ a3_)), 0)))))
def swap_Fits_R1 (N : Nat) (a1_ : Int) (i33 : Int) (x32 : swap_part) : Option ((Int) × Nat) :=
 ((gates_Fits N x32.list a1_ x32.at_ x32.long).bind fun r535 =>
 (if ((r535.2 != 0) || (!r535.1)) then (some (r535.2, 1)) else (some (i33, 0))))
def swap_Fits (N : Nat) (a0_ : api_Change) (a1_ : Int) (a2_ : Int) (a3_ : Int) : Option (Bool × Int) :=
 ((swap_Check N a0_).bind fun r7 =>
 (if (r7 != 0) then (some (false, r7)) else (((if (decide (a1_ < 0)) then (some true) else (if (decide (a1_ ≥ 8)) then (some true) else ((swap_times N ([a2_])).bind fun r17 => (if (!r17) then (some true) else (if (decide (a3_ < 0)) then (some true) else (some (decide (a3_ > (w64 (4 * a0_.Oper.Cycle))))))))))).bind fun (j22 : Bool) =>
 (if j22 then (some (false, 2)) else ((swap_state_parts N (swap_state.mk a0_) a2_ a3_).bind fun r26 =>
 ((swap_state_parts_1 N (fun (s : (Int) × Nat) (x32 : swap_part) => yieldF (fun v : Int => swap_Fits_R1 N a1_ v x32) s) r26.1 r26.2.1 r26.2.2 (0, 0)).bind fun o541 =>
 (if (o541.2 == 0) then (some (true, 0)) else (if (o541.2 == 1) then (some (false, o541.1)) else none))))))))
def law29_fits (N : Nat) (a0_ : api_Change) (a1_ : Int) (a2_ : Int) (a3_ : Int) : Option (Bool) :=
 ((swap_Fits N a0_ a1_ a2_ a3_).bind fun r1 =>
 (some (r1.1 && (r1.2 == 0))))
def law29_works (N : Nat) : Option (Bool) :=
 ((law29_list N ([128, 10, 127, 30])).bind fun r1 =>
 ((law29_list N ([255, 5, 127, 5])).bind fun r2 =>
 ((swap_New N r1 100).bind fun r3 =>
 ((swap_Set N r3.1 150 r2 0).bind fun r4 =>
 ((swap_Set N r3.1 150 r2 181).bind fun r5 =>
 ((swap_Advance N r4.1 179).bind fun r6 =>
 ((swap_Advance N r4.1 180).bind fun r7 =>
 (if ((r3.2 != 0) || ((r4.2 != 0) || ((r5.2 != 0) || ((r6.2 != 0) || (r7.2 != 0))))) then (some false) else ((((law29_mask N r3.1 105).bind fun r17 => (if (r17 == 128) then ((law29_mask N r3.1 99).bind fun r19 => (if (r19 == 127) then ((law29_mask N r3.1 140).bind fun r21 => (if (r21 == 128) then (if (r4.1.When == 180) then (some (r5.1.When == 220)) else (some false)) else (some false))) else (some false))) else (some false)))).bind fun (j28 : Bool) =>
 ((((law29_mask N r4.1 179).bind fun r29 => (if (r29 == 127) then ((law29_mask N r4.1 180).bind fun r31 => (if (r31 == 255) then ((law29_mask N r4.1 185).bind fun r33 => (if (r33 == 127) then ((law29_mask N r4.1 190).bind fun r35 => (some (r35 == 255))) else (some false))) else (some false))) else (some false)))).bind fun (j39 : Bool) =>
 (((if j28 then (if j39 then ((law29_fits N r4.1 0 175 20).bind fun r42 => (if r42 then ((law29_fits N r4.1 7 175 1).bind fun r44 => (if (!r44) then ((law29_fits N r4.1 7 180 6).bind fun r46 => (if (!r46) then ((ref29_Same N r6.1 r4.1).bind fun r48 => (if r48 then (if (r7.1.Base == 180) then (some (!r7.1.Pending)) else (some false)) else (some false))) else (some false))) else (some false))) else (some false))) else (some false)) else (some false))).bind fun (j58 : Bool) =>
 (some j58))))))))))))
def law29_SwapChecks (N : Nat) (a0_ : ref29_Draft) (a1_ : law29_Bend) (a2_ : Int) : Option (Bool) :=
 ((ref29_Draft_Change N a0_).bind fun r1 =>
 ((law29_Bend_of N a1_ r1).bind fun r2 =>
 ((swap_Check N r1).bind fun r3 =>
 ((ref29_Check N r1).bind fun r4 =>
 (if (r3 != r4) then (some false) else ((swap_Mask N r1 a2_).bind fun r6 =>
 ((ref29_Mask N r1 a2_).bind fun r7 =>
 ((swap_New N r1.Oper a2_).bind fun r8 =>
 ((ref29_New N r1.Oper a2_).bind fun r9 =>
 (((if (r6.1 != r7.1) then (some true) else (if (r6.2 != r7.2) then (some true) else (if (r8.2 != r9.2) then (some true) else ((ref29_Same N r8.1 r9.1).bind fun r16 => (some (!r16))))))).bind fun (j17 : Bool) =>
 (if j17 then (some false) else ((swap_Mask N r1 (Int.tmod a2_ 2000)).bind fun r19 =>
 ((ref29_Mask N r1 (Int.tmod a2_ 2000)).bind fun r20 =>
 ((swap_New N r1.Oper (Int.tmod a2_ 2000)).bind fun r21 =>
 ((ref29_New N r1.Oper (Int.tmod a2_ 2000)).bind fun r22 =>
 (((if (r19.1 != r20.1) then (some true) else (if (r19.2 != r20.2) then (some true) else (if (r21.2 != r22.2) then (some true) else ((ref29_Same N r21.1 r22.1).bind fun r29 => (some (!r29))))))).bind fun (j30 : Bool) =>
 (if j30 then (some false) else ((swap_Mask N r1 (w64 (r1.When + (Int.tmod a2_ 5)))).bind fun r32 =>
 ((ref29_Mask N r1 (w64 (r1.When + (Int.tmod a2_ 5)))).bind fun r33 =>
 ((swap_New N r1.Oper (w64 (r1.When + (Int.tmod a2_ 5)))).bind fun r34 =>
 ((ref29_New N r1.Oper (w64 (r1.When + (Int.tmod a2_ 5)))).bind fun r35 =>
 (((if (r32.1 != r33.1) then (some true) else (if (r32.2 != r33.2) then (some true) else (if (r34.2 != r35.2) then (some true) else ((ref29_Same N r34.1 r35.1).bind fun r42 => (some (!r42))))))).bind fun (j43 : Bool) =>
 (if j43 then (some false) else ((swap_Check N r2).bind fun r45 =>
 ((ref29_Check N r2).bind fun r46 =>
 (if (r45 != r46) then (some false) else ((swap_Mask N r2 a2_).bind fun r48 =>
 ((ref29_Mask N r2 a2_).bind fun r49 =>
 ((swap_New N r2.Oper a2_).bind fun r50 =>
 ((ref29_New N r2.Oper a2_).bind fun r51 =>
 (((if (r48.1 != r49.1) then (some true) else (if (r48.2 != r49.2) then (some true) else (if (r50.2 != r51.2) then (some true) else ((ref29_Same N r50.1 r51.1).bind fun r58 => (some (!r58))))))).bind fun (j59 : Bool) =>
 (if j59 then (some false) else ((swap_Mask N r2 (Int.tmod a2_ 2000)).bind fun r61 =>
 ((ref29_Mask N r2 (Int.tmod a2_ 2000)).bind fun r62 =>
 ((swap_New N r2.Oper (Int.tmod a2_ 2000)).bind fun r63 =>
 ((ref29_New N r2.Oper (Int.tmod a2_ 2000)).bind fun r64 =>
 (((if (r61.1 != r62.1) then (some true) else (if (r61.2 != r62.2) then (some true) else (if (r63.2 != r64.2) then (some true) else ((ref29_Same N r63.1 r64.1).bind fun r71 => (some (!r71))))))).bind fun (j72 : Bool) =>
 (if j72 then (some false) else ((swap_Mask N r2 (w64 (r1.When + (Int.tmod a2_ 5)))).bind fun r74 =>
 ((ref29_Mask N r2 (w64 (r1.When + (Int.tmod a2_ 5)))).bind fun r75 =>
 ((swap_New N r2.Oper (w64 (r1.When + (Int.tmod a2_ 5)))).bind fun r76 =>
 ((ref29_New N r2.Oper (w64 (r1.When + (Int.tmod a2_ 5)))).bind fun r77 =>
 (((if (r74.1 != r75.1) then (some true) else (if (r74.2 != r75.2) then (some true) else (if (r76.2 != r77.2) then (some true) else ((ref29_Same N r76.1 r77.1).bind fun r84 => (some (!r84))))))).bind fun (j85 : Bool) =>
 (if j85 then (some false) else ((law29_works N).bind fun r87 =>
 (some r87))))))))))))))))))))))))))))))))))))))))))))))
def law29_SwapSets (N : Nat) (a0_ : ref29_Draft) (a1_ : law29_Bend) (a2_ : ref27_Draft) (a3_ : Int) (a4_ : Int) : Option (Bool) :=
 ((ref29_Draft_Change N a0_).bind fun r1 =>
 ((law29_Bend_of N a1_ r1).bind fun r2 =>
 ((swap_Advance N r1 a3_).bind fun r3 =>
 ((ref29_Advance N r1 a3_).bind fun r4 =>
 (((if (r3.2 != r4.2) then (some true) else ((ref29_Same N r3.1 r4.1).bind fun r7 => (some (!r7))))).bind fun (j8 : Bool) =>
 (if j8 then (some false) else ((ref27_Draft_Gates N a2_).bind fun r10 =>
 ((law29_Bend_of N a1_ r1).bind fun r11 =>
 ((swap_Set N r1 a3_ r10 a4_).bind fun r12 =>
 ((ref29_Set N r1 a3_ r10 a4_).bind fun r13 =>
 (((if (r12.2 != r13.2) then (some true) else ((ref29_Same N r12.1 r13.1).bind fun r16 => (some (!r16))))).bind fun (j17 : Bool) =>
 (if j17 then (some false) else ((swap_Set N r1 a3_ r11.Admin a4_).bind fun r19 =>
 ((ref29_Set N r1 a3_ r11.Admin a4_).bind fun r20 =>
 (((if (r19.2 != r20.2) then (some true) else ((ref29_Same N r19.1 r20.1).bind fun r23 => (some (!r23))))).bind fun (j24 : Bool) =>
 (if j24 then (some false) else ((swap_Advance N r1 (Int.tmod a3_ 3000)).bind fun r26 =>
 ((ref29_Advance N r1 (Int.tmod a3_ 3000)).bind fun r27 =>
 (((if (r26.2 != r27.2) then (some true) else ((ref29_Same N r26.1 r27.1).bind fun r30 => (some (!r30))))).bind fun (j31 : Bool) =>
 (if j31 then (some false) else ((ref27_Draft_Gates N a2_).bind fun r33 =>
 ((law29_Bend_of N a1_ r1).bind fun r34 =>
 ((swap_Set N r1 (Int.tmod a3_ 3000) r33 (Int.tmod a4_ 3000)).bind fun r35 =>
 ((ref29_Set N r1 (Int.tmod a3_ 3000) r33 (Int.tmod a4_ 3000)).bind fun r36 =>
 (((if (r35.2 != r36.2) then (some true) else ((ref29_Same N r35.1 r36.1).bind fun r39 => (some (!r39))))).bind fun (j40 : Bool) =>
 (if j40 then (some false) else ((swap_Set N r1 (Int.tmod a3_ 3000) r34.Admin (Int.tmod a4_ 3000)).bind fun r42 =>
 ((ref29_Set N r1 (Int.tmod a3_ 3000) r34.Admin (Int.tmod a4_ 3000)).bind fun r43 =>
 (((if (r42.2 != r43.2) then (some true) else ((ref29_Same N r42.1 r43.1).bind fun r46 => (some (!r46))))).bind fun (j47 : Bool) =>
 (if j47 then (some false) else ((swap_Advance N r1 (w64 (r1.When + (Int.tmod a3_ 3)))).bind fun r49 =>
 ((ref29_Advance N r1 (w64 (r1.When + (Int.tmod a3_ 3)))).bind fun r50 =>
 (((if (r49.2 != r50.2) then (some true) else ((ref29_Same N r49.1 r50.1).bind fun r53 => (some (!r53))))).bind fun (j54 : Bool) =>
 (if j54 then (some false) else ((ref27_Draft_Gates N a2_).bind fun r56 =>
 ((law29_Bend_of N a1_ r1).bind fun r57 =>
 ((swap_Set N r1 (w64 (r1.When + (Int.tmod a3_ 3))) r56 (Int.tmod a4_ 3000)).bind fun r58 =>
 ((ref29_Set N r1 (w64 (r1.When + (Int.tmod a3_ 3))) r56 (Int.tmod a4_ 3000)).bind fun r59 =>
 (((if (r58.2 != r59.2) then (some true) else ((ref29_Same N r58.1 r59.1).bind fun r62 => (some (!r62))))).bind fun (j63 : Bool) =>
 (if j63 then (some false) else ((swap_Set N r1 (w64 (r1.When + (Int.tmod a3_ 3))) r57.Admin (Int.tmod a4_ 3000)).bind fun r65 =>
 ((ref29_Set N r1 (w64 (r1.When + (Int.tmod a3_ 3))) r57.Admin (Int.tmod a4_ 3000)).bind fun r66 =>
 (((if (r65.2 != r66.2) then (some true) else ((ref29_Same N r65.1 r66.1).bind fun r69 => (some (!r69))))).bind fun (j70 : Bool) =>
 (if j70 then (some false) else ((swap_Advance N r2 a3_).bind fun r72 =>
 ((ref29_Advance N r2 a3_).bind fun r73 =>
 (((if (r72.2 != r73.2) then (some true) else ((ref29_Same N r72.1 r73.1).bind fun r76 => (some (!r76))))).bind fun (j77 : Bool) =>
 (if j77 then (some false) else ((ref27_Draft_Gates N a2_).bind fun r79 =>
 ((law29_Bend_of N a1_ r1).bind fun r80 =>
 ((swap_Set N r2 a3_ r79 a4_).bind fun r81 =>
 ((ref29_Set N r2 a3_ r79 a4_).bind fun r82 =>
 (((if (r81.2 != r82.2) then (some true) else ((ref29_Same N r81.1 r82.1).bind fun r85 => (some (!r85))))).bind fun (j86 : Bool) =>
 (if j86 then (some false) else ((swap_Set N r2 a3_ r80.Admin a4_).bind fun r88 =>
 ((ref29_Set N r2 a3_ r80.Admin a4_).bind fun r89 =>
 (((if (r88.2 != r89.2) then (some true) else ((ref29_Same N r88.1 r89.1).bind fun r92 => (some (!r92))))).bind fun (j93 : Bool) =>
 (if j93 then (some false) else ((swap_Advance N r2 (Int.tmod a3_ 3000)).bind fun r95 =>
 ((ref29_Advance N r2 (Int.tmod a3_ 3000)).bind fun r96 =>
 (((if (r95.2 != r96.2) then (some true) else ((ref29_Same N r95.1 r96.1).bind fun r99 => (some (!r99))))).bind fun (j100 : Bool) =>
 (if j100 then (some false) else ((ref27_Draft_Gates N a2_).bind fun r102 =>
 ((law29_Bend_of N a1_ r1).bind fun r103 =>
 ((swap_Set N r2 (Int.tmod a3_ 3000) r102 (Int.tmod a4_ 3000)).bind fun r104 =>
 ((ref29_Set N r2 (Int.tmod a3_ 3000) r102 (Int.tmod a4_ 3000)).bind fun r105 =>
 (((if (r104.2 != r105.2) then (some true) else ((ref29_Same N r104.1 r105.1).bind fun r108 => (some (!r108))))).bind fun (j109 : Bool) =>
 (if j109 then (some false) else ((swap_Set N r2 (Int.tmod a3_ 3000) r103.Admin (Int.tmod a4_ 3000)).bind fun r111 =>
 ((ref29_Set N r2 (Int.tmod a3_ 3000) r103.Admin (Int.tmod a4_ 3000)).bind fun r112 =>
 (((if (r111.2 != r112.2) then (some true) else ((ref29_Same N r111.1 r112.1).bind fun r115 => (some (!r115))))).bind fun (j116 : Bool) =>
 (if j116 then (some false) else ((swap_Advance N r2 (w64 (r1.When + (Int.tmod a3_ 3)))).bind fun r118 =>
 ((ref29_Advance N r2 (w64 (r1.When + (Int.tmod a3_ 3)))).bind fun r119 =>
 (((if (r118.2 != r119.2) then (some true) else ((ref29_Same N r118.1 r119.1).bind fun r122 => (some (!r122))))).bind fun (j123 : Bool) =>
 (if j123 then (some false) else ((ref27_Draft_Gates N a2_).bind fun r125 =>
 ((law29_Bend_of N a1_ r1).bind fun r126 =>
 ((swap_Set N r2 (w64 (r1.When + (Int.tmod a3_ 3))) r125 (Int.tmod a4_ 3000)).bind fun r127 =>
 ((ref29_Set N r2 (w64 (r1.When + (Int.tmod a3_ 3))) r125 (Int.tmod a4_ 3000)).bind fun r128 =>
 (((if (r127.2 != r128.2) then (some true) else ((ref29_Same N r127.1 r128.1).bind fun r131 => (some (!r131))))).bind fun (j132 : Bool) =>
 (if j132 then (some false) else ((swap_Set N r2 (w64 (r1.When + (Int.tmod a3_ 3))) r126.Admin (Int.tmod a4_ 3000)).bind fun r134 =>
 ((ref29_Set N r2 (w64 (r1.When + (Int.tmod a3_ 3))) r126.Admin (Int.tmod a4_ 3000)).bind fun r135 =>
 (((if (r134.2 != r135.2) then (some true) else ((ref29_Same N r134.1 r135.1).bind fun r138 => (some (!r138))))).bind fun (j139 : Bool) =>
 (if j139 then (some false) else ((law29_works N).bind fun r141 =>
 (some r141))))))))))))))))))))))))))))))))))))))))))))))))))))))))))))))))))))))))))))))))))))))))
def law29_SwapFits (N : Nat) (a0_ : ref29_Draft) (a1_ : law29_Bend) (a2_ : Int) (a3_ : Int) (a4_ : Int) : Option (Bool) :=
 ((ref29_Draft_Change N a0_).bind fun r1 =>
 ((law29_Bend_of N a1_ r1).bind fun r2 =>
 ((swap_Fits N r1 a2_ a3_ a4_).bind fun r3 =>
 ((ref29_Fits N r1 a2_ a3_ a4_).bind fun r4 =>
 (if ((r3.1 != r4.1) || (r3.2 != r4.2)) then (some false) else ((swap_Fits N r1 (w64 ((Int.tmod (IntKind.u64.wrap (a2_)) 8))) (Int.tmod a3_ 2000) (w64 ((Int.tmod (IntKind.u64.wrap (a4_)) 60)))).bind fun r8 =>
 ((ref29_Fits N r1 (w64 ((Int.tmod (IntKind.u64.wrap (a2_)) 8))) (Int.tmod a3_ 2000) (w64 ((Int.tmod (IntKind.u64.wrap (a4_)) 60)))).bind fun r9 =>
 (if ((r8.1 != r9.1) || (r8.2 != r9.2)) then (some false) else ((swap_Fits N r1 (w64 ((Int.tmod (IntKind.u64.wrap (a2_)) 8))) (w64 (r1.When - (w64 ((Int.tmod (IntKind.u64.wrap (a3_)) 20))))) (w64 ((Int.tmod (IntKind.u64.wrap (a4_)) 60)))).bind fun r13 =>
 ((ref29_Fits N r1 (w64 ((Int.tmod (IntKind.u64.wrap (a2_)) 8))) (w64 (r1.When - (w64 ((Int.tmod (IntKind.u64.wrap (a3_)) 20))))) (w64 ((Int.tmod (IntKind.u64.wrap (a4_)) 60)))).bind fun r14 =>
 (if ((r13.1 != r14.1) || (r13.2 != r14.2)) then (some false) else ((swap_Fits N r2 a2_ a3_ a4_).bind fun r18 =>
 ((ref29_Fits N r2 a2_ a3_ a4_).bind fun r19 =>
 (if ((r18.1 != r19.1) || (r18.2 != r19.2)) then (some false) else ((swap_Fits N r2 (w64 ((Int.tmod (IntKind.u64.wrap (a2_)) 8))) (Int.tmod a3_ 2000) (w64 ((Int.tmod (IntKind.u64.wrap (a4_)) 60)))).bind fun r23 =>
 ((ref29_Fits N r2 (w64 ((Int.tmod (IntKind.u64.wrap (a2_)) 8))) (Int.tmod a3_ 2000) (w64 ((Int.tmod (IntKind.u64.wrap (a4_)) 60)))).bind fun r24 =>
 (if ((r23.1 != r24.1) || (r23.2 != r24.2)) then (some false) else ((swap_Fits N r2 (w64 ((Int.tmod (IntKind.u64.wrap (a2_)) 8))) (w64 (r1.When - (w64 ((Int.tmod (IntKind.u64.wrap (a3_)) 20))))) (w64 ((Int.tmod (IntKind.u64.wrap (a4_)) 60)))).bind fun r28 =>
 ((ref29_Fits N r2 (w64 ((Int.tmod (IntKind.u64.wrap (a2_)) 8))) (w64 (r1.When - (w64 ((Int.tmod (IntKind.u64.wrap (a3_)) 20))))) (w64 ((Int.tmod (IntKind.u64.wrap (a4_)) 60)))).bind fun r29 =>
 (if ((r28.1 != r29.1) || (r28.2 != r29.2)) then (some false) else ((law29_works N).bind fun r33 =>
 (some r33))))))))))))))))))))))
def law29_SwapKeeps (N : Nat) (a0_ : ref29_Draft) (a1_ : ref27_Draft) (a2_ : Int) (a3_ : Int) (a4_ : Int) : Option (Bool) :=
 ((law29_works N).bind fun r1 =>
 (if (!r1) then (some false) else ((ref29_Draft_Change N a0_).bind fun r3 =>
 ((ref27_Draft_Gates N a1_).bind fun r4 =>
 ((swap_Advance N r3 (w64 (a2_))).bind fun r5 =>
 ((swap_Set N r3 (w64 (a2_)) r4 (w64 (a3_))).bind fun r6 =>
 (((if (r5.2 != 0) then (some true) else (if (r6.2 != 0) then (some true) else ((swap_Check N r5.1).bind fun r11 => (if (r11 != 0) then (some true) else ((swap_Check N r6.1).bind fun r14 => (if (r14 != 0) then (some true) else (some (!r6.1.Pending))))))))).bind fun (j17 : Bool) =>
 (if j17 then (some false) else ((((law29_mask N r5.1 (w64 ((w64 (a2_)) + (w64 (a4_))))).bind fun r19 => ((law29_mask N r3 (w64 ((w64 (a2_)) + (w64 (a4_))))).bind fun r20 => (if (r19 == r20) then ((law29_mask N r3 (w64 ((w64 (a2_)) + (w64 (a4_))))).bind fun r22 => (some (decide (r22 ≥ 0)))) else (some false))))).bind fun (j24 : Bool) =>
 (((if (decide ((w64 ((w64 (a2_)) + (w64 (a4_)))) < r6.1.When)) then (((if j24 then ((law29_mask N r6.1 (w64 ((w64 (a2_)) + (w64 (a4_))))).bind fun r528 => ((law29_mask N (api_Change.mk r5.1.Oper r5.1.Base false (api_Gates.mk ([]) 0) 0) (w64 ((w64 (a2_)) + (w64 (a4_))))).bind fun r529 => (if (r528 == r529) then (some true) else (some false)))) else (some false))).bind fun (j533 : Bool) =>
 (some j533)) else (some j24))).bind fun (j525 : Bool) =>
 ((remI (w64 (a4_)) (w64 (2 * r4.Cycle))).bind fun m534 =>
 (((if j525 then (if (decide (r6.1.When ≥ (if (w64 (a3_)) > (w64 (a2_)) then (w64 (a3_)) else (w64 (a2_))))) then (if (decide ((w64 (r6.1.When - r5.1.Oper.Cycle)) < (if (w64 (a3_)) > (w64 (a2_)) then (w64 (a3_)) else (w64 (a2_))))) then ((remI (w64 (r6.1.When - r5.1.Base)) r5.1.Oper.Cycle).bind fun m538 => (if (m538 == 0) then ((law29_mask N r6.1 (w64 (r6.1.When + m534))).bind fun r540 => ((law29_mask N (api_Change.mk r4 0 false (api_Gates.mk ([]) 0) 0) m534).bind fun r541 => (some (r540 == r541)))) else (some false))) else (some false)) else (some false)) else (some false))).bind fun (j546 : Bool) =>
 (some j546)))))))))))))
def law29_SwapMeans_L1 (N : Nat) (a1_ : Int) (a2_ : Int) (a4_ : Int) (r3 : api_Change) (b4 : Bool) (i5 : Int) : Option ((Bool × Int) ⊕ ((Bool × Int) ⊕ (Bool))) :=
 (if (decide (i5 < (if (w64 (4 * r3.Oper.Cycle)) < (w64 ((Int.tmod a4_ 60))) then (w64 (4 * r3.Oper.Cycle)) else (w64 ((Int.tmod a4_ 60)))))) then ((law29_mask N r3 (w64 ((w64 (a2_)) + i5))).bind fun r507 =>
 (if (decide (r507 < 0)) then (some (.inr (.inr false))) else (((if b4 then ((shrI .i64 r507 (IntKind.u64.wrap ((w64 ((Int.tmod a1_ 8)))))).bind fun sh510 => (if ((andI .i64 sh510 1) == 1) then (some true) else (some false))) else (some false))).bind fun (j514 : Bool) =>
 (some (.inl (j514, (w64 (i5 + 1)))))))) else (some (.inr (.inl (b4, i5)))))
def law29_SwapMeans_L2 (N : Nat) (a1_ : Int) (a3_ : Int) (a4_ : Int) (r3 : api_Change) (b528 : Bool) (i529 : Int) : Option ((Bool × Int) ⊕ ((Bool × Int) ⊕ (Bool))) :=
 (if (decide (i529 < (if (w64 (4 * r3.Oper.Cycle)) < (w64 ((Int.tmod a4_ 60))) then (w64 (4 * r3.Oper.Cycle)) else (w64 ((Int.tmod a4_ 60)))))) then ((law29_mask N r3 (w64 ((w64 (r3.When - (w64 ((Int.tmod a3_ 40))))) + i529))).bind fun r1031 =>
 (if (decide (r1031 < 0)) then (some (.inr (.inr false))) else (((if b528 then ((shrI .i64 r1031 (IntKind.u64.wrap ((w64 ((Int.tmod a1_ 8)))))).bind fun sh1034 => (if ((andI .i64 sh1034 1) == 1) then (some true) else (some false))) else (some false))).bind fun (j1038 : Bool) =>
 (some (.inl (j1038, (w64 (i529 + 1)))))))) else (some (.inr (.inl (b528, i529)))))
def law29_SwapMeans (N : Nat) (a0_ : ref29_Draft) (a1_ : Int) (a2_ : Int) (a3_ : Int) (a4_ : Int) : Option (Bool) :=
 ((law29_works N).bind fun r1 =>
 (if (!r1) then (some false) else ((ref29_Draft_Change N a0_).bind fun r3 =>
 ((iterF (fun x : Bool × Int => law29_SwapMeans_L1 N a1_ a2_ a4_ r3 x.1 x.2) N (true, 0)).bind fun o515 => match o515 with
 | (.inl p516) => ((swap_Advance N r3 (w64 (a2_))).bind fun r517 =>
 (((if (r517.2 != 0) then (some true) else ((law29_fits N r3 (w64 ((Int.tmod a1_ 8))) (w64 (a2_)) (if (w64 (4 * r3.Oper.Cycle)) < (w64 ((Int.tmod a4_ 60))) then (w64 (4 * r3.Oper.Cycle)) else (w64 ((Int.tmod a4_ 60))))).bind fun r520 => (if (r520 != p516.1) then (some true) else (if (decide ((if (w64 (4 * r3.Oper.Cycle)) < (w64 ((Int.tmod a4_ 60))) then (w64 (4 * r3.Oper.Cycle)) else (w64 ((Int.tmod a4_ 60)))) ≤ (w64 (4 * r517.1.Oper.Cycle)))) then ((law29_fits N r517.1 (w64 ((Int.tmod a1_ 8))) (w64 (a2_)) (if (w64 (4 * r3.Oper.Cycle)) < (w64 ((Int.tmod a4_ 60))) then (w64 (4 * r3.Oper.Cycle)) else (w64 ((Int.tmod a4_ 60))))).bind fun r524 => (some (r524 != p516.1))) else (some false)))))).bind fun (j526 : Bool) =>
 (if j526 then (some false) else ((iterF (fun x : Bool × Int => law29_SwapMeans_L2 N a1_ a3_ a4_ r3 x.1 x.2) N (true, 0)).bind fun o1039 => match o1039 with
 | (.inl p1040) => ((swap_Advance N r3 (w64 (r3.When - (w64 ((Int.tmod a3_ 40)))))).bind fun r1041 =>
 (((if (r1041.2 != 0) then (some true) else ((law29_fits N r3 (w64 ((Int.tmod a1_ 8))) (w64 (r3.When - (w64 ((Int.tmod a3_ 40))))) (if (w64 (4 * r3.Oper.Cycle)) < (w64 ((Int.tmod a4_ 60))) then (w64 (4 * r3.Oper.Cycle)) else (w64 ((Int.tmod a4_ 60))))).bind fun r1044 => (if (r1044 != p1040.1) then (some true) else (if (decide ((if (w64 (4 * r3.Oper.Cycle)) < (w64 ((Int.tmod a4_ 60))) then (w64 (4 * r3.Oper.Cycle)) else (w64 ((Int.tmod a4_ 60)))) ≤ (w64 (4 * r1041.1.Oper.Cycle)))) then ((law29_fits N r1041.1 (w64 ((Int.tmod a1_ 8))) (w64 (r3.When - (w64 ((Int.tmod a3_ 40))))) (if (w64 (4 * r3.Oper.Cycle)) < (w64 ((Int.tmod a4_ 60))) then (w64 (4 * r3.Oper.Cycle)) else (w64 ((Int.tmod a4_ 60))))).bind fun r1048 => (some (r1048 != p1040.1))) else (some false)))))).bind fun (j1050 : Bool) =>
 (if j1050 then (some false) else (some true))))
 | (.inr p1052) => (some p1052)))))
 | (.inr p1053) => (some p1053)))))
def law29_SwapKnown (N : Nat) : Option (Bool) :=
 ((law29_list N ([128, 10, 127, 30])).bind fun r1 =>
 ((swap_Set N (api_Change.mk (api_Gates.mk ([]) 0) 0 false (api_Gates.mk ([]) 0) 0) 1099511627777 (api_Gates.mk ([]) 0) 0).bind fun r2 =>
 ((swap_Advance N (api_Change.mk (api_Gates.mk ([]) 0) 0 false (api_Gates.mk ([]) 0) 0) 1099511627777).bind fun r3 =>
 ((swap_Mask N (api_Change.mk (api_Gates.mk ([]) 0) 0 false (api_Gates.mk ([]) 0) 0) 1099511627777).bind fun r4 =>
 ((swap_Fits N (api_Change.mk (api_Gates.mk ([]) 0) 0 false (api_Gates.mk ([]) 0) 0) 8 0 0).bind fun r5 =>
 ((((swap_Check N (api_Change.mk (api_Gates.mk ([]) 0) 0 false (api_Gates.mk ([]) 0) 0)).bind fun r6 => (if (r6 != 390) then (some true) else (if (r2.2 != 390) then (some true) else (if (r3.2 != 390) then (some true) else (if (r4.2 != 390) then (some true) else (some (r5.2 != 390)))))))).bind fun (j15 : Bool) =>
 (if j15 then (some false) else ((swap_Set N (api_Change.mk r1 1099511627777 true r1 47) 1099511627777 (api_Gates.mk ([]) 0) 0).bind fun r17 =>
 ((swap_Advance N (api_Change.mk r1 1099511627777 true r1 47) 1099511627777).bind fun r18 =>
 ((swap_Mask N (api_Change.mk r1 1099511627777 true r1 47) 1099511627777).bind fun r19 =>
 ((swap_Fits N (api_Change.mk r1 1099511627777 true r1 47) 8 0 0).bind fun r20 =>
 ((((swap_Check N (api_Change.mk r1 1099511627777 true r1 47)).bind fun r21 => (if (r21 != 390) then (some true) else (if (r17.2 != 390) then (some true) else (if (r18.2 != 390) then (some true) else (if (r19.2 != 390) then (some true) else (some (r20.2 != 390)))))))).bind fun (j30 : Bool) =>
 (if j30 then (some false) else ((swap_Set N (api_Change.mk r1 7 true r1 48) 1099511627777 (api_Gates.mk ([]) 0) 0).bind fun r32 =>
 ((swap_Advance N (api_Change.mk r1 7 true r1 48) 1099511627777).bind fun r33 =>
 ((swap_Mask N (api_Change.mk r1 7 true r1 48) 1099511627777).bind fun r34 =>
 ((swap_Fits N (api_Change.mk r1 7 true r1 48) 8 0 0).bind fun r35 =>
 ((((swap_Check N (api_Change.mk r1 7 true r1 48)).bind fun r36 => (if (r36 != 390) then (some true) else (if (r32.2 != 390) then (some true) else (if (r33.2 != 390) then (some true) else (if (r34.2 != 390) then (some true) else (some (r35.2 != 390)))))))).bind fun (j45 : Bool) =>
 (if j45 then (some false) else ((swap_Set N (api_Change.mk r1 7 true (api_Gates.mk ([]) 0) 47) 1099511627777 (api_Gates.mk ([]) 0) 0).bind fun r47 =>
 ((swap_Advance N (api_Change.mk r1 7 true (api_Gates.mk ([]) 0) 47) 1099511627777).bind fun r48 =>
 ((swap_Mask N (api_Change.mk r1 7 true (api_Gates.mk ([]) 0) 47) 1099511627777).bind fun r49 =>
 ((swap_Fits N (api_Change.mk r1 7 true (api_Gates.mk ([]) 0) 47) 8 0 0).bind fun r50 =>
 ((((swap_Check N (api_Change.mk r1 7 true (api_Gates.mk ([]) 0) 47)).bind fun r51 => (if (r51 != 390) then (some true) else (if (r47.2 != 390) then (some true) else (if (r48.2 != 390) then (some true) else (if (r49.2 != 390) then (some true) else (some (r50.2 != 390)))))))).bind fun (j60 : Bool) =>
 (if j60 then (some false) else ((swap_Set N (api_Change.mk r1 7 false r1 47) 1099511627777 (api_Gates.mk ([]) 0) 0).bind fun r62 =>
 ((swap_Advance N (api_Change.mk r1 7 false r1 47) 1099511627777).bind fun r63 =>
 ((swap_Mask N (api_Change.mk r1 7 false r1 47) 1099511627777).bind fun r64 =>
 ((swap_Fits N (api_Change.mk r1 7 false r1 47) 8 0 0).bind fun r65 =>
 ((((swap_Check N (api_Change.mk r1 7 false r1 47)).bind fun r66 => (if (r66 != 390) then (some true) else (if (r62.2 != 390) then (some true) else (if (r63.2 != 390) then (some true) else (if (r64.2 != 390) then (some true) else (some (r65.2 != 390)))))))).bind fun (j75 : Bool) =>
 (if j75 then (some false) else ((swap_Set N (api_Change.mk r1 7 true r1 2199023255559) 1099511627777 (api_Gates.mk ([]) 0) 0).bind fun r77 =>
 ((swap_Advance N (api_Change.mk r1 7 true r1 2199023255559) 1099511627777).bind fun r78 =>
 ((swap_Mask N (api_Change.mk r1 7 true r1 2199023255559) 1099511627777).bind fun r79 =>
 ((swap_Fits N (api_Change.mk r1 7 true r1 2199023255559) 8 0 0).bind fun r80 =>
 ((((swap_Check N (api_Change.mk r1 7 true r1 2199023255559)).bind fun r81 => (if (r81 != 390) then (some true) else (if (r77.2 != 390) then (some true) else (if (r78.2 != 390) then (some true) else (if (r79.2 != 390) then (some true) else (some (r80.2 != 390)))))))).bind fun (j90 : Bool) =>
 (if j90 then (some false) else ((swap_Set N (api_Change.mk (api_Gates.mk r1.Entries 41) 7 true r1 47) 1099511627777 (api_Gates.mk ([]) 0) 0).bind fun r92 =>
 ((swap_Advance N (api_Change.mk (api_Gates.mk r1.Entries 41) 7 true r1 47) 1099511627777).bind fun r93 =>
 ((swap_Mask N (api_Change.mk (api_Gates.mk r1.Entries 41) 7 true r1 47) 1099511627777).bind fun r94 =>
 ((swap_Fits N (api_Change.mk (api_Gates.mk r1.Entries 41) 7 true r1 47) 8 0 0).bind fun r95 =>
 ((((swap_Check N (api_Change.mk (api_Gates.mk r1.Entries 41) 7 true r1 47)).bind fun r96 => (if (r96 != 390) then (some true) else (if (r92.2 != 390) then (some true) else (if (r93.2 != 390) then (some true) else (if (r94.2 != 390) then (some true) else (some (r95.2 != 390)))))))).bind fun (j105 : Bool) =>
 (if j105 then (some false) else ((swap_Set N (api_Change.mk r1 0 false (api_Gates.mk ([]) 0) 1) 1099511627777 (api_Gates.mk ([]) 0) 0).bind fun r107 =>
 ((swap_Advance N (api_Change.mk r1 0 false (api_Gates.mk ([]) 0) 1) 1099511627777).bind fun r108 =>
 ((swap_Mask N (api_Change.mk r1 0 false (api_Gates.mk ([]) 0) 1) 1099511627777).bind fun r109 =>
 ((swap_Fits N (api_Change.mk r1 0 false (api_Gates.mk ([]) 0) 1) 8 0 0).bind fun r110 =>
 ((((swap_Check N (api_Change.mk r1 0 false (api_Gates.mk ([]) 0) 1)).bind fun r111 => (if (r111 != 390) then (some true) else (if (r107.2 != 390) then (some true) else (if (r108.2 != 390) then (some true) else (if (r109.2 != 390) then (some true) else (some (r110.2 != 390)))))))).bind fun (j120 : Bool) =>
 (if j120 then (some false) else ((swap_New N (api_Gates.mk ([]) 0) 1099511627777).bind fun r122 =>
 ((swap_New N r1 1099511627777).bind fun r123 =>
 ((swap_Set N (api_Change.mk r1 7 true r1 47) 1099511627777 (api_Gates.mk ([]) 0) 0).bind fun r124 =>
 ((swap_Set N (api_Change.mk r1 7 true r1 47) 0 (api_Gates.mk ([]) 0) 1099511627777).bind fun r125 =>
 ((swap_Set N (api_Change.mk r1 7 true r1 47) 0 r1 (-1099511627777)).bind fun r126 =>
 ((swap_Fits N (api_Change.mk r1 7 true r1 47) 0 0 161).bind fun r127 =>
 ((swap_Fits N (api_Change.mk r1 7 true r1 47) 8 0 0).bind fun r128 =>
 ((swap_Advance N (api_Change.mk r1 7 true r1 47) 1099511627777).bind fun r129 =>
 ((swap_Set N (api_Change.mk r1 1 false (api_Gates.mk ([]) 0) 0) 1099511627776 r1 0).bind fun r130 =>
 ((swap_Advance N r130.1 1099511627776).bind fun r131 =>
 ((law29_list N ([127, 9])).bind fun r132 =>
 ((swap_Set N (api_Change.mk r1 7 true r1 47) 47 r132 0).bind fun r133 =>
 ((((law29_works N).bind fun r148 => (if r148 then (if ((r122.2 == 370) && ((r123.2 == 2) && ((r124.2 == 2) && ((r125.2 == 370) && ((r126.2 == 2) && ((r127.2 == 2) && ((r128.2 == 2) && (r129.2 == 2)))))))) then ((swap_Check N (api_Change.mk r1 7 true r1 47)).bind fun r151 => (if (r151 == 0) then (if (r130.2 == 0) then (if (decide (r130.1.When > 1099511627776)) then ((swap_Check N r130.1).bind fun r155 => (if (r155 == 0) then (if (r131.2 == 0) then ((ref29_Same N r131.1 r130.1).bind fun r158 => (if r158 then (if (r133.2 == 0) then (if (r133.1.Base == 47) then (if (r133.1.When == 47) then ((law29_fits N (api_Change.mk r1 7 true r1 47) 0 20 27).bind fun r163 => (if r163 then ((law29_fits N (api_Change.mk r1 7 true r1 47) 0 20 28).bind fun r165 => (some (!r165))) else (some false))) else (some false)) else (some false)) else (some false)) else (some false))) else (some false)) else (some false))) else (some false)) else (some false)) else (some false))) else (some false)) else (some false)))).bind fun (j178 : Bool) =>
 (some j178)))))))))))))))))))))))))))))))))))))))))))))))))))))))))))))))
end Go.Sh
