/- The plain Lean functions that the Go functions of this seat compute; written by sym.py. -/
import Derived.Test.YtjmcikjcknddbaaE19
namespace Go.Sh
open Go Go.Eng
set_option linter.unusedVariables false
set_option linter.unusedSimpArgs false
set_option maxRecDepth 100000
structure ref27_Draft where
  Masks : (List Int)
  Longs : (List Int)
def e_ref27_Draft (v : ref27_Draft) : List PC := [.sl 1 false (List.map (eI .u8) v.Masks), .sl 1 false (List.map (eI .u8) v.Longs)]
structure api_Entry where
  Mask : Int
  Long : Int
def e_api_Entry (v : api_Entry) : List PC := [.int .i64 v.Mask, .int .i64 v.Long]
structure api_Gates where
  Entries : (List api_Entry)
  Cycle : Int
def e_api_Gates (v : api_Gates) : List PC := [.sl 2 false (List.map e_api_Entry v.Entries), .int .i64 v.Cycle]
structure Arr3_i64 where
  x0 : Int
  x1 : Int
  x2 : Int
def e_Arr3_i64 (v : Arr3_i64) : List PC := [.int .i64 v.x0, .int .i64 v.x1, .int .i64 v.x2]
structure Arr3_api_Gates where
  x0 : api_Gates
  x1 : api_Gates
  x2 : api_Gates
def e_Arr3_api_Gates (v : Arr3_api_Gates) : List PC := [.sl 2 false (List.map e_api_Entry v.x0.Entries), .int .i64 v.x0.Cycle, .sl 2 false (List.map e_api_Entry v.x1.Entries), .int .i64 v.x1.Cycle, .sl 2 false (List.map e_api_Entry v.x2.Entries), .int .i64 v.x2.Cycle]
def gates_Check_L1 (N : Nat) (a0_ : api_Gates) (i4 : Int) (i5 : Int) : Option ((Int × Int) ⊕ ((Int × Int) ⊕ (Int))) :=
 (if (decide (i5 < ((List.length a0_.Entries : Nat) : Int))) then ((idx a0_.Entries i5).bind fun e507 =>
 (if ((decide (e507.Mask < 0)) || ((decide (e507.Mask > 255)) || ((decide (e507.Long < 1)) || (decide (e507.Long > 9600000))))) then (some (.inr (.inr 370))) else (some (.inl ((w64 (i4 + e507.Long)), (w64 (i5 + 1))))))) else (some (.inr (.inl (i4, i5)))))
def gates_Check (N : Nat) (a0_ : api_Gates) : Option (Int) :=
 (if ((decide (((List.length a0_.Entries : Nat) : Int) < 1)) || (decide (((List.length a0_.Entries : Nat) : Int) > 128))) then (some 370) else ((iterF (fun x : Int × Int => gates_Check_L1 N a0_ x.1 x.2) N (0, 0)).bind fun o515 => match o515 with
 | (.inl p516) => (if ((p516.1 != a0_.Cycle) || (decide (p516.1 > 9600000))) then (some 370) else (some 0))
 | (.inr p520) => (some p520)))
def ref27_Draft_Gates_L1 (N : Nat) (a0_ : ref27_Draft) (i3 : Int) (i4 : Int) (l5 : (List api_Entry)) : Option ((Int × Int × (List api_Entry)) ⊕ ((Int × Int × (List api_Entry)))) :=
 (if (decide (i3 < (if (if 16 < ((List.length a0_.Masks : Nat) : Int) then 16 else ((List.length a0_.Masks : Nat) : Int)) > 1 then (if 16 < ((List.length a0_.Masks : Nat) : Int) then 16 else ((List.length a0_.Masks : Nat) : Int)) else 1))) then (((if (decide (i3 < ((List.length a0_.Masks : Nat) : Int))) then ((idx a0_.Masks i3).bind fun e1011 =>
 (some (w64 (e1011)))) else (some 127))).bind fun (j1009 : Int) =>
 (((if (decide (i3 < ((List.length a0_.Longs : Nat) : Int))) then ((idx a0_.Longs i3).bind fun e1514 =>
 (some (w64 (1 + (w64 ((Int.tmod e1514 20))))))) else (some 1))).bind fun (j1512 : Int) =>
 ((appI 16 l5 [(api_Entry.mk j1009 j1512)]).bind fun l1517 =>
 (some (.inl ((w64 (i3 + 1)), (w64 (i4 + j1512)), l1517)))))) else (some (.inr (i3, i4, l5))))
def ref27_Draft_Gates (N : Nat) (a0_ : ref27_Draft) : Option (api_Gates) :=
 ((iterF (fun x : Int × Int × (List api_Entry) => ref27_Draft_Gates_L1 N a0_ x.1 x.2.1 x.2.2) N (0, 0, [])).bind fun o1518 =>
 (some (api_Gates.mk o1518.2.2 o1518.2.1)))
def law27_list_L1 (N : Nat) (a0_ : (List Int)) (i3 : Int) (i4 : Int) (l5 : (List api_Entry)) : Option ((Int × Int × (List api_Entry)) ⊕ ((Int × Int × (List api_Entry)))) :=
 (if (decide ((w64 (i3 + 1)) < ((List.length a0_ : Nat) : Int))) then ((idx a0_ i3).bind fun e509 =>
 ((idx a0_ (w64 (i3 + 1))).bind fun e510 =>
 ((appI 16 l5 [(api_Entry.mk e509 e510)]).bind fun l513 =>
 ((idx a0_ (w64 (i3 + 1))).bind fun e514 =>
 (some (.inl ((w64 (i3 + 2)), (w64 (i4 + e514)), l513))))))) else (some (.inr (i3, i4, l5))))
def law27_list (N : Nat) (a0_ : (List Int)) : Option (api_Gates) :=
 ((iterF (fun x : Int × Int × (List api_Entry) => law27_list_L1 N a0_ x.1 x.2.1 x.2.2) N (0, 0, [])).bind fun o515 =>
 (some (api_Gates.mk o515.2.2 o515.2.1)))
def gates_check (N : Nat) (a0_ : api_Gates) (a1_ : Int) (a2_ : Int) (a3_ : Int) : Option (Int) :=
 ((gates_Check N a0_).bind fun r1 =>
 (if (r1 != 0) then (some r1) else (if ((decide (a1_ < 0)) || ((decide (a1_ ≥ 8)) || ((decide (a2_ < (-1099511627776))) || ((decide (a2_ > 1099511627776)) || ((decide (a3_ < 0)) || (decide (a3_ > 1099511627776))))))) then (some 2) else (some 0))))
def gates_find_L1 (N : Nat) (a0_ : api_Gates) (i3 : Int) (i4 : Int) : Option ((Int × Int) ⊕ ((Int × Int))) :=
 ((idx a0_.Entries i4).bind fun e505 =>
 (if (decide (i3 ≥ e505.Long)) then ((idx a0_.Entries i4).bind fun e507 =>
 (some (.inl ((w64 (i3 - e507.Long)), (w64 (i4 + 1)))))) else ((idx a0_.Entries i4).bind fun e508 =>
 (some (.inr (i4, (w64 (e508.Long - i3))))))))
def gates_find (N : Nat) (a0_ : api_Gates) (a1_ : Int) : Option (Int × Int) :=
 ((remI a1_ a0_.Cycle).bind fun m1 =>
 ((remI (w64 (m1 + a0_.Cycle)) a0_.Cycle).bind fun m2 =>
 ((iterF (fun x : Int × Int => gates_find_L1 N a0_ x.1 x.2) N (m2, 0)).bind fun o509 =>
 (some o509))))
def gates_stretch_L1 (N : Nat) (a0_ : api_Gates) (a2_ : Int → Option (Bool)) (i2 : Int) (i3 : Int) (i4 : Int) (i5 : Int) : Option ((Int × Int × Int × Int) ⊕ ((Int × Int × Int × Int) ⊕ (Int))) :=
 (if (decide (i5 < (w64 (((List.length a0_.Entries : Nat) : Int) + 1)))) then ((idx a0_.Entries i2).bind fun e507 =>
 ((a2_ e507.Mask).bind fun r508 =>
 (if (!r508) then (some (.inr (.inr i4))) else ((remI (w64 (i2 + 1)) ((List.length a0_.Entries : Nat) : Int)).bind fun m510 =>
 ((idx a0_.Entries m510).bind fun e511 =>
 (some (.inl (m510, e511.Long, (w64 (i4 + i3)), (w64 (i5 + 1)))))))))) else (some (.inr (.inl (i2, i3, i4, i5)))))
def gates_stretch (N : Nat) (a0_ : api_Gates) (a1_ : Int) (a2_ : Int → Option (Bool)) : Option (Int) :=
 ((gates_find N a0_ a1_).bind fun r1 =>
 ((iterF (fun x : Int × Int × Int × Int => gates_stretch_L1 N a0_ a2_ x.1 x.2.1 x.2.2.1 x.2.2.2) N (r1.1, r1.2, 0, 0)).bind fun o512 => match o512 with
 | (.inl p513) => (some a0_.Cycle)
 | (.inr p514) => (some p514)))
def gates_Turn_1 (N : Nat) (a0_ : Int) (c0_ : Int) : Option (Bool) :=
 (some (a0_ == c0_))
def ref27_At_L1 (N : Nat) (a0_ : api_Gates) (i504 : Int) (i505 : Int) : Option ((Int × Int) ⊕ ((Int × Int))) :=
 ((idx a0_.Entries i505).bind fun e1006 =>
 (if (decide (i504 ≥ e1006.Long)) then ((idx a0_.Entries i505).bind fun e1008 =>
 (some (.inl ((w64 (i504 - e1008.Long)), (w64 (i505 + 1)))))) else (some (.inr (i504, i505)))))
def ref27_At (N : Nat) (a0_ : api_Gates) (a1_ : Int) : Option (Int × Int) :=
 ((remI a1_ a0_.Cycle).bind fun m1 =>
 (((if (decide (m1 < 0)) then (some (w64 (m1 + a0_.Cycle))) else (some m1))).bind fun (j502 : Int) =>
 ((iterF (fun x : Int × Int => ref27_At_L1 N a0_ x.1 x.2) N (j502, 0)).bind fun o1009 =>
 (some (o1009.2, o1009.1)))))
def ref27_Right_L1 (N : Nat) (a0_ : api_Gates) (i4 : Int) (i5 : Int) : Option ((Int × Int) ⊕ ((Int × Int) ⊕ (Bool))) :=
 (if (decide (i5 < ((List.length a0_.Entries : Nat) : Int))) then ((idx a0_.Entries i5).bind fun e507 =>
 (if ((decide (e507.Mask < 0)) || ((decide (e507.Mask > 255)) || ((decide (e507.Long < 1)) || (decide (e507.Long > 9600000))))) then (some (.inr (.inr false))) else (some (.inl ((w64 (i4 + e507.Long)), (w64 (i5 + 1))))))) else (some (.inr (.inl (i4, i5)))))
def ref27_Right (N : Nat) (a0_ : api_Gates) : Option (Bool) :=
 (if ((decide (((List.length a0_.Entries : Nat) : Int) < 1)) || (decide (((List.length a0_.Entries : Nat) : Int) > 128))) then (some false) else ((iterF (fun x : Int × Int => ref27_Right_L1 N a0_ x.1 x.2) N (0, 0)).bind fun o515 => match o515 with
 | (.inl p516) => (some ((p516.1 == a0_.Cycle) && (decide (p516.1 ≤ 9600000))))
 | (.inr p519) => (some p519)))
def gates_Fit_1 (N : Nat) (a0_ : Int) (c0_ : Int) : Option (Bool) :=
 ((shrI .i64 a0_ c0_).bind fun sh2 =>
 (some ((andI .i64 sh2 1) == 0)))
def gates_open_1 (N : Nat) (a0_ : Int) (c0_ : Int) : Option (Bool) :=
 ((shrI .i64 a0_ c0_).bind fun sh2 =>
 (some ((andI .i64 sh2 1) == 1)))
def ref27_Bit (N : Nat) (a0_ : Int) (a1_ : Int) : Option (Bool) :=
 ((shrI .i64 a0_ (IntKind.u64.wrap (a1_))).bind fun sh1 =>
 (some ((Int.tmod sh1 2) == 1)))
def law27_lists (N : Nat) (a0_ : ref27_Draft) (a1_ : api_Gates) (a2_ : Int) : Option (Arr3_api_Gates) :=
 ((ref27_Draft_Gates N a0_).bind fun r1 =>
 ((subI a1_.Entries 0 (if 140 < ((List.length a1_.Entries : Nat) : Int) then 140 else ((List.length a1_.Entries : Nat) : Int))).bind fun l2 =>
 ((appI 16 [] r1.Entries).bind fun l5 =>
 (((if ((decide (((List.length l2 : Nat) : Int) > 0)) && (decide ((Int.tmod a2_ 4) > 0))) then ((remI (w64 (a2_)) ((List.length l5 : Nat) : Int)).bind fun m513 =>
 ((idx l2 0).bind fun e514 =>
 ((idx l5 m513).bind fun e515 =>
 (some (r1.Cycle, (List.set l5 (Int.toNat m513) e514)))))) else (some (a1_.Cycle, l5)))).bind fun (j508 : Int × (List api_Entry)) =>
 (some (Arr3_api_Gates.mk r1 (api_Gates.mk l2 a1_.Cycle) (api_Gates.mk j508.2 j508.1)))))))
def gates_Mask (N : Nat) (a0_ : api_Gates) (a1_ : Int) : Option (Int × Int) :=
 ((gates_check N a0_ 0 a1_ 0).bind fun r1 =>
 (if (r1 != 0) then (some (0, r1)) else ((gates_find N a0_ a1_).bind fun r3 =>
 ((idx a0_.Entries r3.1).bind fun e4 =>
 (some (e4.Mask, 0))))))
def gates_Turn (N : Nat) (a0_ : api_Gates) (a1_ : Int) : Option (Int × Int) :=
 ((gates_check N a0_ 0 a1_ 0).bind fun r1 =>
 (if (r1 != 0) then (some (0, r1)) else ((gates_find N a0_ a1_).bind fun r3 =>
 ((idx a0_.Entries r3.1).bind fun e4 =>
 ((gates_stretch N a0_ a1_ (fun x0 => gates_Turn_1 N x0 e4.Mask)).bind fun r8 =>
 (if (r8 == a0_.Cycle) then (some (0, 4)) else (some ((w64 (a1_ + r8)), 0))))))))
def ref27_Check (N : Nat) (a0_ : api_Gates) : Option (Int) :=
 ((ref27_Right N a0_).bind fun r1 =>
 (if r1 then (some 0) else (some 370)))
def law27_mask (N : Nat) (a0_ : api_Gates) (a1_ : Int) : Option (Int) :=
 ((gates_Mask N a0_ a1_).bind fun r1 =>
 (if (r1.2 != 0) then (some (-1)) else (some r1.1)))
def ref27_times (N : Nat) (a0_ : api_Gates) (a1_ : Int) (a2_ : Int) (a3_ : Int) : Option (Int) :=
 ((ref27_Right N a0_).bind fun r1 =>
 (if (!r1) then (some 370) else (if ((decide (a1_ < 0)) || ((decide (a1_ > 7)) || ((decide (a2_ < (-1099511627776))) || ((decide (a2_ > 1099511627776)) || ((decide (a3_ < 0)) || (decide (a3_ > 1099511627776))))))) then (some 2) else (some 0))))
def ref27_State (N : Nat) (a0_ : api_Gates) (a1_ : Int) : Option (Int) :=
 ((ref27_At N a0_ a1_).bind fun r1 =>
 ((idx a0_.Entries r1.1).bind fun e2 =>
 (some e2.Mask)))
def gates_open (N : Nat) (a0_ : api_Gates) (a1_ : Int) (a2_ : Int) : Option (Int) :=
 ((gates_stretch N a0_ a2_ (fun x0 => gates_open_1 N x0 a1_)).bind fun r3 =>
 (if (r3 == a0_.Cycle) then (some 1099511627776) else (some r3)))
def ref27_Span_L1 (N : Nat) (a0_ : api_Gates) (a1_ : Int) (r1 : Int × Int) (i2 : Int) (i3 : Int) : Option ((Int × Int) ⊕ ((Int × Int) ⊕ (Int))) :=
 (if (decide (i3 < ((List.length a0_.Entries : Nat) : Int))) then ((remI (w64 (r1.1 + i3)) ((List.length a0_.Entries : Nat) : Int)).bind fun m505 =>
 ((idx a0_.Entries m505).bind fun e506 =>
 ((ref27_Bit N e506.Mask a1_).bind fun r507 =>
 (if (!r507) then (some (.inr (.inr (if 0 > i2 then 0 else i2)))) else (some (.inl ((w64 (i2 + e506.Long)), (w64 (i3 + 1))))))))) else (some (.inr (.inl (i2, i3)))))
def ref27_Span (N : Nat) (a0_ : api_Gates) (a1_ : Int) (a2_ : Int) : Option (Int) :=
 ((ref27_At N a0_ a2_).bind fun r1 =>
 ((iterF (fun x : Int × Int => ref27_Span_L1 N a0_ a1_ r1 x.1 x.2) N ((w64 (0 - r1.2)), 0)).bind fun o509 => match o509 with
 | (.inl p510) => (some 1099511627776)
 | (.inr p511) => (some p511)))
def ref27_Earliest_L1 (N : Nat) (a0_ : api_Gates) (a1_ : Int) (a3_ : Int) (r6 : Int × Int) (i7 : Int) (i8 : Int) : Option ((Int × Int) ⊕ ((Int × Int) ⊕ (Int × Bool))) :=
 (if (decide (i8 < ((List.length a0_.Entries : Nat) : Int))) then ((remI (w64 (r6.1 + i8)) ((List.length a0_.Entries : Nat) : Int)).bind fun m510 =>
 ((idx a0_.Entries m510).bind fun e511 =>
 ((ref27_Span N a0_ a1_ (w64 (i7 + e511.Long))).bind fun r512 =>
 (if (decide (r512 ≥ a3_)) then (some (.inr (.inr ((w64 (i7 + e511.Long)), true)))) else (some (.inl ((w64 (i7 + e511.Long)), (w64 (i8 + 1))))))))) else (some (.inr (.inl (i7, i8)))))
def ref27_Earliest (N : Nat) (a0_ : api_Gates) (a1_ : Int) (a2_ : Int) (a3_ : Int) : Option (Int × Bool) :=
 (((if (a3_ == 0) then (some true) else ((ref27_Span N a0_ a1_ a2_).bind fun r3 => (some (decide (r3 ≥ a3_)))))).bind fun (j4 : Bool) =>
 (if j4 then (some (a2_, true)) else ((ref27_At N a0_ a2_).bind fun r6 =>
 ((iterF (fun x : Int × Int => ref27_Earliest_L1 N a0_ a1_ a3_ r6 x.1 x.2) N ((w64 (a2_ - r6.2)), 0)).bind fun o514 => match o514 with
 | (.inl p515) => (some (0, false))
 | (.inr p516) => (some p516)))))
def ref27_Mask (N : Nat) (a0_ : api_Gates) (a1_ : Int) : Option (Int × Int) :=
 ((ref27_times N a0_ 0 a1_ 0).bind fun r1 =>
 (if (r1 != 0) then (some (0, r1)) else ((ref27_State N a0_ a1_).bind fun r3 =>
 (some (r3, 0)))))
def ref27_Turn_L1 (N : Nat) (a0_ : api_Gates) (r3 : Int × Int) (i4 : Int) (i5 : Int) : Option ((Int × Int) ⊕ ((Int × Int) ⊕ (Int × Int))) :=
 (if (decide (i5 < ((List.length a0_.Entries : Nat) : Int))) then ((remI (w64 (r3.1 + i5)) ((List.length a0_.Entries : Nat) : Int)).bind fun m507 =>
 ((idx a0_.Entries m507).bind fun e508 =>
 ((ref27_State N a0_ (w64 (i4 + e508.Long))).bind fun r509 =>
 ((idx a0_.Entries r3.1).bind fun e510 =>
 (if (r509 != e510.Mask) then (some (.inr (.inr ((w64 (i4 + e508.Long)), 0)))) else (some (.inl ((w64 (i4 + e508.Long)), (w64 (i5 + 1)))))))))) else (some (.inr (.inl (i4, i5)))))
def ref27_Turn (N : Nat) (a0_ : api_Gates) (a1_ : Int) : Option (Int × Int) :=
 ((ref27_times N a0_ 0 a1_ 0).bind fun r1 =>
 (if (r1 != 0) then (some (0, r1)) else ((ref27_At N a0_ a1_).bind fun r3 =>
 ((iterF (fun x : Int × Int => ref27_Turn_L1 N a0_ r3 x.1 x.2) N ((w64 (a1_ - r3.2)), 0)).bind fun o512 => match o512 with
 | (.inl p513) => (some (0, 4))
 | (.inr p514) => (some p514)))))
def gates_Open (N : Nat) (a0_ : api_Gates) (a1_ : Int) (a2_ : Int) : Option (Int × Int) :=
 ((gates_check N a0_ a1_ a2_ 0).bind fun r1 =>
 (if (r1 != 0) then (some (0, r1)) else ((gates_open N a0_ a1_ a2_).bind fun r3 =>
 (some (r3, 0)))))
def ref27_Open (N : Nat) (a0_ : api_Gates) (a1_ : Int) (a2_ : Int) : Option (Int × Int) :=
 ((ref27_times N a0_ a1_ a2_ 0).bind fun r1 =>
 (if (r1 != 0) then (some (0, r1)) else ((ref27_Span N a0_ a1_ a2_).bind fun r3 =>
 (some (r3, 0)))))
def gates_Fits (N : Nat) (a0_ : api_Gates) (a1_ : Int) (a2_ : Int) (a3_ : Int) : Option (Bool × Int) :=
 ((gates_check N a0_ a1_ a2_ a3_).bind fun r1 =>
 (if (r1 != 0) then (some (false, r1)) else ((gates_open N a0_ a1_ a2_).bind fun r3 =>
 (some ((decide (r3 ≥ a3_)), 0)))))
def ref27_Fits (N : Nat) (a0_ : api_Gates) (a1_ : Int) (a2_ : Int) (a3_ : Int) : Option (Bool × Int) :=
 ((ref27_times N a0_ a1_ a2_ a3_).bind fun r1 =>
 (if (r1 != 0) then (some (false, r1)) else (((if (a3_ == 0) then (some true) else ((ref27_Span N a0_ a1_ a2_).bind fun r5 => (some (decide (r5 ≥ a3_)))))).bind fun (j6 : Bool) =>
 (some (j6, 0)))))
def gates_Fit_L1 (N : Nat) (a0_ : api_Gates) (a1_ : Int) (a2_ : Int) (a3_ : Int) (i6 : Int) : Option ((Int) ⊕ ((Int) ⊕ (Int × Int))) :=
 (if (decide (i6 < (w64 (a2_ + (w64 (2 * a0_.Cycle)))))) then ((gates_open N a0_ a1_ i6).bind fun r509 =>
 (if (decide (r509 ≥ a3_)) then (some (.inr (.inr (i6, 0)))) else ((gates_stretch N a0_ (w64 (i6 + r509)) (fun x0 => gates_Fit_1 N x0 a1_)).bind fun r511 =>
 (some (.inl (w64 ((w64 (i6 + r509)) + r511))))))) else (some (.inr (.inl i6))))
def gates_Fit (N : Nat) (a0_ : api_Gates) (a1_ : Int) (a2_ : Int) (a3_ : Int) : Option (Int × Int) :=
 ((gates_check N a0_ a1_ a2_ a3_).bind fun r4 =>
 (if (r4 != 0) then (some (0, r4)) else ((iterF (fun x : Int => gates_Fit_L1 N a0_ a1_ a2_ a3_ x) N a2_).bind fun o512 => match o512 with
 | (.inl p513) => (some (0, 4))
 | (.inr p514) => (some p514))))
def ref27_Fit (N : Nat) (a0_ : api_Gates) (a1_ : Int) (a2_ : Int) (a3_ : Int) : Option (Int × Int) :=
 ((ref27_times N a0_ a1_ a2_ a3_).bind fun r1 =>
 (if (r1 != 0) then (some (0, r1)) else ((ref27_Earliest N a0_ a1_ a2_ a3_).bind fun r3 =>
 (if (!r3.2) then (some (0, 4)) else (some (r3.1, 0))))))
def law27_open (N : Nat) (a0_ : api_Gates) (a1_ : Int) (a2_ : Int) : Option (Int) :=
 ((gates_Open N a0_ a1_ a2_).bind fun r1 =>
 (if (r1.2 != 0) then (some (-1)) else (some r1.1)))
def law27_fits (N : Nat) (a0_ : api_Gates) (a1_ : Int) (a2_ : Int) (a3_ : Int) : Option (Bool) :=
 ((gates_Fits N a0_ a1_ a2_ a3_).bind fun r1 =>
 (some (r1.1 && (r1.2 == 0))))
def law27_fit (N : Nat) (a0_ : api_Gates) (a1_ : Int) (a2_ : Int) (a3_ : Int) : Option (Int) :=
 ((gates_Fit N a0_ a1_ a2_ a3_).bind fun r1 =>
 (if (r1.2 != 0) then (some (-1)) else (some r1.1)))
def law27_works (N : Nat) : Option (Bool) :=
 ((law27_list N ([128, 10, 127, 30])).bind fun r1 =>
 ((gates_Fit N r1 7 0 11).bind fun r2 =>
 ((gates_Turn N r1 5).bind fun r3 =>
 ((gates_Turn N r1 35).bind fun r4 =>
 ((((law27_mask N r1 5).bind fun r5 => (if (r5 == 128) then ((law27_mask N r1 10).bind fun r7 => (if (r7 == 127) then ((law27_mask N r1 (-1)).bind fun r9 => (some (r9 == 127))) else (some false))) else (some false)))).bind fun (j12 : Bool) =>
 ((((law27_open N r1 7 3).bind fun r13 => (if (r13 == 7) then ((law27_open N r1 6 35).bind fun r15 => (if (r15 == 5) then ((law27_open N r1 6 3).bind fun r17 => (if (r17 == 0) then ((law27_fits N r1 6 35 5).bind fun r19 => (if r19 then ((law27_fits N r1 6 35 6).bind fun r21 => (some (!r21))) else (some false))) else (some false))) else (some false))) else (some false)))).bind fun (j26 : Bool) =>
 (((if j12 then (if j26 then ((law27_fit N r1 6 35 5).bind fun r29 => (if (r29 == 35) then ((law27_fit N r1 6 35 6).bind fun r31 => (if (r31 == 50) then (if (r2.2 == 4) then (if (r3.1 == 10) then (if (r3.2 == 0) then (if (r4.1 == 40) then (some (r4.2 == 0)) else (some false)) else (some false)) else (some false)) else (some false)) else (some false))) else (some false))) else (some false)) else (some false))).bind fun (j45 : Bool) =>
 (some j45))))))))
def law27_GatesChecks (N : Nat) (a0_ : ref27_Draft) (a1_ : api_Gates) (a2_ : Int) (a3_ : Int) : Option (Bool) :=
 ((law27_lists N a0_ a1_ a2_).bind fun r1 =>
 ((gates_Mask N r1.x0 a3_).bind fun r2 =>
 ((ref27_Mask N r1.x0 a3_).bind fun r3 =>
 ((gates_Turn N r1.x0 a3_).bind fun r4 =>
 ((ref27_Turn N r1.x0 a3_).bind fun r5 =>
 (if ((r2.1 != r3.1) || ((r2.2 != r3.2) || ((r4.1 != r5.1) || (r4.2 != r5.2)))) then (some false) else ((gates_Mask N r1.x0 (Int.tmod a3_ 1000)).bind fun r13 =>
 ((ref27_Mask N r1.x0 (Int.tmod a3_ 1000)).bind fun r14 =>
 ((gates_Turn N r1.x0 (Int.tmod a3_ 1000)).bind fun r15 =>
 ((ref27_Turn N r1.x0 (Int.tmod a3_ 1000)).bind fun r16 =>
 (if ((r13.1 != r14.1) || ((r13.2 != r14.2) || ((r15.1 != r16.1) || (r15.2 != r16.2)))) then (some false) else ((gates_Mask N r1.x0 (w64 (0 - (Int.tmod a3_ 300)))).bind fun r24 =>
 ((ref27_Mask N r1.x0 (w64 (0 - (Int.tmod a3_ 300)))).bind fun r25 =>
 ((gates_Turn N r1.x0 (w64 (0 - (Int.tmod a3_ 300)))).bind fun r26 =>
 ((ref27_Turn N r1.x0 (w64 (0 - (Int.tmod a3_ 300)))).bind fun r27 =>
 (if ((r24.1 != r25.1) || ((r24.2 != r25.2) || ((r26.1 != r27.1) || (r26.2 != r27.2)))) then (some false) else ((gates_Check N r1.x0).bind fun r35 =>
 ((ref27_Check N r1.x0).bind fun r36 =>
 (if (r35 != r36) then (some false) else ((gates_Mask N r1.x1 a3_).bind fun r38 =>
 ((ref27_Mask N r1.x1 a3_).bind fun r39 =>
 ((gates_Turn N r1.x1 a3_).bind fun r40 =>
 ((ref27_Turn N r1.x1 a3_).bind fun r41 =>
 (if ((r38.1 != r39.1) || ((r38.2 != r39.2) || ((r40.1 != r41.1) || (r40.2 != r41.2)))) then (some false) else ((gates_Mask N r1.x1 (Int.tmod a3_ 1000)).bind fun r49 =>
 ((ref27_Mask N r1.x1 (Int.tmod a3_ 1000)).bind fun r50 =>
 ((gates_Turn N r1.x1 (Int.tmod a3_ 1000)).bind fun r51 =>
 ((ref27_Turn N r1.x1 (Int.tmod a3_ 1000)).bind fun r52 =>
 (if ((r49.1 != r50.1) || ((r49.2 != r50.2) || ((r51.1 != r52.1) || (r51.2 != r52.2)))) then (some false) else ((gates_Mask N r1.x1 (w64 (0 - (Int.tmod a3_ 300)))).bind fun r60 =>
 ((ref27_Mask N r1.x1 (w64 (0 - (Int.tmod a3_ 300)))).bind fun r61 =>
 ((gates_Turn N r1.x1 (w64 (0 - (Int.tmod a3_ 300)))).bind fun r62 =>
 ((ref27_Turn N r1.x1 (w64 (0 - (Int.tmod a3_ 300)))).bind fun r63 =>
 (if ((r60.1 != r61.1) || ((r60.2 != r61.2) || ((r62.1 != r63.1) || (r62.2 != r63.2)))) then (some false) else ((gates_Check N r1.x1).bind fun r71 =>
 ((ref27_Check N r1.x1).bind fun r72 =>
 (if (r71 != r72) then (some false) else ((gates_Mask N r1.x2 a3_).bind fun r74 =>
 ((ref27_Mask N r1.x2 a3_).bind fun r75 =>
 ((gates_Turn N r1.x2 a3_).bind fun r76 =>
 ((ref27_Turn N r1.x2 a3_).bind fun r77 =>
 (if ((r74.1 != r75.1) || ((r74.2 != r75.2) || ((r76.1 != r77.1) || (r76.2 != r77.2)))) then (some false) else ((gates_Mask N r1.x2 (Int.tmod a3_ 1000)).bind fun r85 =>
 ((ref27_Mask N r1.x2 (Int.tmod a3_ 1000)).bind fun r86 =>
 ((gates_Turn N r1.x2 (Int.tmod a3_ 1000)).bind fun r87 =>
 ((ref27_Turn N r1.x2 (Int.tmod a3_ 1000)).bind fun r88 =>
 (if ((r85.1 != r86.1) || ((r85.2 != r86.2) || ((r87.1 != r88.1) || (r87.2 != r88.2)))) then (some false) else ((gates_Mask N r1.x2 (w64 (0 - (Int.tmod a3_ 300)))).bind fun r96 =>
 ((ref27_Mask N r1.x2 (w64 (0 - (Int.tmod a3_ 300)))).bind fun r97 =>
 ((gates_Turn N r1.x2 (w64 (0 - (Int.tmod a3_ 300)))).bind fun r98 =>
 ((ref27_Turn N r1.x2 (w64 (0 - (Int.tmod a3_ 300)))).bind fun r99 =>
 (if ((r96.1 != r97.1) || ((r96.2 != r97.2) || ((r98.1 != r99.1) || (r98.2 != r99.2)))) then (some false) else ((gates_Check N r1.x2).bind fun r107 =>
 ((ref27_Check N r1.x2).bind fun r108 =>
 (if (r107 != r108) then (some false) else ((law27_works N).bind fun r110 =>
 (some r110)))))))))))))))))))))))))))))))))))))))))))))))))))))))))
def law27_GatesOpens (N : Nat) (a0_ : ref27_Draft) (a1_ : api_Gates) (a2_ : Int) (a3_ : Arr3_i64) : Option (Bool) :=
 ((law27_lists N a0_ a1_ a2_).bind fun r1 =>
 ((gates_Open N r1.x0 a3_.x0 a3_.x1).bind fun r2 =>
 ((ref27_Open N r1.x0 a3_.x0 a3_.x1).bind fun r3 =>
 ((gates_Fits N r1.x0 a3_.x0 a3_.x1 a3_.x2).bind fun r4 =>
 ((ref27_Fits N r1.x0 a3_.x0 a3_.x1 a3_.x2).bind fun r5 =>
 (if ((r2.1 != r3.1) || ((r2.2 != r3.2) || ((r4.1 != r5.1) || (r4.2 != r5.2)))) then (some false) else ((gates_Open N r1.x0 (Int.tmod a3_.x0 8) (Int.tmod a3_.x1 1000)).bind fun r13 =>
 ((ref27_Open N r1.x0 (Int.tmod a3_.x0 8) (Int.tmod a3_.x1 1000)).bind fun r14 =>
 ((gates_Fits N r1.x0 (Int.tmod a3_.x0 8) (Int.tmod a3_.x1 1000) (Int.tmod a3_.x2 50)).bind fun r15 =>
 ((ref27_Fits N r1.x0 (Int.tmod a3_.x0 8) (Int.tmod a3_.x1 1000) (Int.tmod a3_.x2 50)).bind fun r16 =>
 (if ((r13.1 != r14.1) || ((r13.2 != r14.2) || ((r15.1 != r16.1) || (r15.2 != r16.2)))) then (some false) else ((gates_Open N r1.x0 6 (Int.tmod a3_.x1 1000)).bind fun r24 =>
 ((ref27_Open N r1.x0 6 (Int.tmod a3_.x1 1000)).bind fun r25 =>
 ((gates_Fits N r1.x0 6 (Int.tmod a3_.x1 1000) (Int.tmod a3_.x2 50)).bind fun r26 =>
 ((ref27_Fits N r1.x0 6 (Int.tmod a3_.x1 1000) (Int.tmod a3_.x2 50)).bind fun r27 =>
 (if ((r24.1 != r25.1) || ((r24.2 != r25.2) || ((r26.1 != r27.1) || (r26.2 != r27.2)))) then (some false) else ((gates_Open N r1.x1 a3_.x0 a3_.x1).bind fun r35 =>
 ((ref27_Open N r1.x1 a3_.x0 a3_.x1).bind fun r36 =>
 ((gates_Fits N r1.x1 a3_.x0 a3_.x1 a3_.x2).bind fun r37 =>
 ((ref27_Fits N r1.x1 a3_.x0 a3_.x1 a3_.x2).bind fun r38 =>
 (if ((r35.1 != r36.1) || ((r35.2 != r36.2) || ((r37.1 != r38.1) || (r37.2 != r38.2)))) then (some false) else ((gates_Open N r1.x1 (Int.tmod a3_.x0 8) (Int.tmod a3_.x1 1000)).bind fun r46 =>
 ((ref27_Open N r1.x1 (Int.tmod a3_.x0 8) (Int.tmod a3_.x1 1000)).bind fun r47 =>
 ((gates_Fits N r1.x1 (Int.tmod a3_.x0 8) (Int.tmod a3_.x1 1000) (Int.tmod a3_.x2 50)).bind fun r48 =>
 ((ref27_Fits N r1.x1 (Int.tmod a3_.x0 8) (Int.tmod a3_.x1 1000) (Int.tmod a3_.x2 50)).bind fun r49 =>
 (if ((r46.1 != r47.1) || ((r46.2 != r47.2) || ((r48.1 != r49.1) || (r48.2 != r49.2)))) then (some false) else ((gates_Open N r1.x1 6 (Int.tmod a3_.x1 1000)).bind fun r57 =>
 ((ref27_Open N r1.x1 6 (Int.tmod a3_.x1 1000)).bind fun r58 =>
 ((gates_Fits N r1.x1 6 (Int.tmod a3_.x1 1000) (Int.tmod a3_.x2 50)).bind fun r59 =>
 ((ref27_Fits N r1.x1 6 (Int.tmod a3_.x1 1000) (Int.tmod a3_.x2 50)).bind fun r60 =>
 (if ((r57.1 != r58.1) || ((r57.2 != r58.2) || ((r59.1 != r60.1) || (r59.2 != r60.2)))) then (some false) else ((gates_Open N r1.x2 a3_.x0 a3_.x1).bind fun r68 =>
 ((ref27_Open N r1.x2 a3_.x0 a3_.x1).bind fun r69 =>
 ((gates_Fits N r1.x2 a3_.x0 a3_.x1 a3_.x2).bind fun r70 =>
 ((ref27_Fits N r1.x2 a3_.x0 a3_.x1 a3_.x2).bind fun r71 =>
 (if ((r68.1 != r69.1) || ((r68.2 != r69.2) || ((r70.1 != r71.1) || (r70.2 != r71.2)))) then (some false) else ((gates_Open N r1.x2 (Int.tmod a3_.x0 8) (Int.tmod a3_.x1 1000)).bind fun r79 =>
 ((ref27_Open N r1.x2 (Int.tmod a3_.x0 8) (Int.tmod a3_.x1 1000)).bind fun r80 =>
 ((gates_Fits N r1.x2 (Int.tmod a3_.x0 8) (Int.tmod a3_.x1 1000) (Int.tmod a3_.x2 50)).bind fun r81 =>
 ((ref27_Fits N r1.x2 (Int.tmod a3_.x0 8) (Int.tmod a3_.x1 1000) (Int.tmod a3_.x2 50)).bind fun r82 =>
 (if ((r79.1 != r80.1) || ((r79.2 != r80.2) || ((r81.1 != r82.1) || (r81.2 != r82.2)))) then (some false) else ((gates_Open N r1.x2 6 (Int.tmod a3_.x1 1000)).bind fun r90 =>
 ((ref27_Open N r1.x2 6 (Int.tmod a3_.x1 1000)).bind fun r91 =>
 ((gates_Fits N r1.x2 6 (Int.tmod a3_.x1 1000) (Int.tmod a3_.x2 50)).bind fun r92 =>
 ((ref27_Fits N r1.x2 6 (Int.tmod a3_.x1 1000) (Int.tmod a3_.x2 50)).bind fun r93 =>
 (if ((r90.1 != r91.1) || ((r90.2 != r91.2) || ((r92.1 != r93.1) || (r92.2 != r93.2)))) then (some false) else ((law27_works N).bind fun r101 =>
 (some r101))))))))))))))))))))))))))))))))))))))))))))))))
def law27_GatesFinds (N : Nat) (a0_ : ref27_Draft) (a1_ : api_Gates) (a2_ : Int) (a3_ : Arr3_i64) : Option (Bool) :=
 ((law27_lists N a0_ a1_ a2_).bind fun r1 =>
 ((gates_Fit N r1.x0 a3_.x0 a3_.x1 a3_.x2).bind fun r2 =>
 ((ref27_Fit N r1.x0 a3_.x0 a3_.x1 a3_.x2).bind fun r3 =>
 (if ((r2.1 != r3.1) || (r2.2 != r3.2)) then (some false) else ((gates_Fit N r1.x0 (Int.tmod a3_.x0 8) (Int.tmod a3_.x1 1000) (Int.tmod a3_.x2 50)).bind fun r7 =>
 ((ref27_Fit N r1.x0 (Int.tmod a3_.x0 8) (Int.tmod a3_.x1 1000) (Int.tmod a3_.x2 50)).bind fun r8 =>
 (if ((r7.1 != r8.1) || (r7.2 != r8.2)) then (some false) else ((gates_Fit N r1.x0 6 (Int.tmod a3_.x1 1000) (Int.tmod a3_.x2 50)).bind fun r12 =>
 ((ref27_Fit N r1.x0 6 (Int.tmod a3_.x1 1000) (Int.tmod a3_.x2 50)).bind fun r13 =>
 (if ((r12.1 != r13.1) || (r12.2 != r13.2)) then (some false) else ((gates_Fit N r1.x0 7 (Int.tmod a3_.x1 1000) (Int.tmod a3_.x2 25)).bind fun r17 =>
 ((ref27_Fit N r1.x0 7 (Int.tmod a3_.x1 1000) (Int.tmod a3_.x2 25)).bind fun r18 =>
 (if ((r17.1 != r18.1) || (r17.2 != r18.2)) then (some false) else ((gates_Fit N r1.x1 a3_.x0 a3_.x1 a3_.x2).bind fun r22 =>
 ((ref27_Fit N r1.x1 a3_.x0 a3_.x1 a3_.x2).bind fun r23 =>
 (if ((r22.1 != r23.1) || (r22.2 != r23.2)) then (some false) else ((gates_Fit N r1.x1 (Int.tmod a3_.x0 8) (Int.tmod a3_.x1 1000) (Int.tmod a3_.x2 50)).bind fun r27 =>
 ((ref27_Fit N r1.x1 (Int.tmod a3_.x0 8) (Int.tmod a3_.x1 1000) (Int.tmod a3_.x2 50)).bind fun r28 =>
 (if ((r27.1 != r28.1) || (r27.2 != r28.2)) then (some false) else ((gates_Fit N r1.x1 6 (Int.tmod a3_.x1 1000) (Int.tmod a3_.x2 50)).bind fun r32 =>
 ((ref27_Fit N r1.x1 6 (Int.tmod a3_.x1 1000) (Int.tmod a3_.x2 50)).bind fun r33 =>
 (if ((r32.1 != r33.1) || (r32.2 != r33.2)) then (some false) else ((gates_Fit N r1.x1 7 (Int.tmod a3_.x1 1000) (Int.tmod a3_.x2 25)).bind fun r37 =>
 ((ref27_Fit N r1.x1 7 (Int.tmod a3_.x1 1000) (Int.tmod a3_.x2 25)).bind fun r38 =>
 (if ((r37.1 != r38.1) || (r37.2 != r38.2)) then (some false) else ((gates_Fit N r1.x2 a3_.x0 a3_.x1 a3_.x2).bind fun r42 =>
 ((ref27_Fit N r1.x2 a3_.x0 a3_.x1 a3_.x2).bind fun r43 =>
 (if ((r42.1 != r43.1) || (r42.2 != r43.2)) then (some false) else ((gates_Fit N r1.x2 (Int.tmod a3_.x0 8) (Int.tmod a3_.x1 1000) (Int.tmod a3_.x2 50)).bind fun r47 =>
 ((ref27_Fit N r1.x2 (Int.tmod a3_.x0 8) (Int.tmod a3_.x1 1000) (Int.tmod a3_.x2 50)).bind fun r48 =>
 (if ((r47.1 != r48.1) || (r47.2 != r48.2)) then (some false) else ((gates_Fit N r1.x2 6 (Int.tmod a3_.x1 1000) (Int.tmod a3_.x2 50)).bind fun r52 =>
 ((ref27_Fit N r1.x2 6 (Int.tmod a3_.x1 1000) (Int.tmod a3_.x2 50)).bind fun r53 =>
 (if ((r52.1 != r53.1) || (r52.2 != r53.2)) then (some false) else ((gates_Fit N r1.x2 7 (Int.tmod a3_.x1 1000) (Int.tmod a3_.x2 25)).bind fun r57 =>
 ((ref27_Fit N r1.x2 7 (Int.tmod a3_.x1 1000) (Int.tmod a3_.x2 25)).bind fun r58 =>
 (if ((r57.1 != r58.1) || (r57.2 != r58.2)) then (some false) else ((law27_works N).bind fun r62 =>
 (some r62)))))))))))))))))))))))))))))))))))))))
def law27_GatesMeans_L1 (N : Nat) (a1_ : Int) (a2_ : Int) (r3 : api_Gates) (i4 : Int) (b5 : Bool) : Option ((Int × Bool) ⊕ ((Int × Bool))) :=
 (if ((decide (i4 < r3.Cycle)) && b5) then ((law27_mask N r3 (w64 ((w64 (a2_)) + i4))).bind fun r509 =>
 ((shrI .i64 r509 (IntKind.u64.wrap ((w64 ((Int.tmod a1_ 8)))))).bind fun sh510 =>
 (if ((andI .i64 sh510 1) == 1) then (some (.inl ((w64 (i4 + 1)), ((andI .i64 sh510 1) == 1)))) else (some (.inl (i4, ((andI .i64 sh510 1) == 1))))))) else (some (.inr (i4, b5))))
def law27_GatesMeans_L2 (N : Nat) (a2_ : Int) (r3 : api_Gates) (i1015 : Int) : Option ((Int) ⊕ ((Int) ⊕ (Bool))) :=
 (if (decide (i1015 < r3.Cycle)) then ((((law27_mask N r3 (w64 ((w64 (a2_)) + i1015))).bind fun r1517 => ((law27_mask N r3 (w64 ((w64 ((w64 (a2_)) + i1015)) + r3.Cycle))).bind fun r1518 => (if (r1517 != r1518) then (some true) else ((law27_mask N r3 (w64 ((w64 (a2_)) + i1015))).bind fun r1521 => (some (decide (r1521 < 0)))))))).bind fun (j1522 : Bool) =>
 (if j1522 then (some (.inr (.inr false))) else (some (.inl (w64 (i1015 + 1)))))) else (some (.inr (.inl i1015))))
def law27_GatesMeans (N : Nat) (a0_ : ref27_Draft) (a1_ : Int) (a2_ : Int) (a3_ : Int) : Option (Bool) :=
 ((law27_works N).bind fun r1 =>
 (if (!r1) then (some false) else ((ref27_Draft_Gates N a0_).bind fun r3 =>
 ((iterF (fun x : Int × Bool => law27_GatesMeans_L1 N a1_ a2_ r3 x.1 x.2) N (0, true)).bind fun o512 =>
 (((if o512.2 then (some 1099511627776) else (some o512.1))).bind fun (j1013 : Int) =>
 ((iterF (fun x : Int => law27_GatesMeans_L2 N a2_ r3 x) N 0).bind fun o1524 => match o1524 with
 | (.inl p1525) => ((((law27_open N r3 (w64 ((Int.tmod a1_ 8))) (w64 (a2_))).bind fun r1526 => (if (r1526 == j1013) then ((law27_fits N r3 (w64 ((Int.tmod a1_ 8))) (w64 (a2_)) (w64 (a3_))).bind fun r1528 => (if o512.2 then (if (r1528 == true) then ((law27_open N r3 (w64 ((Int.tmod a1_ 8))) (w64 ((w64 (a2_)) + (w64 (3 * r3.Cycle))))).bind fun r1531 => (some (r1531 == j1013))) else (some false)) else (if (r1528 == (decide ((w64 (a3_)) ≤ o512.1))) then ((law27_open N r3 (w64 ((Int.tmod a1_ 8))) (w64 ((w64 (a2_)) + (w64 (3 * r3.Cycle))))).bind fun r1535 => (some (r1535 == j1013))) else (some false)))) else (some false)))).bind fun (j1538 : Bool) =>
 (some j1538))
 | (.inr p1539) => (some p1539)))))))
def law27_GatesLeast_L1 (N : Nat) (a1_ : Int) (a2_ : Int) (a3_ : Int) (r3 : api_Gates) (i6 : Int) : Option ((Int) ⊕ ((Int) ⊕ (Bool))) :=
 (if (decide (i6 < (w64 ((w64 (a2_)) + (w64 (2 * r3.Cycle)))))) then ((law27_fits N r3 (w64 ((Int.tmod a1_ 8))) i6 (w64 ((Int.tmod a3_ 48)))).bind fun r508 =>
 (if r508 then (some (.inr (.inr false))) else (some (.inl (w64 (i6 + 1)))))) else (some (.inr (.inl i6))))
def law27_GatesLeast_L2 (N : Nat) (a1_ : Int) (a3_ : Int) (r3 : api_Gates) (r4 : Int × Int) (i527 : Int) : Option ((Int) ⊕ ((Int) ⊕ (Bool))) :=
 (if (decide (i527 < r4.1)) then ((law27_fits N r3 (w64 ((Int.tmod a1_ 8))) i527 (w64 ((Int.tmod a3_ 48)))).bind fun r1029 =>
 (if r1029 then (some (.inr (.inr false))) else (some (.inl (w64 (i527 + 1)))))) else (some (.inr (.inl i527))))
def law27_GatesLeast (N : Nat) (a0_ : ref27_Draft) (a1_ : Int) (a2_ : Int) (a3_ : Int) : Option (Bool) :=
 ((law27_works N).bind fun r1 =>
 (if (!r1) then (some false) else ((ref27_Draft_Gates N a0_).bind fun r3 =>
 ((gates_Fit N r3 (w64 ((Int.tmod a1_ 8))) (w64 (a2_)) (w64 ((Int.tmod a3_ 48)))).bind fun r4 =>
 (if (r4.2 == 4) then ((iterF (fun x : Int => law27_GatesLeast_L1 N a1_ a2_ a3_ r3 x) N (w64 (a2_))).bind fun o510 => match o510 with
 | (.inl p511) => ((gates_Fit N r3 (w64 ((Int.tmod a1_ 8))) (w64 ((w64 (a2_)) + r3.Cycle)) (w64 ((Int.tmod a3_ 48)))).bind fun r512 =>
 (some ((r512.2 == r4.2) && ((r4.2 != 0) || (r512.1 == (w64 (r4.1 + r3.Cycle)))))))
 | (.inr p517) => (some p517)) else (((if (r4.2 != 0) then (some true) else (if (decide (r4.1 < (w64 (a2_)))) then (some true) else (if (decide (r4.1 ≥ (w64 ((w64 (a2_)) + (w64 (2 * r3.Cycle)))))) then (some true) else ((law27_fits N r3 (w64 ((Int.tmod a1_ 8))) r4.1 (w64 ((Int.tmod a3_ 48)))).bind fun r524 => (some (!r524))))))).bind fun (j525 : Bool) =>
 (if j525 then (some false) else ((iterF (fun x : Int => law27_GatesLeast_L2 N a1_ a3_ r3 r4 x) N (w64 (a2_))).bind fun o1031 => match o1031 with
 | (.inl p1032) => ((gates_Fit N r3 (w64 ((Int.tmod a1_ 8))) (w64 ((w64 (a2_)) + r3.Cycle)) (w64 ((Int.tmod a3_ 48)))).bind fun r1033 =>
 (some ((r1033.2 == r4.2) && ((r4.2 != 0) || (r1033.1 == (w64 (r4.1 + r3.Cycle)))))))
 | (.inr p1038) => (some p1038)))))))))
def law27_GatesTurns_L1 (N : Nat) (a1_ : Int) (r3 : api_Gates) (i6 : Int) : Option ((Int) ⊕ ((Int) ⊕ (Bool))) :=
 (if (decide (i6 < (w64 ((w64 (a1_)) + r3.Cycle)))) then ((law27_mask N r3 i6).bind fun r508 =>
 ((law27_mask N r3 (w64 (a1_))).bind fun r509 =>
 (if (r508 != r509) then (some (.inr (.inr false))) else (some (.inl (w64 (i6 + 1))))))) else (some (.inr (.inl i6))))
def law27_GatesTurns_L2 (N : Nat) (a1_ : Int) (r3 : api_Gates) (r4 : Int × Int) (i524 : Int) : Option ((Int) ⊕ ((Int) ⊕ (Bool))) :=
 (if (decide (i524 < r4.1)) then ((law27_mask N r3 i524).bind fun r1026 =>
 ((law27_mask N r3 (w64 (a1_))).bind fun r1027 =>
 (if (r1026 != r1027) then (some (.inr (.inr false))) else (some (.inl (w64 (i524 + 1))))))) else (some (.inr (.inl i524))))
def law27_GatesTurns (N : Nat) (a0_ : ref27_Draft) (a1_ : Int) : Option (Bool) :=
 ((law27_works N).bind fun r1 =>
 (if (!r1) then (some false) else ((ref27_Draft_Gates N a0_).bind fun r3 =>
 ((gates_Turn N r3 (w64 (a1_))).bind fun r4 =>
 (if (r4.2 == 4) then ((iterF (fun x : Int => law27_GatesTurns_L1 N a1_ r3 x) N (w64 (a1_))).bind fun o511 => match o511 with
 | (.inl p512) => (some true)
 | (.inr p513) => (some p513)) else (((if (r4.2 != 0) then (some true) else (if (decide (r4.1 ≤ (w64 (a1_)))) then (some true) else (if (decide (r4.1 > (w64 ((w64 (a1_)) + r3.Cycle)))) then (some true) else ((law27_mask N r3 r4.1).bind fun r520 => ((law27_mask N r3 (w64 (a1_))).bind fun r521 => (some (r520 == r521)))))))).bind fun (j522 : Bool) =>
 (if j522 then (some false) else ((iterF (fun x : Int => law27_GatesTurns_L2 N a1_ r3 r4 x) N (w64 (a1_))).bind fun o1029 => match o1029 with
 | (.inl p1030) => (some true)
 | (.inr p1031) => (some p1031)))))))))
def law27_GatesKnown_L1 (N : Nat) (i6 : Int) (l7 : (List Int)) : Option ((Int × (List Int)) ⊕ ((Int × (List Int)))) :=
 (if (decide (i6 < 258)) then ((idx l7 i6).bind fun e511 =>
 (some (.inl ((w64 (i6 + 1)), (List.set l7 (Int.toNat i6) 1))))) else (some (.inr (i6, l7))))
def law27_GatesKnown_L2 (N : Nat) (r516 : api_Gates) (r518 : api_Gates) (r519 : api_Gates) (r520 : api_Gates) (r521 : api_Gates) (r522 : api_Gates) (r523 : api_Gates) (i524 : Int) : Option ((Int) ⊕ ((Int) ⊕ (Bool))) :=
 (if (decide (i524 < ((List.length [(api_Gates.mk ([]) 0), r518, r519, r520, r521, r522, (api_Gates.mk r516.Entries 6), r523] : Nat) : Int))) then ((idx [(api_Gates.mk ([]) 0), r518, r519, r520, r521, r522, (api_Gates.mk r516.Entries 6), r523] i524).bind fun e1026 =>
 ((gates_Mask N e1026 1099511627777).bind fun r1027 =>
 ((idx [(api_Gates.mk ([]) 0), r518, r519, r520, r521, r522, (api_Gates.mk r516.Entries 6), r523] i524).bind fun e1028 =>
 ((gates_Open N e1028 8 0).bind fun r1029 =>
 ((idx [(api_Gates.mk ([]) 0), r518, r519, r520, r521, r522, (api_Gates.mk r516.Entries 6), r523] i524).bind fun e1030 =>
 ((gates_Fits N e1030 0 0 (-1)).bind fun r1031 =>
 ((idx [(api_Gates.mk ([]) 0), r518, r519, r520, r521, r522, (api_Gates.mk r516.Entries 6), r523] i524).bind fun e1032 =>
 ((gates_Fit N e1032 (-1) 0 0).bind fun r1033 =>
 ((idx [(api_Gates.mk ([]) 0), r518, r519, r520, r521, r522, (api_Gates.mk r516.Entries 6), r523] i524).bind fun e1034 =>
 ((gates_Turn N e1034 0).bind fun r1035 =>
 ((((idx [(api_Gates.mk ([]) 0), r518, r519, r520, r521, r522, (api_Gates.mk r516.Entries 6), r523] i524).bind fun e1036 => ((gates_Check N e1036).bind fun r1037 => (if (r1037 != 370) then (some true) else (if (r1027.2 != 370) then (some true) else (if (r1029.2 != 370) then (some true) else (if (r1031.2 != 370) then (some true) else (if (r1033.2 != 370) then (some true) else (some (r1035.2 != 370)))))))))).bind fun (j1048 : Bool) =>
 (if j1048 then (some (.inr (.inr false))) else (some (.inl (w64 (i524 + 1)))))))))))))))) else (some (.inr (.inl i524))))
def law27_GatesKnown (N : Nat) : Option (Bool) :=
 ((makeI 8 258 258 0).bind fun l3 =>
 ((iterF (fun x : Int × (List Int) => law27_GatesKnown_L1 N x.1 x.2) N (0, l3)).bind fun o515 =>
 ((law27_list N ([1, 5])).bind fun r516 =>
 ((law27_list N ([(-1), 5])).bind fun r518 =>
 ((law27_list N ([256, 5])).bind fun r519 =>
 ((law27_list N ([1, 0])).bind fun r520 =>
 ((law27_list N ([1, 9600001])).bind fun r521 =>
 ((law27_list N ([1, 9600000, 1, 1])).bind fun r522 =>
 ((law27_list N o515.2).bind fun r523 =>
 ((iterF (fun x : Int => law27_GatesKnown_L2 N r516 r518 r519 r520 r521 r522 r523 x) N 0).bind fun o1050 => match o1050 with
 | (.inl p1051) => ((law27_list N ([65, 7])).bind fun r1052 =>
 ((gates_Open N r1052 8 0).bind fun r1053 =>
 ((gates_Open N r1052 0 1099511627777).bind fun r1054 =>
 ((gates_Fits N r1052 0 0 (-1)).bind fun r1055 =>
 ((gates_Fit N r1052 (-1) 0 0).bind fun r1056 =>
 ((gates_Fit N r1052 0 0 1099511627777).bind fun r1057 =>
 ((gates_Turn N r1052 3).bind fun r1058 =>
 ((gates_Fit N r1052 1 0 1).bind fun r1059 =>
 ((((law27_open N r1052 6 3).bind fun r1060 => (if (r1060 == 1099511627776) then ((law27_fits N r1052 6 3 1099511627776).bind fun r1062 => (if r1062 then ((law27_fit N r1052 0 (-9) 1099511627776).bind fun r1064 => (if (r1064 == (-9)) then ((law27_open N r1052 1 3).bind fun r1066 => (if (r1066 == 0) then ((law27_fits N r1052 1 3 0).bind fun r1068 => (if r1068 then ((law27_fit N r1052 1 5 0).bind fun r1070 => (some (r1070 == 5))) else (some false))) else (some false))) else (some false))) else (some false))) else (some false)))).bind fun (j1076 : Bool) =>
 ((law27_list N ([1, 5, 2, 5, 1, 5])).bind fun r1077 =>
 ((((law27_open N r1077 0 12).bind fun r1078 => (if (r1078 == 8) then ((law27_fit N r1077 0 1 10).bind fun r1080 => (if (r1080 == 10) then ((law27_fit N r1077 0 3 10).bind fun r1082 => (if (r1082 == 10) then ((law27_mask N r1077 (-6)).bind fun r1084 => (if (r1084 == 2) then ((law27_mask N r1077 1099511627776).bind fun r1086 => (if (decide (r1086 ≥ 0)) then ((law27_list N ([1, 9600000])).bind fun r1088 => ((law27_open N r1088 0 (-1099511627776)).bind fun r1089 => (some (r1089 == 1099511627776)))) else (some false))) else (some false))) else (some false))) else (some false))) else (some false)))).bind fun (j1095 : Bool) =>
 ((((law27_works N).bind fun r1096 => (if r1096 then (if (r1053.2 == 2) then (if (r1054.2 == 2) then (if (r1055.2 == 2) then (if (r1056.2 == 2) then (if (r1057.2 == 2) then (if (r1058.2 == 4) then (if (r1059.2 == 4) then (if j1076 then (if j1095 then ((subI o515.2 0 256).bind fun l1107 => ((law27_list N l1107).bind fun r1108 => ((gates_Check N r1108).bind fun r1109 => (some (r1109 == 0))))) else (some false)) else (some false)) else (some false)) else (some false)) else (some false)) else (some false)) else (some false)) else (some false)) else (some false)) else (some false)))).bind fun (j1120 : Bool) =>
 (some j1120)))))))))))))
 | (.inr p1121) => (some p1121)))))))))))
end Go.Sh
