/- The plain Lean functions that the Go functions of this seat compute; written by sym.py. -/
import Derived.Test.YtiobnpdikleanaaE19
namespace Go.Sh
open Go Go.Eng
set_option linter.unusedVariables false
set_option linter.unusedSimpArgs false
set_option maxRecDepth 100000
structure api_Span where
  Period : Int
  From : Int
  Long : Int
def e_api_Span (v : api_Span) : List PC := [.int .i64 v.Period, .int .i64 v.From, .int .i64 v.Long]
structure Arr3_u8 where
  x0 : Int
  x1 : Int
  x2 : Int
def e_Arr3_u8 (v : Arr3_u8) : List PC := [.int .u8 v.x0, .int .u8 v.x1, .int .u8 v.x2]
structure Arr6_u8 where
  x0 : Int
  x1 : Int
  x2 : Int
  x3 : Int
  x4 : Int
  x5 : Int
def e_Arr6_u8 (v : Arr6_u8) : List PC := [.int .u8 v.x0, .int .u8 v.x1, .int .u8 v.x2, .int .u8 v.x3, .int .u8 v.x4, .int .u8 v.x5]
def ref23_Of (N : Nat) (a0_ : Int) (a1_ : Int) (a2_ : Int) : Option (api_Span) :=
 ((remI (w64 (a1_)) (w64 (1 + (w64 ((Int.tmod a0_ 48)))))).bind fun m1 =>
 ((remI (w64 (a2_)) (w64 (1 + (w64 ((Int.tmod a0_ 48)))))).bind fun m2 =>
 (some (api_Span.mk (w64 (1 + (w64 ((Int.tmod a0_ 48))))) m1 (w64 (1 + m2))))))
def residue_Check (N : Nat) (a0_ : api_Span) : Option (Int) :=
 (if ((decide (a0_.Period < 1)) || ((decide (a0_.Period > 960)) || ((decide (a0_.From < 0)) || (decide (a0_.From ≥ a0_.Period))))) then (some 330) else (if ((decide (a0_.Long < 1)) || (decide (a0_.Long > a0_.Period))) then (some 330) else (some 0)))
def law23_drafts_L1 (N : Nat) (a0_ : (List Arr3_u8)) (a1_ : Int) (i3 : Int) (l4 : (List api_Span)) : Option ((Int × (List api_Span)) ⊕ ((Int × (List api_Span)))) :=
 (if ((decide (i3 < ((List.length a0_ : Nat) : Int))) && (decide (i3 < a1_))) then ((idx a0_ i3).bind fun e510 =>
 ((idx a0_ i3).bind fun e511 =>
 ((idx a0_ i3).bind fun e512 =>
 ((ref23_Of N e510.x0 e511.x1 e512.x2).bind fun r513 =>
 ((appI 24 l4 [r513]).bind fun l516 =>
 (some (.inl ((w64 (i3 + 1)), l516)))))))) else (some (.inr (i3, l4))))
def law23_drafts (N : Nat) (a0_ : (List Arr3_u8)) (a1_ : Int) : Option ((List api_Span)) :=
 ((iterF (fun x : Int × (List api_Span) => law23_drafts_L1 N a0_ a1_ x.1 x.2) N (0, [])).bind fun o517 =>
 (some o517.2))
def ref23_Shifted (N : Nat) (a0_ : api_Span) (a1_ : Int) : Option (api_Span) :=
 ((remI (w64 (a0_.From + a1_)) a0_.Period).bind fun m1 =>
 (some (api_Span.mk a0_.Period m1 a0_.Long)))
def ref23_Mod (N : Nat) (a0_ : Int) (a1_ : Int) : Option (Int) :=
 ((remI a0_ a1_).bind fun m1 =>
 (((if (decide (m1 < 0)) then (some (w64 (m1 + a1_))) else (some m1))).bind fun (j502 : Int) =>
 (some j502)))
def law23_span (N : Nat) (a0_ : Int) (a1_ : Int) (a2_ : Int) : Option (api_Span) :=
 (some (api_Span.mk a0_ a1_ a2_))
def residue_mod (N : Nat) (a0_ : Int) (a1_ : Int) : Option (Int) :=
 ((remI a0_ a1_).bind fun m1 =>
 ((remI (w64 (m1 + a1_)) a1_).bind fun m2 =>
 (some m2)))
def ref23_Right (N : Nat) (a0_ : api_Span) : Option (Bool) :=
 (some ((decide (a0_.Period ≥ 1)) && ((decide (a0_.Period ≤ 960)) && ((decide (a0_.From ≥ 0)) && ((decide (a0_.From < a0_.Period)) && ((decide (a0_.Long ≥ 1)) && (decide (a0_.Long ≤ a0_.Period))))))))
def ref23_Gcd_L1 (N : Nat) (a0_ : Int) (a1_ : Int) (i1 : Int) : Option ((Int) ⊕ ((Int) ⊕ (Int))) :=
 (if (decide (i1 > 1)) then ((((remI a0_ i1).bind fun m503 => (if (m503 == 0) then ((remI a1_ i1).bind fun m505 => (some (m505 == 0))) else (some false)))).bind fun (j507 : Bool) =>
 (if j507 then (some (.inr (.inr i1))) else (some (.inl (w64 (i1 - 1)))))) else (some (.inr (.inl i1))))
def ref23_Gcd (N : Nat) (a0_ : Int) (a1_ : Int) : Option (Int) :=
 ((iterF (fun x : Int => ref23_Gcd_L1 N a0_ a1_ x) N a0_).bind fun o509 => match o509 with
 | (.inl p510) => (some 1)
 | (.inr p511) => (some p511))
def residue_checkAll_L1 (N : Nat) (a0_ : (List api_Span)) (i2 : Int) : Option ((Int) ⊕ ((Int) ⊕ (Int))) :=
 (if (decide (i2 < ((List.length a0_ : Nat) : Int))) then ((idx a0_ i2).bind fun e504 =>
 ((residue_Check N e504).bind fun r505 =>
 (if (r505 != 0) then (some (.inr (.inr r505))) else (some (.inl (w64 (i2 + 1))))))) else (some (.inr (.inl i2))))
def residue_checkAll (N : Nat) (a0_ : (List api_Span)) : Option (Int) :=
 (if (decide (((List.length a0_ : Nat) : Int) > 32)) then (some 3) else ((iterF (fun x : Int => residue_checkAll_L1 N a0_ x) N 0).bind fun o507 => match o507 with
 | (.inl p508) => (some 0)
 | (.inr p509) => (some p509)))
def residue_shifted (N : Nat) (a0_ : api_Span) (a1_ : Int) : Option (api_Span) :=
 ((remI (w64 (a0_.From + a1_)) a0_.Period).bind fun m1 =>
 (some (api_Span.mk a0_.Period m1 a0_.Long)))
def ref23_list_L1 (N : Nat) (a0_ : (List api_Span)) (i2 : Int) : Option ((Int) ⊕ ((Int) ⊕ (Int))) :=
 (if (decide (i2 < ((List.length a0_ : Nat) : Int))) then ((idx a0_ i2).bind fun e504 =>
 ((ref23_Right N e504).bind fun r505 =>
 (if (!r505) then (some (.inr (.inr 330))) else (some (.inl (w64 (i2 + 1))))))) else (some (.inr (.inl i2))))
def ref23_list (N : Nat) (a0_ : (List api_Span)) : Option (Int) :=
 (if (decide (((List.length a0_ : Nat) : Int) > 32)) then (some 3) else ((iterF (fun x : Int => ref23_list_L1 N a0_ x) N 0).bind fun o507 => match o507 with
 | (.inl p508) => (some 0)
 | (.inr p509) => (some p509)))
def residue_gcd_L1 (N : Nat) (i1 : Int) (i2 : Int) : Option ((Int × Int) ⊕ ((Int × Int))) :=
 (if (i2 != 0) then ((remI i1 i2).bind fun m504 =>
 (some (.inl (i2, m504)))) else (some (.inr (i1, i2))))
def residue_gcd (N : Nat) (a0_ : Int) (a1_ : Int) : Option (Int) :=
 ((iterF (fun x : Int × Int => residue_gcd_L1 N x.1 x.2) N (a0_, a1_)).bind fun o505 =>
 (some o505.1))
def residue_Covers (N : Nat) (a0_ : api_Span) (a1_ : Int) : Option (Bool × Int) :=
 ((residue_Check N a0_).bind fun r1 =>
 (if (r1 != 0) then (some (false, r1)) else (if ((decide (a1_ < (-1099511627776))) || (decide (a1_ > 1099511627776))) then (some (false, 2)) else ((residue_mod N (w64 (a1_ - a0_.From)) a0_.Period).bind fun r6 =>
 (some ((decide (r6 < a0_.Long)), 0))))))
def ref23_Covers (N : Nat) (a0_ : api_Span) (a1_ : Int) : Option (Bool × Int) :=
 ((ref23_Right N a0_).bind fun r1 =>
 (if (!r1) then (some (false, 330)) else (if ((decide (a1_ < (-1099511627776))) || (decide (a1_ > 1099511627776))) then (some (false, 2)) else ((ref23_Mod N (w64 (a1_ - a0_.From)) a0_.Period).bind fun r6 =>
 (some ((decide (r6 < a0_.Long)), 0))))))
def ref23_Check (N : Nat) (a0_ : api_Span) : Option (Int) :=
 ((ref23_Right N a0_).bind fun r1 =>
 (if r1 then (some 0) else (some 330)))
def ref23_Cycle_L2 (N : Nat) (a0_ : (List api_Span)) (i3 : Int) (b505 : Bool) (i506 : Int) : Option ((Bool × Int) ⊕ ((Bool × Int))) :=
 (if (decide (i506 < ((List.length a0_ : Nat) : Int))) then (((if b505 then ((idx a0_ i506).bind fun e1009 => ((remI i3 e1009.Period).bind fun m1010 => (if (m1010 == 0) then (some true) else (some false)))) else (some false))).bind fun (j1014 : Bool) =>
 (some (.inl (j1014, (w64 (i506 + 1)))))) else (some (.inr (b505, i506))))
def ref23_Cycle_L1 (N : Nat) (a0_ : (List api_Span)) (i3 : Int) : Option ((Int) ⊕ ((Int) ⊕ (Int × Int))) :=
 (if (decide (i3 ≤ 960)) then ((iterF (fun x : Bool × Int => ref23_Cycle_L2 N a0_ i3 x.1 x.2) N (true, 0)).bind fun o1015 =>
 (if o1015.1 then (some (.inr (.inr (i3, 0)))) else (some (.inl (w64 (i3 + 1)))))) else (some (.inr (.inl i3))))
def ref23_Cycle (N : Nat) (a0_ : (List api_Span)) : Option (Int × Int) :=
 ((ref23_list N a0_).bind fun r1 =>
 (if (r1 != 0) then (some (0, r1)) else ((iterF (fun x : Int => ref23_Cycle_L1 N a0_ x) N 1).bind fun o1017 => match o1017 with
 | (.inl p1018) => (some (0, 6))
 | (.inr p1019) => (some p1019))))
def law23_covers (N : Nat) (a0_ : api_Span) (a1_ : Int) : Option (Bool) :=
 ((residue_Covers N a0_ a1_).bind fun r1 =>
 (some (r1.1 && (r1.2 == 0))))
def ref23_Separate_L1 (N : Nat) (a0_ : api_Span) (a1_ : api_Span) (r1 : Int) (i2 : Int) : Option ((Int) ⊕ ((Int) ⊕ (Bool))) :=
 (if (decide (i2 < a0_.Long)) then ((ref23_Mod N (w64 ((w64 (a1_.From - a0_.From)) - i2)) r1).bind fun r504 =>
 (if (r504 == 0) then (some (.inr (.inr false))) else (some (.inl (w64 (i2 + 1)))))) else (some (.inr (.inl i2))))
def ref23_Separate (N : Nat) (a0_ : api_Span) (a1_ : api_Span) : Option (Bool) :=
 ((ref23_Gcd N a0_.Period a1_.Period).bind fun r1 =>
 ((iterF (fun x : Int => ref23_Separate_L1 N a0_ a1_ r1 x) N (w64 (1 - a1_.Long))).bind fun o506 => match o506 with
 | (.inl p507) => (some true)
 | (.inr p508) => (some p508)))
def residue_room (N : Nat) (a0_ : api_Span) (a1_ : api_Span) : Option (Int × Int × Int) :=
 ((residue_gcd N a0_.Period a1_.Period).bind fun r1 =>
 (some (a0_.Long, (w64 (r1 - a1_.Long)), r1)))
def ref23_Clear_L1 (N : Nat) (a0_ : (List api_Span)) (a1_ : api_Span) (i1 : Int) : Option ((Int) ⊕ ((Int) ⊕ (Bool))) :=
 (if (decide (i1 < ((List.length a0_ : Nat) : Int))) then ((idx a0_ i1).bind fun e503 =>
 ((ref23_Separate N e503 a1_).bind fun r504 =>
 (if (!r504) then (some (.inr (.inr false))) else (some (.inl (w64 (i1 + 1))))))) else (some (.inr (.inl i1))))
def ref23_Clear (N : Nat) (a0_ : (List api_Span)) (a1_ : api_Span) : Option (Bool) :=
 ((iterF (fun x : Int => ref23_Clear_L1 N a0_ a1_ x) N 0).bind fun o506 => match o506 with
 | (.inl p507) => (some true)
 | (.inr p508) => (some p508))
def residue_fold_L1 (N : Nat) (a0_ : Int) (a1_ : (List Int)) (i1 : Int) (i2 : Int) : Option ((Int × Int) ⊕ ((Int × Int))) :=
 (if (decide (i2 < ((List.length a1_ : Nat) : Int))) then ((idx a1_ i2).bind fun e504 =>
 ((residue_gcd N i1 e504).bind fun r505 =>
 ((quoI .i64 i1 r505).bind fun q506 =>
 (if (decide ((w64 (q506 * e504)) > a0_)) then (some (.inr ((w64 (q506 * e504)), i2))) else (some (.inl ((w64 (q506 * e504)), (w64 (i2 + 1))))))))) else (some (.inr (i1, i2))))
def residue_fold (N : Nat) (a0_ : Int) (a1_ : (List Int)) : Option (Int) :=
 ((iterF (fun x : Int × Int => residue_fold_L1 N a0_ a1_ x.1 x.2) N (1, 0)).bind fun o508 =>
 (some o508.1))
def ref23_Apart (N : Nat) (a0_ : api_Span) (a1_ : api_Span) : Option (Bool × Int) :=
 ((((ref23_Right N a0_).bind fun r1 => (if (!r1) then (some true) else ((ref23_Right N a1_).bind fun r4 => (some (!r4)))))).bind fun (j5 : Bool) =>
 (if j5 then (some (false, 330)) else ((ref23_Separate N a0_ a1_).bind fun r7 =>
 (some (r7, 0)))))
def residue_Room (N : Nat) (a0_ : api_Span) (a1_ : api_Span) : Option (Int × Int × Int × Int) :=
 ((residue_Check N a0_).bind fun r1 =>
 (if (r1 != 0) then (some (0, 0, 0, r1)) else ((residue_Check N a1_).bind fun r3 =>
 (if (r3 != 0) then (some (0, 0, 0, r3)) else ((residue_room N a0_ a1_).bind fun r5 =>
 (if (decide (r5.1 > r5.2.1)) then (some (0, 0, 0, 4)) else (some (r5.1, r5.2.1, r5.2.2, 0))))))))
def ref23_Room_L1 (N : Nat) (a0_ : api_Span) (a1_ : api_Span) (r7 : Int) (i8 : Int) (i9 : Int) (i10 : Int) (i11 : Int) : Option ((Int × Int × Int × Int) ⊕ ((Int × Int × Int × Int))) :=
 (if (decide (i10 < r7)) then ((((ref23_Mod N (w64 (a0_.From + i10)) a1_.Period).bind fun r1014 =>
 ((ref23_Separate N a0_ (api_Span.mk a1_.Period r1014 a1_.Long)).bind fun r1015 =>
 (if r1015 then (some ((if i10 < i8 then i10 else i8), i10, r1014)) else (some (i8, i9, r1014)))))).bind fun (j1013 : Int × Int × Int) =>
 (some (.inl (j1013.1, j1013.2.1, (w64 (i10 + 1)), j1013.2.2)))) else (some (.inr (i8, i9, i10, i11))))
def ref23_Room (N : Nat) (a0_ : api_Span) (a1_ : api_Span) : Option (Int × Int × Int × Int) :=
 ((((ref23_Right N a0_).bind fun r1 => (if (!r1) then (some true) else ((ref23_Right N a1_).bind fun r4 => (some (!r4)))))).bind fun (j5 : Bool) =>
 (if j5 then (some (0, 0, 0, 330)) else ((ref23_Gcd N a0_.Period a1_.Period).bind fun r7 =>
 ((iterF (fun x : Int × Int × Int × Int => ref23_Room_L1 N a0_ a1_ r7 x.1 x.2.1 x.2.2.1 x.2.2.2) N (r7, (-1), 0, a1_.From)).bind fun o1017 =>
 (if (decide (o1017.2.1 < 0)) then (some (0, 0, 0, 4)) else (some (o1017.1, o1017.2.1, r7, 0)))))))
def ref23_Next_L1 (N : Nat) (a0_ : (List api_Span)) (a1_ : api_Span) (i506 : Int) : Option ((Int) ⊕ ((Int) ⊕ (Int × Int))) :=
 (if (decide (i506 < a1_.Period)) then ((ref23_Shifted N a1_ i506).bind fun r1008 =>
 ((ref23_Clear N a0_ r1008).bind fun r1009 =>
 (if r1009 then (some (.inr (.inr (i506, 0)))) else (some (.inl (w64 (i506 + 1))))))) else (some (.inr (.inl i506))))
def ref23_Next (N : Nat) (a0_ : (List api_Span)) (a1_ : api_Span) : Option (Int × Int) :=
 ((ref23_list N a0_).bind fun r1 =>
 (((if (r1 == 0) then ((ref23_Check N a1_).bind fun r504 =>
 (some r504)) else (some r1))).bind fun (j502 : Int) =>
 (if (j502 != 0) then (some (0, j502)) else ((iterF (fun x : Int => ref23_Next_L1 N a0_ a1_ x) N 0).bind fun o1011 => match o1011 with
 | (.inl p1012) => (some (0, 4))
 | (.inr p1013) => (some p1013)))))
def residue_Cycle_L1 (N : Nat) (a0_ : (List api_Span)) (i8 : Int) (l9 : (List Int)) : Option ((Int × (List Int)) ⊕ ((Int × (List Int)))) :=
 (if (decide (i8 < ((List.length a0_ : Nat) : Int))) then ((idx a0_ i8).bind fun e513 =>
 ((idx l9 i8).bind fun e514 =>
 (some (.inl ((w64 (i8 + 1)), (List.set l9 (Int.toNat i8) e513.Period)))))) else (some (.inr (i8, l9))))
def residue_Cycle (N : Nat) (a0_ : (List api_Span)) : Option (Int × Int) :=
 ((residue_checkAll N a0_).bind fun r1 =>
 (if (r1 != 0) then (some (0, r1)) else ((makeI 8 ((List.length a0_ : Nat) : Int) ((List.length a0_ : Nat) : Int) 0).bind fun l5 =>
 ((iterF (fun x : Int × (List Int) => residue_Cycle_L1 N a0_ x.1 x.2) N (0, l5)).bind fun o518 =>
 ((residue_fold N 960 o518.2).bind fun r519 =>
 (if (decide (r519 > 960)) then (some (0, 6)) else (some (r519, 0))))))))
def law23_room (N : Nat) (a0_ : api_Span) (a1_ : api_Span) (a2_ : Int) (a3_ : Int) (a4_ : Int) : Option (Bool) :=
 ((residue_Room N a0_ a1_).bind fun r1 =>
 (some ((r1.2.2.2 == 0) && ((r1.1 == a2_) && ((r1.2.1 == a3_) && (r1.2.2.1 == a4_))))))
def residue_apart (N : Nat) (a0_ : api_Span) (a1_ : api_Span) : Option (Bool) :=
 (if ((a0_.Period == a1_.Period) && ((a0_.From == a1_.From) && ((a0_.Long == a1_.Long) && true))) then (some false) else ((residue_room N a0_ a1_).bind fun r2 =>
 ((residue_mod N (w64 (a1_.From - a0_.From)) r2.2.2).bind fun r3 =>
 (some ((decide (r2.1 ≤ r3)) && (decide (r3 ≤ r2.2.1)))))))
def residue_Apart (N : Nat) (a0_ : api_Span) (a1_ : api_Span) : Option (Bool × Int) :=
 ((residue_Check N a0_).bind fun r1 =>
 (if (r1 != 0) then (some (false, r1)) else ((residue_Check N a1_).bind fun r3 =>
 (if (r3 != 0) then (some (false, r3)) else ((residue_apart N a0_ a1_).bind fun r5 =>
 (some (r5, 0)))))))
def residue_Next_L2 (N : Nat) (a0_ : (List api_Span)) (a1_ : api_Span) (i5 : Int) (i507 : Int) : Option ((Int) ⊕ ((Unit) ⊕ (Int))) :=
 (if (decide (i507 < ((List.length a0_ : Nat) : Int))) then ((idx a0_ i507).bind fun e1009 =>
 ((residue_shifted N a1_ i5).bind fun r1010 =>
 ((residue_apart N e1009 r1010).bind fun r1011 =>
 (if (!r1011) then (some (.inr (.inl ()))) else (some (.inl (w64 (i507 + 1)))))))) else (some (.inr (.inr i507))))
def residue_Next_L1 (N : Nat) (a0_ : (List api_Span)) (a1_ : api_Span) (i5 : Int) : Option ((Int) ⊕ ((Int) ⊕ (Int × Int))) :=
 (if (decide (i5 < a1_.Period)) then ((iterF (fun x : Int => residue_Next_L2 N a0_ a1_ i5 x) N 0).bind fun o1013 => match o1013 with
 | (.inl p1014) => (some (.inl (w64 (i5 + 1))))
 | (.inr p1015) => (some (.inr (.inr (i5, 0))))) else (some (.inr (.inl i5))))
def residue_Next (N : Nat) (a0_ : (List api_Span)) (a1_ : api_Span) : Option (Int × Int) :=
 ((residue_checkAll N a0_).bind fun r1 =>
 (if (r1 != 0) then (some (0, r1)) else ((residue_Check N a1_).bind fun r3 =>
 (if (r3 != 0) then (some (0, r3)) else ((iterF (fun x : Int => residue_Next_L1 N a0_ a1_ x) N 0).bind fun o1016 => match o1016 with
 | (.inl p1017) => (some (0, 4))
 | (.inr p1018) => (some p1018))))))
def law23_apart (N : Nat) (a0_ : api_Span) (a1_ : api_Span) : Option (Bool) :=
 ((residue_Apart N a0_ a1_).bind fun r1 =>
 (some (r1.1 && (r1.2 == 0))))
def law23_works (N : Nat) : Option (Bool) :=
 ((law23_span N 4 0 2).bind fun r1 =>
 ((law23_span N 6 0 1).bind fun r2 =>
 ((residue_Room N r1 r2).bind fun r3 =>
 ((law23_span N 12 0 3).bind fun r4 =>
 ((law23_span N 12 5 2).bind fun r5 =>
 ((law23_span N 12 1 2).bind fun r6 =>
 ((residue_Next N ([r4, r5]) r6).bind fun r7 =>
 ((law23_span N 4 0 1).bind fun r8 =>
 ((law23_span N 6 0 1).bind fun r9 =>
 ((residue_Next N ([r8]) r9).bind fun r10 =>
 ((law23_span N 4 0 2).bind fun r11 =>
 ((law23_span N 6 0 1).bind fun r12 =>
 ((residue_Next N ([r11]) r12).bind fun r13 =>
 ((law23_span N 4 0 1).bind fun r14 =>
 ((law23_span N 6 0 1).bind fun r15 =>
 ((residue_Cycle N ([r14, r15])).bind fun r16 =>
 ((residue_Cycle N ([])).bind fun r17 =>
 ((law23_span N 4 0 2).bind fun r18 =>
 ((law23_span N 6 2 1).bind fun r19 =>
 ((residue_Apart N r18 r19).bind fun r20 =>
 ((((law23_span N 4 0 1).bind fun r21 => ((law23_span N 6 0 1).bind fun r22 => ((law23_room N r21 r22 1 1 2).bind fun r23 => (if r23 then (if (r3.2.2.2 == 4) then ((law23_span N 12 5 3).bind fun r26 => ((law23_span N 8 0 1).bind fun r27 => ((law23_room N r26 r27 3 3 4).bind fun r28 => (some r28)))) else (some false)) else (some false)))))).bind fun (j31 : Bool) =>
 ((((law23_span N 6 4 3).bind fun r32 => ((law23_covers N r32 0).bind fun r33 => (if r33 then ((law23_span N 6 4 3).bind fun r35 => ((law23_covers N r35 1).bind fun r36 => (if (!r36) then ((law23_span N 6 4 3).bind fun r38 => ((law23_covers N r38 (-2)).bind fun r39 => (some r39))) else (some false)))) else (some false))))).bind fun (j42 : Bool) =>
 (((if j31 then (if (r7.1 == 2) then (if (r7.2 == 0) then (if (r10.1 == 1) then (if (r10.2 == 0) then (if (r13.2 == 4) then (if (r16.1 == 12) then (if (r16.2 == 0) then (if (r17.1 == 1) then (if (r17.2 == 0) then (if (!r20.1) then (if (r20.2 == 0) then ((law23_span N 4 0 1).bind fun r55 => ((law23_span N 6 3 1).bind fun r56 => ((law23_apart N r55 r56).bind fun r57 => (if r57 then (some j42) else (some false))))) else (some false)) else (some false)) else (some false)) else (some false)) else (some false)) else (some false)) else (some false)) else (some false)) else (some false)) else (some false)) else (some false)) else (some false))).bind fun (j72 : Bool) =>
 (some j72))))))))))))))))))))))))
def law23_ResidueChecks (N : Nat) (a0_ : api_Span) (a1_ : Arr3_u8) (a2_ : Int) : Option (Bool) :=
 ((ref23_Of N a1_.x0 a1_.x1 a1_.x2).bind fun r1 =>
 ((residue_Covers N a0_ a2_).bind fun r2 =>
 ((ref23_Covers N a0_ a2_).bind fun r3 =>
 (if ((r2.1 != r3.1) || (r2.2 != r3.2)) then (some false) else ((residue_Covers N a0_ (Int.tmod a2_ 100)).bind fun r7 =>
 ((ref23_Covers N a0_ (Int.tmod a2_ 100)).bind fun r8 =>
 (if ((r7.1 != r8.1) || (r7.2 != r8.2)) then (some false) else ((residue_Covers N a0_ (w64 (0 - (Int.tmod a2_ 1000)))).bind fun r12 =>
 ((ref23_Covers N a0_ (w64 (0 - (Int.tmod a2_ 1000)))).bind fun r13 =>
 (if ((r12.1 != r13.1) || (r12.2 != r13.2)) then (some false) else ((residue_Check N a0_).bind fun r17 =>
 ((ref23_Check N a0_).bind fun r18 =>
 (if (r17 != r18) then (some false) else ((residue_Covers N r1 a2_).bind fun r20 =>
 ((ref23_Covers N r1 a2_).bind fun r21 =>
 (if ((r20.1 != r21.1) || (r20.2 != r21.2)) then (some false) else ((residue_Covers N r1 (Int.tmod a2_ 100)).bind fun r25 =>
 ((ref23_Covers N r1 (Int.tmod a2_ 100)).bind fun r26 =>
 (if ((r25.1 != r26.1) || (r25.2 != r26.2)) then (some false) else ((residue_Covers N r1 (w64 (0 - (Int.tmod a2_ 1000)))).bind fun r30 =>
 ((ref23_Covers N r1 (w64 (0 - (Int.tmod a2_ 1000)))).bind fun r31 =>
 (if ((r30.1 != r31.1) || (r30.2 != r31.2)) then (some false) else ((residue_Check N r1).bind fun r35 =>
 ((ref23_Check N r1).bind fun r36 =>
 (if (r35 != r36) then (some false) else ((law23_works N).bind fun r38 =>
 (some r38)))))))))))))))))))))))))))
def law23_ResidueAparts (N : Nat) (a0_ : api_Span) (a1_ : api_Span) (a2_ : Arr6_u8) : Option (Bool) :=
 ((ref23_Of N a2_.x0 a2_.x1 a2_.x2).bind fun r1 =>
 ((ref23_Of N a2_.x3 a2_.x4 a2_.x5).bind fun r2 =>
 ((residue_Apart N a0_ a1_).bind fun r3 =>
 ((ref23_Apart N a0_ a1_).bind fun r4 =>
 ((residue_Room N a0_ a1_).bind fun r5 =>
 ((ref23_Room N a0_ a1_).bind fun r6 =>
 (if ((r3.1 != r4.1) || ((r3.2 != r4.2) || ((r5.1 != r6.1) || ((r5.2.1 != r6.2.1) || ((r5.2.2.1 != r6.2.2.1) || (r5.2.2.2 != r6.2.2.2)))))) then (some false) else ((residue_Apart N r1 r2).bind fun r18 =>
 ((ref23_Apart N r1 r2).bind fun r19 =>
 ((residue_Room N r1 r2).bind fun r20 =>
 ((ref23_Room N r1 r2).bind fun r21 =>
 (if ((r18.1 != r19.1) || ((r18.2 != r19.2) || ((r20.1 != r21.1) || ((r20.2.1 != r21.2.1) || ((r20.2.2.1 != r21.2.2.1) || (r20.2.2.2 != r21.2.2.2)))))) then (some false) else ((residue_Apart N r1 a1_).bind fun r33 =>
 ((ref23_Apart N r1 a1_).bind fun r34 =>
 ((residue_Room N r1 a1_).bind fun r35 =>
 ((ref23_Room N r1 a1_).bind fun r36 =>
 (if ((r33.1 != r34.1) || ((r33.2 != r34.2) || ((r35.1 != r36.1) || ((r35.2.1 != r36.2.1) || ((r35.2.2.1 != r36.2.2.1) || (r35.2.2.2 != r36.2.2.2)))))) then (some false) else ((residue_Apart N a0_ r2).bind fun r48 =>
 ((ref23_Apart N a0_ r2).bind fun r49 =>
 ((residue_Room N a0_ r2).bind fun r50 =>
 ((ref23_Room N a0_ r2).bind fun r51 =>
 (if ((r48.1 != r49.1) || ((r48.2 != r49.2) || ((r50.1 != r51.1) || ((r50.2.1 != r51.2.1) || ((r50.2.2.1 != r51.2.2.1) || (r50.2.2.2 != r51.2.2.2)))))) then (some false) else ((law23_works N).bind fun r63 =>
 (some r63))))))))))))))))))))))))
def law23_ResidueNexts (N : Nat) (a0_ : (List Arr3_u8)) (a1_ : api_Span) (a2_ : Int) (a3_ : api_Span) (a4_ : Arr3_u8) : Option (Bool) :=
 ((law23_drafts N a0_ 34).bind fun r1 =>
 ((appI 24 [] r1).bind fun l4 =>
 (((if (decide (((List.length l4 : Nat) : Int) > 0)) then ((remI (w64 (a2_)) ((List.length l4 : Nat) : Int)).bind fun m511 =>
 ((idx l4 m511).bind fun e512 =>
 (some (List.set l4 (Int.toNat m511) a1_)))) else (some l4))).bind fun (j507 : (List api_Span)) =>
 ((ref23_Of N a4_.x0 a4_.x1 a4_.x2).bind fun r516 =>
 ((residue_Next N r1 a3_).bind fun r517 =>
 ((ref23_Next N r1 a3_).bind fun r518 =>
 (if ((r517.1 != r518.1) || (r517.2 != r518.2)) then (some false) else ((residue_Next N r1 r516).bind fun r522 =>
 ((ref23_Next N r1 r516).bind fun r523 =>
 (if ((r522.1 != r523.1) || (r522.2 != r523.2)) then (some false) else ((residue_Cycle N r1).bind fun r527 =>
 ((ref23_Cycle N r1).bind fun r528 =>
 (if ((r527.1 != r528.1) || (r527.2 != r528.2)) then (some false) else ((ref23_Of N a4_.x0 a4_.x1 a4_.x2).bind fun r532 =>
 ((residue_Next N j507 a3_).bind fun r533 =>
 ((ref23_Next N j507 a3_).bind fun r535 =>
 (if ((r533.1 != r535.1) || (r533.2 != r535.2)) then (some false) else ((residue_Next N j507 r532).bind fun r540 =>
 ((ref23_Next N j507 r532).bind fun r542 =>
 (if ((r540.1 != r542.1) || (r540.2 != r542.2)) then (some false) else ((residue_Cycle N j507).bind fun r547 =>
 ((ref23_Cycle N j507).bind fun r549 =>
 (if ((r547.1 != r549.1) || (r547.2 != r549.2)) then (some false) else ((law23_works N).bind fun r554 =>
 (some r554)))))))))))))))))))))))))
def law23_ResidueMeans_L1 (N : Nat) (r3 : api_Span) (r4 : api_Span) (b5 : Bool) (i6 : Int) : Option ((Bool × Int) ⊕ ((Bool × Int))) :=
 (if (decide (i6 < (w64 (r3.Period * r4.Period)))) then (((if b5 then (some true) else ((law23_covers N r3 i6).bind fun r510 => (if r510 then ((law23_covers N r4 i6).bind fun r512 => (if r512 then (some true) else (some false))) else (some false))))).bind fun (j516 : Bool) =>
 (some (.inl (j516, (w64 (i6 + 1)))))) else (some (.inr (b5, i6))))
def law23_ResidueMeans (N : Nat) (a0_ : Arr6_u8) (a1_ : Int) : Option (Bool) :=
 ((law23_works N).bind fun r1 =>
 (if (!r1) then (some false) else ((ref23_Of N a0_.x0 a0_.x1 a0_.x2).bind fun r3 =>
 ((ref23_Of N a0_.x3 a0_.x4 a0_.x5).bind fun r4 =>
 ((iterF (fun x : Bool × Int => law23_ResidueMeans_L1 N r3 r4 x.1 x.2) N (false, 0)).bind fun o517 =>
 ((((law23_covers N r3 (Int.tmod a1_ 100000)).bind fun r518 => ((law23_covers N r3 (w64 ((Int.tmod a1_ 100000) + r3.Period))).bind fun r519 => (if (r518 == r519) then ((law23_covers N r3 (Int.tmod a1_ 100000)).bind fun r521 => ((law23_covers N r3 (w64 ((Int.tmod a1_ 100000) - (w64 (3 * r3.Period))))).bind fun r522 => (some (r521 == r522)))) else (some false))))).bind fun (j524 : Bool) =>
 ((((law23_apart N r3 r4).bind fun r525 => (if (r525 == (!o517.1)) then (some j524) else (some false)))).bind fun (j528 : Bool) =>
 (some j528))))))))
def law23_ResidueMoves_L1 (N : Nat) (r3 : api_Span) (r4 : api_Span) (i17 : Int) : Option ((Int) ⊕ ((Int) ⊕ (Bool))) :=
 (if (decide (i17 < r4.Period)) then ((ref23_Shifted N r4 i17).bind fun r519 =>
 ((law23_apart N r3 r519).bind fun r520 =>
 (if r520 then (some (.inr (.inr false))) else (some (.inl (w64 (i17 + 1))))))) else (some (.inr (.inl i17))))
def law23_ResidueMoves_L2 (N : Nat) (r3 : api_Span) (r4 : api_Span) (r15 : Int × Int × Int × Int) (i539 : Int) : Option ((Int) ⊕ ((Int) ⊕ (Bool))) :=
 (if (decide (i539 < r4.Period)) then ((ref23_Shifted N r4 i539).bind fun r1041 =>
 ((ref23_Mod N (w64 (r1041.From - r3.From)) r15.2.2.1).bind fun r1042 =>
 ((((law23_apart N r3 r1041).bind fun r1043 => (if (decide (r1042 ≥ r15.1)) then (some (r1043 != (decide (r1042 ≤ r15.2.1)))) else (some (r1043 != false))))).bind fun (j1046 : Bool) =>
 (if j1046 then (some (.inr (.inr false))) else (some (.inl (w64 (i539 + 1)))))))) else (some (.inr (.inl i539))))
def law23_ResidueMoves (N : Nat) (a0_ : Arr6_u8) (a1_ : Int) : Option (Bool) :=
 ((law23_works N).bind fun r1 =>
 (if (!r1) then (some false) else ((ref23_Of N a0_.x0 a0_.x1 a0_.x2).bind fun r3 =>
 ((ref23_Of N a0_.x3 a0_.x4 a0_.x5).bind fun r4 =>
 ((ref23_Shifted N r3 (w64 (a1_))).bind fun r5 =>
 ((ref23_Shifted N r4 (w64 (a1_))).bind fun r6 =>
 ((((law23_apart N r3 r4).bind fun r7 => ((law23_apart N r4 r3).bind fun r8 => (if (r7 != r8) then (some true) else ((law23_apart N r3 r4).bind fun r11 => ((law23_apart N r5 r6).bind fun r12 => (some (r11 != r12)))))))).bind fun (j13 : Bool) =>
 (if j13 then (some false) else ((residue_Room N r3 r4).bind fun r15 =>
 (if (r15.2.2.2 == 4) then ((iterF (fun x : Int => law23_ResidueMoves_L1 N r3 r4 x) N 0).bind fun o522 => match o522 with
 | (.inl p523) => (some true)
 | (.inr p524) => (some p524)) else (((if (r15.2.2.2 != 0) then (some true) else (if (decide (r15.2.2.1 < 1)) then (some true) else ((remI r3.Period r15.2.2.1).bind fun m529 => (if (m529 != 0) then (some true) else ((remI r4.Period r15.2.2.1).bind fun m532 => (if (m532 != 0) then (some true) else (if (decide ((w64 (r3.Long + r4.Long)) > r15.2.2.1)) then (some true) else (some (decide (r15.1 > r15.2.1))))))))))).bind fun (j537 : Bool) =>
 (if j537 then (some false) else ((iterF (fun x : Int => law23_ResidueMoves_L2 N r3 r4 r15 x) N 0).bind fun o1048 => match o1048 with
 | (.inl p1049) => (some true)
 | (.inr p1050) => (some p1050))))))))))))))
def law23_ResidueLeast_L2 (N : Nat) (r3 : (List api_Span)) (r4 : api_Span) (i7 : Int) (b511 : Bool) (i512 : Int) : Option ((Bool × Int) ⊕ ((Bool × Int))) :=
 (if (decide (i512 < ((List.length r3 : Nat) : Int))) then (((if b511 then ((idx r3 i512).bind fun e1015 => ((ref23_Shifted N r4 i7).bind fun r1016 => ((law23_apart N e1015 r1016).bind fun r1017 => (if r1017 then (some true) else (some false))))) else (some false))).bind fun (j1021 : Bool) =>
 (some (.inl (j1021, (w64 (i512 + 1)))))) else (some (.inr (b511, i512))))
def law23_ResidueLeast_L1 (N : Nat) (r3 : (List api_Span)) (r4 : api_Span) (r5 : Int × Int) (i7 : Int) : Option ((Int) ⊕ ((Int) ⊕ (Bool))) :=
 (if ((decide (i7 ≤ r4.Period)) && (decide (i7 < r4.Period))) then ((iterF (fun x : Bool × Int => law23_ResidueLeast_L2 N r3 r4 i7 x.1 x.2) N (true, 0)).bind fun o1022 =>
 (if (if (r5.2 == 0) then (o1022.1 != (i7 == r5.1)) else (o1022.1 != false)) then (some (.inr (.inr false))) else (some (.inl (w64 (i7 + 1)))))) else (some (.inr (.inl i7))))
def law23_ResidueLeast_L4 (N : Nat) (r3 : (List api_Span)) (r4 : api_Span) (i1034 : Int) (b1538 : Bool) (i1539 : Int) : Option ((Bool × Int) ⊕ ((Bool × Int))) :=
 (if (decide (i1539 < ((List.length r3 : Nat) : Int))) then (((if b1538 then ((idx r3 i1539).bind fun e2042 => ((ref23_Shifted N r4 i1034).bind fun r2043 => ((law23_apart N e2042 r2043).bind fun r2044 => (if r2044 then (some true) else (some false))))) else (some false))).bind fun (j2048 : Bool) =>
 (some (.inl (j2048, (w64 (i1539 + 1)))))) else (some (.inr (b1538, i1539))))
def law23_ResidueLeast_L3 (N : Nat) (r3 : (List api_Span)) (r4 : api_Span) (r5 : Int × Int) (i1034 : Int) : Option ((Int) ⊕ ((Int) ⊕ (Bool))) :=
 (if ((decide (i1034 ≤ r5.1)) && (decide (i1034 < r4.Period))) then ((iterF (fun x : Bool × Int => law23_ResidueLeast_L4 N r3 r4 i1034 x.1 x.2) N (true, 0)).bind fun o2049 =>
 (if (if (r5.2 == 0) then (o2049.1 != (i1034 == r5.1)) else (o2049.1 != false)) then (some (.inr (.inr false))) else (some (.inl (w64 (i1034 + 1)))))) else (some (.inr (.inl i1034))))
def law23_ResidueLeast (N : Nat) (a0_ : (List Arr3_u8)) (a1_ : Arr3_u8) : Option (Bool) :=
 ((law23_works N).bind fun r1 =>
 (if (!r1) then (some false) else ((law23_drafts N a0_ 12).bind fun r3 =>
 ((ref23_Of N a1_.x0 a1_.x1 a1_.x2).bind fun r4 =>
 ((residue_Next N r3 r4).bind fun r5 =>
 (if (r5.2 == 4) then ((iterF (fun x : Int => law23_ResidueLeast_L1 N r3 r4 r5 x) N 0).bind fun o1026 => match o1026 with
 | (.inl p1027) => (some true)
 | (.inr p1028) => (some p1028)) else (if ((r5.2 != 0) || ((decide (r5.1 < 0)) || (decide (r5.1 ≥ r4.Period)))) then (some false) else ((iterF (fun x : Int => law23_ResidueLeast_L3 N r3 r4 r5 x) N 0).bind fun o2053 => match o2053 with
 | (.inl p2054) => (some true)
 | (.inr p2055) => (some p2055)))))))))
def law23_ResidueKnown_L1 (N : Nat) (r1 : api_Span) (r2 : api_Span) (r3 : api_Span) (r4 : api_Span) (r5 : api_Span) (r6 : api_Span) (r7 : api_Span) (i8 : Int) : Option ((Int) ⊕ ((Int) ⊕ (Bool))) :=
 (if (decide (i8 < ((List.length [(api_Span.mk 0 0 0), r1, r2, r3, r4, r5, r6] : Nat) : Int))) then ((idx [(api_Span.mk 0 0 0), r1, r2, r3, r4, r5, r6] i8).bind fun e510 =>
 ((residue_Covers N e510 1099511627777).bind fun r511 =>
 ((idx [(api_Span.mk 0 0 0), r1, r2, r3, r4, r5, r6] i8).bind fun e512 =>
 ((residue_Apart N r7 e512).bind fun r513 =>
 ((idx [(api_Span.mk 0 0 0), r1, r2, r3, r4, r5, r6] i8).bind fun e514 =>
 ((residue_Apart N e514 r7).bind fun r515 =>
 ((idx [(api_Span.mk 0 0 0), r1, r2, r3, r4, r5, r6] i8).bind fun e516 =>
 ((residue_Room N r7 e516).bind fun r517 =>
 ((idx [(api_Span.mk 0 0 0), r1, r2, r3, r4, r5, r6] i8).bind fun e518 =>
 ((residue_Next N ([e518]) r7).bind fun r519 =>
 ((idx [(api_Span.mk 0 0 0), r1, r2, r3, r4, r5, r6] i8).bind fun e520 =>
 ((residue_Next N ([]) e520).bind fun r521 =>
 ((idx [(api_Span.mk 0 0 0), r1, r2, r3, r4, r5, r6] i8).bind fun e522 =>
 ((residue_Cycle N ([r7, e522])).bind fun r523 =>
 ((((idx [(api_Span.mk 0 0 0), r1, r2, r3, r4, r5, r6] i8).bind fun e524 => ((residue_Check N e524).bind fun r525 => (if (r525 != 330) then (some true) else (if (r511.2 != 330) then (some true) else (if (r513.2 != 330) then (some true) else (if (r515.2 != 330) then (some true) else (if (r517.2.2.2 != 330) then (some true) else (if (r519.2 != 330) then (some true) else (if (r521.2 != 330) then (some true) else (some (r523.2 != 330)))))))))))).bind fun (j540 : Bool) =>
 (if j540 then (some (.inr (.inr false))) else (some (.inl (w64 (i8 + 1)))))))))))))))))))) else (some (.inr (.inl i8))))
def law23_ResidueKnown (N : Nat) : Option (Bool) :=
 ((law23_span N 0 0 1).bind fun r1 =>
 ((law23_span N 961 0 1).bind fun r2 =>
 ((law23_span N 5 5 1).bind fun r3 =>
 ((law23_span N 5 (-1) 1).bind fun r4 =>
 ((law23_span N 5 0 0).bind fun r5 =>
 ((law23_span N 5 0 6).bind fun r6 =>
 ((law23_span N 5 0 5).bind fun r7 =>
 ((iterF (fun x : Int => law23_ResidueKnown_L1 N r1 r2 r3 r4 r5 r6 r7 x) N 0).bind fun o542 => match o542 with
 | (.inl p543) => ((makeI 24 33 33 (api_Span.mk 0 0 0)).bind fun l546 =>
 ((idx [(api_Span.mk 0 0 0), r1, r2, r3, r4, r5, r6] 0).bind fun e547 =>
 ((residue_Next N l546 e547).bind fun r548 =>
 ((residue_Cycle N l546).bind fun r550 =>
 ((residue_Covers N r7 1099511627777).bind fun r552 =>
 ((residue_Covers N r7 (-1099511627777)).bind fun r553 =>
 ((law23_span N 31 0 1).bind fun r554 =>
 ((law23_span N 32 0 1).bind fun r555 =>
 ((residue_Cycle N ([r554, r555])).bind fun r556 =>
 ((law23_span N 960 0 1).bind fun r557 =>
 ((law23_span N 64 0 1).bind fun r558 =>
 ((law23_span N 15 0 1).bind fun r559 =>
 ((residue_Cycle N ([r557, r558, r559])).bind fun r560 =>
 ((law23_span N 7 6 7).bind fun r561 =>
 ((residue_Next N ([]) r561).bind fun r562 =>
 ((law23_span N 7 0 1).bind fun r563 =>
 ((law23_span N 7 0 7).bind fun r564 =>
 ((residue_Next N ([r563]) r564).bind fun r565 =>
 ((law23_span N 7 0 1).bind fun r566 =>
 ((law23_span N 7 2 1).bind fun r567 =>
 ((law23_span N 7 0 2).bind fun r568 =>
 ((residue_Next N ([r566, r567]) r568).bind fun r569 =>
 ((((law23_works N).bind fun r570 => (if r570 then ((residue_Check N r7).bind fun r572 => (if (r572 == 0) then (if (r548.2 == 3) then (if (r550.2 == 3) then (if (r552.2 == 2) then (if (r553.2 == 2) then (if (r556.2 == 6) then (if (r560.1 == 960) then (if (r560.2 == 0) then (if (r562.1 == 0) then (if (r562.2 == 0) then (if (r565.2 == 4) then (if (r569.1 == 3) then (if (r569.2 == 0) then ((law23_covers N r7 1099511627776).bind fun r586 => (if r586 then ((law23_span N 3 0 1).bind fun r588 => ((law23_covers N r588 (-3)).bind fun r589 => (if r589 then ((law23_span N 3 0 1).bind fun r591 => ((law23_covers N r591 (-1)).bind fun r592 => (some (!r592)))) else (some false)))) else (some false))) else (some false)) else (some false)) else (some false)) else (some false)) else (some false)) else (some false)) else (some false)) else (some false)) else (some false)) else (some false)) else (some false)) else (some false)) else (some false))) else (some false)))).bind fun (j609 : Bool) =>
 (some j609))))))))))))))))))))))))
 | (.inr p610) => (some p610)))))))))
end Go.Sh
