/- The plain Lean functions that the Go functions of this seat compute; written by sym.py. -/
import Derived.Test.YtcbolnjnhiaiiaaE25
namespace Go.Sh
open Go Go.Eng
set_option linter.unusedVariables false
set_option linter.unusedSimpArgs false
set_option maxRecDepth 100000
structure ref30_Draft where
  Masks : (List Int)
  Longs : (List Int)
def e_ref30_Draft (v : ref30_Draft) : List PC := [.sl 1 false (List.map (eI .u8) v.Masks), .sl 1 false (List.map (eI .u8) v.Longs)]
structure api_Entry where
  Mask : Int
  Long : Int
def e_api_Entry (v : api_Entry) : List PC := [.int .i64 v.Mask, .int .i64 v.Long]
structure api_Gates where
  Entries : (List api_Entry)
  Cycle : Int
def e_api_Gates (v : api_Gates) : List PC := [.sl 2 false (List.map e_api_Entry v.Entries), .int .i64 v.Cycle]
structure Arr2_i64 where
  x0 : Int
  x1 : Int
def e_Arr2_i64 (v : Arr2_i64) : List PC := [.int .i64 v.x0, .int .i64 v.x1]
structure Arr2_u8 where
  x0 : Int
  x1 : Int
def e_Arr2_u8 (v : Arr2_u8) : List PC := [.int .u8 v.x0, .int .u8 v.x1]
structure api_Serve where
  Rate : Int
  Latency : Int
def e_api_Serve (v : api_Serve) : List PC := [.int .i64 v.Rate, .int .i64 v.Latency]
structure service_opening where
  from_ : Int
  long : Int
def e_service_opening (v : service_opening) : List PC := [.int .i64 v.from_, .int .i64 v.long]
structure ref30_Opening where
  Begin : Int
  End : Int
def e_ref30_Opening (v : ref30_Opening) : List PC := [.int .i64 v.Begin, .int .i64 v.End]
abbrev s_e_api_Entry (f : Bool) (l : List api_Entry) : AV := .p (.sl 2 f (List.map e_api_Entry l))
abbrev s_eI_u8 (f : Bool) (l : List Int) : AV := .p (.sl 1 f (List.map (eI .u8) l))
abbrev s_eI64 (f : Bool) (l : List Int) : AV := .p (.sl 1 f (List.map eI64 l))
abbrev s_e_service_opening (f : Bool) (l : List service_opening) : AV := .p (.sl 2 f (List.map e_service_opening l))
abbrev s_e_ref30_Opening (f : Bool) (l : List ref30_Opening) : AV := .p (.sl 2 f (List.map e_ref30_Opening l))
abbrev c_ref30_Draft (v : ref30_Draft) : List AV := [s_eI_u8 false v.Masks, s_eI_u8 false v.Longs]
abbrev c_api_Entry (v : api_Entry) : List AV := [iv v.Mask, iv v.Long]
abbrev c_api_Gates (v : api_Gates) : List AV := [s_e_api_Entry false v.Entries, iv v.Cycle]
abbrev c_Arr2_i64 (v : Arr2_i64) : List AV := [iv v.x0, iv v.x1]
abbrev c_Arr2_u8 (v : Arr2_u8) : List AV := [.p (.int .u8 v.x0), .p (.int .u8 v.x1)]
abbrev c_api_Serve (v : api_Serve) : List AV := [iv v.Rate, iv v.Latency]
abbrev c_service_opening (v : service_opening) : List AV := [iv v.from_, iv v.long]
abbrev c_ref30_Opening (v : ref30_Opening) : List AV := [iv v.Begin, iv v.End]
def ref30_Draft_Gates_L1 (N : Nat) (a0_ : ref30_Draft) (i3 : Int) (i4 : Int) (l5 : (List api_Entry)) : Option ((Int × Int × (List api_Entry)) ⊕ ((Int × Int × (List api_Entry)))) :=
 (if (decide (i3 < (if (if 10 < ((List.length a0_.Masks : Nat) : Int) then 10 else ((List.length a0_.Masks : Nat) : Int)) > 1 then (if 10 < ((List.length a0_.Masks : Nat) : Int) then 10 else ((List.length a0_.Masks : Nat) : Int)) else 1))) then (((if (decide (i3 < ((List.length a0_.Masks : Nat) : Int))) then ((idx a0_.Masks i3).bind fun e1011 =>
 ((idx [128, 127, 127, 64, 255, 63] (Int.tmod e1011 6)).bind fun e1012 =>
 (some e1012))) else (some 127))).bind fun (j1009 : Int) =>
 (((if (decide (i3 < ((List.length a0_.Longs : Nat) : Int))) then ((idx a0_.Longs i3).bind fun e1515 =>
 (some (w64 (1 + (w64 (4 * (w64 (e1515)))))))) else (some 1))).bind fun (j1513 : Int) =>
 ((appI 16 l5 [(api_Entry.mk j1009 j1513)]).bind fun l1518 =>
 (some (.inl ((w64 (i3 + 1)), (w64 (i4 + j1513)), l1518)))))) else (some (.inr (i3, i4, l5))))
def ref30_Draft_Gates (N : Nat) (a0_ : ref30_Draft) : Option (api_Gates) :=
 ((iterF (fun x : Int × Int × (List api_Entry) => ref30_Draft_Gates_L1 N a0_ x.1 x.2.1 x.2.2) N (0, 0, [])).bind fun o1519 =>
 (some (api_Gates.mk o1519.2.2 o1519.2.1)))
def law30_few (N : Nat) (a0_ : api_Gates) : Option (api_Gates) :=
 ((subI a0_.Entries 0 (if 130 < ((List.length a0_.Entries : Nat) : Int) then 130 else ((List.length a0_.Entries : Nat) : Int))).bind fun l1 =>
 (some (api_Gates.mk l1 a0_.Cycle)))
def law30_list_L1 (N : Nat) (a0_ : (List Int)) (i3 : Int) (i4 : Int) (l5 : (List api_Entry)) : Option ((Int × Int × (List api_Entry)) ⊕ ((Int × Int × (List api_Entry)))) :=
 (if (decide ((w64 (i3 + 1)) < ((List.length a0_ : Nat) : Int))) then ((idx a0_ i3).bind fun e509 =>
 ((idx a0_ (w64 (i3 + 1))).bind fun e510 =>
 ((appI 16 l5 [(api_Entry.mk e509 e510)]).bind fun l513 =>
 ((idx a0_ (w64 (i3 + 1))).bind fun e514 =>
 (some (.inl ((w64 (i3 + 2)), (w64 (i4 + e514)), l513))))))) else (some (.inr (i3, i4, l5))))
def law30_list (N : Nat) (a0_ : (List Int)) : Option (api_Gates) :=
 ((iterF (fun x : Int × Int × (List api_Entry) => law30_list_L1 N a0_ x.1 x.2.1 x.2.2) N (0, 0, [])).bind fun o515 =>
 (some (api_Gates.mk o515.2.2 o515.2.1)))
def curve_Check (N : Nat) (a0_ : api_Serve) : Option (Int) :=
 (if ((decide (a0_.Rate < 1)) || ((decide (a0_.Rate > 2097152)) || ((decide (a0_.Latency < 0)) || (decide (a0_.Latency > 268435456))))) then (some 140) else (some 0))
def service_openings (N : Nat) (a0_ : api_Gates) : Option (api_Gates) :=
 (some a0_)
def service_mod (N : Nat) (a0_ : Int) (a1_ : Int) : Option (Int) :=
 ((remI a0_ a1_).bind fun m1 =>
 ((remI (w64 (m1 + a1_)) a1_).bind fun m2 =>
 (some m2)))
def service_floorDiv (N : Nat) (a0_ : Int) (a1_ : Int) : Option (Int) :=
 ((service_mod N a0_ a1_).bind fun r1 =>
 ((quoI .i64 (w64 (a0_ - r1)) a1_).bind fun q2 =>
 (some q2)))
def gates_find_L1 (N : Nat) (a0_ : api_Gates) (i3 : Int) (i4 : Int) : Option ((Int × Int) ⊕ ((Int × Int))) :=
 ((idx a0_.Entries i4).bind fun e505 =>
 (if (decide (i3 ≥ e505.Long)) then ((idx a0_.Entries i4).bind fun e507 =>
 (some (.inl ((w64 (i3 - e507.Long)), (w64 (i4 + 1)))))) else ((idx a0_.Entries i4).bind fun e508 =>
 (some (.inr (i4, (w64 (e508.Long - i3))))))))
def gates_find (N : Nat) (a0_ : api_Gates) (a1_ : Int) : Option (Int × Int) :=
 ((remI a1_ a0_.Cycle).bind fun m1 =>
 ((remI (w64 (m1 + a0_.Cycle)) a0_.Cycle).bind fun m2 =>
 ((iterF (fun x : Int × Int => gates_find_L1 N a0_ x.1 x.2) N (m2, 0)).bind fun o509 =>
 (some o509))))
def gates_stretch_L1 (N : Nat) (a0_ : api_Gates) (a2_ : Int → Option (Bool)) (i2 : Int) (i3 : Int) (i4 : Int) (i5 : Int) : Option ((Int × Int × Int × Int) ⊕ ((Int × Int × Int × Int) ⊕ (Int))) :=
 (if (decide (i5 < (w64 (((List.length a0_.Entries : Nat) : Int) + 1)))) then ((idx a0_.Entries i2).bind fun e507 =>
 ((a2_ e507.Mask).bind fun r508 =>
 (if (!r508) then (some (.inr (.inr i4))) else ((remI (w64 (i2 + 1)) ((List.length a0_.Entries : Nat) : Int)).bind fun m510 =>
 ((idx a0_.Entries m510).bind fun e511 =>
 (some (.inl (m510, e511.Long, (w64 (i4 + i3)), (w64 (i5 + 1)))))))))) else (some (.inr (.inl (i2, i3, i4, i5)))))
def gates_stretch (N : Nat) (a0_ : api_Gates) (a1_ : Int) (a2_ : Int → Option (Bool)) : Option (Int) :=
 ((gates_find N a0_ a1_).bind fun r1 =>
 ((iterF (fun x : Int × Int × Int × Int => gates_stretch_L1 N a0_ a2_ x.1 x.2.1 x.2.2.1 x.2.2.2) N (r1.1, r1.2, 0, 0)).bind fun o512 => match o512 with
 | (.inl p513) => (some a0_.Cycle)
 | (.inr p514) => (some p514)))
def gates_Turn_1 (N : Nat) (a0_ : Int) (c0_ : Int) : Option (Bool) :=
 (some (a0_ == c0_))
def gates_Check_L1 (N : Nat) (a0_ : api_Gates) (i4 : Int) (i5 : Int) : Option ((Int × Int) ⊕ ((Int × Int) ⊕ (Int))) :=
 (if (decide (i5 < ((List.length a0_.Entries : Nat) : Int))) then ((idx a0_.Entries i5).bind fun e507 =>
 (if ((decide (e507.Mask < 0)) || ((decide (e507.Mask > 255)) || ((decide (e507.Long < 1)) || (decide (e507.Long > 9600000))))) then (some (.inr (.inr 370))) else (some (.inl ((w64 (i4 + e507.Long)), (w64 (i5 + 1))))))) else (some (.inr (.inl (i4, i5)))))
def gates_Check (N : Nat) (a0_ : api_Gates) : Option (Int) :=
 (if ((decide (((List.length a0_.Entries : Nat) : Int) < 1)) || (decide (((List.length a0_.Entries : Nat) : Int) > 128))) then (some 370) else ((iterF (fun x : Int × Int => gates_Check_L1 N a0_ x.1 x.2) N (0, 0)).bind fun o515 => match o515 with
 | (.inl p516) => (if ((p516.1 != a0_.Cycle) || (decide (p516.1 > 9600000))) then (some 370) else (some 0))
 | (.inr p520) => (some p520)))
def ref27_Right_L1 (N : Nat) (a0_ : api_Gates) (i4 : Int) (i5 : Int) : Option ((Int × Int) ⊕ ((Int × Int) ⊕ (Bool))) :=
 (if (decide (i5 < ((List.length a0_.Entries : Nat) : Int))) then ((idx a0_.Entries i5).bind fun e507 =>
 (if ((decide (e507.Mask < 0)) || ((decide (e507.Mask > 255)) || ((decide (e507.Long < 1)) || (decide (e507.Long > 9600000))))) then (some (.inr (.inr false))) else (some (.inl ((w64 (i4 + e507.Long)), (w64 (i5 + 1))))))) else (some (.inr (.inl (i4, i5)))))
def ref27_Right (N : Nat) (a0_ : api_Gates) : Option (Bool) :=
 (if ((decide (((List.length a0_.Entries : Nat) : Int) < 1)) || (decide (((List.length a0_.Entries : Nat) : Int) > 128))) then (some false) else ((iterF (fun x : Int × Int => ref27_Right_L1 N a0_ x.1 x.2) N (0, 0)).bind fun o515 => match o515 with
 | (.inl p516) => (some ((p516.1 == a0_.Cycle) && (decide (p516.1 ≤ 9600000))))
 | (.inr p519) => (some p519)))
def ref30_sum_L1 (N : Nat) (a0_ : (List ref30_Opening)) (a1_ : Int) (i1 : Int) (i2 : Int) : Option ((Int × Int) ⊕ ((Int × Int))) :=
 (if (decide (i2 < ((List.length a0_ : Nat) : Int))) then ((idx a0_ i2).bind fun e504 =>
 ((idx a0_ i2).bind fun e505 =>
 (some (.inl ((w64 (i1 + (if (w64 ((w64 (e504.End - e505.Begin)) - a1_)) > 0 then (w64 ((w64 (e504.End - e505.Begin)) - a1_)) else 0))), (w64 (i2 + 1))))))) else (some (.inr (i1, i2))))
def ref30_sum (N : Nat) (a0_ : (List ref30_Opening)) (a1_ : Int) : Option (Int) :=
 ((iterF (fun x : Int × Int => ref30_sum_L1 N a0_ a1_ x.1 x.2) N (0, 0)).bind fun o506 =>
 (some o506.1))
def service_isOpen (N : Nat) (a0_ : api_Entry) : Option (Bool) :=
 (some ((andI .i64 (shrT .i64 a0_.Mask 6) 1) == 1))
def ref27_Bit (N : Nat) (a0_ : Int) (a1_ : Int) : Option (Bool) :=
 ((shrI .i64 a0_ (IntKind.u64.wrap (a1_))).bind fun sh1 =>
 (some ((Int.tmod sh1 2) == 1)))
def gates_open_1 (N : Nat) (a0_ : Int) (c0_ : Int) : Option (Bool) :=
 ((shrI .i64 a0_ c0_).bind fun sh2 =>
 (some ((andI .i64 sh2 1) == 1)))
def ref27_At_L1 (N : Nat) (a0_ : api_Gates) (i504 : Int) (i505 : Int) : Option ((Int × Int) ⊕ ((Int × Int))) :=
 ((idx a0_.Entries i505).bind fun e1006 =>
 (if (decide (i504 ≥ e1006.Long)) then ((idx a0_.Entries i505).bind fun e1008 =>
 (some (.inl ((w64 (i504 - e1008.Long)), (w64 (i505 + 1)))))) else (some (.inr (i504, i505)))))
def ref27_At (N : Nat) (a0_ : api_Gates) (a1_ : Int) : Option (Int × Int) :=
 ((remI a1_ a0_.Cycle).bind fun m1 =>
 (((if (decide (m1 < 0)) then (some (w64 (m1 + a0_.Cycle))) else (some m1))).bind fun (j502 : Int) =>
 ((iterF (fun x : Int × Int => ref27_At_L1 N a0_ x.1 x.2) N (j502, 0)).bind fun o1009 =>
 (some (o1009.2, o1009.1)))))
def service_check (N : Nat) (a0_ : api_Gates) (a1_ : Int) (a2_ : Int) : Option (Int) :=
 ((gates_Check N a0_).bind fun r1 =>
 (if (r1 != 0) then (some r1) else (if ((decide (a1_ < 1)) || ((decide (a1_ > 1000)) || ((decide (a2_ < 84)) || (decide (a2_ > 1542))))) then (some 2) else (some 0))))
def ref30_args (N : Nat) (a0_ : api_Gates) (a1_ : Int) (a2_ : Int) : Option (Int) :=
 ((ref27_Right N a0_).bind fun r1 =>
 (if (!r1) then (some 370) else (if ((decide (a1_ < 1)) || ((decide (a1_ > 1000)) || ((decide (a2_ < 84)) || (decide (a2_ > 1542))))) then (some 2) else (some 0))))
def service_Of_1 (N : Nat) (a0_ : Int) (a1_ : Int) (c0_ : Int) (c1_ : Int) (c2_ : Int) : Option (Int) :=
 ((service_floorDiv N (w64 (a1_ * 1048576)) (w64 (c1_ * c2_))).bind fun r4 =>
 (some (if (w64 (a0_ - r4)) > c0_ then (w64 (a0_ - r4)) else c0_)))
def ref30_Always_L1 (N : Nat) (a0_ : api_Gates) (i1 : Int) : Option ((Int) ⊕ ((Int) ⊕ (Bool))) :=
 (if (decide (i1 < ((List.length a0_.Entries : Nat) : Int))) then ((idx a0_.Entries i1).bind fun e503 =>
 ((ref27_Bit N e503.Mask 6).bind fun r504 =>
 (if (!r504) then (some (.inr (.inr false))) else (some (.inl (w64 (i1 + 1))))))) else (some (.inr (.inl i1))))
def ref30_Always (N : Nat) (a0_ : api_Gates) : Option (Bool) :=
 ((iterF (fun x : Int => ref30_Always_L1 N a0_ x) N 0).bind fun o506 => match o506 with
 | (.inl p507) => (some true)
 | (.inr p508) => (some p508))
def gates_check (N : Nat) (a0_ : api_Gates) (a1_ : Int) (a2_ : Int) (a3_ : Int) : Option (Int) :=
 ((gates_Check N a0_).bind fun r1 =>
 (if (r1 != 0) then (some r1) else (if ((decide (a1_ < 0)) || ((decide (a1_ ≥ 8)) || ((decide (a2_ < (-1099511627776))) || ((decide (a2_ > 1099511627776)) || ((decide (a3_ < 0)) || (decide (a3_ > 1099511627776))))))) then (some 2) else (some 0))))
def gates_open (N : Nat) (a0_ : api_Gates) (a1_ : Int) (a2_ : Int) : Option (Int) :=
 ((gates_stretch N a0_ a2_ (fun x0 => gates_open_1 N x0 a1_)).bind fun r3 =>
 (if (r3 == a0_.Cycle) then (some 1099511627776) else (some r3)))
def service_openings_1_L1 (N : Nat) (c0_ : api_Gates) (i2 : Int) (i3 : Int) : Option ((Int × Int) ⊕ ((Int × Int))) :=
 (((if (decide (i2 < ((List.length c0_.Entries : Nat) : Int))) then ((idx c0_.Entries i2).bind fun e506 => ((service_isOpen N e506).bind fun r507 => (some r507))) else (some false))).bind fun (j509 : Bool) =>
 (if j509 then ((idx c0_.Entries i2).bind fun e512 =>
 (some (.inl ((w64 (i2 + 1)), (w64 (i3 + e512.Long)))))) else (some (.inr (i2, i3)))))
def service_openings_1_L2 {σ : Type} (N : Nat) (y_ : σ → service_opening → Option (σ × Bool)) (c0_ : api_Gates) (o513 : Int × Int) (i517 : Int) (i518 : Int) (i519 : Int) (i520 : Int) (g523 : σ) : Option ((Int × Int × Int × Int × σ) ⊕ ((Int × Int × Int × Int × σ) ⊕ (σ))) :=
 (if (decide (i518 < ((List.length c0_.Entries : Nat) : Int))) then ((remI (w64 ((w64 (o513.1 + 1)) + i518)) ((List.length c0_.Entries : Nat) : Int)).bind fun m1028 =>
 ((idx c0_.Entries m1028).bind fun e1029 =>
 ((service_isOpen N e1029).bind fun r1030 =>
 (if r1030 then (((if (i520 == 0) then (some i517) else (some i519))).bind fun (j1532 : Int) =>
 (some (.inl ((w64 (i517 + e1029.Long)), (w64 (i518 + 1)), j1532, (w64 (i520 + e1029.Long)), g523)))) else (((if (decide (i520 > 0)) then ((y_ g523 (service_opening.mk i519 i520)).bind fun r1535 => (some ((!r1535.2), r1535.1))) else (some (false, g523)))).bind fun (j1541 : Bool × σ) =>
 (if j1541.1 then (some (.inr (.inr j1541.2))) else (some (.inl ((w64 (i517 + e1029.Long)), (w64 (i518 + 1)), 0, 0, j1541.2))))))))) else (some (.inr (.inl (i517, i518, i519, i520, g523)))))
def service_openings_1 {σ : Type} (N : Nat) (y_ : σ → service_opening → Option (σ × Bool)) (c0_ : api_Gates) (s_ : σ) : Option (σ) :=
 ((iterF (fun x : Int × Int => service_openings_1_L1 N c0_ x.1 x.2) N (0, 0)).bind fun o513 =>
 (if (o513.1 == ((List.length c0_.Entries : Nat) : Int)) then (some s_) else ((idx c0_.Entries o513.1).bind fun e516 =>
 ((iterF (fun x : Int × Int × Int × Int × σ => service_openings_1_L2 N y_ c0_ o513 x.1 x.2.1 x.2.2.1 x.2.2.2.1 x.2.2.2.2) N ((w64 (o513.2 + e516.Long)), 0, 0, 0, s_)).bind fun o1543 => match o1543 with
 | (.inl p1544) => (some p1544.2.2.2.2)
 | (.inr p1545) => (some p1545)))))
def ref30_Openings_L1 (N : Nat) (a0_ : api_Gates) (a2_ : Int) (b3 : Bool) (i4 : Int) (l5 : (List ref30_Opening)) : Option ((Bool × Int × (List ref30_Opening)) ⊕ ((Bool × Int × (List ref30_Opening)))) :=
 (if (decide (i4 < a2_)) then ((ref27_At N a0_ i4).bind fun r509 =>
 ((idx a0_.Entries r509.1).bind fun e510 =>
 ((idx a0_.Entries r509.1).bind fun e511 =>
 ((ref27_Bit N e511.Mask 6).bind fun r512 =>
 (((if (r512 && b3) then ((idx l5 (w64 (((List.length l5 : Nat) : Int) - 1))).bind fun e1020 =>
 (some (List.set l5 (Int.toNat (w64 (((List.length l5 : Nat) : Int) - 1))) (ref30_Opening.mk e1020.Begin (if a2_ < (w64 ((w64 (i4 - r509.2)) + e510.Long)) then a2_ else (w64 ((w64 (i4 - r509.2)) + e510.Long))))))) else (some l5))).bind fun (j1015 : (List ref30_Opening)) =>
 (((if (r512 && (!b3)) then ((appI 16 j1015 [(ref30_Opening.mk i4 (if a2_ < (w64 ((w64 (i4 - r509.2)) + e510.Long)) then a2_ else (w64 ((w64 (i4 - r509.2)) + e510.Long))))]).bind fun l1532 =>
 (some l1532)) else (some j1015))).bind fun (j1526 : (List ref30_Opening)) =>
 (some (.inl (r512, (if a2_ < (w64 ((w64 (i4 - r509.2)) + e510.Long)) then a2_ else (w64 ((w64 (i4 - r509.2)) + e510.Long))), j1526))))))))) else (some (.inr (b3, i4, l5))))
def ref30_Openings (N : Nat) (a0_ : api_Gates) (a1_ : Int) (a2_ : Int) : Option ((List ref30_Opening)) :=
 ((iterF (fun x : Bool × Int × (List ref30_Opening) => ref30_Openings_L1 N a0_ a2_ x.1 x.2.1 x.2.2) N (false, a1_, [])).bind fun o1533 =>
 (some o1533.2.2))
def gates_Open (N : Nat) (a0_ : api_Gates) (a1_ : Int) (a2_ : Int) : Option (Int × Int) :=
 ((gates_check N a0_ a1_ a2_ 0).bind fun r1 =>
 (if (r1 != 0) then (some (0, r1)) else ((gates_open N a0_ a1_ a2_).bind fun r3 =>
 (some (r3, 0)))))
def gates_Turn (N : Nat) (a0_ : api_Gates) (a1_ : Int) : Option (Int × Int) :=
 ((gates_check N a0_ 0 a1_ 0).bind fun r1 =>
 (if (r1 != 0) then (some (0, r1)) else ((gates_find N a0_ a1_).bind fun r3 =>
 ((idx a0_.Entries r3.1).bind fun e4 =>
 ((gates_stretch N a0_ a1_ (fun x0 => gates_Turn_1 N x0 e4.Mask)).bind fun r8 =>
 (if (r8 == a0_.Cycle) then (some (0, 4)) else (some ((w64 (a1_ + r8)), 0))))))))
def service_always (N : Nat) (a0_ : api_Gates) : Option (Bool) :=
 ((gates_Open N a0_ 6 0).bind fun r1 =>
 (some ((r1.2 == 0) && (r1.1 == 1099511627776))))
def ref30_Least (N : Nat) (a0_ : api_Gates) (a1_ : Int) (a2_ : Int) (a3_ : Int) (a4_ : Int) : Option (Int) :=
 ((ref30_Always N a0_).bind fun r1 =>
 (if r1 then (some (w64 (a4_ - (w64 (127 * a1_))))) else ((ref30_Openings N a0_ a3_ (w64 (a3_ + a4_))).bind fun r3 =>
 ((ref30_sum N r3 (w64 (a2_ * a1_))).bind fun r4 =>
 (some (w64 (r4 - (w64 (127 * a1_)))))))))
def service_gaps_R1 (N : Nat) (l9 : (List service_opening)) (x7 : service_opening) : Option ((List service_opening)) :=
 ((appI 16 l9 [x7]).bind fun l513 =>
 (some l513))
def service_gaps_L3 {σ : Type} (N : Nat) (a0_ : api_Gates) (a1_ : Int) (y_ : σ → Int → Int → Option (σ)) (o515 : (List service_opening)) (i523 : Int) (e1028 : service_opening) (i1033 : Int) (i1034 : Int) (g1035 : σ) : Option ((Int × Int × σ) ⊕ ((Int × Int × σ))) :=
 (if (decide (i1034 < ((List.length o515 : Nat) : Int))) then ((remI (w64 ((w64 (i523 + 1)) + i1034)) ((List.length o515 : Nat) : Int)).bind fun m1540 =>
 ((idx o515 m1540).bind fun e1541 =>
 ((quoI .i64 (w64 ((w64 (i523 + 1)) + i1034)) ((List.length o515 : Nat) : Int)).bind fun q1544 =>
 ((y_ g1035 (w64 ((w64 ((w64 (e1541.from_ + (w64 (q1544 * a0_.Cycle)))) + (if e1541.long < a1_ then e1541.long else a1_))) - (w64 ((w64 (e1028.from_ + e1028.long)) - (if e1028.long < a1_ then e1028.long else a1_))))) i1033).bind fun r1545 =>
 (some (.inl ((w64 (i1033 + (if (w64 (e1541.long - a1_)) > 0 then (w64 (e1541.long - a1_)) else 0))), (w64 (i1034 + 1)), r1545))))))) else (some (.inr (i1033, i1034, g1035))))
def service_gaps_L2 {σ : Type} (N : Nat) (a0_ : api_Gates) (a1_ : Int) (y_ : σ → Int → Int → Option (σ)) (o515 : (List service_opening)) (i523 : Int) (g524 : σ) : Option ((Int × σ) ⊕ ((Int × σ))) :=
 (if (decide (i523 < ((List.length o515 : Nat) : Int))) then ((idx o515 i523).bind fun e1028 =>
 ((iterF (fun x : Int × Int × σ => service_gaps_L3 N a0_ a1_ y_ o515 i523 e1028 x.1 x.2.1 x.2.2) N (0, 0, g524)).bind fun o1548 =>
 (some (.inl ((w64 (i523 + 1)), o1548.2.2))))) else (some (.inr (i523, g524))))
def service_gaps {σ : Type} (N : Nat) (a0_ : api_Gates) (a1_ : Int) (y_ : σ → Int → Int → Option (σ)) (s_ : σ) : Option (σ) :=
 ((service_openings N a0_).bind fun r3 =>
 ((service_openings_1 N (fun (s : (List service_opening)) (x7 : service_opening) => yieldT (fun v : (List service_opening) => service_gaps_R1 N v x7) s) r3 []).bind fun o515 =>
 ((iterF (fun x : Int × σ => service_gaps_L2 N a0_ a1_ y_ o515 x.1 x.2) N (0, s_)).bind fun o1549 =>
 (some o1549.2))))
def ref30_Round_L1 (N : Nat) (a0_ : api_Gates) (i1 : Int) (i2 : Int) : Option ((Int × Int) ⊕ ((Int × Int))) :=
 (((if (decide (i2 < ((List.length a0_.Entries : Nat) : Int))) then ((idx a0_.Entries i2).bind fun e504 => ((ref27_Bit N e504.Mask 6).bind fun r505 => (some r505))) else (some false))).bind fun (j507 : Bool) =>
 (if j507 then ((idx a0_.Entries i2).bind fun e509 =>
 (some (.inl ((w64 (i1 + e509.Long)), (w64 (i2 + 1)))))) else (some (.inr (i1, i2)))))
def ref30_Round (N : Nat) (a0_ : api_Gates) : Option ((List ref30_Opening)) :=
 ((iterF (fun x : Int × Int => ref30_Round_L1 N a0_ x.1 x.2) N (0, 0)).bind fun o510 =>
 ((ref30_Openings N a0_ o510.1 (w64 (o510.1 + a0_.Cycle))).bind fun r511 =>
 (some r511)))
def service_Sends_L2 (N : Nat) (a0_ : api_Gates) (a1_ : Int) (a2_ : Int) (a3_ : Int) (a4_ : Int) (x43 : service_opening) (i550 : Int) (i551 : Int) : Option ((Int × Int) ⊕ ((Int × Int))) :=
 (if (decide (i550 < (w64 (a3_ + a4_)))) then (some (.inl ((w64 (i550 + a0_.Cycle)), (w64 (i551 + (if (w64 ((w64 ((if (w64 (a3_ + a4_)) < (w64 (i550 + x43.long)) then (w64 (a3_ + a4_)) else (w64 (i550 + x43.long))) - (if a3_ > i550 then a3_ else i550))) - (w64 (a2_ * a1_)))) > 0 then (w64 ((w64 ((if (w64 (a3_ + a4_)) < (w64 (i550 + x43.long)) then (w64 (a3_ + a4_)) else (w64 (i550 + x43.long))) - (if a3_ > i550 then a3_ else i550))) - (w64 (a2_ * a1_)))) else 0)))))) else (some (.inr (i550, i551))))
def service_Sends_R1 (N : Nat) (a0_ : api_Gates) (a1_ : Int) (a2_ : Int) (a3_ : Int) (a4_ : Int) (i44 : Int) (x43 : service_opening) : Option (Int) :=
 ((service_mod N (w64 (a3_ - x43.from_)) a0_.Cycle).bind fun r548 =>
 ((iterF (fun x : Int × Int => service_Sends_L2 N a0_ a1_ a2_ a3_ a4_ x43 x.1 x.2) N ((w64 (a3_ - r548)), i44)).bind fun o1064 =>
 (some o1064.2)))
def service_Sends (N : Nat) (a0_ : api_Gates) (a1_ : Int) (a2_ : Int) (a3_ : Int) (a4_ : Int) : Option (Int × Int) :=
 ((service_check N a0_ a1_ a2_).bind fun r14 =>
 (if (r14 != 0) then (some (0, r14)) else (((if (decide (a3_ < (-1099511627776))) then (some true) else (if (decide (a3_ > 1099511627776)) then (some true) else (if (decide (a4_ < 0)) then (some true) else (some (decide (a4_ > (w64 (4 * a0_.Cycle))))))))).bind fun (j27 : Bool) =>
 (if j27 then (some (0, 2)) else ((service_always N a0_).bind fun r30 =>
 (if r30 then (some ((if (w64 (a4_ - (w64 (127 * a1_)))) > 0 then (w64 (a4_ - (w64 (127 * a1_)))) else 0), 0)) else ((service_openings N a0_).bind fun r39 =>
 ((service_openings_1 N (fun (s : Int) (x43 : service_opening) => yieldT (fun v : Int => service_Sends_R1 N a0_ a1_ a2_ a3_ a4_ v x43) s) r39 (w64 ((-127) * a1_))).bind fun o1065 =>
 (some ((if o1065 > 0 then o1065 else 0), 0))))))))))
def ref30_Sends (N : Nat) (a0_ : api_Gates) (a1_ : Int) (a2_ : Int) (a3_ : Int) (a4_ : Int) : Option (Int × Int) :=
 ((ref30_args N a0_ a1_ a2_).bind fun r1 =>
 (if (r1 != 0) then (some (0, r1)) else (if ((decide (a3_ < (-1099511627776))) || ((decide (a3_ > 1099511627776)) || ((decide (a4_ < 0)) || (decide (a4_ > (w64 (4 * a0_.Cycle))))))) then (some (0, 2)) else ((ref30_Least N a0_ a1_ a2_ a3_ a4_).bind fun r10 =>
 (some ((if r10 > 0 then r10 else 0), 0))))))
def law30_sends (N : Nat) (a0_ : api_Gates) (a1_ : Int) (a2_ : Int) (a3_ : Int) (a4_ : Int) : Option (Int) :=
 ((service_Sends N a0_ a1_ a2_ a3_ a4_).bind fun r1 =>
 (if (r1.2 != 0) then (some (-1)) else (some r1.1)))
def service_yieldOf_R1 (N : Nat) (a1_ : Int) (i13 : Int) (x12 : service_opening) : Option (Int) :=
 (some (w64 (i13 + (if (w64 (x12.long - a1_)) > 0 then (w64 (x12.long - a1_)) else 0))))
def service_yieldOf (N : Nat) (a0_ : api_Gates) (a1_ : Int) : Option (Int) :=
 ((service_always N a0_).bind fun r3 =>
 (if r3 then (some a0_.Cycle) else ((service_openings N a0_).bind fun r8 =>
 ((service_openings_1 N (fun (s : Int) (x12 : service_opening) => yieldT (fun v : Int => service_yieldOf_R1 N a1_ v x12) s) r8 0).bind fun o517 =>
 (some o517)))))
def ref30_Gives (N : Nat) (a0_ : api_Gates) (a1_ : Int) (a2_ : Int) : Option (Int) :=
 ((ref30_Always N a0_).bind fun r1 =>
 (if r1 then (some a0_.Cycle) else ((ref30_Round N a0_).bind fun r3 =>
 ((ref30_sum N r3 (w64 (a2_ * a1_))).bind fun r4 =>
 (some r4)))))
def service_Yield (N : Nat) (a0_ : api_Gates) (a1_ : Int) (a2_ : Int) : Option (Int × Int) :=
 ((service_check N a0_ a1_ a2_).bind fun r1 =>
 (if (r1 != 0) then (some (0, r1)) else ((service_yieldOf N a0_ (w64 (a2_ * a1_))).bind fun r3 =>
 (some (r3, 0)))))
def ref30_Yield (N : Nat) (a0_ : api_Gates) (a1_ : Int) (a2_ : Int) : Option (Int × Int) :=
 ((ref30_args N a0_ a1_ a2_).bind fun r1 =>
 (if (r1 != 0) then (some (0, r1)) else ((ref30_Gives N a0_ a1_ a2_).bind fun r3 =>
 (some (r3, 0)))))
def service_Of_K1 (N : Nat) (a1_ : Int) (q9 : Int) (i28 : Int) (x26 : Int) (x27 : Int) : Option ((Int)) :=
 ((service_Of_1 N x26 (w64 (x27 - (w64 (127 * a1_)))) i28 q9 a1_).bind fun r530 =>
 (some r530))
def service_Of (N : Nat) (a0_ : api_Gates) (a1_ : Int) (a2_ : Int) : Option (api_Serve × Int) :=
 ((service_check N a0_ a1_ a2_).bind fun r4 =>
 (if (r4 != 0) then (some ((api_Serve.mk 0 0), r4)) else ((service_yieldOf N a0_ (w64 (a2_ * a1_))).bind fun r7 =>
 ((quoI .i64 (w64 (r7 * 1048576)) (w64 (a0_.Cycle * a1_))).bind fun q9 =>
 (if (decide (q9 < 1)) then (some ((api_Serve.mk 0 0), 4)) else ((service_Of_1 N 0 (w64 ((-127) * a1_)) 0 q9 a1_).bind fun r23 =>
 ((service_gaps N a0_ (w64 (a2_ * a1_)) (fun (s : Int) (x26 : Int) (x27 : Int) => service_Of_K1 N a1_ q9 s x26 x27) r23).bind fun r533 =>
 (some ((api_Serve.mk q9 r533), 0)))))))))
def ref30_Of_L2 (N : Nat) (a0_ : api_Gates) (a1_ : Int) (a2_ : Int) (q4 : Int) (r509 : (List ref30_Opening)) (e1013 : ref30_Opening) (e1014 : ref30_Opening) (e1015 : ref30_Opening) (i1016 : Int) (i1017 : Int) : Option ((Int × Int) ⊕ ((Int × Int))) :=
 (if (decide (i1017 < (w64 (2 * ((List.length r509 : Nat) : Int))))) then ((((remI i1017 ((List.length r509 : Nat) : Int)).bind fun m2020 =>
 ((idx r509 m2020).bind fun e2021 =>
 ((quoI .i64 i1017 ((List.length r509 : Nat) : Int)).bind fun q2022 =>
 (if (decide ((w64 ((w64 (e2021.Begin + (if (w64 (a2_ * a1_)) < (w64 (e2021.End - e2021.Begin)) then (w64 (a2_ * a1_)) else (w64 (e2021.End - e2021.Begin))))) + (w64 (q2022 * a0_.Cycle)))) > (w64 (e1013.End - (if (w64 (a2_ * a1_)) < (w64 (e1014.End - e1015.Begin)) then (w64 (a2_ * a1_)) else (w64 (e1014.End - e1015.Begin))))))) then ((ref30_Least N a0_ a1_ a2_ (w64 (e1013.End - (if (w64 (a2_ * a1_)) < (w64 (e1014.End - e1015.Begin)) then (w64 (a2_ * a1_)) else (w64 (e1014.End - e1015.Begin))))) (w64 ((w64 ((w64 (e2021.Begin + (if (w64 (a2_ * a1_)) < (w64 (e2021.End - e2021.Begin)) then (w64 (a2_ * a1_)) else (w64 (e2021.End - e2021.Begin))))) + (w64 (q2022 * a0_.Cycle)))) - (w64 (e1013.End - (if (w64 (a2_ * a1_)) < (w64 (e1014.End - e1015.Begin)) then (w64 (a2_ * a1_)) else (w64 (e1014.End - e1015.Begin)))))))).bind fun r2024 =>
 (some (if (w64 ((w64 ((w64 ((w64 ((w64 ((w64 (e2021.Begin + (if (w64 (a2_ * a1_)) < (w64 (e2021.End - e2021.Begin)) then (w64 (a2_ * a1_)) else (w64 (e2021.End - e2021.Begin))))) + (w64 (q2022 * a0_.Cycle)))) - (w64 (e1013.End - (if (w64 (a2_ * a1_)) < (w64 (e1014.End - e1015.Begin)) then (w64 (a2_ * a1_)) else (w64 (e1014.End - e1015.Begin))))))) * q4)) * a1_)) - (w64 (r2024 * 1048576)))) > i1016 then (w64 ((w64 ((w64 ((w64 ((w64 ((w64 (e2021.Begin + (if (w64 (a2_ * a1_)) < (w64 (e2021.End - e2021.Begin)) then (w64 (a2_ * a1_)) else (w64 (e2021.End - e2021.Begin))))) + (w64 (q2022 * a0_.Cycle)))) - (w64 (e1013.End - (if (w64 (a2_ * a1_)) < (w64 (e1014.End - e1015.Begin)) then (w64 (a2_ * a1_)) else (w64 (e1014.End - e1015.Begin))))))) * q4)) * a1_)) - (w64 (r2024 * 1048576)))) else i1016))) else (some i1016)))))).bind fun (j2019 : Int) =>
 (some (.inl (j2019, (w64 (i1017 + 1)))))) else (some (.inr (i1016, i1017))))
def ref30_Of_L1 (N : Nat) (a0_ : api_Gates) (a1_ : Int) (a2_ : Int) (q4 : Int) (r509 : (List ref30_Opening)) (i510 : Int) (i511 : Int) : Option ((Int × Int) ⊕ ((Int × Int))) :=
 (if (decide (i511 < ((List.length r509 : Nat) : Int))) then ((idx r509 i511).bind fun e1013 =>
 ((idx r509 i511).bind fun e1014 =>
 ((idx r509 i511).bind fun e1015 =>
 ((iterF (fun x : Int × Int => ref30_Of_L2 N a0_ a1_ a2_ q4 r509 e1013 e1014 e1015 x.1 x.2) N (i510, 0)).bind fun o2025 =>
 (some (.inl (o2025.1, (w64 (i511 + 1))))))))) else (some (.inr (i510, i511))))
def ref30_Of (N : Nat) (a0_ : api_Gates) (a1_ : Int) (a2_ : Int) : Option (api_Serve × Int) :=
 ((ref30_args N a0_ a1_ a2_).bind fun r1 =>
 (if (r1 != 0) then (some ((api_Serve.mk 0 0), r1)) else ((ref30_Gives N a0_ a1_ a2_).bind fun r3 =>
 ((quoI .i64 (w64 (r3 * 1048576)) (w64 (a0_.Cycle * a1_))).bind fun q4 =>
 (if (decide (q4 < 1)) then (some ((api_Serve.mk 0 0), 4)) else ((((ref30_Always N a0_).bind fun r507 =>
 (if (!r507) then ((ref30_Round N a0_).bind fun r509 =>
 ((iterF (fun x : Int × Int => ref30_Of_L1 N a0_ a1_ a2_ q4 r509 x.1 x.2) N ((w64 ((w64 (127 * a1_)) * 1048576)), 0)).bind fun o2026 =>
 (some o2026.1))) else (some (w64 ((w64 (127 * a1_)) * 1048576)))))).bind fun (j506 : Int) =>
 ((quoI .i64 (w64 ((w64 (j506 + (w64 (q4 * a1_)))) - 1)) (w64 (q4 * a1_))).bind fun q2027 =>
 (some ((api_Serve.mk q4 q2027), 0)))))))))
def law30_yields_L1 (N : Nat) (a0_ : api_Gates) (a1_ : Int) (a2_ : Int) (r1 : Int × Int) (i2 : Int) (i3 : Int) : Option ((Int × Int) ⊕ ((Int × Int) ⊕ (Bool))) :=
 (if (decide (i3 ≤ ((List.length a0_.Entries : Nat) : Int))) then ((gates_Open N a0_ 6 i2).bind fun r505 =>
 (if ((r505.2 == 0) && (r505.1 == 0)) then (((if (r1.2 == 0) then ((law30_sends N a0_ a1_ a2_ i2 a0_.Cycle).bind fun r510 => (some (r510 == (if (w64 (r1.1 - (w64 (127 * a1_)))) > 0 then (w64 (r1.1 - (w64 (127 * a1_)))) else 0)))) else (some false))).bind fun (j512 : Bool) =>
 (some (.inr (.inr j512)))) else ((gates_Turn N a0_ i2).bind fun r513 =>
 (if (r513.2 != 0) then (some (.inr (.inl (r513.1, i3)))) else (some (.inl (r513.1, (w64 (i3 + 1))))))))) else (some (.inr (.inl (i2, i3)))))
def law30_yields (N : Nat) (a0_ : api_Gates) (a1_ : Int) (a2_ : Int) : Option (Bool) :=
 ((service_Yield N a0_ a1_ a2_).bind fun r1 =>
 ((iterF (fun x : Int × Int => law30_yields_L1 N a0_ a1_ a2_ r1 x.1 x.2) N (0, 0)).bind fun o515 => match o515 with
 | (.inl p516) => (some ((r1.2 == 0) && (r1.1 == a0_.Cycle)))
 | (.inr p519) => (some p519)))
def law30_is (N : Nat) (a0_ : api_Gates) (a1_ : Int) (a2_ : Int) (a3_ : Int) (a4_ : Int) : Option (Bool) :=
 ((service_Of N a0_ a1_ a2_).bind fun r1 =>
 (some ((r1.2 == 0) && ((r1.1.Rate == a3_) && ((r1.1.Latency == a4_) && true)))))
def law30_works (N : Nat) : Option (Bool) :=
 ((law30_list N ([128, 100, 127, 300])).bind fun r1 =>
 ((law30_list N ([127, 400])).bind fun r2 =>
 ((service_Yield N r1 1 100).bind fun r3 =>
 ((service_Yield N r2 1 100).bind fun r4 =>
 ((service_Of N r1 1 300).bind fun r5 =>
 ((service_Of N r1 1000 84).bind fun r6 =>
 ((((law30_sends N r1 1 100 0 400).bind fun r7 => (if (r7 == 73) then ((law30_sends N r1 1 100 100 300).bind fun r9 => (if (r9 == 73) then ((law30_sends N r1 1 100 150 250).bind fun r11 => (if (r11 == 23) then ((law30_sends N r1 1 100 0 200).bind fun r13 => (some (r13 == 0))) else (some false))) else (some false))) else (some false)))).bind fun (j17 : Bool) =>
 (((if (r3.1 == 200) then (if (r3.2 == 0) then (if (r4.1 == 400) then (if (r4.2 == 0) then (if j17 then ((law30_is N r1 1 100 524288 554).bind fun r23 => (if r23 then ((law30_is N r2 1 100 1048576 127).bind fun r25 => (if r25 then ((law30_is N r2 8 100 131072 1016).bind fun r27 => (if r27 then (if (r5.2 == 4) then (some (r6.2 == 4)) else (some false)) else (some false))) else (some false))) else (some false))) else (some false)) else (some false)) else (some false)) else (some false)) else (some false))).bind fun (j39 : Bool) =>
 (some j39)))))))))
def law30_ServiceYields (N : Nat) (a0_ : ref30_Draft) (a1_ : api_Gates) (a2_ : Int) (a3_ : Int) : Option (Bool) :=
 ((ref30_Draft_Gates N a0_).bind fun r1 =>
 ((law30_few N a1_).bind fun r2 =>
 ((service_Yield N r1 a2_ a3_).bind fun r3 =>
 ((ref30_Yield N r1 a2_ a3_).bind fun r4 =>
 (if ((r3.1 != r4.1) || (r3.2 != r4.2)) then (some false) else ((service_Yield N r1 (w64 (1 + (w64 ((Int.tmod (IntKind.u64.wrap (a2_)) 4))))) (w64 (84 + (w64 ((Int.tmod (IntKind.u64.wrap (a3_)) 100)))))).bind fun r8 =>
 ((ref30_Yield N r1 (w64 (1 + (w64 ((Int.tmod (IntKind.u64.wrap (a2_)) 4))))) (w64 (84 + (w64 ((Int.tmod (IntKind.u64.wrap (a3_)) 100)))))).bind fun r9 =>
 (if ((r8.1 != r9.1) || (r8.2 != r9.2)) then (some false) else ((service_Yield N r1 1 84).bind fun r13 =>
 ((ref30_Yield N r1 1 84).bind fun r14 =>
 (if ((r13.1 != r14.1) || (r13.2 != r14.2)) then (some false) else ((service_Yield N r2 a2_ a3_).bind fun r18 =>
 ((ref30_Yield N r2 a2_ a3_).bind fun r19 =>
 (if ((r18.1 != r19.1) || (r18.2 != r19.2)) then (some false) else ((service_Yield N r2 (w64 (1 + (w64 ((Int.tmod (IntKind.u64.wrap (a2_)) 4))))) (w64 (84 + (w64 ((Int.tmod (IntKind.u64.wrap (a3_)) 100)))))).bind fun r23 =>
 ((ref30_Yield N r2 (w64 (1 + (w64 ((Int.tmod (IntKind.u64.wrap (a2_)) 4))))) (w64 (84 + (w64 ((Int.tmod (IntKind.u64.wrap (a3_)) 100)))))).bind fun r24 =>
 (if ((r23.1 != r24.1) || (r23.2 != r24.2)) then (some false) else ((service_Yield N r2 1 84).bind fun r28 =>
 ((ref30_Yield N r2 1 84).bind fun r29 =>
 (if ((r28.1 != r29.1) || (r28.2 != r29.2)) then (some false) else ((law30_works N).bind fun r33 =>
 (some r33))))))))))))))))))))))
def law30_ServiceSends (N : Nat) (a0_ : ref30_Draft) (a1_ : api_Gates) (a2_ : Int) (a3_ : Int) (a4_ : Arr2_i64) : Option (Bool) :=
 ((ref30_Draft_Gates N a0_).bind fun r1 =>
 ((law30_few N a1_).bind fun r2 =>
 ((service_Sends N r1 a2_ a3_ a4_.x0 a4_.x1).bind fun r3 =>
 ((ref30_Sends N r1 a2_ a3_ a4_.x0 a4_.x1).bind fun r4 =>
 (if ((r3.1 != r4.1) || (r3.2 != r4.2)) then (some false) else ((service_Sends N r1 (w64 (1 + (w64 ((Int.tmod (IntKind.u64.wrap (a2_)) 4))))) (w64 (84 + (w64 ((Int.tmod (IntKind.u64.wrap (a3_)) 100))))) (Int.tmod a4_.x0 10000) (w64 ((Int.tmod (IntKind.u64.wrap (a4_.x1)) 8000)))).bind fun r8 =>
 ((ref30_Sends N r1 (w64 (1 + (w64 ((Int.tmod (IntKind.u64.wrap (a2_)) 4))))) (w64 (84 + (w64 ((Int.tmod (IntKind.u64.wrap (a3_)) 100))))) (Int.tmod a4_.x0 10000) (w64 ((Int.tmod (IntKind.u64.wrap (a4_.x1)) 8000)))).bind fun r9 =>
 (if ((r8.1 != r9.1) || (r8.2 != r9.2)) then (some false) else ((service_Sends N r1 1 84 (Int.tmod a4_.x0 3000) (w64 ((Int.tmod (IntKind.u64.wrap (a4_.x1)) 900)))).bind fun r13 =>
 ((ref30_Sends N r1 1 84 (Int.tmod a4_.x0 3000) (w64 ((Int.tmod (IntKind.u64.wrap (a4_.x1)) 900)))).bind fun r14 =>
 (if ((r13.1 != r14.1) || (r13.2 != r14.2)) then (some false) else ((service_Sends N r2 a2_ a3_ a4_.x0 a4_.x1).bind fun r18 =>
 ((ref30_Sends N r2 a2_ a3_ a4_.x0 a4_.x1).bind fun r19 =>
 (if ((r18.1 != r19.1) || (r18.2 != r19.2)) then (some false) else ((service_Sends N r2 (w64 (1 + (w64 ((Int.tmod (IntKind.u64.wrap (a2_)) 4))))) (w64 (84 + (w64 ((Int.tmod (IntKind.u64.wrap (a3_)) 100))))) (Int.tmod a4_.x0 10000) (w64 ((Int.tmod (IntKind.u64.wrap (a4_.x1)) 8000)))).bind fun r23 =>
 ((ref30_Sends N r2 (w64 (1 + (w64 ((Int.tmod (IntKind.u64.wrap (a2_)) 4))))) (w64 (84 + (w64 ((Int.tmod (IntKind.u64.wrap (a3_)) 100))))) (Int.tmod a4_.x0 10000) (w64 ((Int.tmod (IntKind.u64.wrap (a4_.x1)) 8000)))).bind fun r24 =>
 (if ((r23.1 != r24.1) || (r23.2 != r24.2)) then (some false) else ((service_Sends N r2 1 84 (Int.tmod a4_.x0 3000) (w64 ((Int.tmod (IntKind.u64.wrap (a4_.x1)) 900)))).bind fun r28 =>
 ((ref30_Sends N r2 1 84 (Int.tmod a4_.x0 3000) (w64 ((Int.tmod (IntKind.u64.wrap (a4_.x1)) 900)))).bind fun r29 =>
 (if ((r28.1 != r29.1) || (r28.2 != r29.2)) then (some false) else ((law30_works N).bind fun r33 =>
 (some r33))))))))))))))))))))))
def law30_ServiceRates (N : Nat) (a0_ : ref30_Draft) (a1_ : api_Gates) (a2_ : Int) (a3_ : Int) : Option (Bool) :=
 ((ref30_Draft_Gates N a0_).bind fun r1 =>
 ((law30_few N a1_).bind fun r2 =>
 ((service_Of N r1 a2_ a3_).bind fun r3 =>
 ((ref30_Of N r1 a2_ a3_).bind fun r4 =>
 (if ((!((r3.1.Rate == r4.1.Rate) && ((r3.1.Latency == r4.1.Latency) && true))) || (r3.2 != r4.2)) then (some false) else ((service_Of N r1 (w64 (1 + (w64 ((Int.tmod (IntKind.u64.wrap (a2_)) 4))))) (w64 (84 + (w64 ((Int.tmod (IntKind.u64.wrap (a3_)) 100)))))).bind fun r8 =>
 ((ref30_Of N r1 (w64 (1 + (w64 ((Int.tmod (IntKind.u64.wrap (a2_)) 4))))) (w64 (84 + (w64 ((Int.tmod (IntKind.u64.wrap (a3_)) 100)))))).bind fun r9 =>
 (if ((!((r8.1.Rate == r9.1.Rate) && ((r8.1.Latency == r9.1.Latency) && true))) || (r8.2 != r9.2)) then (some false) else ((service_Of N r1 1 84).bind fun r13 =>
 ((ref30_Of N r1 1 84).bind fun r14 =>
 (if ((!((r13.1.Rate == r14.1.Rate) && ((r13.1.Latency == r14.1.Latency) && true))) || (r13.2 != r14.2)) then (some false) else ((service_Of N r2 a2_ a3_).bind fun r18 =>
 ((ref30_Of N r2 a2_ a3_).bind fun r19 =>
 (if ((!((r18.1.Rate == r19.1.Rate) && ((r18.1.Latency == r19.1.Latency) && true))) || (r18.2 != r19.2)) then (some false) else ((service_Of N r2 (w64 (1 + (w64 ((Int.tmod (IntKind.u64.wrap (a2_)) 4))))) (w64 (84 + (w64 ((Int.tmod (IntKind.u64.wrap (a3_)) 100)))))).bind fun r23 =>
 ((ref30_Of N r2 (w64 (1 + (w64 ((Int.tmod (IntKind.u64.wrap (a2_)) 4))))) (w64 (84 + (w64 ((Int.tmod (IntKind.u64.wrap (a3_)) 100)))))).bind fun r24 =>
 (if ((!((r23.1.Rate == r24.1.Rate) && ((r23.1.Latency == r24.1.Latency) && true))) || (r23.2 != r24.2)) then (some false) else ((service_Of N r2 1 84).bind fun r28 =>
 ((ref30_Of N r2 1 84).bind fun r29 =>
 (if ((!((r28.1.Rate == r29.1.Rate) && ((r28.1.Latency == r29.1.Latency) && true))) || (r28.2 != r29.2)) then (some false) else ((law30_works N).bind fun r33 =>
 (some r33))))))))))))))))))))))
def law30_ServiceKnown (N : Nat) : Option (Bool) :=
 ((law30_list N ([127, 200, 128, 100, 64, 100, 64, 150, 63, 50])).bind fun r1 =>
 ((service_Yield N r1 1 100).bind fun r2 =>
 ((law30_list N ([64, 100, 0, 300, 65, 100])).bind fun r3 =>
 ((service_Yield N r3 1 100).bind fun r4 =>
 ((service_Yield N (api_Gates.mk ([]) 0) 0 0).bind fun r5 =>
 ((service_Yield N r1 0 100).bind fun r6 =>
 ((service_Yield N r1 1001 100).bind fun r7 =>
 ((service_Of N r1 1 83).bind fun r8 =>
 ((service_Of N r1 1 1543).bind fun r9 =>
 ((service_Sends N r1 1 100 1099511627777 0).bind fun r10 =>
 ((service_Sends N r1 1 100 0 (-1)).bind fun r11 =>
 ((service_Sends N r1 1 100 0 2401).bind fun r12 =>
 ((service_Sends N (api_Gates.mk ([]) 0) 1 100 0 (-1)).bind fun r13 =>
 ((((law30_sends N r1 1 100 0 600).bind fun r30 => (if (r30 == 123) then ((law30_sends N r1 1 100 300 500).bind fun r32 => (if (r32 == 123) then ((law30_sends N r1 1 100 0 2400).bind fun r34 => (if (r34 == 873) then ((law30_sends N r3 1 100 400 200).bind fun r36 => (some (r36 == 0))) else (some false))) else (some false))) else (some false)))).bind fun (j40 : Bool) =>
 ((((law30_works N).bind fun r41 => (if r41 then (if (r2.1 == 250) then (if (r2.2 == 0) then (if (r4.1 == 100) then (if (r4.2 == 0) then (if j40 then (if ((r5.2 == 370) && ((r6.2 == 2) && ((r7.2 == 2) && ((r8.2 == 2) && ((r9.2 == 2) && ((r10.2 == 2) && ((r11.2 == 2) && ((r12.2 == 2) && (r13.2 == 370))))))))) then ((law30_list N ([64, 7])).bind fun r49 => ((law30_sends N r49 1 84 0 28).bind fun r50 => (some (r50 == 0)))) else (some false)) else (some false)) else (some false)) else (some false)) else (some false)) else (some false)) else (some false)))).bind fun (j58 : Bool) =>
 (some j58))))))))))))))))
def law30_ServiceHolds (N : Nat) (a0_ : ref30_Draft) (a1_ : Int) (a2_ : Int) (a3_ : Int) (a4_ : Int) : Option (Bool) :=
 ((law30_works N).bind fun r1 =>
 (if (!r1) then (some false) else ((ref30_Draft_Gates N a0_).bind fun r3 =>
 ((service_Of N r3 (w64 (1 + (w64 ((Int.tmod a1_ 5))))) (w64 (84 + (w64 (a2_))))).bind fun r4 =>
 (if (r4.2 != 0) then (some (r4.2 == 4)) else ((remI (w64 (a4_)) (w64 ((w64 (4 * r3.Cycle)) + 1))).bind fun m6 =>
 ((remI (w64 (a4_)) (w64 (r3.Cycle + 1))).bind fun m7 =>
 ((remI (Int.tmod (w64 (a4_)) 600) (w64 (r3.Cycle + 1))).bind fun m8 =>
 ((law30_sends N r3 (w64 (1 + (w64 ((Int.tmod a1_ 5))))) (w64 (84 + (w64 (a2_)))) (w64 (a3_)) m6).bind fun r9 =>
 (if ((decide (r9 < 0)) || (decide ((w64 (r9 * 1048576)) < (w64 ((w64 (r4.1.Rate * (w64 (1 + (w64 ((Int.tmod a1_ 5))))))) * (w64 (m6 - r4.1.Latency))))))) then (some false) else ((law30_sends N r3 (w64 (1 + (w64 ((Int.tmod a1_ 5))))) (w64 (84 + (w64 (a2_)))) (w64 (a3_)) m7).bind fun r13 =>
 (if ((decide (r13 < 0)) || (decide ((w64 (r13 * 1048576)) < (w64 ((w64 (r4.1.Rate * (w64 (1 + (w64 ((Int.tmod a1_ 5))))))) * (w64 (m7 - r4.1.Latency))))))) then (some false) else ((law30_sends N r3 (w64 (1 + (w64 ((Int.tmod a1_ 5))))) (w64 (84 + (w64 (a2_)))) (w64 (a3_)) m8).bind fun r17 =>
 (if ((decide (r17 < 0)) || (decide ((w64 (r17 * 1048576)) < (w64 ((w64 (r4.1.Rate * (w64 (1 + (w64 ((Int.tmod a1_ 5))))))) * (w64 (m8 - r4.1.Latency))))))) then (some false) else ((((curve_Check N r4.1).bind fun r21 => (if (r21 == 0) then (some (decide ((w64 (r4.1.Latency * r4.1.Rate)) ≥ 133169152))) else (some false)))).bind fun (j24 : Bool) =>
 (some j24))))))))))))))))
def law30_ServiceGrows_L1 (N : Nat) (a3_ : Int) (r3 : api_Gates) (m4 : Int) (i8 : Int) (i9 : Int) : Option ((Int × Int) ⊕ ((Int × Int) ⊕ (Bool))) :=
 (if (decide (i9 < (w64 ((w64 (a3_)) + m4)))) then ((gates_Open N r3 6 i9).bind fun r511 =>
 (if (r511.2 != 0) then (some (.inr (.inr false))) else (if (r511.1 == 0) then ((((gates_Turn N r3 i9).bind fun r1015 =>
 (if (r1015.2 != 0) then (some (w64 ((w64 (a3_)) + m4))) else (some r1015.1)))).bind fun (j1014 : Int) =>
 (some (.inl (i8, j1014)))) else (some (.inl ((w64 (i8 + (if (w64 ((w64 ((w64 (a3_)) + m4)) - i9)) < r511.1 then (w64 ((w64 ((w64 (a3_)) + m4)) - i9)) else r511.1))), (w64 (i9 + (if (w64 ((w64 ((w64 (a3_)) + m4)) - i9)) < r511.1 then (w64 ((w64 ((w64 (a3_)) + m4)) - i9)) else r511.1))))))))) else (some (.inr (.inl (i8, i9)))))
def law30_ServiceGrows (N : Nat) (a0_ : ref30_Draft) (a1_ : Int) (a2_ : Int) (a3_ : Int) (a4_ : Int) (a5_ : Arr2_u8) : Option (Bool) :=
 ((law30_works N).bind fun r1 =>
 (if (!r1) then (some false) else ((ref30_Draft_Gates N a0_).bind fun r3 =>
 ((remI (w64 (a4_)) (w64 (r3.Cycle + 1))).bind fun m4 =>
 ((law30_sends N r3 (w64 (1 + (w64 ((Int.tmod a1_ 5))))) (w64 (84 + (w64 (a2_)))) (w64 (a3_)) m4).bind fun r5 =>
 ((remI (w64 (a5_.x0)) (w64 (r3.Cycle + 1))).bind fun m6 =>
 ((remI (w64 (a5_.x1)) (w64 (r3.Cycle + 1))).bind fun m7 =>
 ((iterF (fun x : Int × Int => law30_ServiceGrows_L1 N a3_ r3 m4 x.1 x.2) N (0, (w64 (a3_)))).bind fun o1017 => match o1017 with
 | (.inl p1018) => (((if (decide (r5 ≥ 0)) then (if (decide (r5 ≤ p1018.1)) then ((law30_sends N r3 (w64 (1 + (w64 ((Int.tmod a1_ 5))))) (w64 (84 + (w64 (a2_)))) (w64 ((w64 (a3_)) - m6)) (w64 (m4 + m6))).bind fun r1021 => (if (decide (r1021 ≥ r5)) then ((law30_sends N r3 (w64 (1 + (w64 ((Int.tmod a1_ 5))))) (w64 (84 + (w64 (a2_)))) (w64 (a3_)) (w64 (m4 + m7))).bind fun r1023 => (if (decide (r1023 ≥ r5)) then ((law30_sends N r3 (w64 (1 + (w64 ((Int.tmod a1_ 5))))) (w64 (84 + (w64 (a2_)))) (w64 ((w64 (a3_)) + r3.Cycle)) m4).bind fun r1025 => (some (r1025 == r5))) else (some false))) else (some false))) else (some false)) else (some false))).bind fun (j1030 : Bool) =>
 (some j1030))
 | (.inr p1031) => (some p1031)))))))))
def law30_ServiceCycles (N : Nat) (a0_ : ref30_Draft) (a1_ : Int) (a2_ : Int) : Option (Bool) :=
 ((law30_works N).bind fun r1 =>
 (if (!r1) then (some false) else ((ref30_Draft_Gates N a0_).bind fun r3 =>
 ((service_Yield N r3 (w64 (1 + (w64 ((Int.tmod a1_ 5))))) (w64 (84 + (w64 (a2_))))).bind fun r4 =>
 ((service_Of N r3 (w64 (1 + (w64 ((Int.tmod a1_ 5))))) (w64 (84 + (w64 (a2_))))).bind fun r5 =>
 (((if (r4.2 != 0) then (some true) else ((law30_yields N r3 (w64 (1 + (w64 ((Int.tmod a1_ 5))))) (w64 (84 + (w64 (a2_))))).bind fun r8 => (some (!r8))))).bind fun (j9 : Bool) =>
 (if j9 then (some false) else (if (r5.2 == 4) then (some (decide ((w64 (r4.1 * 1048576)) < (w64 (r3.Cycle * (w64 (1 + (w64 ((Int.tmod a1_ 5)))))))))) else (some ((r5.2 == 0) && ((decide ((w64 ((w64 (r5.1.Rate * r3.Cycle)) * (w64 (1 + (w64 ((Int.tmod a1_ 5))))))) ≤ (w64 (r4.1 * 1048576)))) && (decide ((w64 ((w64 ((w64 (r5.1.Rate + 1)) * r3.Cycle)) * (w64 (1 + (w64 ((Int.tmod a1_ 5))))))) > (w64 (r4.1 * 1048576)))))))))))))))
end Go.Sh
