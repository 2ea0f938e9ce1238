/- Part of the proof; written by a program out of the texts in wip/. -/
import Derived.Test.YtoboapnbbcedbaaRouteTurnsE31
namespace Go.Sh
open Go Go.Eng
set_option linter.unusedVariables false
set_option linter.unusedSimpArgs false
set_option maxRecDepth 100000
structure api_Link where
  A : Int
  B : Int
  Per : Int
  Delay : Int
def e_api_Link (v : api_Link) : List PC := [.int .i64 v.A, .int .i64 v.B, .int .i64 v.Per, .int .i64 v.Delay]
structure api_Topo where
  Nodes : Int
  Station : (List Bool)
  Links : (List api_Link)
structure ref16_Draft where
  Bridges : Int
  Stations : Int
  Chords : (List Int)
  Homes : (List Int)
  Pers : (List Int)
  Delays : (List Int)
def e_ref16_Draft (v : ref16_Draft) : List PC := [.int .u8 v.Bridges, .int .u8 v.Stations, .sl 1 false (List.map (eI .u8) v.Chords), .sl 1 false (List.map (eI .u8) v.Homes), .sl 1 false (List.map (eI .u8) v.Pers), .sl 1 false (List.map (eI .u8) v.Delays)]
structure route_walk where
  Topo : api_Topo
structure Arr12_Bool where
  x0 : Bool
  x1 : Bool
  x2 : Bool
  x3 : Bool
  x4 : Bool
  x5 : Bool
  x6 : Bool
  x7 : Bool
  x8 : Bool
  x9 : Bool
  x10 : Bool
  x11 : Bool
structure Arr24_Bool where
  x0 : Bool
  x1 : Bool
  x2 : Bool
  x3 : Bool
  x4 : Bool
  x5 : Bool
  x6 : Bool
  x7 : Bool
  x8 : Bool
  x9 : Bool
  x10 : Bool
  x11 : Bool
  x12 : Bool
  x13 : Bool
  x14 : Bool
  x15 : Bool
  x16 : Bool
  x17 : Bool
  x18 : Bool
  x19 : Bool
  x20 : Bool
  x21 : Bool
  x22 : Bool
  x23 : Bool
structure route_hop where
  port : Int
  from_ : Int
  to_ : Int
structure topo_end where
  Link : api_Link
  port : Int
structure Arr48_Bool where
  x0 : Bool
  x1 : Bool
  x2 : Bool
  x3 : Bool
  x4 : Bool
  x5 : Bool
  x6 : Bool
  x7 : Bool
  x8 : Bool
  x9 : Bool
  x10 : Bool
  x11 : Bool
  x12 : Bool
  x13 : Bool
  x14 : Bool
  x15 : Bool
  x16 : Bool
  x17 : Bool
  x18 : Bool
  x19 : Bool
  x20 : Bool
  x21 : Bool
  x22 : Bool
  x23 : Bool
  x24 : Bool
  x25 : Bool
  x26 : Bool
  x27 : Bool
  x28 : Bool
  x29 : Bool
  x30 : Bool
  x31 : Bool
  x32 : Bool
  x33 : Bool
  x34 : Bool
  x35 : Bool
  x36 : Bool
  x37 : Bool
  x38 : Bool
  x39 : Bool
  x40 : Bool
  x41 : Bool
  x42 : Bool
  x43 : Bool
  x44 : Bool
  x45 : Bool
  x46 : Bool
  x47 : Bool
structure Arr12_i64 where
  x0 : Int
  x1 : Int
  x2 : Int
  x3 : Int
  x4 : Int
  x5 : Int
  x6 : Int
  x7 : Int
  x8 : Int
  x9 : Int
  x10 : Int
  x11 : Int
abbrev s_eI64 (f : Bool) (l : List Int) : AV := .p (.sl 1 f (List.map eI64 l))
abbrev s_eSl_1_eI64 (f : Bool) (l : List (List Int)) : AV := .p (.sl 1 f (List.map (eSl 1 eI64) l))
abbrev s_eB (f : Bool) (l : List Bool) : AV := .p (.sl 1 f (List.map eB l))
abbrev s_e_api_Link (f : Bool) (l : List api_Link) : AV := .p (.sl 4 f (List.map e_api_Link l))
abbrev s_eI_u8 (f : Bool) (l : List Int) : AV := .p (.sl 1 f (List.map (eI .u8) l))
abbrev c_api_Link (v : api_Link) : List AV := [iv v.A, iv v.B, iv v.Per, iv v.Delay]
abbrev c_api_Topo (v : api_Topo) : List AV := [iv v.Nodes, s_eB false v.Station, s_e_api_Link false v.Links]
abbrev c_ref16_Draft (v : ref16_Draft) : List AV := [.p (.int .u8 v.Bridges), .p (.int .u8 v.Stations), s_eI_u8 false v.Chords, s_eI_u8 false v.Homes, s_eI_u8 false v.Pers, s_eI_u8 false v.Delays]
abbrev c_Arr12_Bool (v : Arr12_Bool) : List AV := [bv v.x0, bv v.x1, bv v.x2, bv v.x3, bv v.x4, bv v.x5, bv v.x6, bv v.x7, bv v.x8, bv v.x9, bv v.x10, bv v.x11]
def Arr12_Bool.l (v : Arr12_Bool) : List Bool := [v.x0, v.x1, v.x2, v.x3, v.x4, v.x5, v.x6, v.x7, v.x8, v.x9, v.x10, v.x11]
def Arr12_Bool.ofL (l : List Bool) : Arr12_Bool := ⟨l.getD 0 false, l.getD 1 false, l.getD 2 false, l.getD 3 false, l.getD 4 false, l.getD 5 false, l.getD 6 false, l.getD 7 false, l.getD 8 false, l.getD 9 false, l.getD 10 false, l.getD 11 false⟩
def Arr12_Bool.get (v : Arr12_Bool) (i : Int) : Option Bool := idx v.l i
def Arr12_Bool.set (v : Arr12_Bool) (i : Int) (x : Bool) : Arr12_Bool := Arr12_Bool.ofL (v.l.set i.toNat x)
theorem Arr12_Bool.l_ofL (l : List Bool) (h : l.length = 12) : (Arr12_Bool.ofL l).l = l := ofL_all 12 false l h rfl
theorem Arr12_Bool.l_set (v : Arr12_Bool) (i : Int) (x : Bool) : (v.set i x).l = v.l.set i.toNat x := Arr12_Bool.l_ofL _ (by rw [List.length_set]; rfl)
theorem Arr12_Bool.c_set (v : Arr12_Bool) (i : Int) (x : Bool) : c_Arr12_Bool (v.set i x) = (v.l.set i.toNat x).map (fun x => bv x) := by rw [← Arr12_Bool.l_set]; rfl
abbrev c_Arr24_Bool (v : Arr24_Bool) : List AV := [bv v.x0, bv v.x1, bv v.x2, bv v.x3, bv v.x4, bv v.x5, bv v.x6, bv v.x7, bv v.x8, bv v.x9, bv v.x10, bv v.x11, bv v.x12, bv v.x13, bv v.x14, bv v.x15, bv v.x16, bv v.x17, bv v.x18, bv v.x19, bv v.x20, bv v.x21, bv v.x22, bv v.x23]
def Arr24_Bool.l (v : Arr24_Bool) : List Bool := [v.x0, v.x1, v.x2, v.x3, v.x4, v.x5, v.x6, v.x7, v.x8, v.x9, v.x10, v.x11, v.x12, v.x13, v.x14, v.x15, v.x16, v.x17, v.x18, v.x19, v.x20, v.x21, v.x22, v.x23]
def Arr24_Bool.ofL (l : List Bool) : Arr24_Bool := ⟨l.getD 0 false, l.getD 1 false, l.getD 2 false, l.getD 3 false, l.getD 4 false, l.getD 5 false, l.getD 6 false, l.getD 7 false, l.getD 8 false, l.getD 9 false, l.getD 10 false, l.getD 11 false, l.getD 12 false, l.getD 13 false, l.getD 14 false, l.getD 15 false, l.getD 16 false, l.getD 17 false, l.getD 18 false, l.getD 19 false, l.getD 20 false, l.getD 21 false, l.getD 22 false, l.getD 23 false⟩
def Arr24_Bool.get (v : Arr24_Bool) (i : Int) : Option Bool := idx v.l i
def Arr24_Bool.set (v : Arr24_Bool) (i : Int) (x : Bool) : Arr24_Bool := Arr24_Bool.ofL (v.l.set i.toNat x)
theorem Arr24_Bool.l_ofL (l : List Bool) (h : l.length = 24) : (Arr24_Bool.ofL l).l = l := ofL_all 24 false l h rfl
theorem Arr24_Bool.l_set (v : Arr24_Bool) (i : Int) (x : Bool) : (v.set i x).l = v.l.set i.toNat x := Arr24_Bool.l_ofL _ (by rw [List.length_set]; rfl)
theorem Arr24_Bool.c_set (v : Arr24_Bool) (i : Int) (x : Bool) : c_Arr24_Bool (v.set i x) = (v.l.set i.toNat x).map (fun x => bv x) := by rw [← Arr24_Bool.l_set]; rfl
abbrev c_route_hop (v : route_hop) : List AV := [iv v.port, iv v.from_, iv v.to_]
abbrev c_topo_end (v : topo_end) : List AV := [iv v.Link.A, iv v.Link.B, iv v.Link.Per, iv v.Link.Delay, iv v.port]
abbrev c_Arr48_Bool (v : Arr48_Bool) : List AV := [bv v.x0, bv v.x1, bv v.x2, bv v.x3, bv v.x4, bv v.x5, bv v.x6, bv v.x7, bv v.x8, bv v.x9, bv v.x10, bv v.x11, bv v.x12, bv v.x13, bv v.x14, bv v.x15, bv v.x16, bv v.x17, bv v.x18, bv v.x19, bv v.x20, bv v.x21, bv v.x22, bv v.x23, bv v.x24, bv v.x25, bv v.x26, bv v.x27, bv v.x28, bv v.x29, bv v.x30, bv v.x31, bv v.x32, bv v.x33, bv v.x34, bv v.x35, bv v.x36, bv v.x37, bv v.x38, bv v.x39, bv v.x40, bv v.x41, bv v.x42, bv v.x43, bv v.x44, bv v.x45, bv v.x46, bv v.x47]
def Arr48_Bool.l (v : Arr48_Bool) : List Bool := [v.x0, v.x1, v.x2, v.x3, v.x4, v.x5, v.x6, v.x7, v.x8, v.x9, v.x10, v.x11, v.x12, v.x13, v.x14, v.x15, v.x16, v.x17, v.x18, v.x19, v.x20, v.x21, v.x22, v.x23, v.x24, v.x25, v.x26, v.x27, v.x28, v.x29, v.x30, v.x31, v.x32, v.x33, v.x34, v.x35, v.x36, v.x37, v.x38, v.x39, v.x40, v.x41, v.x42, v.x43, v.x44, v.x45, v.x46, v.x47]
def Arr48_Bool.ofL (l : List Bool) : Arr48_Bool := ⟨l.getD 0 false, l.getD 1 false, l.getD 2 false, l.getD 3 false, l.getD 4 false, l.getD 5 false, l.getD 6 false, l.getD 7 false, l.getD 8 false, l.getD 9 false, l.getD 10 false, l.getD 11 false, l.getD 12 false, l.getD 13 false, l.getD 14 false, l.getD 15 false, l.getD 16 false, l.getD 17 false, l.getD 18 false, l.getD 19 false, l.getD 20 false, l.getD 21 false, l.getD 22 false, l.getD 23 false, l.getD 24 false, l.getD 25 false, l.getD 26 false, l.getD 27 false, l.getD 28 false, l.getD 29 false, l.getD 30 false, l.getD 31 false, l.getD 32 false, l.getD 33 false, l.getD 34 false, l.getD 35 false, l.getD 36 false, l.getD 37 false, l.getD 38 false, l.getD 39 false, l.getD 40 false, l.getD 41 false, l.getD 42 false, l.getD 43 false, l.getD 44 false, l.getD 45 false, l.getD 46 false, l.getD 47 false⟩
def Arr48_Bool.get (v : Arr48_Bool) (i : Int) : Option Bool := idx v.l i
def Arr48_Bool.set (v : Arr48_Bool) (i : Int) (x : Bool) : Arr48_Bool := Arr48_Bool.ofL (v.l.set i.toNat x)
theorem Arr48_Bool.l_ofL (l : List Bool) (h : l.length = 48) : (Arr48_Bool.ofL l).l = l := ofL_all 48 false l h rfl
theorem Arr48_Bool.l_set (v : Arr48_Bool) (i : Int) (x : Bool) : (v.set i x).l = v.l.set i.toNat x := Arr48_Bool.l_ofL _ (by rw [List.length_set]; rfl)
theorem Arr48_Bool.c_set (v : Arr48_Bool) (i : Int) (x : Bool) : c_Arr48_Bool (v.set i x) = (v.l.set i.toNat x).map (fun x => bv x) := by rw [← Arr48_Bool.l_set]; rfl
abbrev c_Arr12_i64 (v : Arr12_i64) : List AV := [iv v.x0, iv v.x1, iv v.x2, iv v.x3, iv v.x4, iv v.x5, iv v.x6, iv v.x7, iv v.x8, iv v.x9, iv v.x10, iv v.x11]
def Arr12_i64.l (v : Arr12_i64) : List Int := [v.x0, v.x1, v.x2, v.x3, v.x4, v.x5, v.x6, v.x7, v.x8, v.x9, v.x10, v.x11]
def Arr12_i64.ofL (l : List Int) : Arr12_i64 := ⟨l.getD 0 0, l.getD 1 0, l.getD 2 0, l.getD 3 0, l.getD 4 0, l.getD 5 0, l.getD 6 0, l.getD 7 0, l.getD 8 0, l.getD 9 0, l.getD 10 0, l.getD 11 0⟩
def Arr12_i64.get (v : Arr12_i64) (i : Int) : Option Int := idx v.l i
def Arr12_i64.set (v : Arr12_i64) (i : Int) (x : Int) : Arr12_i64 := Arr12_i64.ofL (v.l.set i.toNat x)
theorem Arr12_i64.l_ofL (l : List Int) (h : l.length = 12) : (Arr12_i64.ofL l).l = l := ofL_all 12 0 l h rfl
theorem Arr12_i64.l_set (v : Arr12_i64) (i : Int) (x : Int) : (v.set i x).l = v.l.set i.toNat x := Arr12_i64.l_ofL _ (by rw [List.length_set]; rfl)
theorem Arr12_i64.c_set (v : Arr12_i64) (i : Int) (x : Int) : c_Arr12_i64 (v.set i x) = (v.l.set i.toNat x).map (fun x => iv x) := by rw [← Arr12_i64.l_set]; rfl
def slices_Equal__int_int_L1 (N : Nat) (a0_ : (List Int)) (a1_ : (List Int)) (i2 : Int) : Option ((Int) ⊕ ((Unit) ⊕ (Bool))) :=
 (if (decide (i2 < ((List.length a0_ : Nat) : Int))) then ((idx a0_ i2).bind fun e504 =>
 ((idx a1_ i2).bind fun e505 =>
 (if (e504 != e505) then (some (.inr (.inr false))) else (some (.inl (w64 (i2 + 1))))))) else (some (.inr (.inl ()))))
def slices_Equal__int_int (N : Nat) (a0_ : (List Int)) (a1_ : (List Int)) : Option (Bool) :=
 (if (((List.length a0_ : Nat) : Int) != ((List.length a1_ : Nat) : Int)) then (some false) else ((iterF (fun x : Int => slices_Equal__int_int_L1 N a0_ a1_ x) N 0).bind fun o507 => match o507 with
 | (.inl p508) => (some true)
 | (.inr p509) => (some p509)))
def slices_Equal_api_Route_int_L1 (N : Nat) (a0_ : (List Int)) (a1_ : (List Int)) (i2 : Int) : Option ((Int) ⊕ ((Unit) ⊕ (Bool))) :=
 (if (decide (i2 < ((List.length a0_ : Nat) : Int))) then ((idx a0_ i2).bind fun e504 =>
 ((idx a1_ i2).bind fun e505 =>
 (if (e504 != e505) then (some (.inr (.inr false))) else (some (.inl (w64 (i2 + 1))))))) else (some (.inr (.inl ()))))
def slices_Equal_api_Route_int (N : Nat) (a0_ : (List Int)) (a1_ : (List Int)) : Option (Bool) :=
 (if (((List.length a0_ : Nat) : Int) != ((List.length a1_ : Nat) : Int)) then (some false) else ((iterF (fun x : Int => slices_Equal_api_Route_int_L1 N a0_ a1_ x) N 0).bind fun o507 => match o507 with
 | (.inl p508) => (some true)
 | (.inr p509) => (some p509)))
def law21_line (N : Nat) : Option (api_Topo) :=
 (some (api_Topo.mk 4 ([true, false, false, true]) ([(api_Link.mk 0 1 8 50), (api_Link.mk 1 2 8 0), (api_Link.mk 2 3 80 7)])))
def slices_Reverse__int_int_L1 (N : Nat) (i3 : Int) (i4 : Int) (l5 : (List Int)) : Option ((Int × Int × (List Int)) ⊕ (((List Int)))) :=
 (if (decide (i3 < i4)) then ((idx l5 i4).bind fun e508 =>
 ((idx l5 i3).bind fun e511 =>
 ((idx l5 i3).bind fun e514 =>
 ((idx (List.set l5 (Int.toNat i3) e508) i4).bind fun e518 =>
 (some (.inl ((w64 (i3 + 1)), (w64 (i4 - 1)), (List.set (List.set l5 (Int.toNat i3) e508) (Int.toNat i4) e511)))))))) else (some (.inr l5)))
def slices_Reverse__int_int (N : Nat) (a0_ : (List Int)) : Option ((List Int)) :=
 ((iterF (fun x : Int × Int × (List Int) => slices_Reverse__int_int_L1 N x.1 x.2.1 x.2.2) N (0, (w64 (((List.length a0_ : Nat) : Int) - 1)), a0_)).bind fun o522 =>
 (some o522))
def route_total_L1 (N : Nat) (a0_ : (List Int)) (a1_ : Int → Option (Int)) (i1 : Int) (i2 : Int) : Option ((Int × Int) ⊕ ((Int))) :=
 (if (decide (i2 < ((List.length a0_ : Nat) : Int))) then ((idx a0_ i2).bind fun e504 =>
 ((a1_ e504).bind fun r505 =>
 (some (.inl ((w64 (i1 + r505)), (w64 (i2 + 1))))))) else (some (.inr i1)))
def route_total (N : Nat) (a0_ : (List Int)) (a1_ : Int → Option (Int)) : Option (Int) :=
 ((iterF (fun x : Int × Int => route_total_L1 N a0_ a1_ x.1 x.2) N (0, 0)).bind fun o506 =>
 (some o506))
def route_walk_delay (N : Nat) (a0_ : route_walk) (a1_ : Int) : Option (Int) :=
 ((idx a0_.Topo.Links (w64 (Int.tdiv a1_ 2))).bind fun e1 =>
 (some e1.Delay))
def route_Time_1_1 (N : Nat) (a0_ : Int) (c0_ : Int) (c1_ : route_walk) : Option (Int) :=
 ((idx c1_.Topo.Links (w64 (Int.tdiv a0_ 2))).bind fun e3 =>
 ((route_walk_delay N c1_ a0_).bind fun r5 =>
 (some (w64 ((w64 (c0_ * e3.Per)) + r5)))))
def slices_Backward_api_Route_int (N : Nat) (a0_ : (List Int)) : Option ((List Int)) :=
 (some a0_)
def ref16_From (N : Nat) (a0_ : api_Topo) (a1_ : Int) : Option (Int) :=
 ((idx a0_.Links (w64 (Int.tdiv a1_ 2))).bind fun e1 =>
 (if ((Int.tmod a1_ 2) == 1) then (some e1.B) else (some e1.A)))
def ref16_To (N : Nat) (a0_ : api_Topo) (a1_ : Int) : Option (Int) :=
 ((idx a0_.Links (w64 (Int.tdiv a1_ 2))).bind fun e1 =>
 (if ((Int.tmod a1_ 2) == 1) then (some e1.A) else (some e1.B)))
def route_shares_L2 (N : Nat) (a1_ : (List Int)) (e503 : Int) (i504 : Int) : Option ((Int) ⊕ ((Unit) ⊕ (Bool))) :=
 (if (decide (i504 < ((List.length a1_ : Nat) : Int))) then ((idx a1_ i504).bind fun e1006 =>
 (if ((w64 (Int.tdiv e503 2)) == (w64 (Int.tdiv e1006 2))) then (some (.inr (.inr true))) else (some (.inl (w64 (i504 + 1)))))) else (some (.inr (.inl ()))))
def route_shares_L1 (N : Nat) (a0_ : (List Int)) (a1_ : (List Int)) (i1 : Int) : Option ((Int) ⊕ ((Unit) ⊕ (Bool))) :=
 (if (decide (i1 < ((List.length a0_ : Nat) : Int))) then ((idx a0_ i1).bind fun e503 =>
 ((iterF (fun x : Int => route_shares_L2 N a1_ e503 x) N 0).bind fun o1008 => match o1008 with
 | (.inl p1009) => (some (.inl (w64 (i1 + 1))))
 | (.inr p1010) => (some (.inr (.inr p1010))))) else (some (.inr (.inl ()))))
def route_shares (N : Nat) (a0_ : (List Int)) (a1_ : (List Int)) : Option (Bool) :=
 ((iterF (fun x : Int => route_shares_L1 N a0_ a1_ x) N 0).bind fun o1011 => match o1011 with
 | (.inl p1012) => (some false)
 | (.inr p1013) => (some p1013))
def route_walk_hops (N : Nat) (a0_ : route_walk) (a1_ : (List Int)) : Option ((List Int) × route_walk) :=
 (some (a1_, a0_))
def ref16_pick (N : Nat) (a0_ : (List Int)) (a1_ : Int) : Option (Int) :=
 (if (decide (a1_ < ((List.length a0_ : Nat) : Int))) then ((idx a0_ a1_).bind fun e2 =>
 (some (w64 (e2)))) else (some 0))
def ref16_Ports_L1 (N : Nat) (a0_ : api_Topo) (a1_ : Int) (i3 : Int) (l4 : (List Int)) : Option ((Int × (List Int)) ⊕ (((List Int)))) :=
 (if (decide (i3 < (w64 (2 * ((List.length a0_.Links : Nat) : Int))))) then ((((ref16_From N a0_ i3).bind fun r1011 =>
 (if (r1011 == a1_) then ((appI 8 l4 [i3]).bind fun l1015 =>
 (some l1015)) else (some l4)))).bind fun (j1010 : (List Int)) =>
 (some (.inl ((w64 (i3 + 1)), j1010)))) else (some (.inr l4)))
def ref16_Ports (N : Nat) (a0_ : api_Topo) (a1_ : Int) : Option ((List Int)) :=
 ((iterF (fun x : Int × (List Int) => ref16_Ports_L1 N a0_ a1_ x.1 x.2) N (0, [])).bind fun o1016 =>
 (some o1016))
def ref16_In_L1 (N : Nat) (a0_ : (List Int)) (a1_ : Int) (i1 : Int) : Option ((Int) ⊕ ((Unit) ⊕ (Bool))) :=
 (if (decide (i1 < ((List.length a0_ : Nat) : Int))) then ((idx a0_ i1).bind fun e503 =>
 (if (e503 == a1_) then (some (.inr (.inr true))) else (some (.inl (w64 (i1 + 1)))))) else (some (.inr (.inl ()))))
def ref16_In (N : Nat) (a0_ : (List Int)) (a1_ : Int) : Option (Bool) :=
 ((iterF (fun x : Int => ref16_In_L1 N a0_ a1_ x) N 0).bind fun o505 => match o505 with
 | (.inl p506) => (some false)
 | (.inr p507) => (some p507))
def slices_Backward_api_Route_int_1_L1 {σ : Type} (N : Nat) (y_ : σ → Int → Int → Option (σ × Bool)) (c0_ : (List Int)) (i4 : Int) (g5 : σ) : Option ((Int × σ) ⊕ ((σ) ⊕ (σ))) :=
 (if (decide (i4 ≥ 0)) then ((idx c0_ i4).bind fun e510 =>
 ((y_ g5 i4 e510).bind fun r511 =>
 (if (!r511.2) then (some (.inr (.inr r511.1))) else (some (.inl ((w64 (i4 - 1)), r511.1)))))) else (some (.inr (.inl g5))))
def slices_Backward_api_Route_int_1 {σ : Type} (N : Nat) (y_ : σ → Int → Int → Option (σ × Bool)) (c0_ : (List Int)) (s_ : σ) : Option (σ) :=
 ((iterF (fun x : Int × σ => slices_Backward_api_Route_int_1_L1 N y_ c0_ x.1 x.2) N ((w64 (((List.length c0_ : Nat) : Int) - 1)), s_)).bind fun o515 => match o515 with
 | (.inl p516) => (some p516)
 | (.inr p517) => (some p517))
def ref16_Joins (N : Nat) (a0_ : api_Link) (a1_ : Int) (a2_ : Int) : Option (Bool) :=
 (some (if (a0_.A == a1_) then ((a0_.B == a2_) || ((a0_.A == a2_) && (a0_.B == a1_))) else ((a0_.A == a2_) && (a0_.B == a1_))))
def topo_reach_L2 (N : Nat) (a0_ : api_Topo) (a2_ : Arr24_Bool) (i517 : Int) (l518 : (List Bool)) : Option ((Int × (List Bool)) ⊕ (((List Bool)))) :=
 (if (decide (i517 < ((List.length a0_.Links : Nat) : Int))) then ((((idx a0_.Links i517).bind fun e1525 =>
 ((((a2_.get i517).bind fun e1526 => (if (!e1526) then ((idx l518 e1525.A).bind fun e1528 => ((idx l518 e1525.B).bind fun e1531 => (some (e1528 != e1531)))) else (some false)))).bind fun (j1535 : Bool) =>
 (if j1535 then ((idx l518 e1525.A).bind fun e1537 =>
 ((idx (List.set l518 (Int.toNat e1525.A) true) e1525.B).bind fun e1541 =>
 (some (List.set (List.set l518 (Int.toNat e1525.A) true) (Int.toNat e1525.B) true)))) else (some l518))))).bind fun (j1524 : (List Bool)) =>
 (some (.inl ((w64 (i517 + 1)), j1524)))) else (some (.inr l518)))
def topo_reach_L1 (N : Nat) (a0_ : api_Topo) (a2_ : Arr24_Bool) (i10 : Int) (l11 : (List Bool)) : Option ((Int × (List Bool)) ⊕ (((List Bool)))) :=
 (if (decide (i10 < a0_.Nodes)) then ((iterF (fun x : Int × (List Bool) => topo_reach_L2 N a0_ a2_ x.1 x.2) N (0, l11)).bind fun o1545 =>
 (some (.inl ((w64 (i10 + 1)), o1545)))) else (some (.inr l11)))
def topo_reach (N : Nat) (a0_ : api_Topo) (a1_ : Int) (a2_ : Arr24_Bool) : Option ((List Bool)) :=
 ((makeI 1 a0_.Nodes a0_.Nodes false).bind fun l3 =>
 ((idx l3 a1_).bind fun e4 =>
 ((iterF (fun x : Int × (List Bool) => topo_reach_L1 N a0_ a2_ x.1 x.2) N (0, (List.set l3 (Int.toNat a1_) true))).bind fun o1546 =>
 (some o1546))))
def route_walk_hops_1_L1 {σ : Type} (N : Nat) (y_ : σ → Int → route_hop → Option (σ × Bool)) (c0_ : (List Int)) (c1_ : route_walk) (i4 : Int) (g5 : σ) : Option ((Int × σ) ⊕ ((σ))) :=
 (if (decide (i4 < ((List.length c0_ : Nat) : Int))) then ((idx c0_ i4).bind fun e509 =>
 (((if (decide (e509 < 0)) then (some true) else (some (decide (e509 ≥ (w64 (2 * ((List.length c1_.Topo.Links : Nat) : Int)))))))).bind fun (j513 : Bool) =>
 (if j513 then (some (.inr g5)) else ((idx c1_.Topo.Links (w64 (Int.tdiv e509 2))).bind fun e516 =>
 (((if ((Int.tmod e509 2) == 1) then (some (e516.B, e516.A)) else (some (e516.A, e516.B)))).bind fun (j1017 : Int × Int) =>
 ((y_ g5 i4 (route_hop.mk e509 j1017.1 j1017.2)).bind fun r1019 =>
 (if (!r1019.2) then (some (.inr r1019.1)) else (some (.inl ((w64 (i4 + 1)), r1019.1)))))))))) else (some (.inr g5)))
def route_walk_hops_1 {σ : Type} (N : Nat) (y_ : σ → Int → route_hop → Option (σ × Bool)) (c0_ : (List Int)) (c1_ : route_walk) (s_ : σ) : Option (σ) :=
 ((iterF (fun x : Int × σ => route_walk_hops_1_L1 N y_ c0_ c1_ x.1 x.2) N (0, s_)).bind fun o1023 =>
 (some o1023))
def topo_end_back (N : Nat) (a0_ : topo_end) : Option (Int) :=
 (some (xorI .i64 a0_.port 1))
def ref16_node (N : Nat) (a0_ : api_Topo) (a1_ : Int) : Option (Bool) :=
 (some ((decide (a1_ ≥ 0)) && (decide (a1_ < a0_.Nodes))))
def topo_node (N : Nat) (a0_ : api_Topo) (a1_ : Int) : Option (Bool) :=
 (some ((decide (a1_ ≥ 0)) && (decide (a1_ < a0_.Nodes))))
def topo_sound_2 (N : Nat) (a0_ : Int) (c0_ : api_Topo) : Option (Bool) :=
 ((idx c0_.Links a0_).bind fun e2 =>
 ((((idx c0_.Station e2.A).bind fun e4 => (if (!e4) then (some true) else ((idx c0_.Station e2.B).bind fun e8 => (some (!e8)))))).bind fun (j9 : Bool) =>
 (some j9)))
def topo_sound_3_L1 (N : Nat) (e2 : api_Link) (l4 : List api_Link) (i5 : Int) : Option ((Int) ⊕ ((Unit) ⊕ (Bool))) :=
 (if (decide (i5 < ((List.length l4 : Nat) : Int))) then ((idx l4 i5).bind fun e507 =>
 (if (if (e2.A == e507.A) then ((e2.B == e507.B) || ((e2.A == e507.B) && (e2.B == e507.A))) else ((e2.A == e507.B) && (e2.B == e507.A))) then (some (.inr (.inr false))) else (some (.inl (w64 (i5 + 1)))))) else (some (.inr (.inl ()))))
def topo_sound_3 (N : Nat) (a0_ : Int) (c0_ : api_Topo) : Option (Bool) :=
 ((idx c0_.Links a0_).bind fun e2 =>
 ((subI c0_.Links 0 a0_).bind fun l4 =>
 ((iterF (fun x : Int => topo_sound_3_L1 N e2 l4 x) N 0).bind fun o517 => match o517 with
 | (.inl p518) => (some true)
 | (.inr p519) => (some p519))))
def topo_sound_4 (N : Nat) (a0_ : Int) (c0_ : api_Topo) : Option (Bool) :=
 ((idx c0_.Links a0_).bind fun e2 =>
 (some ((decide (e2.Per ≥ 1)) && ((decide (e2.Per ≤ 1000)) && ((decide (e2.Delay ≥ 0)) && (decide (e2.Delay ≤ 10000)))))))
def slices_Index__bool_bool_L1 (N : Nat) (a0_ : (List Bool)) (a1_ : Bool) (i1 : Int) : Option ((Int) ⊕ ((Unit) ⊕ (Int))) :=
 (if (decide (i1 < ((List.length a0_ : Nat) : Int))) then ((idx a0_ i1).bind fun e503 =>
 (if (a1_ == e503) then (some (.inr (.inr i1))) else (some (.inl (w64 (i1 + 1)))))) else (some (.inr (.inl ()))))
def slices_Index__bool_bool (N : Nat) (a0_ : (List Bool)) (a1_ : Bool) : Option (Int) :=
 ((iterF (fun x : Int => slices_Index__bool_bool_L1 N a0_ a1_ x) N 0).bind fun o505 => match o505 with
 | (.inl p506) => (some (-1))
 | (.inr p507) => (some p507))
def slices_Index__int_int_L1 (N : Nat) (a0_ : (List Int)) (a1_ : Int) (i1 : Int) : Option ((Int) ⊕ ((Unit) ⊕ (Int))) :=
 (if (decide (i1 < ((List.length a0_ : Nat) : Int))) then ((idx a0_ i1).bind fun e503 =>
 (if (a1_ == e503) then (some (.inr (.inr i1))) else (some (.inl (w64 (i1 + 1)))))) else (some (.inr (.inl ()))))
def slices_Index__int_int (N : Nat) (a0_ : (List Int)) (a1_ : Int) : Option (Int) :=
 ((iterF (fun x : Int => slices_Index__int_int_L1 N a0_ a1_ x) N 0).bind fun o505 => match o505 with
 | (.inl p506) => (some (-1))
 | (.inr p507) => (some p507))
def ref21_Some_L2 (N : Nat) (a0_ : api_Topo) (l8 : (List Int)) (r521 : (List Int)) (i526 : Int) (l527 : (List Int)) : Option ((Int × (List Int)) ⊕ (((List Int)))) :=
 (if (decide (i526 < ((List.length r521 : Nat) : Int))) then ((((idx r521 i526).bind fun e1538 =>
 ((ref16_To N a0_ e1538).bind fun r1539 =>
 ((ref16_In N l8 r1539).bind fun r1540 =>
 (if (!r1540) then ((idx r521 i526).bind fun e1543 =>
 ((appI 8 l527 [e1543]).bind fun l1546 =>
 (some l1546))) else (some l527)))))).bind fun (j1537 : (List Int)) =>
 (some (.inl ((w64 (i526 + 1)), j1537)))) else (some (.inr l527)))
def ref21_Some_L1 (N : Nat) (a0_ : api_Topo) (a2_ : Int) (i7 : Int) (l8 : (List Int)) (l9 : (List Int)) : Option ((Int × (List Int) × (List Int)) ⊕ (((List Int)) ⊕ ((List Int)))) :=
 (((if (decide (((List.length l9 : Nat) : Int) < 8)) then (if (((List.length l9 : Nat) : Int) == 0) then (some true) else ((idx a0_.Station i7).bind fun e517 => (some (!e517)))) else (some false))).bind fun (j519 : Bool) =>
 (if j519 then ((ref16_Ports N a0_ i7).bind fun r521 =>
 ((iterF (fun x : Int × (List Int) => ref21_Some_L2 N a0_ l8 r521 x.1 x.2) N (0, [])).bind fun o1547 =>
 (if (((List.length o1547 : Nat) : Int) == 0) then (some (.inr (.inr l9))) else ((remI (w64 ((w64 (a2_)) + (w64 (3 * ((List.length l9 : Nat) : Int))))) ((List.length o1547 : Nat) : Int)).bind fun m1552 =>
 ((idx o1547 m1552).bind fun e1553 =>
 ((appI 8 l9 [e1553]).bind fun l1558 =>
 ((ref16_To N a0_ e1553).bind fun r1559 =>
 ((appI 8 l8 [r1559]).bind fun l1562 =>
 (some (.inl (r1559, l1562, l1558))))))))))) else (some (.inr (.inl l9)))))
def ref21_Some (N : Nat) (a0_ : api_Topo) (a1_ : Int) (a2_ : Int) : Option ((List Int)) :=
 ((remI (w64 (a1_)) a0_.Nodes).bind fun m1 =>
 ((iterF (fun x : Int × (List Int) × (List Int) => ref21_Some_L1 N a0_ a2_ x.1 x.2.1 x.2.2) N (m1, [m1], [])).bind fun o1563 => match o1563 with
 | (.inl p1564) => (some p1564)
 | (.inr p1565) => (some p1565)))
def route_walk_nodes_R1 (N : Nat) (l15 : (List Int)) (x13 : Int) (x14 : route_hop) : Option ((List Int)) :=
 (((if (x13 == 0) then ((appI 8 l15 [x14.from_]).bind fun l1023 =>
 (some l1023)) else (some l15))).bind fun (j1018 : (List Int)) =>
 ((appI 8 j1018 [x14.to_]).bind fun l1028 =>
 (some l1028)))
def route_walk_nodes (N : Nat) (a0_ : route_walk) (a1_ : (List Int)) : Option ((List Int)) :=
 ((makeI 8 0 (w64 (((List.length a1_ : Nat) : Int) + 1)) 0).bind fun l3 =>
 ((route_walk_hops N a0_ a1_).bind fun r7 =>
 ((route_walk_hops_1 N (fun (s : (List Int)) (x13 : Int) (x14 : route_hop) => yieldT (fun v : (List Int) => route_walk_nodes_R1 N v x13 x14) s) r7.1 r7.2 l3).bind fun o1030 =>
 (some o1030))))
def route_Delay_1 (N : Nat) (a0_ : route_walk) (c0_ : (List Int)) : Option (Int × Int) :=
 ((route_total N c0_ (fun x0 => route_walk_delay N a0_ x0 )).bind fun r2 =>
 (some (r2, 0)))
def route_Time_1 (N : Nat) (a0_ : route_walk) (c0_ : Int) (c1_ : (List Int)) : Option (Int × Int) :=
 (((if (decide (c0_ < 84)) then (some true) else (some (decide (c0_ > 1542))))).bind fun (j7 : Bool) =>
 (if j7 then (some (0, 2)) else ((route_total N c1_ (fun x0 => route_Time_1_1 N x0 c0_ a0_)).bind fun r10 =>
 (some (r10, 0)))))
def route_walk_valid_R1 (N : Nat) (a0_ : route_walk) (i524 : Int) (i525 : Int) (l526 : Arr12_Bool) (x522 : Int) (x523 : route_hop) : Option ((Int × Int × Arr12_Bool) × Nat) :=
 (if (x522 == 0) then ((l526.get x523.from_).bind fun e1026 =>
 (((Arr12_Bool.set l526 x523.from_ true).get x523.to_).bind fun e1028 =>
 (if e1028 then (some ((i524, i525, (Arr12_Bool.set l526 x523.from_ true)), 1)) else (((Arr12_Bool.set l526 x523.from_ true).get x523.to_).bind fun e1031 =>
 (some (((w64 (i524 + 1)), x523.to_, (Arr12_Bool.set (Arr12_Bool.set l526 x523.from_ true) x523.to_ true)), 0)))))) else (((if (x523.from_ != i525) then (some true) else ((idx a0_.Topo.Station i525).bind fun e1041 => (some e1041)))).bind fun (j1042 : Bool) =>
 (if j1042 then (some ((i524, i525, l526), 1)) else ((l526.get x523.to_).bind fun e1044 =>
 (if e1044 then (some ((i524, i525, l526), 1)) else ((l526.get x523.to_).bind fun e1047 =>
 (some (((w64 (i524 + 1)), x523.to_, (Arr12_Bool.set l526 x523.to_ true)), 0))))))))
def route_walk_valid (N : Nat) (a0_ : route_walk) (a1_ : (List Int)) : Option (Bool) :=
 (if ((decide (((List.length a1_ : Nat) : Int) < 1)) || (decide (((List.length a1_ : Nat) : Int) > 8))) then (some false) else ((((route_walk_hops N a0_ a1_).bind fun r517 =>
 ((route_walk_hops_1 N (fun (s : (Int × Int × Arr12_Bool) × Nat) (x522 : Int) (x523 : route_hop) => yieldF (fun v : Int × Int × Arr12_Bool => route_walk_valid_R1 N a0_ v.1 v.2.1 v.2.2 x522 x523) s) r517.1 r517.2 ((0, 0, (Arr12_Bool.mk false false false false false false false false false false false false)), 0)).bind fun o1052 =>
 (if (o1052.2 == 0) then (some o1052.1.1) else (if (o1052.2 == 1) then (some o1052.1.1) else none))))).bind fun (j515 : Int) =>
 (some (j515 == ((List.length a1_ : Nat) : Int)))))
def ref16_link (N : Nat) (a0_ : api_Topo) (a1_ : api_Link) : Option (Bool) :=
 ((((ref16_node N a0_ a1_.A).bind fun r1 => (if (!r1) then (some true) else ((ref16_node N a0_ a1_.B).bind fun r4 => (if (!r4) then (some true) else (if (a1_.A == a1_.B) then (some true) else ((idx a0_.Station a1_.A).bind fun e9 => (if e9 then ((idx a0_.Station a1_.B).bind fun e11 => (some e11)) else (some false))))))))).bind fun (j13 : Bool) =>
 (if j13 then (some false) else (some ((decide (a1_.Per ≥ 1)) && ((decide (a1_.Per ≤ 1000)) && ((decide (a1_.Delay ≥ 0)) && (decide (a1_.Delay ≤ 10000))))))))
def slices_Contains__bool_bool (N : Nat) (a0_ : (List Bool)) (a1_ : Bool) : Option (Bool) :=
 ((slices_Index__bool_bool N a0_ a1_).bind fun r1 =>
 (some (decide (r1 ≥ 0))))
def slices_Contains__int_int (N : Nat) (a0_ : (List Int)) (a1_ : Int) : Option (Bool) :=
 ((slices_Index__int_int N a0_ a1_).bind fun r1 =>
 (some (decide (r1 ≥ 0))))
def topo_sound_1 (N : Nat) (a0_ : Int) (c0_ : api_Topo) : Option (Bool) :=
 ((idx c0_.Links a0_).bind fun e2 =>
 ((((topo_node N c0_ e2.A).bind fun r4 => (if r4 then ((topo_node N c0_ e2.B).bind fun r7 => (if r7 then (some (e2.A != e2.B)) else (some false))) else (some false)))).bind fun (j11 : Bool) =>
 (some j11)))
def route_Nodes_1 (N : Nat) (a0_ : route_walk) (c0_ : (List Int)) : Option ((List Int) × Int) :=
 ((route_walk_nodes N a0_ c0_).bind fun r2 =>
 (some (r2, 0)))
def route_walk_meets_L1 (N : Nat) (r2 : (List Int)) (l3 : List Int) (i4 : Int) : Option ((Int) ⊕ ((Unit) ⊕ (Bool))) :=
 (if (decide (i4 < ((List.length l3 : Nat) : Int))) then ((idx l3 i4).bind fun e506 =>
 ((slices_Contains__int_int N r2 e506).bind fun r507 =>
 (if r507 then (some (.inr (.inr true))) else (some (.inl (w64 (i4 + 1))))))) else (some (.inr (.inl ()))))
def route_walk_meets (N : Nat) (a0_ : route_walk) (a1_ : (List Int)) (a2_ : (List Int)) : Option (Bool) :=
 ((route_walk_nodes N a0_ a1_).bind fun r1 =>
 ((route_walk_nodes N a0_ a2_).bind fun r2 =>
 ((subI r1 1 (w64 (((List.length r1 : Nat) : Int) - 1))).bind fun l3 =>
 ((iterF (fun x : Int => route_walk_meets_L1 N r2 l3 x) N 0).bind fun o509 => match o509 with
 | (.inl p510) => (some false)
 | (.inr p511) => (some p511)))))
def ref16_Draft_with_L1 (N : Nat) (a1_ : api_Topo) (a2_ : Int) (a3_ : Int) (i14 : Int) : Option ((Int) ⊕ ((Unit) ⊕ (api_Topo))) :=
 (if (decide (i14 < ((List.length a1_.Links : Nat) : Int))) then ((idx a1_.Links i14).bind fun e516 =>
 ((ref16_Joins N e516 a2_ a3_).bind fun r519 =>
 (if r519 then (some (.inr (.inr a1_))) else (some (.inl (w64 (i14 + 1))))))) else (some (.inr (.inl ()))))
def ref16_Draft_with (N : Nat) (a0_ : ref16_Draft) (a1_ : api_Topo) (a2_ : Int) (a3_ : Int) : Option (api_Topo) :=
 ((ref16_pick N a0_.Pers ((List.length a1_.Links : Nat) : Int)).bind fun r2 =>
 ((ref16_pick N a0_.Delays ((List.length a1_.Links : Nat) : Int)).bind fun r3 =>
 (((if (((List.length a1_.Links : Nat) : Int) == 24) then (some true) else ((ref16_link N a1_ (api_Link.mk a2_ a3_ (w64 (1 + (Int.tmod r2 20))) (Int.tmod r3 50))).bind fun r6 => (some (!r6))))).bind fun (j12 : Bool) =>
 (if j12 then (some a1_) else ((iterF (fun x : Int => ref16_Draft_with_L1 N a1_ a2_ a3_ x) N 0).bind fun o521 => match o521 with
 | (.inl p522) => ((appI 32 a1_.Links [(api_Link.mk a2_ a3_ (w64 (1 + (Int.tmod r2 20))) (Int.tmod r3 50))]).bind fun l525 =>
 (some (api_Topo.mk a1_.Nodes a1_.Station l525)))
 | (.inr p526) => (some p526))))))
def topo_sound_L1 (N : Nat) (a0_ : api_Topo) (i4 : Int) : Option ((Int) ⊕ ((Unit) ⊕ (Bool))) :=
 (if (decide (i4 < ((List.length a0_.Links : Nat) : Int))) then ((topo_sound_1 N i4 a0_).bind fun r506 =>
 (if (!r506) then (some (.inr (.inr false))) else ((topo_sound_2 N i4 a0_).bind fun r508 =>
 (if (!r508) then (some (.inr (.inr false))) else ((topo_sound_3 N i4 a0_).bind fun r510 =>
 (if (!r510) then (some (.inr (.inr false))) else ((topo_sound_4 N i4 a0_).bind fun r512 =>
 (if (!r512) then (some (.inr (.inr false))) else (some (.inl (w64 (i4 + 1)))))))))))) else (some (.inr (.inl ()))))
def topo_sound (N : Nat) (a0_ : api_Topo) : Option (Bool) :=
 ((iterF (fun x : Int => topo_sound_L1 N a0_ x) N 0).bind fun o514 => match o514 with
 | (.inl p515) => (some true)
 | (.inr p516) => (some p516))
def ref16_Draft_Topo_L1 (N : Nat) (a0_ : ref16_Draft) (i3 : Int) (l4 : (List Bool)) : Option ((Int × (List Bool)) ⊕ (((List Bool)))) :=
 (if (decide (i3 < (w64 ((w64 (1 + (w64 ((Int.tmod a0_.Bridges 6))))) + (w64 (2 + (w64 ((Int.tmod a0_.Stations 5))))))))) then ((appI 1 l4 [(decide (i3 ≥ (w64 (1 + (w64 ((Int.tmod a0_.Bridges 6)))))))]).bind fun l510 =>
 (some (.inl ((w64 (i3 + 1)), l510)))) else (some (.inr l4)))
def ref16_Draft_Topo_L2 (N : Nat) (a0_ : ref16_Draft) (i515 : Int) (i516 : Int) (l517 : (List Bool)) (l518 : (List api_Link)) : Option ((Int × Int × (List Bool) × (List api_Link)) ⊕ ((Int × (List Bool) × (List api_Link)))) :=
 (if (decide (i515 < (w64 (1 + (w64 ((Int.tmod a0_.Bridges 6))))))) then ((ref16_Draft_with N a0_ (api_Topo.mk i516 l517 l518) (w64 (i515 - 1)) i515).bind fun r1023 =>
 (some (.inl ((w64 (i515 + 1)), r1023.Nodes, r1023.Station, r1023.Links)))) else (some (.inr (i516, l517, l518))))
def ref16_Draft_Topo_L3 (N : Nat) (a0_ : ref16_Draft) (i1031 : Int) (i1032 : Int) (l1033 : (List Bool)) (l1034 : (List api_Link)) : Option ((Int × Int × (List Bool) × (List api_Link)) ⊕ ((Int × (List Bool) × (List api_Link)))) :=
 (if (decide (i1031 < (w64 (2 + (w64 ((Int.tmod a0_.Stations 5))))))) then ((ref16_pick N a0_.Homes (w64 (2 * i1031))).bind fun r1539 =>
 ((remI r1539 (w64 (1 + (w64 ((Int.tmod a0_.Bridges 6)))))).bind fun m1540 =>
 ((ref16_Draft_with N a0_ (api_Topo.mk i1032 l1033 l1034) (w64 ((w64 (1 + (w64 ((Int.tmod a0_.Bridges 6))))) + i1031)) m1540).bind fun r1541 =>
 (some (.inl ((w64 (i1031 + 1)), r1541.Nodes, r1541.Station, r1541.Links)))))) else (some (.inr (i1032, l1033, l1034))))
def ref16_Draft_Topo_L4 (N : Nat) (a0_ : ref16_Draft) (i2060 : Int) (i2061 : Int) (l2062 : (List Bool)) (l2063 : (List api_Link)) : Option ((Int × Int × (List Bool) × (List api_Link)) ⊕ ((Int × (List Bool) × (List api_Link)))) :=
 (if (decide (i2060 < (w64 (2 + (w64 ((Int.tmod a0_.Stations 5))))))) then ((((ref16_pick N a0_.Homes (w64 ((w64 (2 * i2060)) + 1))).bind fun r3072 =>
 (if (decide ((Int.tmod r3072 3) > 0)) then ((ref16_pick N a0_.Homes (w64 ((w64 (2 * i2060)) + 1))).bind fun r3074 =>
 ((remI r3074 (w64 (1 + (w64 ((Int.tmod a0_.Bridges 6)))))).bind fun m3075 =>
 ((ref16_Draft_with N a0_ (api_Topo.mk i2061 l2062 l2063) (w64 ((w64 (1 + (w64 ((Int.tmod a0_.Bridges 6))))) + i2060)) m3075).bind fun r3076 =>
 (some (r3076.Nodes, r3076.Station, r3076.Links))))) else (some (i2061, l2062, l2063))))).bind fun (j3071 : Int × (List Bool) × (List api_Link)) =>
 (some (.inl ((w64 (i2060 + 1)), j3071.1, j3071.2.1, j3071.2.2)))) else (some (.inr (i2061, l2062, l2063))))
def ref16_Draft_Topo_L5 (N : Nat) (a0_ : ref16_Draft) (i3084 : Int) (i3085 : Int) (l3086 : (List Bool)) (l3087 : (List api_Link)) : Option ((Int × Int × (List Bool) × (List api_Link)) ⊕ ((Int × (List Bool) × (List api_Link)))) :=
 (if ((decide ((w64 (i3084 + 1)) < ((List.length a0_.Chords : Nat) : Int))) && (decide (i3084 < 12))) then ((idx a0_.Chords i3084).bind fun e3594 =>
 ((remI (w64 (e3594)) (w64 (1 + (w64 ((Int.tmod a0_.Bridges 6)))))).bind fun m3595 =>
 ((idx a0_.Chords (w64 (i3084 + 1))).bind fun e3596 =>
 ((remI (w64 (e3596)) (w64 (1 + (w64 ((Int.tmod a0_.Bridges 6)))))).bind fun m3597 =>
 ((ref16_Draft_with N a0_ (api_Topo.mk i3085 l3086 l3087) m3595 m3597).bind fun r3598 =>
 (some (.inl ((w64 (i3084 + 2)), r3598.Nodes, r3598.Station, r3598.Links)))))))) else (some (.inr (i3085, l3086, l3087))))
def ref16_Draft_Topo (N : Nat) (a0_ : ref16_Draft) : Option (api_Topo) :=
 ((iterF (fun x : Int × (List Bool) => ref16_Draft_Topo_L1 N a0_ x.1 x.2) N (0, [])).bind fun o511 =>
 ((iterF (fun x : Int × Int × (List Bool) × (List api_Link) => ref16_Draft_Topo_L2 N a0_ x.1 x.2.1 x.2.2.1 x.2.2.2) N (1, (w64 ((w64 (1 + (w64 ((Int.tmod a0_.Bridges 6))))) + (w64 (2 + (w64 ((Int.tmod a0_.Stations 5))))))), o511, [])).bind fun o1027 =>
 ((iterF (fun x : Int × Int × (List Bool) × (List api_Link) => ref16_Draft_Topo_L3 N a0_ x.1 x.2.1 x.2.2.1 x.2.2.2) N (0, o1027.1, o1027.2.1, o1027.2.2)).bind fun o1545 =>
 (((if ((decide ((w64 (1 + (w64 ((Int.tmod a0_.Bridges 6))))) > 2)) && ((Int.tmod a0_.Bridges 2) == 0)) then ((ref16_Draft_with N a0_ (api_Topo.mk o1545.1 o1545.2.1 o1545.2.2) (w64 ((w64 (1 + (w64 ((Int.tmod a0_.Bridges 6))))) - 1)) 0).bind fun r2053 =>
 (some (r2053.Nodes, r2053.Station, r2053.Links))) else (some (o1545.1, o1545.2.1, o1545.2.2)))).bind fun (j2049 : Int × (List Bool) × (List api_Link)) =>
 ((iterF (fun x : Int × Int × (List Bool) × (List api_Link) => ref16_Draft_Topo_L4 N a0_ x.1 x.2.1 x.2.2.1 x.2.2.2) N (0, j2049.1, j2049.2.1, j2049.2.2)).bind fun o3080 =>
 ((iterF (fun x : Int × Int × (List Bool) × (List api_Link) => ref16_Draft_Topo_L5 N a0_ x.1 x.2.1 x.2.2.1 x.2.2.2) N (0, o3080.1, o3080.2.1, o3080.2.2)).bind fun o3602 =>
 (some (api_Topo.mk o3602.1 o3602.2.1 o3602.2.2))))))))
def topo_Check_L1 (N : Nat) (a0_ : api_Topo) (i16 : Int) (l17 : (List Int)) : Option ((Int × (List Int)) ⊕ (((List Int)))) :=
 (if (decide (i16 < ((List.length a0_.Links : Nat) : Int))) then ((idx a0_.Links i16).bind fun e521 =>
 ((idx l17 e521.A).bind fun e522 =>
 ((idx l17 e521.A).bind fun e525 =>
 ((idx (List.set l17 (Int.toNat e521.A) (w64 (e522 + 1))) e521.B).bind fun e529 =>
 ((idx (List.set l17 (Int.toNat e521.A) (w64 (e522 + 1))) e521.B).bind fun e532 =>
 (some (.inl ((w64 (i16 + 1)), (List.set (List.set l17 (Int.toNat e521.A) (w64 (e522 + 1))) (Int.toNat e521.B) (w64 (e529 + 1))))))))))) else (some (.inr l17)))
def topo_Check_L2 (N : Nat) (a0_ : api_Topo) (o536 : (List Int)) (i537 : Int) : Option ((Int) ⊕ ((Unit) ⊕ (Int))) :=
 (if (decide (i537 < ((List.length a0_.Station : Nat) : Int))) then ((idx a0_.Station i537).bind fun e1039 =>
 (((if e1039 then ((idx o536 i537).bind fun e1041 => (if (decide (e1041 < 1)) then (some true) else ((idx o536 i537).bind fun e1046 => (some (decide (e1046 > 2)))))) else (some false))).bind fun (j1050 : Bool) =>
 (if j1050 then (some (.inr (.inr 260))) else (some (.inl (w64 (i537 + 1))))))) else (some (.inr (.inl ()))))
def topo_Check (N : Nat) (a0_ : api_Topo) : Option (Int) :=
 (if ((decide (a0_.Nodes < 2)) || ((decide (a0_.Nodes > 12)) || (((List.length a0_.Station : Nat) : Int) != a0_.Nodes))) then (some 260) else (((if (decide (((List.length a0_.Links : Nat) : Int) > 24)) then (some true) else ((topo_sound N a0_).bind fun r8 => (some (!r8))))).bind fun (j9 : Bool) =>
 (if j9 then (some 260) else ((makeI 8 a0_.Nodes a0_.Nodes 0).bind fun l13 =>
 ((iterF (fun x : Int × (List Int) => topo_Check_L1 N a0_ x.1 x.2) N (0, l13)).bind fun o536 =>
 ((iterF (fun x : Int => topo_Check_L2 N a0_ o536 x) N 0).bind fun o1052 => match o1052 with
 | (.inl p1053) => ((topo_reach N a0_ 0 (Arr24_Bool.mk false false false false false false false false false false false false false false false false false false false false false false false false)).bind fun r1054 =>
 ((slices_Contains__bool_bool N r1054 false).bind fun r1055 =>
 (if r1055 then (some 260) else (some 0))))
 | (.inr p1057) => (some p1057)))))))
def route_Apart_1 (N : Nat) (a0_ : route_walk) (c0_ : (List Int)) (c1_ : (List Int)) : Option (Bool × Int) :=
 ((route_walk_valid N a0_ c0_).bind fun r2 =>
 (if (!r2) then (some (false, 310)) else ((((route_shares N c1_ c0_).bind fun r6 => (if (!r6) then ((route_walk_meets N a0_ c1_ c0_).bind fun r10 => (if (!r10) then ((route_walk_meets N a0_ c0_ c1_).bind fun r14 => (some (!r14))) else (some false))) else (some false)))).bind fun (j17 : Bool) =>
 (some (j17, 0)))))
def topo_ask_int (N : Nat) (a0_ : api_Topo) (a1_ : Int) (a2_ : topo_end → Option (Int)) : Option (Int × Int) :=
 ((topo_Check N a0_).bind fun r1 =>
 (if (r1 != 0) then (some (0, r1)) else (if ((decide (a1_ < 0)) || (decide (a1_ ≥ (w64 (2 * ((List.length a0_.Links : Nat) : Int)))))) then (some (0, 2)) else ((idx a0_.Links (w64 (Int.tdiv a1_ 2))).bind fun e6 =>
 ((a2_ (topo_end.mk e6 a1_)).bind fun r7 =>
 (some (r7, 0)))))))
def route_Check (N : Nat) (a0_ : api_Topo) (a1_ : (List Int)) : Option (Int) :=
 ((topo_Check N a0_).bind fun r1 =>
 (if (r1 != 0) then (some r1) else ((route_walk_valid N (route_walk.mk a0_) a1_).bind fun r3 =>
 (if (!r3) then (some 310) else (some 0)))))
def route_Tree_L1 (N : Nat) (a0_ : api_Topo) (a1_ : (List (List Int))) (i3 : Int) : Option ((Int) ⊕ ((Unit) ⊕ ((List Int) × Bool × Int))) :=
 (if (decide (i3 < ((List.length a1_ : Nat) : Int))) then ((idx a1_ i3).bind fun e505 =>
 ((route_walk_valid N (route_walk.mk a0_) e505).bind fun r506 =>
 (if (!r506) then (some (.inr (.inr ([], false, 310)))) else (some (.inl (w64 (i3 + 1))))))) else (some (.inr (.inl ()))))
def route_Tree_R3 (N : Nat) (l1036 : Arr48_Bool) (l1037 : Arr12_i64) (i1038 : Int) (b1039 : Bool) (x1034 : Int) (x1035 : route_hop) : Option (Arr48_Bool × Arr12_i64 × Int × Bool) :=
 (((((if (x1034 == 0) then (some (decide (i1038 < 0))) else (some false))).bind fun (j2042 : Bool) =>
 (if j2042 then (some x1035.from_) else (some i1038)))).bind fun (j2038 : Int) =>
 (((((if (x1034 == 0) then (if (j2038 != x1035.from_) then (some true) else ((l1037.get x1035.to_).bind fun e2551 => (if (e2551 != 0) then ((l1037.get x1035.to_).bind fun e2554 => (some (e2554 != (w64 (x1035.port + 1))))) else (some false)))) else ((l1037.get x1035.to_).bind fun e2558 => (if (e2558 != 0) then ((l1037.get x1035.to_).bind fun e2561 => (some (e2561 != (w64 (x1035.port + 1))))) else (some false))))).bind fun (j2564 : Bool) =>
 (if j2564 then (some false) else (some b1039)))).bind fun (j2546 : Bool) =>
 ((l1037.get x1035.to_).bind fun e2567 =>
 ((l1036.get x1035.port).bind fun e2569 =>
 (some ((Arr48_Bool.set l1036 x1035.port true), (Arr12_i64.set l1037 x1035.to_ (w64 (x1035.port + 1))), j2038, j2546))))))
def route_Tree_L2 (N : Nat) (a0_ : api_Topo) (a1_ : (List (List Int))) (i521 : Int) (l522 : Arr48_Bool) (l523 : Arr12_i64) (i524 : Int) (b525 : Bool) : Option ((Int × Arr48_Bool × Arr12_i64 × Int × Bool) ⊕ ((Arr48_Bool × Bool))) :=
 (if (decide (i521 < ((List.length a1_ : Nat) : Int))) then ((idx a1_ i521).bind fun e1028 =>
 ((route_walk_hops N (route_walk.mk a0_) e1028).bind fun r1029 =>
 ((route_walk_hops_1 N (fun (s : Arr48_Bool × Arr12_i64 × Int × Bool) (x1034 : Int) (x1035 : route_hop) => yieldT (fun v : Arr48_Bool × Arr12_i64 × Int × Bool => route_Tree_R3 N v.1 v.2.1 v.2.2.1 v.2.2.2 x1034 x1035) s) r1029.1 r1029.2 (l522, l523, i524, b525)).bind fun o2571 =>
 (some (.inl ((w64 (i521 + 1)), o2571.1, o2571.2.1, o2571.2.2.1, o2571.2.2.2)))))) else (some (.inr (l522, b525))))
def route_Tree_L4 (N : Nat) (o2573 : Arr48_Bool × Bool) (i2577 : Int) (l2578 : (List Int)) : Option ((Int × (List Int)) ⊕ (((List Int)))) :=
 (if (decide (i2577 < 48)) then ((((o2573.1.get i2577).bind fun e3585 =>
 (if e3585 then ((appI 8 l2578 [i2577]).bind fun l3589 =>
 (some l3589)) else (some l2578)))).bind fun (j3584 : (List Int)) =>
 (some (.inl ((w64 (i2577 + 1)), j3584)))) else (some (.inr l2578)))
def route_Tree (N : Nat) (a0_ : api_Topo) (a1_ : (List (List Int))) : Option ((List Int) × Bool × Int) :=
 ((topo_Check N a0_).bind fun r1 =>
 (if (r1 != 0) then (some ([], false, r1)) else ((iterF (fun x : Int => route_Tree_L1 N a0_ a1_ x) N 0).bind fun o508 => match o508 with
 | (.inl p509) => ((iterF (fun x : Int × Arr48_Bool × Arr12_i64 × Int × Bool => route_Tree_L2 N a0_ a1_ x.1 x.2.1 x.2.2.1 x.2.2.2.1 x.2.2.2.2) N (0, (Arr48_Bool.mk false false false false false false false false false false false false false false false false false false false false false false false false false false false false false false false false false false false false false false false false false false false false false false false false), (Arr12_i64.mk 0 0 0 0 0 0 0 0 0 0 0 0), (-1), true)).bind fun o2573 =>
 ((iterF (fun x : Int × (List Int) => route_Tree_L4 N o2573 x.1 x.2) N (0, [])).bind fun o3590 =>
 (some (o3590, o2573.2, 0))))
 | (.inr p3592) => (some p3592))))
def route_ask__int (N : Nat) (a0_ : api_Topo) (a1_ : (List Int)) (a2_ : route_walk → Option ((List Int) × Int)) : Option ((List Int) × Int) :=
 ((route_Check N a0_ a1_).bind fun r1 =>
 (if (r1 != 0) then (some ([], r1)) else ((a2_ (route_walk.mk a0_)).bind fun r3 =>
 (some (r3.1, r3.2)))))
def route_ask_int (N : Nat) (a0_ : api_Topo) (a1_ : (List Int)) (a2_ : route_walk → Option (Int × Int)) : Option (Int × Int) :=
 ((route_Check N a0_ a1_).bind fun r1 =>
 (if (r1 != 0) then (some (0, r1)) else ((a2_ (route_walk.mk a0_)).bind fun r3 =>
 (some (r3.1, r3.2)))))
def route_ask_api_Route (N : Nat) (a0_ : api_Topo) (a1_ : (List Int)) (a2_ : route_walk → Option ((List Int) × Int)) : Option ((List Int) × Int) :=
 ((route_Check N a0_ a1_).bind fun r1 =>
 (if (r1 != 0) then (some ([], r1)) else ((a2_ (route_walk.mk a0_)).bind fun r3 =>
 (some (r3.1, r3.2)))))
def route_ask_bool (N : Nat) (a0_ : api_Topo) (a1_ : (List Int)) (a2_ : route_walk → Option (Bool × Int)) : Option (Bool × Int) :=
 ((route_Check N a0_ a1_).bind fun r1 =>
 (if (r1 != 0) then (some (false, r1)) else ((a2_ (route_walk.mk a0_)).bind fun r3 =>
 (some (r3.1, r3.2)))))
def topo_Back (N : Nat) (a0_ : api_Topo) (a1_ : Int) : Option (Int × Int) :=
 ((topo_ask_int N a0_ a1_ (fun x0 => topo_end_back N x0 )).bind fun r1 =>
 (some (r1.1, r1.2)))
def route_Nodes (N : Nat) (a0_ : api_Topo) (a1_ : (List Int)) : Option ((List Int) × Int) :=
 ((route_ask__int N a0_ a1_ (fun x0 => route_Nodes_1 N x0 a1_)).bind fun r4 =>
 (some (r4.1, r4.2)))
def route_Ends (N : Nat) (a0_ : api_Topo) (a1_ : (List Int)) : Option (Int × Int × Int) :=
 ((route_Nodes N a0_ a1_).bind fun r1 =>
 (if (r1.2 != 0) then (some (0, 0, r1.2)) else ((idx r1.1 0).bind fun e3 =>
 ((idx r1.1 (w64 (((List.length r1.1 : Nat) : Int) - 1))).bind fun e4 =>
 (some (e3, e4, 0))))))
def route_Delay (N : Nat) (a0_ : api_Topo) (a1_ : (List Int)) : Option (Int × Int) :=
 ((route_ask_int N a0_ a1_ (fun x0 => route_Delay_1 N x0 a1_)).bind fun r4 =>
 (some (r4.1, r4.2)))
def route_Time (N : Nat) (a0_ : api_Topo) (a1_ : (List Int)) (a2_ : Int) : Option (Int × Int) :=
 ((route_ask_int N a0_ a1_ (fun x0 => route_Time_1 N x0 a2_ a1_)).bind fun r6 =>
 (some (r6.1, r6.2)))
def route_Apart (N : Nat) (a0_ : api_Topo) (a1_ : (List Int)) (a2_ : (List Int)) : Option (Bool × Int) :=
 ((route_ask_bool N a0_ a1_ (fun x0 => route_Apart_1 N x0 a2_ a1_)).bind fun r6 =>
 (some (r6.1, r6.2)))
def route_walk_back (N : Nat) (a0_ : route_walk) (a1_ : Int) : Option (Int) :=
 ((topo_Back N a0_.Topo a1_).bind fun r1 =>
 (some r1.1))
def route_Back_1_R1 (N : Nat) (a0_ : route_walk) (l18 : (List Int)) (x16 : Int) (x17 : Int) : Option ((List Int)) :=
 ((route_walk_back N a0_ x17).bind fun r521 =>
 ((appI 8 l18 [r521]).bind fun l524 =>
 (some l524)))
def route_Back_1 (N : Nat) (a0_ : route_walk) (c0_ : (List Int)) : Option ((List Int) × Int) :=
 ((makeI 8 0 ((List.length c0_ : Nat) : Int) 0).bind fun l6 =>
 ((slices_Backward_api_Route_int N c0_).bind fun r11 =>
 ((slices_Backward_api_Route_int_1 N (fun (s : (List Int)) (x16 : Int) (x17 : Int) => yieldT (fun v : (List Int) => route_Back_1_R1 N a0_ v x16 x17) s) r11 l6).bind fun o526 =>
 (some (o526, 0)))))
def route_Back (N : Nat) (a0_ : api_Topo) (a1_ : (List Int)) : Option ((List Int) × Int) :=
 ((route_ask_api_Route N a0_ a1_ (fun x0 => route_Back_1 N x0 a1_)).bind fun r4 =>
 (some (r4.1, r4.2)))
def law21_wakes (N : Nat) : Option (Bool) :=
 ((law21_line N).bind fun r1 =>
 ((route_Nodes N r1 ([0, 2, 4])).bind fun r2 =>
 ((route_Ends N r1 ([2, 4])).bind fun r3 =>
 ((route_Delay N r1 ([0, 2, 4])).bind fun r4 =>
 ((route_Time N r1 ([0, 2, 4]) 100).bind fun r5 =>
 ((route_Back N r1 ([0, 2, 4])).bind fun r6 =>
 ((route_Apart N r1 ([0]) ([2, 4])).bind fun r7 =>
 ((route_Tree N r1 ([[0, 2], [0, 2, 4]])).bind fun r8 =>
 (((if ((r2.2 == 0) && ((r3.2.2 == 0) && ((r4.2 == 0) && ((r5.2 == 0) && ((r6.2 == 0) && ((r7.2 == 0) && (r8.2.2 == 0))))))) then ((slices_Equal__int_int N r2.1 ([0, 1, 2, 3])).bind fun r22 => (if r22 then (if (r3.1 == 1) then (if (r3.2.1 == 3) then (if (r4.1 == 57) then (if (r5.1 == 9657) then ((slices_Equal_api_Route_int N r6.1 ([5, 3, 1])).bind fun r28 => (if r28 then (if r7.1 then ((slices_Equal__int_int N r8.1 ([0, 2, 4])).bind fun r31 => (if r31 then (if r8.2.1 then ((route_Check N r1 ([0, 4])).bind fun r34 => (some (r34 == 310))) else (some false)) else (some false))) else (some false)) else (some false))) else (some false)) else (some false)) else (some false)) else (some false)) else (some false))) else (some false))).bind fun (j45 : Bool) =>
 (some j45))))))))))
def route_walk_nodes_V1_R1 (N : Nat) (l15 : (List Int)) (x13 : Int) (x14 : route_hop) : Option ((List Int)) :=
 (((if (x13 == 0) then ((appI 8 l15 [x14.from_]).bind fun l1023 =>
 (some l1023)) else (some l15))).bind fun (j1018 : (List Int)) =>
 ((appI 8 j1018 [x14.to_]).bind fun l1028 =>
 (some l1028)))
def route_walk_nodes_V1 (N : Nat) (a0_ : route_walk) (a1_ : (List Int)) : Option ((List Int)) :=
 ((makeI 8 0 (w64 (((List.length a1_ : Nat) : Int) + 1)) 0).bind fun l3 =>
 ((route_walk_hops N a0_ a1_).bind fun r7 =>
 ((route_walk_hops_1 N (fun (s : (List Int)) (x13 : Int) (x14 : route_hop) => yieldT (fun v : (List Int) => route_walk_nodes_V1_R1 N v x13 x14) s) r7.1 r7.2 l3).bind fun o1030 =>
 (some o1030))))
def route_Nodes_1_V1 (N : Nat) (a0_ : route_walk) (c0_ : (List Int)) : Option ((List Int) × Int) :=
 ((route_walk_nodes_V1 N a0_ c0_).bind fun r2 =>
 (some (r2, 0)))
def route_ask__int_V1 (N : Nat) (a0_ : api_Topo) (a1_ : (List Int)) (f2_0_ : (List Int)) : Option ((List Int) × Int) :=
 ((route_Check N a0_ a1_).bind fun r1 =>
 (if (r1 != 0) then (some ([], r1)) else ((route_Nodes_1_V1 N (route_walk.mk a0_) f2_0_).bind fun r3 =>
 (some (r3.1, r3.2)))))
def route_Nodes_V1 (N : Nat) (a0_ : api_Topo) (a1_ : (List Int)) : Option ((List Int) × Int) :=
 ((route_ask__int_V1 N a0_ a1_ a1_).bind fun r4 =>
 (some (r4.1, r4.2)))
def law21_RouteTurns (N : Nat) (a0_ : ref16_Draft) (a1_ : Int) (a2_ : Int) : Option (Bool) :=
 ((law21_wakes N).bind fun r1 =>
 (if (!r1) then (some false) else ((ref16_Draft_Topo N a0_).bind fun r3 =>
 ((ref21_Some N r3 a1_ a2_).bind fun r4 =>
 ((route_Back N r3 r4).bind fun r5 =>
 ((route_Back N r3 r5.1).bind fun r6 =>
 ((route_Nodes N r3 r4).bind fun r7 =>
 ((route_Nodes_V1 N r3 r5.1).bind fun r8 =>
 (((if (r5.2 != 0) then (some true) else (if (r6.2 != 0) then (some true) else (if (r7.2 != 0) then (some true) else (if (r8.2 != 0) then (some true) else ((slices_Equal_api_Route_int N r6.1 r4).bind fun r19 => (if (!r19) then (some true) else (some (((List.length r7.1 : Nat) : Int) != (w64 (((List.length r4 : Nat) : Int) + 1))))))))))).bind fun (j22 : Bool) =>
 (if j22 then (some false) else ((slices_Reverse__int_int N r8.1).bind fun r24 =>
 ((route_Time N r3 r4 84).bind fun r26 =>
 ((route_Time N r3 r5.1 84).bind fun r27 =>
 ((route_Tree N r3 ([r4])).bind fun r28 =>
 ((((slices_Equal__int_int N r7.1 r24).bind fun r29 => (if r29 then (if (r26.2 == 0) then (if (r27.2 == 0) then (if (r26.1 == r27.1) then (if (r28.2.2 == 0) then (if r28.2.1 then (some (((List.length r28.1 : Nat) : Int) == ((List.length r4 : Nat) : Int))) else (some false)) else (some false)) else (some false)) else (some false)) else (some false)) else (some false)))).bind fun (j44 : Bool) =>
 (some j44))))))))))))))))
end Go.Sh

