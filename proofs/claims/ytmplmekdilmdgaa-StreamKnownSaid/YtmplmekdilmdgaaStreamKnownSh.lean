/- Part of the proof; written by a program out of the texts in wip/. -/
import Derived.Test.YtmplmekdilmdgaaStreamKnownE31
namespace Go.Sh
open Go Go.Eng
set_option linter.unusedVariables false
set_option linter.unusedSimpArgs false
set_option maxRecDepth 100000
structure api_Bucket where
  Burst : Int
  Rate : Int
structure api_Stream where
  Id : Int
  Talker : Int
  Listener : Int
  Class : Int
  Size : Int
  Period : Int
  Bucket : api_Bucket
  Deadline : Int
  Routes : (List (List Int))
def e_api_Stream (v : api_Stream) : List PC := [.int .i64 v.Id, .int .i64 v.Talker, .int .i64 v.Listener, .int .i64 v.Class, .int .i64 v.Size, .int .i64 v.Period, .int .i64 v.Bucket.Burst, .int .i64 v.Bucket.Rate, .int .i64 v.Deadline, .sl 1 false (List.map (eSl 1 eI64) v.Routes)]
structure api_Setup where
  Grid : Int
  Slack : Int
  Proc : Int
  Cap : Int
def e_api_Setup (v : api_Setup) : List PC := [.int .i64 v.Grid, .int .i64 v.Slack, .int .i64 v.Proc, .int .i64 v.Cap]
structure Arr9_i8 where
  x0 : Int
  x1 : Int
  x2 : Int
  x3 : Int
  x4 : Int
  x5 : Int
  x6 : Int
  x7 : Int
  x8 : Int
structure api_Link where
  A : Int
  B : Int
  Per : Int
  Delay : Int
def e_api_Link (v : api_Link) : List PC := [.int .i64 v.A, .int .i64 v.B, .int .i64 v.Per, .int .i64 v.Delay]
structure api_Topo where
  Nodes : Int
  Station : (List Bool)
  Links : (List api_Link)
structure api_Hop where
  Port : Int
  Early : Int
  Late : Int
  Open : Int
  Long : Int
def e_api_Hop (v : api_Hop) : List PC := [.int .i64 v.Port, .int .i64 v.Early, .int .i64 v.Late, .int .i64 v.Open, .int .i64 v.Long]
structure Arr24_Bool where
  x0 : Bool
  x1 : Bool
  x2 : Bool
  x3 : Bool
  x4 : Bool
  x5 : Bool
  x6 : Bool
  x7 : Bool
  x8 : Bool
  x9 : Bool
  x10 : Bool
  x11 : Bool
  x12 : Bool
  x13 : Bool
  x14 : Bool
  x15 : Bool
  x16 : Bool
  x17 : Bool
  x18 : Bool
  x19 : Bool
  x20 : Bool
  x21 : Bool
  x22 : Bool
  x23 : Bool
structure route_walk where
  Topo : api_Topo
structure Arr12_Bool where
  x0 : Bool
  x1 : Bool
  x2 : Bool
  x3 : Bool
  x4 : Bool
  x5 : Bool
  x6 : Bool
  x7 : Bool
  x8 : Bool
  x9 : Bool
  x10 : Bool
  x11 : Bool
structure route_hop where
  port : Int
  from_ : Int
  to_ : Int
abbrev s_eB (f : Bool) (l : List Bool) : AV := .p (.sl 1 f (List.map eB l))
abbrev s_e_api_Link (f : Bool) (l : List api_Link) : AV := .p (.sl 4 f (List.map e_api_Link l))
abbrev s_e_api_Hop (f : Bool) (l : List api_Hop) : AV := .p (.sl 5 f (List.map e_api_Hop l))
abbrev s_e_api_Stream (f : Bool) (l : List api_Stream) : AV := .p (.sl 10 f (List.map e_api_Stream l))
abbrev s_eSl_1_eI64 (f : Bool) (l : List (List Int)) : AV := .p (.sl 1 f (List.map (eSl 1 eI64) l))
abbrev s_eI64 (f : Bool) (l : List Int) : AV := .p (.sl 1 f (List.map eI64 l))
abbrev s_e_api_Setup (f : Bool) (l : List api_Setup) : AV := .p (.sl 4 f (List.map e_api_Setup l))
abbrev c_api_Bucket (v : api_Bucket) : List AV := [iv v.Burst, iv v.Rate]
abbrev c_api_Stream (v : api_Stream) : List AV := [iv v.Id, iv v.Talker, iv v.Listener, iv v.Class, iv v.Size, iv v.Period, iv v.Bucket.Burst, iv v.Bucket.Rate, iv v.Deadline, s_eSl_1_eI64 false v.Routes]
abbrev c_api_Setup (v : api_Setup) : List AV := [iv v.Grid, iv v.Slack, iv v.Proc, iv v.Cap]
abbrev c_Arr9_i8 (v : Arr9_i8) : List AV := [.p (.int .i8 v.x0), .p (.int .i8 v.x1), .p (.int .i8 v.x2), .p (.int .i8 v.x3), .p (.int .i8 v.x4), .p (.int .i8 v.x5), .p (.int .i8 v.x6), .p (.int .i8 v.x7), .p (.int .i8 v.x8)]
def Arr9_i8.l (v : Arr9_i8) : List Int := [v.x0, v.x1, v.x2, v.x3, v.x4, v.x5, v.x6, v.x7, v.x8]
def Arr9_i8.ofL (l : List Int) : Arr9_i8 := ⟨l.getD 0 0, l.getD 1 0, l.getD 2 0, l.getD 3 0, l.getD 4 0, l.getD 5 0, l.getD 6 0, l.getD 7 0, l.getD 8 0⟩
def Arr9_i8.get (v : Arr9_i8) (i : Int) : Option Int := idx v.l i
def Arr9_i8.set (v : Arr9_i8) (i : Int) (x : Int) : Arr9_i8 := Arr9_i8.ofL (v.l.set i.toNat x)
theorem Arr9_i8.l_ofL (l : List Int) (h : l.length = 9) : (Arr9_i8.ofL l).l = l := ofL_all 9 0 l h rfl
theorem Arr9_i8.l_set (v : Arr9_i8) (i : Int) (x : Int) : (v.set i x).l = v.l.set i.toNat x := Arr9_i8.l_ofL _ (by rw [List.length_set]; rfl)
theorem Arr9_i8.c_set (v : Arr9_i8) (i : Int) (x : Int) : c_Arr9_i8 (v.set i x) = (v.l.set i.toNat x).map (fun x => .p (.int .i8 x)) := by rw [← Arr9_i8.l_set]; rfl
abbrev c_api_Link (v : api_Link) : List AV := [iv v.A, iv v.B, iv v.Per, iv v.Delay]
abbrev c_api_Topo (v : api_Topo) : List AV := [iv v.Nodes, s_eB false v.Station, s_e_api_Link false v.Links]
abbrev c_api_Hop (v : api_Hop) : List AV := [iv v.Port, iv v.Early, iv v.Late, iv v.Open, iv v.Long]
abbrev c_Arr24_Bool (v : Arr24_Bool) : List AV := [bv v.x0, bv v.x1, bv v.x2, bv v.x3, bv v.x4, bv v.x5, bv v.x6, bv v.x7, bv v.x8, bv v.x9, bv v.x10, bv v.x11, bv v.x12, bv v.x13, bv v.x14, bv v.x15, bv v.x16, bv v.x17, bv v.x18, bv v.x19, bv v.x20, bv v.x21, bv v.x22, bv v.x23]
def Arr24_Bool.l (v : Arr24_Bool) : List Bool := [v.x0, v.x1, v.x2, v.x3, v.x4, v.x5, v.x6, v.x7, v.x8, v.x9, v.x10, v.x11, v.x12, v.x13, v.x14, v.x15, v.x16, v.x17, v.x18, v.x19, v.x20, v.x21, v.x22, v.x23]
def Arr24_Bool.ofL (l : List Bool) : Arr24_Bool := ⟨l.getD 0 false, l.getD 1 false, l.getD 2 false, l.getD 3 false, l.getD 4 false, l.getD 5 false, l.getD 6 false, l.getD 7 false, l.getD 8 false, l.getD 9 false, l.getD 10 false, l.getD 11 false, l.getD 12 false, l.getD 13 false, l.getD 14 false, l.getD 15 false, l.getD 16 false, l.getD 17 false, l.getD 18 false, l.getD 19 false, l.getD 20 false, l.getD 21 false, l.getD 22 false, l.getD 23 false⟩
def Arr24_Bool.get (v : Arr24_Bool) (i : Int) : Option Bool := idx v.l i
def Arr24_Bool.set (v : Arr24_Bool) (i : Int) (x : Bool) : Arr24_Bool := Arr24_Bool.ofL (v.l.set i.toNat x)
theorem Arr24_Bool.l_ofL (l : List Bool) (h : l.length = 24) : (Arr24_Bool.ofL l).l = l := ofL_all 24 false l h rfl
theorem Arr24_Bool.l_set (v : Arr24_Bool) (i : Int) (x : Bool) : (v.set i x).l = v.l.set i.toNat x := Arr24_Bool.l_ofL _ (by rw [List.length_set]; rfl)
theorem Arr24_Bool.c_set (v : Arr24_Bool) (i : Int) (x : Bool) : c_Arr24_Bool (v.set i x) = (v.l.set i.toNat x).map (fun x => bv x) := by rw [← Arr24_Bool.l_set]; rfl
abbrev c_Arr12_Bool (v : Arr12_Bool) : List AV := [bv v.x0, bv v.x1, bv v.x2, bv v.x3, bv v.x4, bv v.x5, bv v.x6, bv v.x7, bv v.x8, bv v.x9, bv v.x10, bv v.x11]
def Arr12_Bool.l (v : Arr12_Bool) : List Bool := [v.x0, v.x1, v.x2, v.x3, v.x4, v.x5, v.x6, v.x7, v.x8, v.x9, v.x10, v.x11]
def Arr12_Bool.ofL (l : List Bool) : Arr12_Bool := ⟨l.getD 0 false, l.getD 1 false, l.getD 2 false, l.getD 3 false, l.getD 4 false, l.getD 5 false, l.getD 6 false, l.getD 7 false, l.getD 8 false, l.getD 9 false, l.getD 10 false, l.getD 11 false⟩
def Arr12_Bool.get (v : Arr12_Bool) (i : Int) : Option Bool := idx v.l i
def Arr12_Bool.set (v : Arr12_Bool) (i : Int) (x : Bool) : Arr12_Bool := Arr12_Bool.ofL (v.l.set i.toNat x)
theorem Arr12_Bool.l_ofL (l : List Bool) (h : l.length = 12) : (Arr12_Bool.ofL l).l = l := ofL_all 12 false l h rfl
theorem Arr12_Bool.l_set (v : Arr12_Bool) (i : Int) (x : Bool) : (v.set i x).l = v.l.set i.toNat x := Arr12_Bool.l_ofL _ (by rw [List.length_set]; rfl)
theorem Arr12_Bool.c_set (v : Arr12_Bool) (i : Int) (x : Bool) : c_Arr12_Bool (v.set i x) = (v.l.set i.toNat x).map (fun x => bv x) := by rw [← Arr12_Bool.l_set]; rfl
abbrev c_route_hop (v : route_hop) : List AV := [iv v.port, iv v.from_, iv v.to_]
def stream_Index_L1 (N : Nat) (a0_ : (List api_Stream)) (a1_ : Int) (i1 : Int) : Option ((Int) ⊕ ((Unit) ⊕ (Int × Int))) :=
 (if (decide (i1 < ((List.length a0_ : Nat) : Int))) then ((idx a0_ i1).bind fun e503 =>
 (if (e503.Id == a1_) then (some (.inr (.inr (i1, 0)))) else (some (.inl (w64 (i1 + 1)))))) else (some (.inr (.inl ()))))
def stream_Index (N : Nat) (a0_ : (List api_Stream)) (a1_ : Int) : Option (Int × Int) :=
 ((iterF (fun x : Int => stream_Index_L1 N a0_ a1_ x) N 0).bind fun o505 => match o505 with
 | (.inl p506) => (some (0, 4))
 | (.inr p507) => (some p507))
def law22_line (N : Nat) : Option (api_Topo) :=
 (some (api_Topo.mk 3 ([true, false, true]) ([(api_Link.mk 0 1 8 5), (api_Link.mk 1 2 8 5)])))
def law22_setup (N : Nat) : Option (api_Setup) :=
 (some (api_Setup.mk 100 2 10 8000))
def law22_scheduled (N : Nat) : Option (api_Stream) :=
 (some (api_Stream.mk 1 0 2 7 100 20 (api_Bucket.mk 0 0) 10000 ([[0, 2]])))
def stream_hops (N : Nat) (a0_ : api_Topo) (a1_ : api_Setup) (a2_ : api_Stream) (a3_ : Int) : Option (api_Stream × Int × api_Topo × api_Setup) :=
 (some (a2_, a3_, a0_, a1_))
def stream_between (N : Nat) (a0_ : Int) (a1_ : Int) (a2_ : Int) : Option (Bool) :=
 (some ((decide (a0_ ≥ a1_)) && (decide (a0_ ≤ a2_))))
def ref16_Joins (N : Nat) (a0_ : api_Link) (a1_ : Int) (a2_ : Int) : Option (Bool) :=
 (some (if (a0_.A == a1_) then ((a0_.B == a2_) || ((a0_.A == a2_) && (a0_.B == a1_))) else ((a0_.A == a2_) && (a0_.B == a1_))))
def stream_hops_1_L1 {σ : Type} (N : Nat) (y_ : σ → api_Hop → Option (σ × Bool)) (c0_ : api_Stream) (c2_ : api_Topo) (c3_ : api_Setup) (e3 : (List Int)) (i6 : Int) (i7 : Int) (i10 : Int) (i11 : Int) (i12 : Int) (i8 : Int) (g9 : σ) : Option ((Int × Int × Int × Int × Int × Int × σ) ⊕ ((σ) ⊕ (σ))) :=
 (if (decide (i6 < ((List.length e3 : Nat) : Int))) then ((idx e3 i6).bind fun e516 =>
 (((if (decide (i6 > 0)) then ((idx c2_.Links (w64 (Int.tdiv i7 2))).bind fun e1020 =>
 ((quoI .i64 (w64 ((w64 ((w64 ((w64 ((w64 ((w64 (i12 + i8)) + e1020.Delay)) + c3_.Proc)) + (w64 (2 * c3_.Slack)))) + c3_.Grid)) - 1)) c3_.Grid).bind fun q1026 =>
 (some ((w64 ((w64 ((w64 ((w64 (i12 + i8)) + e1020.Delay)) + c3_.Proc)) - (w64 (2 * c3_.Slack)))), (w64 ((w64 ((w64 ((w64 (i12 + i8)) + e1020.Delay)) + c3_.Proc)) + (w64 (2 * c3_.Slack)))), (w64 (q1026 * c3_.Grid)))))) else (some (i10, i11, i12)))).bind fun (j1017 : Int × Int × Int) =>
 ((idx c2_.Links (w64 (Int.tdiv e516 2))).bind fun e1030 =>
 ((y_ g9 (api_Hop.mk e516 j1017.1 j1017.2.1 j1017.2.2 (w64 (c0_.Size * e1030.Per)))).bind fun r1031 =>
 (if (!r1031.2) then (some (.inr (.inr r1031.1))) else (some (.inl ((w64 (i6 + 1)), e516, j1017.1, j1017.2.1, j1017.2.2, (w64 (c0_.Size * e1030.Per)), r1031.1)))))))) else (some (.inr (.inl g9))))
def stream_hops_1 {σ : Type} (N : Nat) (y_ : σ → api_Hop → Option (σ × Bool)) (c0_ : api_Stream) (c1_ : Int) (c2_ : api_Topo) (c3_ : api_Setup) (s_ : σ) : Option (σ) :=
 ((idx c0_.Routes c1_).bind fun e3 =>
 ((iterF (fun x : Int × Int × Int × Int × Int × Int × σ => stream_hops_1_L1 N y_ c0_ c2_ c3_ e3 x.1 x.2.1 x.2.2.1 x.2.2.2.1 x.2.2.2.2.1 x.2.2.2.2.2.1 x.2.2.2.2.2.2) N (0, 0, 0, 0, 0, 0, s_)).bind fun o1035 => match o1035 with
 | (.inl p1036) => (some p1036)
 | (.inr p1037) => (some p1037)))
def topo_reach_L2 (N : Nat) (a0_ : api_Topo) (a2_ : Arr24_Bool) (i517 : Int) (l518 : (List Bool)) : Option ((Int × (List Bool)) ⊕ (((List Bool)))) :=
 (if (decide (i517 < ((List.length a0_.Links : Nat) : Int))) then ((((idx a0_.Links i517).bind fun e1525 =>
 ((((a2_.get i517).bind fun e1526 => (if (!e1526) then ((idx l518 e1525.A).bind fun e1528 => ((idx l518 e1525.B).bind fun e1531 => (some (e1528 != e1531)))) else (some false)))).bind fun (j1535 : Bool) =>
 (if j1535 then ((idx l518 e1525.A).bind fun e1537 =>
 ((idx (List.set l518 (Int.toNat e1525.A) true) e1525.B).bind fun e1541 =>
 (some (List.set (List.set l518 (Int.toNat e1525.A) true) (Int.toNat e1525.B) true)))) else (some l518))))).bind fun (j1524 : (List Bool)) =>
 (some (.inl ((w64 (i517 + 1)), j1524)))) else (some (.inr l518)))
def topo_reach_L1 (N : Nat) (a0_ : api_Topo) (a2_ : Arr24_Bool) (i10 : Int) (l11 : (List Bool)) : Option ((Int × (List Bool)) ⊕ (((List Bool)))) :=
 (if (decide (i10 < a0_.Nodes)) then ((iterF (fun x : Int × (List Bool) => topo_reach_L2 N a0_ a2_ x.1 x.2) N (0, l11)).bind fun o1545 =>
 (some (.inl ((w64 (i10 + 1)), o1545)))) else (some (.inr l11)))
def topo_reach (N : Nat) (a0_ : api_Topo) (a1_ : Int) (a2_ : Arr24_Bool) : Option ((List Bool)) :=
 ((makeI 1 a0_.Nodes a0_.Nodes false).bind fun l3 =>
 ((idx l3 a1_).bind fun e4 =>
 ((iterF (fun x : Int × (List Bool) => topo_reach_L1 N a0_ a2_ x.1 x.2) N (0, (List.set l3 (Int.toNat a1_) true))).bind fun o1546 =>
 (some o1546))))
def stream_valid_1 (N : Nat) (c0_ : api_Stream) : Option (Bool) :=
 ((stream_between N c0_.Id 1 4095).bind fun r2 =>
 (some r2))
def stream_station (N : Nat) (a0_ : api_Topo) (a1_ : Int) : Option (Bool) :=
 ((((stream_between N a1_ 0 (w64 (a0_.Nodes - 1))).bind fun r1 => (if r1 then ((idx a0_.Station a1_).bind fun e3 => (some e3)) else (some false)))).bind fun (j5 : Bool) =>
 (some j5))
def stream_valid_3 (N : Nat) (c0_ : api_Stream) : Option (Bool) :=
 ((stream_between N c0_.Size 84 1542).bind fun r2 =>
 (some r2))
def stream_valid_4 (N : Nat) (c0_ : api_Stream) : Option (Bool) :=
 ((stream_between N c0_.Deadline 1 1099511627776).bind fun r2 =>
 (some r2))
def stream_valid_6 (N : Nat) (c0_ : api_Stream) : Option (Bool) :=
 ((stream_between N ((List.length c0_.Routes : Nat) : Int) 1 2).bind fun r2 =>
 (some r2))
def ref16_node (N : Nat) (a0_ : api_Topo) (a1_ : Int) : Option (Bool) :=
 (some ((decide (a1_ ≥ 0)) && (decide (a1_ < a0_.Nodes))))
def ref16_In_L1 (N : Nat) (a0_ : (List Int)) (a1_ : Int) (i1 : Int) : Option ((Int) ⊕ ((Unit) ⊕ (Bool))) :=
 (if (decide (i1 < ((List.length a0_ : Nat) : Int))) then ((idx a0_ i1).bind fun e503 =>
 (if (e503 == a1_) then (some (.inr (.inr true))) else (some (.inl (w64 (i1 + 1)))))) else (some (.inr (.inl ()))))
def ref16_In (N : Nat) (a0_ : (List Int)) (a1_ : Int) : Option (Bool) :=
 ((iterF (fun x : Int => ref16_In_L1 N a0_ a1_ x) N 0).bind fun o505 => match o505 with
 | (.inl p506) => (some false)
 | (.inr p507) => (some p507))
def topo_node (N : Nat) (a0_ : api_Topo) (a1_ : Int) : Option (Bool) :=
 (some ((decide (a1_ ≥ 0)) && (decide (a1_ < a0_.Nodes))))
def topo_sound_2 (N : Nat) (a0_ : Int) (c0_ : api_Topo) : Option (Bool) :=
 ((idx c0_.Links a0_).bind fun e2 =>
 ((((idx c0_.Station e2.A).bind fun e4 => (if (!e4) then (some true) else ((idx c0_.Station e2.B).bind fun e8 => (some (!e8)))))).bind fun (j9 : Bool) =>
 (some j9)))
def topo_sound_3_L1 (N : Nat) (e2 : api_Link) (l4 : List api_Link) (i5 : Int) : Option ((Int) ⊕ ((Unit) ⊕ (Bool))) :=
 (if (decide (i5 < ((List.length l4 : Nat) : Int))) then ((idx l4 i5).bind fun e507 =>
 (if (if (e2.A == e507.A) then ((e2.B == e507.B) || ((e2.A == e507.B) && (e2.B == e507.A))) else ((e2.A == e507.B) && (e2.B == e507.A))) then (some (.inr (.inr false))) else (some (.inl (w64 (i5 + 1)))))) else (some (.inr (.inl ()))))
def topo_sound_3 (N : Nat) (a0_ : Int) (c0_ : api_Topo) : Option (Bool) :=
 ((idx c0_.Links a0_).bind fun e2 =>
 ((subI c0_.Links 0 a0_).bind fun l4 =>
 ((iterF (fun x : Int => topo_sound_3_L1 N e2 l4 x) N 0).bind fun o517 => match o517 with
 | (.inl p518) => (some true)
 | (.inr p519) => (some p519))))
def topo_sound_4 (N : Nat) (a0_ : Int) (c0_ : api_Topo) : Option (Bool) :=
 ((idx c0_.Links a0_).bind fun e2 =>
 (some ((decide (e2.Per ≥ 1)) && ((decide (e2.Per ≤ 1000)) && ((decide (e2.Delay ≥ 0)) && (decide (e2.Delay ≤ 10000)))))))
def slices_Index__bool_bool_L1 (N : Nat) (a0_ : (List Bool)) (a1_ : Bool) (i1 : Int) : Option ((Int) ⊕ ((Unit) ⊕ (Int))) :=
 (if (decide (i1 < ((List.length a0_ : Nat) : Int))) then ((idx a0_ i1).bind fun e503 =>
 (if (a1_ == e503) then (some (.inr (.inr i1))) else (some (.inl (w64 (i1 + 1)))))) else (some (.inr (.inl ()))))
def slices_Index__bool_bool (N : Nat) (a0_ : (List Bool)) (a1_ : Bool) : Option (Int) :=
 ((iterF (fun x : Int => slices_Index__bool_bool_L1 N a0_ a1_ x) N 0).bind fun o505 => match o505 with
 | (.inl p506) => (some (-1))
 | (.inr p507) => (some p507))
def bucket_inside_int (N : Nat) (a0_ : Int) (a1_ : Int) (a2_ : Int) : Option (Bool) :=
 (some ((decide (a1_ ≤ a0_)) && (decide (a0_ ≤ a2_))))
def route_shares_L2 (N : Nat) (a1_ : (List Int)) (e503 : Int) (i504 : Int) : Option ((Int) ⊕ ((Unit) ⊕ (Bool))) :=
 (if (decide (i504 < ((List.length a1_ : Nat) : Int))) then ((idx a1_ i504).bind fun e1006 =>
 (if ((w64 (Int.tdiv e503 2)) == (w64 (Int.tdiv e1006 2))) then (some (.inr (.inr true))) else (some (.inl (w64 (i504 + 1)))))) else (some (.inr (.inl ()))))
def route_shares_L1 (N : Nat) (a0_ : (List Int)) (a1_ : (List Int)) (i1 : Int) : Option ((Int) ⊕ ((Unit) ⊕ (Bool))) :=
 (if (decide (i1 < ((List.length a0_ : Nat) : Int))) then ((idx a0_ i1).bind fun e503 =>
 ((iterF (fun x : Int => route_shares_L2 N a1_ e503 x) N 0).bind fun o1008 => match o1008 with
 | (.inl p1009) => (some (.inl (w64 (i1 + 1))))
 | (.inr p1010) => (some (.inr (.inr p1010))))) else (some (.inr (.inl ()))))
def route_shares (N : Nat) (a0_ : (List Int)) (a1_ : (List Int)) : Option (Bool) :=
 ((iterF (fun x : Int => route_shares_L1 N a0_ a1_ x) N 0).bind fun o1011 => match o1011 with
 | (.inl p1012) => (some false)
 | (.inr p1013) => (some p1013))
def route_walk_hops (N : Nat) (a0_ : route_walk) (a1_ : (List Int)) : Option ((List Int) × route_walk) :=
 (some (a1_, a0_))
def route_walk_hops_1_L1 {σ : Type} (N : Nat) (y_ : σ → Int → route_hop → Option (σ × Bool)) (c0_ : (List Int)) (c1_ : route_walk) (i4 : Int) (g5 : σ) : Option ((Int × σ) ⊕ ((σ))) :=
 (if (decide (i4 < ((List.length c0_ : Nat) : Int))) then ((idx c0_ i4).bind fun e509 =>
 (((if (decide (e509 < 0)) then (some true) else (some (decide (e509 ≥ (w64 (2 * ((List.length c1_.Topo.Links : Nat) : Int)))))))).bind fun (j513 : Bool) =>
 (if j513 then (some (.inr g5)) else ((idx c1_.Topo.Links (w64 (Int.tdiv e509 2))).bind fun e516 =>
 (((if ((Int.tmod e509 2) == 1) then (some (e516.B, e516.A)) else (some (e516.A, e516.B)))).bind fun (j1017 : Int × Int) =>
 ((y_ g5 i4 (route_hop.mk e509 j1017.1 j1017.2)).bind fun r1019 =>
 (if (!r1019.2) then (some (.inr r1019.1)) else (some (.inl ((w64 (i4 + 1)), r1019.1)))))))))) else (some (.inr g5)))
def route_walk_hops_1 {σ : Type} (N : Nat) (y_ : σ → Int → route_hop → Option (σ × Bool)) (c0_ : (List Int)) (c1_ : route_walk) (s_ : σ) : Option (σ) :=
 ((iterF (fun x : Int × σ => route_walk_hops_1_L1 N y_ c0_ c1_ x.1 x.2) N (0, s_)).bind fun o1023 =>
 (some o1023))
def slices_Index__int_int_L1 (N : Nat) (a0_ : (List Int)) (a1_ : Int) (i1 : Int) : Option ((Int) ⊕ ((Unit) ⊕ (Int))) :=
 (if (decide (i1 < ((List.length a0_ : Nat) : Int))) then ((idx a0_ i1).bind fun e503 =>
 (if (a1_ == e503) then (some (.inr (.inr i1))) else (some (.inl (w64 (i1 + 1)))))) else (some (.inr (.inl ()))))
def slices_Index__int_int (N : Nat) (a0_ : (List Int)) (a1_ : Int) : Option (Int) :=
 ((iterF (fun x : Int => slices_Index__int_int_L1 N a0_ a1_ x) N 0).bind fun o505 => match o505 with
 | (.inl p506) => (some (-1))
 | (.inr p507) => (some p507))
def stream_CheckSetup (N : Nat) (a0_ : api_Setup) : Option (Int) :=
 ((((stream_between N a0_.Grid 1 10000).bind fun r1 => (if (!r1) then (some true) else ((stream_between N a0_.Slack 0 1000).bind fun r4 => (some (!r4)))))).bind fun (j5 : Bool) =>
 (if j5 then (some 320) else ((((stream_between N a0_.Proc 0 10000).bind fun r7 => (if (!r7) then (some true) else ((stream_between N a0_.Cap 1542 65536).bind fun r10 => (some (!r10)))))).bind fun (j11 : Bool) =>
 (if j11 then (some 320) else (some 0)))))
def ref16_link (N : Nat) (a0_ : api_Topo) (a1_ : api_Link) : Option (Bool) :=
 ((((ref16_node N a0_ a1_.A).bind fun r1 => (if (!r1) then (some true) else ((ref16_node N a0_ a1_.B).bind fun r4 => (if (!r4) then (some true) else (if (a1_.A == a1_.B) then (some true) else ((idx a0_.Station a1_.A).bind fun e9 => (if e9 then ((idx a0_.Station a1_.B).bind fun e11 => (some e11)) else (some false))))))))).bind fun (j13 : Bool) =>
 (if j13 then (some false) else (some ((decide (a1_.Per ≥ 1)) && ((decide (a1_.Per ≤ 1000)) && ((decide (a1_.Delay ≥ 0)) && (decide (a1_.Delay ≤ 10000))))))))
def ref16_Reach_L2 (N : Nat) (a0_ : api_Topo) (a2_ : (List Int)) (i517 : Int) (l518 : (List Bool)) : Option ((Int × (List Bool)) ⊕ (((List Bool)))) :=
 (if (decide (i517 < ((List.length a0_.Links : Nat) : Int))) then ((((idx a0_.Links i517).bind fun e1525 =>
 ((((ref16_In N a2_ i517).bind fun r1526 => (if (!r1526) then ((idx l518 e1525.A).bind fun e1528 => (if e1528 then (some true) else ((idx l518 e1525.B).bind fun e1533 => (some e1533)))) else (some false)))).bind fun (j1537 : Bool) =>
 (if j1537 then ((idx l518 e1525.A).bind fun e1539 =>
 ((idx (List.set l518 (Int.toNat e1525.A) true) e1525.B).bind fun e1543 =>
 (some (List.set (List.set l518 (Int.toNat e1525.A) true) (Int.toNat e1525.B) true)))) else (some l518))))).bind fun (j1524 : (List Bool)) =>
 (some (.inl ((w64 (i517 + 1)), j1524)))) else (some (.inr l518)))
def ref16_Reach_L1 (N : Nat) (a0_ : api_Topo) (a2_ : (List Int)) (i10 : Int) (l11 : (List Bool)) : Option ((Int × (List Bool)) ⊕ (((List Bool)))) :=
 (if (decide (i10 < a0_.Nodes)) then ((iterF (fun x : Int × (List Bool) => ref16_Reach_L2 N a0_ a2_ x.1 x.2) N (0, l11)).bind fun o1547 =>
 (some (.inl ((w64 (i10 + 1)), o1547)))) else (some (.inr l11)))
def ref16_Reach (N : Nat) (a0_ : api_Topo) (a1_ : Int) (a2_ : (List Int)) : Option ((List Bool)) :=
 ((makeI 1 a0_.Nodes a0_.Nodes false).bind fun l3 =>
 ((idx l3 a1_).bind fun e4 =>
 ((iterF (fun x : Int × (List Bool) => ref16_Reach_L1 N a0_ a2_ x.1 x.2) N (0, (List.set l3 (Int.toNat a1_) true))).bind fun o1548 =>
 (some o1548))))
def slices_Contains__bool_bool (N : Nat) (a0_ : (List Bool)) (a1_ : Bool) : Option (Bool) :=
 ((slices_Index__bool_bool N a0_ a1_).bind fun r1 =>
 (some (decide (r1 ≥ 0))))
def stream_valid_2 (N : Nat) (c0_ : api_Topo) (c1_ : api_Stream) : Option (Bool) :=
 ((((stream_station N c0_ c1_.Talker).bind fun r3 => (if r3 then ((stream_station N c0_ c1_.Listener).bind fun r7 => (if r7 then (some (c1_.Talker != c1_.Listener)) else (some false))) else (some false)))).bind fun (j13 : Bool) =>
 (some j13))
def bucket_Check (N : Nat) (a0_ : api_Bucket) : Option (Int) :=
 ((((bucket_inside_int N a0_.Burst 1 1048576).bind fun r1 => (if (!r1) then (some true) else ((bucket_inside_int N a0_.Rate 1 2097152).bind fun r4 => (some (!r4)))))).bind fun (j5 : Bool) =>
 (if j5 then (some 130) else (some 0)))
def topo_sound_1 (N : Nat) (a0_ : Int) (c0_ : api_Topo) : Option (Bool) :=
 ((idx c0_.Links a0_).bind fun e2 =>
 ((((topo_node N c0_ e2.A).bind fun r4 => (if r4 then ((topo_node N c0_ e2.B).bind fun r7 => (if r7 then (some (e2.A != e2.B)) else (some false))) else (some false)))).bind fun (j11 : Bool) =>
 (some j11)))
def route_walk_valid_R1 (N : Nat) (a0_ : route_walk) (i524 : Int) (i525 : Int) (l526 : Arr12_Bool) (x522 : Int) (x523 : route_hop) : Option ((Int × Int × Arr12_Bool) × Nat) :=
 (if (x522 == 0) then ((l526.get x523.from_).bind fun e1026 =>
 (((Arr12_Bool.set l526 x523.from_ true).get x523.to_).bind fun e1028 =>
 (if e1028 then (some ((i524, i525, (Arr12_Bool.set l526 x523.from_ true)), 1)) else (((Arr12_Bool.set l526 x523.from_ true).get x523.to_).bind fun e1031 =>
 (some (((w64 (i524 + 1)), x523.to_, (Arr12_Bool.set (Arr12_Bool.set l526 x523.from_ true) x523.to_ true)), 0)))))) else (((if (x523.from_ != i525) then (some true) else ((idx a0_.Topo.Station i525).bind fun e1041 => (some e1041)))).bind fun (j1042 : Bool) =>
 (if j1042 then (some ((i524, i525, l526), 1)) else ((l526.get x523.to_).bind fun e1044 =>
 (if e1044 then (some ((i524, i525, l526), 1)) else ((l526.get x523.to_).bind fun e1047 =>
 (some (((w64 (i524 + 1)), x523.to_, (Arr12_Bool.set l526 x523.to_ true)), 0))))))))
def route_walk_valid (N : Nat) (a0_ : route_walk) (a1_ : (List Int)) : Option (Bool) :=
 (if ((decide (((List.length a1_ : Nat) : Int) < 1)) || (decide (((List.length a1_ : Nat) : Int) > 8))) then (some false) else ((((route_walk_hops N a0_ a1_).bind fun r517 =>
 ((route_walk_hops_1 N (fun (s : (Int × Int × Arr12_Bool) × Nat) (x522 : Int) (x523 : route_hop) => yieldF (fun v : Int × Int × Arr12_Bool => route_walk_valid_R1 N a0_ v.1 v.2.1 v.2.2 x522 x523) s) r517.1 r517.2 ((0, 0, (Arr12_Bool.mk false false false false false false false false false false false false)), 0)).bind fun o1052 =>
 (if (o1052.2 == 0) then (some o1052.1.1) else (if (o1052.2 == 1) then (some o1052.1.1) else none))))).bind fun (j515 : Int) =>
 (some (j515 == ((List.length a1_ : Nat) : Int)))))
def route_walk_nodes_R1 (N : Nat) (l15 : (List Int)) (x13 : Int) (x14 : route_hop) : Option ((List Int)) :=
 (((if (x13 == 0) then ((appI 8 l15 [x14.from_]).bind fun l1023 =>
 (some l1023)) else (some l15))).bind fun (j1018 : (List Int)) =>
 ((appI 8 j1018 [x14.to_]).bind fun l1028 =>
 (some l1028)))
def route_walk_nodes (N : Nat) (a0_ : route_walk) (a1_ : (List Int)) : Option ((List Int)) :=
 ((makeI 8 0 (w64 (((List.length a1_ : Nat) : Int) + 1)) 0).bind fun l3 =>
 ((route_walk_hops N a0_ a1_).bind fun r7 =>
 ((route_walk_hops_1 N (fun (s : (List Int)) (x13 : Int) (x14 : route_hop) => yieldT (fun v : (List Int) => route_walk_nodes_R1 N v x13 x14) s) r7.1 r7.2 l3).bind fun o1030 =>
 (some o1030))))
def slices_Contains__int_int (N : Nat) (a0_ : (List Int)) (a1_ : Int) : Option (Bool) :=
 ((slices_Index__int_int N a0_ a1_).bind fun r1 =>
 (some (decide (r1 ≥ 0))))
def route_Nodes_1 (N : Nat) (a0_ : route_walk) (c0_ : (List Int)) : Option ((List Int) × Int) :=
 ((route_walk_nodes N a0_ c0_).bind fun r2 =>
 (some (r2, 0)))
def ref16_Right_L2 (N : Nat) (a0_ : api_Topo) (i13 : Int) (e518 : api_Link) (i521 : Int) : Option ((Int) ⊕ ((Unit) ⊕ (Bool))) :=
 (if (decide (i521 < i13)) then ((idx a0_.Links i521).bind fun e1023 =>
 ((ref16_Joins N e1023 e518.A e518.B).bind fun r1024 =>
 (if r1024 then (some (.inr (.inr false))) else (some (.inl (w64 (i521 + 1))))))) else (some (.inr (.inl ()))))
def ref16_Right_L1 (N : Nat) (a0_ : api_Topo) (i13 : Int) (l14 : (List Int)) : Option ((Int × (List Int)) ⊕ (((List Int)) ⊕ (Bool))) :=
 (if (decide (i13 < ((List.length a0_.Links : Nat) : Int))) then ((idx a0_.Links i13).bind fun e518 =>
 ((ref16_link N a0_ e518).bind fun r519 =>
 (if (!r519) then (some (.inr (.inr false))) else ((iterF (fun x : Int => ref16_Right_L2 N a0_ i13 e518 x) N 0).bind fun o1026 => match o1026 with
 | (.inl p1027) => ((idx l14 e518.A).bind fun e1028 =>
 ((idx l14 e518.A).bind fun e1031 =>
 ((idx (List.set l14 (Int.toNat e518.A) (w64 (e1028 + 1))) e518.B).bind fun e1035 =>
 ((idx (List.set l14 (Int.toNat e518.A) (w64 (e1028 + 1))) e518.B).bind fun e1038 =>
 (some (.inl ((w64 (i13 + 1)), (List.set (List.set l14 (Int.toNat e518.A) (w64 (e1028 + 1))) (Int.toNat e518.B) (w64 (e1035 + 1))))))))))
 | (.inr p1042) => (some (.inr (.inr p1042))))))) else (some (.inr (.inl l14))))
def ref16_Right_L3 (N : Nat) (a0_ : api_Topo) (p1044 : (List Int)) (r1045 : (List Bool)) (i1046 : Int) : Option ((Int) ⊕ ((Unit) ⊕ (Bool))) :=
 (if (decide (i1046 < a0_.Nodes)) then ((((idx r1045 i1046).bind fun e1548 => (if (!e1548) then (some true) else ((idx a0_.Station i1046).bind fun e1551 => (if e1551 then ((idx p1044 i1046).bind fun e1553 => (if (decide (e1553 < 1)) then (some true) else ((idx p1044 i1046).bind fun e1558 => (some (decide (e1558 > 2)))))) else (some false)))))).bind fun (j1562 : Bool) =>
 (if j1562 then (some (.inr (.inr false))) else (some (.inl (w64 (i1046 + 1)))))) else (some (.inr (.inl ()))))
def ref16_Right (N : Nat) (a0_ : api_Topo) : Option (Bool) :=
 (if ((decide (a0_.Nodes < 2)) || ((decide (a0_.Nodes > 12)) || ((((List.length a0_.Station : Nat) : Int) != a0_.Nodes) || (decide (((List.length a0_.Links : Nat) : Int) > 24))))) then (some false) else ((makeI 8 a0_.Nodes a0_.Nodes 0).bind fun l10 =>
 ((iterF (fun x : Int × (List Int) => ref16_Right_L1 N a0_ x.1 x.2) N (0, l10)).bind fun o1043 => match o1043 with
 | (.inl p1044) => ((ref16_Reach N a0_ 0 ([])).bind fun r1045 =>
 ((iterF (fun x : Int => ref16_Right_L3 N a0_ p1044 r1045 x) N 0).bind fun o1564 => match o1564 with
 | (.inl p1565) => (some true)
 | (.inr p1566) => (some p1566)))
 | (.inr p1567) => (some p1567))))
def topo_sound_L1 (N : Nat) (a0_ : api_Topo) (i4 : Int) : Option ((Int) ⊕ ((Unit) ⊕ (Bool))) :=
 (if (decide (i4 < ((List.length a0_.Links : Nat) : Int))) then ((topo_sound_1 N i4 a0_).bind fun r506 =>
 (if (!r506) then (some (.inr (.inr false))) else ((topo_sound_2 N i4 a0_).bind fun r508 =>
 (if (!r508) then (some (.inr (.inr false))) else ((topo_sound_3 N i4 a0_).bind fun r510 =>
 (if (!r510) then (some (.inr (.inr false))) else ((topo_sound_4 N i4 a0_).bind fun r512 =>
 (if (!r512) then (some (.inr (.inr false))) else (some (.inl (w64 (i4 + 1)))))))))))) else (some (.inr (.inl ()))))
def topo_sound (N : Nat) (a0_ : api_Topo) : Option (Bool) :=
 ((iterF (fun x : Int => topo_sound_L1 N a0_ x) N 0).bind fun o514 => match o514 with
 | (.inl p515) => (some true)
 | (.inr p516) => (some p516))
def stream_valid_5 (N : Nat) (c0_ : api_Stream) : Option (Bool) :=
 (if (c0_.Class == 7) then ((((stream_between N c0_.Period 1 240).bind fun r4 => (if r4 then (some ((c0_.Bucket.Burst == 0) && ((c0_.Bucket.Rate == 0) && true))) else (some false)))).bind fun (j8 : Bool) =>
 (some j8)) else (if (c0_.Class == 6) then (((if (c0_.Period == 0) then ((bucket_Check N c0_.Bucket).bind fun r13 => (if (r13 == 0) then (some (decide (c0_.Bucket.Burst ≥ c0_.Size))) else (some false))) else (some false))).bind fun (j19 : Bool) =>
 (some j19)) else (some false)))
def route_walk_meets_L1 (N : Nat) (r2 : (List Int)) (l3 : List Int) (i4 : Int) : Option ((Int) ⊕ ((Unit) ⊕ (Bool))) :=
 (if (decide (i4 < ((List.length l3 : Nat) : Int))) then ((idx l3 i4).bind fun e506 =>
 ((slices_Contains__int_int N r2 e506).bind fun r507 =>
 (if r507 then (some (.inr (.inr true))) else (some (.inl (w64 (i4 + 1))))))) else (some (.inr (.inl ()))))
def route_walk_meets (N : Nat) (a0_ : route_walk) (a1_ : (List Int)) (a2_ : (List Int)) : Option (Bool) :=
 ((route_walk_nodes N a0_ a1_).bind fun r1 =>
 ((route_walk_nodes N a0_ a2_).bind fun r2 =>
 ((subI r1 1 (w64 (((List.length r1 : Nat) : Int) - 1))).bind fun l3 =>
 ((iterF (fun x : Int => route_walk_meets_L1 N r2 l3 x) N 0).bind fun o509 => match o509 with
 | (.inl p510) => (some false)
 | (.inr p511) => (some p511)))))
def topo_Check_L1 (N : Nat) (a0_ : api_Topo) (i16 : Int) (l17 : (List Int)) : Option ((Int × (List Int)) ⊕ (((List Int)))) :=
 (if (decide (i16 < ((List.length a0_.Links : Nat) : Int))) then ((idx a0_.Links i16).bind fun e521 =>
 ((idx l17 e521.A).bind fun e522 =>
 ((idx l17 e521.A).bind fun e525 =>
 ((idx (List.set l17 (Int.toNat e521.A) (w64 (e522 + 1))) e521.B).bind fun e529 =>
 ((idx (List.set l17 (Int.toNat e521.A) (w64 (e522 + 1))) e521.B).bind fun e532 =>
 (some (.inl ((w64 (i16 + 1)), (List.set (List.set l17 (Int.toNat e521.A) (w64 (e522 + 1))) (Int.toNat e521.B) (w64 (e529 + 1))))))))))) else (some (.inr l17)))
def topo_Check_L2 (N : Nat) (a0_ : api_Topo) (o536 : (List Int)) (i537 : Int) : Option ((Int) ⊕ ((Unit) ⊕ (Int))) :=
 (if (decide (i537 < ((List.length a0_.Station : Nat) : Int))) then ((idx a0_.Station i537).bind fun e1039 =>
 (((if e1039 then ((idx o536 i537).bind fun e1041 => (if (decide (e1041 < 1)) then (some true) else ((idx o536 i537).bind fun e1046 => (some (decide (e1046 > 2)))))) else (some false))).bind fun (j1050 : Bool) =>
 (if j1050 then (some (.inr (.inr 260))) else (some (.inl (w64 (i537 + 1))))))) else (some (.inr (.inl ()))))
def topo_Check (N : Nat) (a0_ : api_Topo) : Option (Int) :=
 (if ((decide (a0_.Nodes < 2)) || ((decide (a0_.Nodes > 12)) || (((List.length a0_.Station : Nat) : Int) != a0_.Nodes))) then (some 260) else (((if (decide (((List.length a0_.Links : Nat) : Int) > 24)) then (some true) else ((topo_sound N a0_).bind fun r8 => (some (!r8))))).bind fun (j9 : Bool) =>
 (if j9 then (some 260) else ((makeI 8 a0_.Nodes a0_.Nodes 0).bind fun l13 =>
 ((iterF (fun x : Int × (List Int) => topo_Check_L1 N a0_ x.1 x.2) N (0, l13)).bind fun o536 =>
 ((iterF (fun x : Int => topo_Check_L2 N a0_ o536 x) N 0).bind fun o1052 => match o1052 with
 | (.inl p1053) => ((topo_reach N a0_ 0 (Arr24_Bool.mk false false false false false false false false false false false false false false false false false false false false false false false false)).bind fun r1054 =>
 ((slices_Contains__bool_bool N r1054 false).bind fun r1055 =>
 (if r1055 then (some 260) else (some 0))))
 | (.inr p1057) => (some p1057)))))))
def route_Apart_1 (N : Nat) (a0_ : route_walk) (c0_ : (List Int)) (c1_ : (List Int)) : Option (Bool × Int) :=
 ((route_walk_valid N a0_ c0_).bind fun r2 =>
 (if (!r2) then (some (false, 310)) else ((((route_shares N c1_ c0_).bind fun r6 => (if (!r6) then ((route_walk_meets N a0_ c1_ c0_).bind fun r10 => (if (!r10) then ((route_walk_meets N a0_ c0_ c1_).bind fun r14 => (some (!r14))) else (some false))) else (some false)))).bind fun (j17 : Bool) =>
 (some (j17, 0)))))
def route_Check (N : Nat) (a0_ : api_Topo) (a1_ : (List Int)) : Option (Int) :=
 ((topo_Check N a0_).bind fun r1 =>
 (if (r1 != 0) then (some r1) else ((route_walk_valid N (route_walk.mk a0_) a1_).bind fun r3 =>
 (if (!r3) then (some 310) else (some 0)))))
def route_ask__int (N : Nat) (a0_ : api_Topo) (a1_ : (List Int)) (a2_ : route_walk → Option ((List Int) × Int)) : Option ((List Int) × Int) :=
 ((route_Check N a0_ a1_).bind fun r1 =>
 (if (r1 != 0) then (some ([], r1)) else ((a2_ (route_walk.mk a0_)).bind fun r3 =>
 (some (r3.1, r3.2)))))
def route_ask_bool (N : Nat) (a0_ : api_Topo) (a1_ : (List Int)) (a2_ : route_walk → Option (Bool × Int)) : Option (Bool × Int) :=
 ((route_Check N a0_ a1_).bind fun r1 =>
 (if (r1 != 0) then (some (false, r1)) else ((a2_ (route_walk.mk a0_)).bind fun r3 =>
 (some (r3.1, r3.2)))))
def route_Nodes (N : Nat) (a0_ : api_Topo) (a1_ : (List Int)) : Option ((List Int) × Int) :=
 ((route_ask__int N a0_ a1_ (fun x0 => route_Nodes_1 N x0 a1_)).bind fun r4 =>
 (some (r4.1, r4.2)))
def route_Apart (N : Nat) (a0_ : api_Topo) (a1_ : (List Int)) (a2_ : (List Int)) : Option (Bool × Int) :=
 ((route_ask_bool N a0_ a1_ (fun x0 => route_Apart_1 N x0 a2_ a1_)).bind fun r6 =>
 (some (r6.1, r6.2)))
def route_Ends (N : Nat) (a0_ : api_Topo) (a1_ : (List Int)) : Option (Int × Int × Int) :=
 ((route_Nodes N a0_ a1_).bind fun r1 =>
 (if (r1.2 != 0) then (some (0, 0, r1.2)) else ((idx r1.1 0).bind fun e3 =>
 ((idx r1.1 (w64 (((List.length r1.1 : Nat) : Int) - 1))).bind fun e4 =>
 (some (e3, e4, 0))))))
def stream_joins (N : Nat) (a0_ : api_Topo) (a1_ : (List Int)) (a2_ : Int) (a3_ : Int) : Option (Bool) :=
 ((route_Ends N a0_ a1_).bind fun r1 =>
 (some ((r1.2.2 == 0) && ((r1.1 == a2_) && (r1.2.1 == a3_)))))
def stream_valid_8 (N : Nat) (c0_ : api_Stream) (c1_ : api_Topo) : Option (Bool) :=
 (if (decide (((List.length c0_.Routes : Nat) : Int) < 2)) then (some true) else ((idx c0_.Routes 0).bind fun e5 =>
 ((idx c0_.Routes 1).bind fun e7 =>
 ((route_Apart N c1_ e5 e7).bind fun r8 =>
 (some ((r8.2 == 0) && r8.1))))))
def stream_valid_7_L1 (N : Nat) (c0_ : api_Stream) (c1_ : api_Topo) (i2 : Int) : Option ((Int) ⊕ ((Unit) ⊕ (Bool))) :=
 (if (decide (i2 < ((List.length c0_.Routes : Nat) : Int))) then ((idx c0_.Routes i2).bind fun e504 =>
 ((stream_joins N c1_ e504 c0_.Talker c0_.Listener).bind fun r508 =>
 (if (!r508) then (some (.inr (.inr false))) else (some (.inl (w64 (i2 + 1))))))) else (some (.inr (.inl ()))))
def stream_valid_7 (N : Nat) (c0_ : api_Stream) (c1_ : api_Topo) : Option (Bool) :=
 ((iterF (fun x : Int => stream_valid_7_L1 N c0_ c1_ x) N 0).bind fun o510 => match o510 with
 | (.inl p511) => (some true)
 | (.inr p512) => (some p512))
def stream_valid (N : Nat) (a0_ : api_Topo) (a1_ : api_Stream) : Option (Bool) :=
 ((stream_valid_1 N  a1_).bind fun r8 =>
 (if (!r8) then (some false) else ((stream_valid_2 N  a0_ a1_).bind fun r11 =>
 (if (!r11) then (some false) else ((stream_valid_3 N  a1_).bind fun r14 =>
 (if (!r14) then (some false) else ((stream_valid_4 N  a1_).bind fun r17 =>
 (if (!r17) then (some false) else ((stream_valid_5 N  a1_).bind fun r20 =>
 (if (!r20) then (some false) else ((stream_valid_6 N  a1_).bind fun r23 =>
 (if (!r23) then (some false) else ((stream_valid_7 N  a1_ a0_).bind fun r26 =>
 (if (!r26) then (some false) else ((stream_valid_8 N  a1_ a0_).bind fun r29 =>
 (if (!r29) then (some false) else (some true)))))))))))))))))
def stream_Check (N : Nat) (a0_ : api_Topo) (a1_ : api_Stream) : Option (Int) :=
 ((topo_Check N a0_).bind fun r1 =>
 (if (r1 != 0) then (some r1) else ((stream_valid N a0_ a1_).bind fun r3 =>
 (if (!r3) then (some 321) else (some 0)))))
def stream_CheckAll_L1 (N : Nat) (a0_ : api_Topo) (a1_ : (List api_Stream)) (i4 : Int) : Option ((Int) ⊕ ((Unit) ⊕ (Int))) :=
 (if (decide (i4 < ((List.length a1_ : Nat) : Int))) then ((idx a1_ i4).bind fun e506 =>
 ((stream_valid N a0_ e506).bind fun r507 =>
 (if (!r507) then (some (.inr (.inr 321))) else (some (.inl (w64 (i4 + 1))))))) else (some (.inr (.inl ()))))
def stream_CheckAll_L2 (N : Nat) (a1_ : (List api_Stream)) (i514 : Int) (l515 : (List (Int × Bool))) : Option ((Int × (List (Int × Bool))) ⊕ ((Unit) ⊕ (Int))) :=
 (if (decide (i514 < ((List.length a1_ : Nat) : Int))) then ((idx a1_ i514).bind fun e1018 =>
 (if (mgetD l515 e1018.Id false) then (some (.inr (.inr 322))) else (some (.inl ((w64 (i514 + 1)), (msetL l515 e1018.Id true)))))) else (some (.inr (.inl ()))))
def stream_CheckAll (N : Nat) (a0_ : api_Topo) (a1_ : (List api_Stream)) : Option (Int) :=
 ((topo_Check N a0_).bind fun r1 =>
 (if (r1 != 0) then (some r1) else (if (decide (((List.length a1_ : Nat) : Int) > 12)) then (some 3) else ((iterF (fun x : Int => stream_CheckAll_L1 N a0_ a1_ x) N 0).bind fun o509 => match o509 with
 | (.inl p510) => ((iterF (fun x : Int × (List (Int × Bool)) => stream_CheckAll_L2 N a1_ x.1 x.2) N (0, [])).bind fun o1023 => match o1023 with
 | (.inl p1024) => (some 0)
 | (.inr p1025) => (some p1025))
 | (.inr p1026) => (some p1026)))))
def stream_due (N : Nat) (a0_ : api_Topo) (a1_ : api_Setup) (a2_ : api_Stream) (a3_ : Int) : Option (Int) :=
 ((topo_Check N a0_).bind fun r1 =>
 (if (r1 != 0) then (some r1) else ((stream_CheckSetup N a1_).bind fun r3 =>
 (if (r3 != 0) then (some r3) else ((stream_valid N a0_ a2_).bind fun r5 =>
 (if (!r5) then (some 321) else (((if (a2_.Class != 7) then (some true) else ((stream_between N a3_ 0 (w64 (((List.length a2_.Routes : Nat) : Int) - 1))).bind fun r9 => (some (!r9))))).bind fun (j10 : Bool) =>
 (if j10 then (some 2) else (some 0)))))))))
def stream_Hops_R1 (N : Nat) (l14 : (List api_Hop)) (x12 : api_Hop) : Option ((List api_Hop)) :=
 ((appI 40 l14 [x12]).bind fun l518 =>
 (some l518))
def stream_Hops (N : Nat) (a0_ : api_Topo) (a1_ : api_Setup) (a2_ : api_Stream) (a3_ : Int) : Option ((List api_Hop) × Int) :=
 ((stream_due N a0_ a1_ a2_ a3_).bind fun r1 =>
 (if (r1 != 0) then (some ([], r1)) else ((stream_hops N a0_ a1_ a2_ a3_).bind fun r5 =>
 ((stream_hops_1 N (fun (s : (List api_Hop)) (x12 : api_Hop) => yieldT (fun v : (List api_Hop) => stream_Hops_R1 N v x12) s) r5.1 r5.2.1 r5.2.2.1 r5.2.2.2 []).bind fun o520 =>
 (some (o520, 0))))))
def stream_Told_R1 (N : Nat) (a0_ : api_Topo) (a1_ : api_Setup) (i22 : Int) (x21 : api_Hop) : Option (Int) :=
 ((idx a0_.Links (w64 (Int.tdiv x21.Port 2))).bind fun e524 =>
 (some (w64 ((w64 ((w64 (x21.Open + x21.Long)) + e524.Delay)) + a1_.Proc))))
def stream_Told (N : Nat) (a0_ : api_Topo) (a1_ : api_Setup) (a2_ : api_Stream) (a3_ : Int) : Option (Int × Int) :=
 ((stream_due N a0_ a1_ a2_ a3_).bind fun r7 =>
 (if (r7 != 0) then (some (0, r7)) else ((stream_hops N a0_ a1_ a2_ a3_).bind fun r14 =>
 ((stream_hops_1 N (fun (s : Int) (x21 : api_Hop) => yieldT (fun v : Int => stream_Told_R1 N a0_ a1_ v x21) s) r14.1 r14.2.1 r14.2.2.1 r14.2.2.2 0).bind fun o527 =>
 (some (o527, 0))))))
def law22_works (N : Nat) : Option (Bool) :=
 ((law22_line N).bind fun r1 =>
 ((law22_setup N).bind fun r2 =>
 ((law22_scheduled N).bind fun r3 =>
 ((stream_Hops N r1 r2 r3 0).bind fun r4 =>
 ((stream_Told N r1 r2 r3 0).bind fun r5 =>
 ((stream_Hops N r1 r2 r3 1).bind fun r6 =>
 (((if (r4.2 != 0) then (some true) else (if (r5.2 != 0) then (some true) else (if (((List.length r4.1 : Nat) : Int) != 2) then (some true) else ((idx r4.1 0).bind fun e13 => (if (!((e13.Port == 0) && ((e13.Early == 0) && ((e13.Late == 0) && ((e13.Open == 0) && ((e13.Long == 800) && true)))))) then (some true) else ((idx r4.1 1).bind fun e16 => (some (!((e16.Port == 2) && ((e16.Early == 811) && ((e16.Late == 819) && ((e16.Open == 900) && ((e16.Long == 800) && true)))))))))))))).bind fun (j17 : Bool) =>
 (if j17 then (some false) else ((((stream_Check N r1 (api_Stream.mk r3.Id r3.Talker 1 r3.Class r3.Size r3.Period r3.Bucket r3.Deadline r3.Routes)).bind fun r19 => (if (r19 == 321) then ((stream_Check N r1 (api_Stream.mk r3.Id r3.Talker r3.Listener r3.Class 83 r3.Period r3.Bucket r3.Deadline r3.Routes)).bind fun r21 => (if (r21 == 321) then ((stream_Check N r1 (api_Stream.mk r3.Id r3.Talker r3.Listener r3.Class r3.Size r3.Period r3.Bucket r3.Deadline ([[2, 0]]))).bind fun r23 => (some (r23 == 321))) else (some false))) else (some false)))).bind fun (j26 : Bool) =>
 (((if (r5.1 == 1715) then (if (r6.2 == 2) then (if j26 then ((stream_CheckAll N r1 ([r3, r3])).bind fun r30 => (if (r30 == 322) then ((stream_Check N r1 r3).bind fun r32 => (some (r32 == 0))) else (some false))) else (some false)) else (some false)) else (some false))).bind fun (j37 : Bool) =>
 (some j37)))))))))))
def law22_StreamKnown_L1 (N : Nat) (r1 : api_Topo) (i4 : Int) : Option ((Int) ⊕ ((Unit) ⊕ (Bool))) :=
 (if (decide (i4 < ((List.length [(api_Setup.mk 0 0 0 0), (api_Setup.mk 10001 0 0 8000), (api_Setup.mk 1 1001 0 8000), (api_Setup.mk 1 (-1) 0 8000), (api_Setup.mk 1 0 10001 8000), (api_Setup.mk 1 0 0 1541), (api_Setup.mk 1 0 0 65537)] : Nat) : Int))) then ((idx [(api_Setup.mk 0 0 0 0), (api_Setup.mk 10001 0 0 8000), (api_Setup.mk 1 1001 0 8000), (api_Setup.mk 1 (-1) 0 8000), (api_Setup.mk 1 0 10001 8000), (api_Setup.mk 1 0 0 1541), (api_Setup.mk 1 0 0 65537)] i4).bind fun e506 =>
 ((stream_Hops N r1 e506 (api_Stream.mk 0 0 0 0 0 0 (api_Bucket.mk 0 0) 0 ([])) 0).bind fun r507 =>
 ((((idx [(api_Setup.mk 0 0 0 0), (api_Setup.mk 10001 0 0 8000), (api_Setup.mk 1 1001 0 8000), (api_Setup.mk 1 (-1) 0 8000), (api_Setup.mk 1 0 10001 8000), (api_Setup.mk 1 0 0 1541), (api_Setup.mk 1 0 0 65537)] i4).bind fun e508 => ((stream_CheckSetup N e508).bind fun r509 => (if (r509 != 320) then (some true) else (some (r507.2 != 320)))))).bind fun (j512 : Bool) =>
 (if j512 then (some (.inr (.inr false))) else (some (.inl (w64 (i4 + 1)))))))) else (some (.inr (.inl ()))))
def law22_StreamKnown (N : Nat) : Option (Bool) :=
 ((law22_line N).bind fun r1 =>
 ((law22_setup N).bind fun r2 =>
 ((law22_scheduled N).bind fun r3 =>
 ((iterF (fun x : Int => law22_StreamKnown_L1 N r1 x) N 0).bind fun o514 => match o514 with
 | (.inl p515) => ((((stream_Check N r1 (api_Stream.mk 0 r3.Talker r3.Listener r3.Class r3.Size r3.Period r3.Bucket r3.Deadline r3.Routes)).bind fun r516 => (if (r516 != 321) then (some true) else ((stream_CheckAll N r1 ([r3, (api_Stream.mk 0 r3.Talker r3.Listener r3.Class r3.Size r3.Period r3.Bucket r3.Deadline r3.Routes)])).bind fun r519 => (some (r519 != 321)))))).bind fun (j520 : Bool) =>
 (if j520 then (some false) else ((((stream_Check N r1 (api_Stream.mk 4096 r3.Talker r3.Listener r3.Class r3.Size r3.Period r3.Bucket r3.Deadline r3.Routes)).bind fun r522 => (if (r522 != 321) then (some true) else ((stream_CheckAll N r1 ([r3, (api_Stream.mk 4096 r3.Talker r3.Listener r3.Class r3.Size r3.Period r3.Bucket r3.Deadline r3.Routes)])).bind fun r525 => (some (r525 != 321)))))).bind fun (j526 : Bool) =>
 (if j526 then (some false) else ((((stream_Check N r1 (api_Stream.mk r3.Id 1 r3.Listener r3.Class r3.Size r3.Period r3.Bucket r3.Deadline r3.Routes)).bind fun r528 => (if (r528 != 321) then (some true) else ((stream_CheckAll N r1 ([r3, (api_Stream.mk r3.Id 1 r3.Listener r3.Class r3.Size r3.Period r3.Bucket r3.Deadline r3.Routes)])).bind fun r531 => (some (r531 != 321)))))).bind fun (j532 : Bool) =>
 (if j532 then (some false) else ((((stream_Check N r1 (api_Stream.mk r3.Id r3.Talker r3.Listener r3.Class 1543 r3.Period r3.Bucket r3.Deadline r3.Routes)).bind fun r534 => (if (r534 != 321) then (some true) else ((stream_CheckAll N r1 ([r3, (api_Stream.mk r3.Id r3.Talker r3.Listener r3.Class 1543 r3.Period r3.Bucket r3.Deadline r3.Routes)])).bind fun r537 => (some (r537 != 321)))))).bind fun (j538 : Bool) =>
 (if j538 then (some false) else ((((stream_Check N r1 (api_Stream.mk r3.Id r3.Talker r3.Listener r3.Class r3.Size r3.Period r3.Bucket 0 r3.Routes)).bind fun r540 => (if (r540 != 321) then (some true) else ((stream_CheckAll N r1 ([r3, (api_Stream.mk r3.Id r3.Talker r3.Listener r3.Class r3.Size r3.Period r3.Bucket 0 r3.Routes)])).bind fun r543 => (some (r543 != 321)))))).bind fun (j544 : Bool) =>
 (if j544 then (some false) else ((((stream_Check N r1 (api_Stream.mk r3.Id r3.Talker r3.Listener r3.Class r3.Size 241 r3.Bucket r3.Deadline r3.Routes)).bind fun r546 => (if (r546 != 321) then (some true) else ((stream_CheckAll N r1 ([r3, (api_Stream.mk r3.Id r3.Talker r3.Listener r3.Class r3.Size 241 r3.Bucket r3.Deadline r3.Routes)])).bind fun r549 => (some (r549 != 321)))))).bind fun (j550 : Bool) =>
 (if j550 then (some false) else ((((stream_Check N r1 (api_Stream.mk r3.Id r3.Talker r3.Listener r3.Class r3.Size r3.Period (api_Bucket.mk r3.Bucket.Burst 1) r3.Deadline r3.Routes)).bind fun r552 => (if (r552 != 321) then (some true) else ((stream_CheckAll N r1 ([r3, (api_Stream.mk r3.Id r3.Talker r3.Listener r3.Class r3.Size r3.Period (api_Bucket.mk r3.Bucket.Burst 1) r3.Deadline r3.Routes)])).bind fun r555 => (some (r555 != 321)))))).bind fun (j556 : Bool) =>
 (if j556 then (some false) else ((((stream_Check N r1 (api_Stream.mk r3.Id r3.Talker r3.Listener 6 r3.Size 1 (api_Bucket.mk 100 1) r3.Deadline r3.Routes)).bind fun r558 => (if (r558 != 321) then (some true) else ((stream_CheckAll N r1 ([r3, (api_Stream.mk r3.Id r3.Talker r3.Listener 6 r3.Size 1 (api_Bucket.mk 100 1) r3.Deadline r3.Routes)])).bind fun r561 => (some (r561 != 321)))))).bind fun (j562 : Bool) =>
 (if j562 then (some false) else ((((stream_Check N r1 (api_Stream.mk r3.Id r3.Talker r3.Listener 6 r3.Size 0 (api_Bucket.mk 99 1) r3.Deadline r3.Routes)).bind fun r564 => (if (r564 != 321) then (some true) else ((stream_CheckAll N r1 ([r3, (api_Stream.mk r3.Id r3.Talker r3.Listener 6 r3.Size 0 (api_Bucket.mk 99 1) r3.Deadline r3.Routes)])).bind fun r567 => (some (r567 != 321)))))).bind fun (j568 : Bool) =>
 (if j568 then (some false) else ((((stream_Check N r1 (api_Stream.mk r3.Id r3.Talker r3.Listener 6 r3.Size 0 (api_Bucket.mk 100 0) r3.Deadline r3.Routes)).bind fun r570 => (if (r570 != 321) then (some true) else ((stream_CheckAll N r1 ([r3, (api_Stream.mk r3.Id r3.Talker r3.Listener 6 r3.Size 0 (api_Bucket.mk 100 0) r3.Deadline r3.Routes)])).bind fun r573 => (some (r573 != 321)))))).bind fun (j574 : Bool) =>
 (if j574 then (some false) else ((((stream_Check N r1 (api_Stream.mk r3.Id r3.Talker r3.Listener 5 r3.Size 0 (api_Bucket.mk 100 1) r3.Deadline r3.Routes)).bind fun r576 => (if (r576 != 321) then (some true) else ((stream_CheckAll N r1 ([r3, (api_Stream.mk r3.Id r3.Talker r3.Listener 5 r3.Size 0 (api_Bucket.mk 100 1) r3.Deadline r3.Routes)])).bind fun r579 => (some (r579 != 321)))))).bind fun (j580 : Bool) =>
 (if j580 then (some false) else ((((stream_Check N r1 (api_Stream.mk r3.Id r3.Talker r3.Listener r3.Class r3.Size r3.Period r3.Bucket r3.Deadline ([]))).bind fun r582 => (if (r582 != 321) then (some true) else ((stream_CheckAll N r1 ([r3, (api_Stream.mk r3.Id r3.Talker r3.Listener r3.Class r3.Size r3.Period r3.Bucket r3.Deadline ([]))])).bind fun r585 => (some (r585 != 321)))))).bind fun (j586 : Bool) =>
 (if j586 then (some false) else ((((stream_Check N r1 (api_Stream.mk r3.Id r3.Talker r3.Listener r3.Class r3.Size r3.Period r3.Bucket r3.Deadline ([[0, 2], [0, 2]]))).bind fun r588 => (if (r588 != 321) then (some true) else ((stream_CheckAll N r1 ([r3, (api_Stream.mk r3.Id r3.Talker r3.Listener r3.Class r3.Size r3.Period r3.Bucket r3.Deadline ([[0, 2], [0, 2]]))])).bind fun r591 => (some (r591 != 321)))))).bind fun (j592 : Bool) =>
 (if j592 then (some false) else ((stream_Told N (api_Topo.mk 4 ([false, false, true, true]) ([(api_Link.mk 2 0 1 0), (api_Link.mk 2 1 1 0), (api_Link.mk 0 3 2 0), (api_Link.mk 1 3 2 0)])) (api_Setup.mk 1 0 0 1542) (api_Stream.mk 9 2 3 7 84 1 (api_Bucket.mk 0 0) 1 ([[0, 4], [2, 6]])) 1).bind fun r594 =>
 ((stream_Told N (api_Topo.mk 4 ([false, false, true, true]) ([(api_Link.mk 2 0 1 0), (api_Link.mk 2 1 1 0), (api_Link.mk 0 3 2 0), (api_Link.mk 1 3 2 0)])) (api_Setup.mk 1 0 0 1542) (api_Stream.mk 9 2 3 7 84 1 (api_Bucket.mk 0 0) 1 ([[0, 4], [2, 6]])) 2).bind fun r595 =>
 ((stream_Told N r1 r2 (api_Stream.mk r3.Id r3.Talker r3.Listener 6 r3.Size 0 (api_Bucket.mk 100 1) r3.Deadline r3.Routes) 0).bind fun r596 =>
 ((stream_Hops N (api_Topo.mk 0 ([]) ([])) (api_Setup.mk 0 0 0 0) (api_Stream.mk 0 0 0 0 0 0 (api_Bucket.mk 0 0) 0 ([])) 0).bind fun r597 =>
 ((stream_Hops N r1 r2 (api_Stream.mk 0 0 0 0 0 0 (api_Bucket.mk 0 0) 0 ([])) (-1)).bind fun r598 =>
 ((stream_Index N ([(api_Stream.mk 3 0 0 0 0 0 (api_Bucket.mk 0 0) 0 ([])), (api_Stream.mk 4 0 0 0 0 0 (api_Bucket.mk 0 0) 0 ([])), (api_Stream.mk 4 0 0 0 0 0 (api_Bucket.mk 0 0) 0 ([]))]) 4).bind fun r599 =>
 ((stream_Index N ([]) 0).bind fun r600 =>
 ((((stream_CheckSetup N r2).bind fun r601 => (if (r601 == 0) then ((stream_Check N r1 (api_Stream.mk r3.Id r3.Talker r3.Listener 6 r3.Size 0 (api_Bucket.mk 100 1) r3.Deadline r3.Routes)).bind fun r603 => (if (r603 == 0) then ((stream_Check N (api_Topo.mk 4 ([false, false, true, true]) ([(api_Link.mk 2 0 1 0), (api_Link.mk 2 1 1 0), (api_Link.mk 0 3 2 0), (api_Link.mk 1 3 2 0)])) (api_Stream.mk 9 2 3 7 84 1 (api_Bucket.mk 0 0) 1 ([[0, 4], [2, 6]]))).bind fun r605 => (if (r605 == 0) then ((stream_CheckAll N r1 ([])).bind fun r607 => (some (r607 == 0))) else (some false))) else (some false))) else (some false)))).bind fun (j611 : Bool) =>
 ((((stream_Check N (api_Topo.mk 0 ([]) ([])) r3).bind fun r612 => (if (r612 == 260) then ((stream_CheckAll N r1 (List.replicate 13 (api_Stream.mk 0 0 0 0 0 0 (api_Bucket.mk 0 0) 0 ([])))).bind fun r616 => (if (r616 == 3) then ((stream_CheckAll N (api_Topo.mk 0 ([]) ([])) (List.replicate 13 (api_Stream.mk 0 0 0 0 0 0 (api_Bucket.mk 0 0) 0 ([])))).bind fun r620 => (if (r620 == 260) then (if (r597.2 == 260) then (some (r598.2 == 321)) else (some false)) else (some false))) else (some false))) else (some false)))).bind fun (j628 : Bool) =>
 ((((law22_works N).bind fun r629 => (if r629 then ((ref16_Right N (api_Topo.mk 4 ([false, false, true, true]) ([(api_Link.mk 2 0 1 0), (api_Link.mk 2 1 1 0), (api_Link.mk 0 3 2 0), (api_Link.mk 1 3 2 0)]))).bind fun r631 => (if r631 then (if (r594.1 == 252) then (if (r594.2 == 0) then (if (r595.2 == 2) then (if (r596.2 == 2) then (if (r599.1 == 1) then (if (r599.2 == 0) then (if (r600.2 == 4) then (if j611 then (some j628) else (some false)) else (some false)) else (some false)) else (some false)) else (some false)) else (some false)) else (some false)) else (some false)) else (some false))) else (some false)))).bind fun (j651 : Bool) =>
 (some j651)))))))))))))))))))))))))))))))))))))
 | (.inr p652) => (some p652)))))
end Go.Sh

