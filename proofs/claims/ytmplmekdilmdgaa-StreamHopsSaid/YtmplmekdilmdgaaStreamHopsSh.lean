/- Part of the proof; written by a program out of the texts in wip/. -/
import Derived.Test.YtmplmekdilmdgaaStreamHopsE31
namespace Go.Sh
open Go Go.Eng
set_option linter.unusedVariables false
set_option linter.unusedSimpArgs false
set_option maxRecDepth 100000
structure Zau where
 Bridges:Int
 Stations:Int
 Chords:(List Int)
 Homes:(List Int)
 Pers:(List Int)
 Delays:(List Int)
structure ZaS where
 Reserved:Bool
 Two:Bool
 Node:Int
 Way:Int
 Size:Int
 Period:Int
 Burst:Int
 Rate:Int
def Zc5 (v:ZaS):List PC:=[.bool v.Reserved,.bool v.Two,.int .u8 v.Node,.int .u8 v.Way,.int .u8 v.Size,.int .u8 v.Period,.int .u8 v.Burst,.int .u16 v.Rate]
structure ZoH where
 x0:Int
 x1:Int
 x2:Int
structure Zbv where
 Burst:Int
 Rate:Int
structure Zm where
 Id:Int
 Talker:Int
 Listener:Int
 Class:Int
 Size:Int
 Period:Int
 Bucket:Zbv
 Deadline:Int
 Routes:(List (List Int))
def Zf (v:Zm):List PC:=[.int .i64 v.Id,.int .i64 v.Talker,.int .i64 v.Listener,.int .i64 v.Class,.int .i64 v.Size,.int .i64 v.Period,.int .i64 v.Bucket.Burst,.int .i64 v.Bucket.Rate,.int .i64 v.Deadline,.sl 1 false (List.map (eSl 1 eI64) v.Routes)]
structure ZE where
 Grid:Int
 Slack:Int
 Proc:Int
 Cap:Int
structure Zbj where
 T:Zau
 L:(List ZaS)
 U:ZoH
 At:Int
 Bit:Int
 Odd:Zm
 Setup:ZE
def Zmd (v:Zbj):List PC:=[.int .u8 v.T.Bridges,.int .u8 v.T.Stations,.sl 1 false (List.map (eI .u8) v.T.Chords),.sl 1 false (List.map (eI .u8) v.T.Homes),.sl 1 false (List.map (eI .u8) v.T.Pers),.sl 1 false (List.map (eI .u8) v.T.Delays),.sl 8 false (List.map Zc5 v.L),.int .u8 v.U.x0,.int .u8 v.U.x1,.int .u8 v.U.x2,.int .u8 v.At,.int .u8 v.Bit,.int .i64 v.Odd.Id,.int .i64 v.Odd.Talker,.int .i64 v.Odd.Listener,.int .i64 v.Odd.Class,.int .i64 v.Odd.Size,.int .i64 v.Odd.Period,.int .i64 v.Odd.Bucket.Burst,.int .i64 v.Odd.Bucket.Rate,.int .i64 v.Odd.Deadline,.sl 1 false (List.map (eSl 1 eI64) v.Odd.Routes),.int .i64 v.Setup.Grid,.int .i64 v.Setup.Slack,.int .i64 v.Setup.Proc,.int .i64 v.Setup.Cap]
structure Zy where
 A:Int
 B:Int
 Per:Int
 Delay:Int
def Zp (v:Zy):List PC:=[.int .i64 v.A,.int .i64 v.B,.int .i64 v.Per,.int .i64 v.Delay]
structure Zi where
 Nodes:Int
 Station:(List Bool)
 Links:(List Zy)
structure Zab where
 x0:(List Zm)
 x1:(List Zm)
structure ZJ where
 Port:Int
 Early:Int
 Late:Int
 Open:Int
 Long:Int
def ZK (v:ZJ):List PC:=[.int .i64 v.Port,.int .i64 v.Early,.int .i64 v.Late,.int .i64 v.Open,.int .i64 v.Long]
structure ZbN where
 x0:Bool
 x1:Bool
 x2:Bool
 x3:Bool
 x4:Bool
 x5:Bool
 x6:Bool
 x7:Bool
 x8:Bool
 x9:Bool
 x10:Bool
 x11:Bool
 x12:Bool
 x13:Bool
 x14:Bool
 x15:Bool
 x16:Bool
 x17:Bool
 x18:Bool
 x19:Bool
 x20:Bool
 x21:Bool
 x22:Bool
 x23:Bool
structure ZX where
 Topo:Zi
structure Zr where
 x0:Bool
 x1:Bool
 x2:Bool
 x3:Bool
 x4:Bool
 x5:Bool
 x6:Bool
 x7:Bool
 x8:Bool
 x9:Bool
 x10:Bool
 x11:Bool
structure ZaL where
 port:Int
 from_:Int
 to_:Int
abbrev s_eB (f:Bool) (l:List Bool):AV:=.p (.sl 1 f (List.map eB l))
abbrev Zh (f:Bool) (l:List Zy):AV:=.p (.sl 4 f (List.map Zp l))
abbrev Z1 (f:Bool) (l:List ZJ):AV:=.p (.sl 5 f (List.map ZK l))
abbrev ZaE (f:Bool) (l:List ZaS):AV:=.p (.sl 8 f (List.map Zc5 l))
abbrev Zd (f:Bool) (l:List Zm):AV:=.p (.sl 10 f (List.map Zf l))
abbrev Zl (f:Bool) (l:List (List Int)):AV:=.p (.sl 1 f (List.map (eSl 1 eI64) l))
abbrev Zdz (f:Bool) (l:List Int):AV:=.p (.sl 1 f (List.map (eI .u8) l))
abbrev Zk (f:Bool) (l:List Int):AV:=.p (.sl 1 f (List.map eI64 l))
abbrev Zz (v:Zau):List AV:=[.p (.int .u8 v.Bridges),.p (.int .u8 v.Stations),Zdz false v.Chords,Zdz false v.Homes,Zdz false v.Pers,Zdz false v.Delays]
abbrev ZG (v:ZaS):List AV:=[bv v.Reserved,bv v.Two,.p (.int .u8 v.Node),.p (.int .u8 v.Way),.p (.int .u8 v.Size),.p (.int .u8 v.Period),.p (.int .u8 v.Burst),.p (.int .u16 v.Rate)]
abbrev Zee (v:Zbv):List AV:=[iv v.Burst,iv v.Rate]
abbrev Ze (v:Zm):List AV:=[iv v.Id,iv v.Talker,iv v.Listener,iv v.Class,iv v.Size,iv v.Period,iv v.Bucket.Burst,iv v.Bucket.Rate,iv v.Deadline,Zl false v.Routes]
abbrev Zn (v:ZE):List AV:=[iv v.Grid,iv v.Slack,iv v.Proc,iv v.Cap]
abbrev ZI (v:Zbj):List AV:=[.p (.int .u8 v.T.Bridges),.p (.int .u8 v.T.Stations),Zdz false v.T.Chords,Zdz false v.T.Homes,Zdz false v.T.Pers,Zdz false v.T.Delays,ZaE false v.L,.p (.int .u8 v.U.x0),.p (.int .u8 v.U.x1),.p (.int .u8 v.U.x2),.p (.int .u8 v.At),.p (.int .u8 v.Bit),iv v.Odd.Id,iv v.Odd.Talker,iv v.Odd.Listener,iv v.Odd.Class,iv v.Odd.Size,iv v.Odd.Period,iv v.Odd.Bucket.Burst,iv v.Odd.Bucket.Rate,iv v.Odd.Deadline,Zl false v.Odd.Routes,iv v.Setup.Grid,iv v.Setup.Slack,iv v.Setup.Proc,iv v.Setup.Cap]
abbrev ZR (v:Zy):List AV:=[iv v.A,iv v.B,iv v.Per,iv v.Delay]
abbrev Za (v:Zi):List AV:=[iv v.Nodes,s_eB false v.Station,Zh false v.Links]
abbrev ZD (v:Zab):List AV:=[Zd false v.x0,Zd false v.x1]
abbrev Za7 (v:ZJ):List AV:=[iv v.Port,iv v.Early,iv v.Late,iv v.Open,iv v.Long]
abbrev Zar (v:ZbN):List AV:=[bv v.x0,bv v.x1,bv v.x2,bv v.x3,bv v.x4,bv v.x5,bv v.x6,bv v.x7,bv v.x8,bv v.x9,bv v.x10,bv v.x11,bv v.x12,bv v.x13,bv v.x14,bv v.x15,bv v.x16,bv v.x17,bv v.x18,bv v.x19,bv v.x20,bv v.x21,bv v.x22,bv v.x23]
def ZbN.l (v:ZbN):List Bool:=[v.x0,v.x1,v.x2,v.x3,v.x4,v.x5,v.x6,v.x7,v.x8,v.x9,v.x10,v.x11,v.x12,v.x13,v.x14,v.x15,v.x16,v.x17,v.x18,v.x19,v.x20,v.x21,v.x22,v.x23]
def ZbN.get (v:ZbN) (i:Int):Option Bool:=idx v.l i
abbrev Zx (v:Zr):List AV:=[bv v.x0,bv v.x1,bv v.x2,bv v.x3,bv v.x4,bv v.x5,bv v.x6,bv v.x7,bv v.x8,bv v.x9,bv v.x10,bv v.x11]
def Zr.l (v:Zr):List Bool:=[v.x0,v.x1,v.x2,v.x3,v.x4,v.x5,v.x6,v.x7,v.x8,v.x9,v.x10,v.x11]
def Zr.ofL (l:List Bool):Zr:=⟨l.getD 0 false,l.getD 1 false,l.getD 2 false,l.getD 3 false,l.getD 4 false,l.getD 5 false,l.getD 6 false,l.getD 7 false,l.getD 8 false,l.getD 9 false,l.getD 10 false,l.getD 11 false⟩
def Zr.get (v:Zr) (i:Int):Option Bool:=idx v.l i
def Zr.set (v:Zr) (i:Int) (x:Bool):Zr:=Zr.ofL (v.l.set i.toNat x)
theorem Zr.l_ofL (l:List Bool) (h:l.length=12):(Zr.ofL l).l=l:=Zoi 12 false l h rfl
theorem Zr.l_set (v:Zr) (i:Int) (x:Bool):(v.set i x).l=v.l.set i.toNat x:=Zr.l_ofL _ (by rw [List.length_set];rfl)
theorem Zr.c_set (v:Zr) (i:Int) (x:Bool):Zx (v.set i x)=(v.l.set i.toNat x).map (fun x=>bv x):=by rw [← Zr.l_set];rfl
abbrev Z6 (v:ZaL):List AV:=[iv v.port,iv v.from_,iv v.to_]
def Zb1 (N:Nat) (a0_:Int) (a1_:Int) (a2_:Int):Option (ZE) :=
 (some (ZE.mk (w64 (100+(w64 (20 * (w64 (a0_)))))) (w64 ((Int.tmod a1_ 40))) (w64 (a2_)) 8000))
def Zbg (N:Nat) (a0_:(List ZJ)) (a1_:(List ZJ)) (i2:Int):Option ((Int) ⊕ ((Unit) ⊕ (Bool))) :=
 (if (decide (i2<((List.length a0_:Nat):Int))) then ((idx a0_ i2).bind fun e504 =>
 ((idx a1_ i2).bind fun e505 =>
 (if (!((e504.Port==e505.Port)&&((e504.Early==e505.Early)&&((e504.Late==e505.Late)&&((e504.Open==e505.Open)&&((e504.Long==e505.Long)&&true)))))) then (some (.inr (.inr false))) else (some (.inl (w64 (i2+1))))))) else (some (.inr (.inl ()))))
def Z7 (N:Nat) (a0_:(List ZJ)) (a1_:(List ZJ)):Option (Bool) :=
 (if (((List.length a0_:Nat):Int) != ((List.length a1_:Nat):Int)) then (some false) else ((Zac (fun x:Int=>Zbg N a0_ a1_ x) N 0).bind fun o507=>match o507 with
 | (.inl p508)=>(some true)
 | (.inr p509)=>(some p509)))
def ZgA (N:Nat):Option (Zi) :=
 (some (Zi.mk 3 ([true,false,true]) ([(Zy.mk 0 1 8 5),(Zy.mk 1 2 8 5)])))
def ZfG (N:Nat):Option (ZE) :=
 (some (ZE.mk 100 2 10 8000))
def ZdF (N:Nat):Option (Zm) :=
 (some (Zm.mk 1 0 2 7 100 20 (Zbv.mk 0 0) 10000 ([[0,2]])))
def Zc2 (N:Nat) (a0_:(List Int)) (a1_:Int):Option (Int) :=
 (if (decide (a1_<((List.length a0_:Nat):Int))) then ((idx a0_ a1_).bind fun e2 =>
 (some (w64 (e2)))) else (some 0))
def Zfw (N:Nat) (a0_:Zi) (a1_:ZE) (a2_:Zm) (a3_:Int):Option (Zm × Int × Zi × ZE) :=
 (some (a2_,a3_,a0_,a1_))
def Zao (N:Nat) (a0_:Int) (a1_:Int) (a2_:Int):Option (Bool) :=
 (some ((decide (a0_ ≥ a1_))&&(decide (a0_≤a2_))))
def ZdS (N:Nat) (a0_:Zy) (a1_:Int) (a2_:Int):Option (Bool) :=
 (some (if (a0_.A==a1_) then ((a0_.B==a2_)||((a0_.A==a2_)&&(a0_.B==a1_))) else ((a0_.A==a2_)&&(a0_.B==a1_))))
def ZaI {σ:Type} (N:Nat) (y_:σ→ZJ→Option (σ × Bool)) (c0_:Zm) (c2_:Zi) (c3_:ZE) (e3:(List Int)) (i6:Int) (i7:Int) (i10:Int) (i11:Int) (i12:Int) (i8:Int) (g9:σ):Option ((Int × Int × Int × Int × Int × Int × σ) ⊕ ((σ) ⊕ (σ))) :=
 (if (decide (i6<((List.length e3:Nat):Int))) then ((idx e3 i6).bind fun e516 =>
 (((if (decide (i6 > 0)) then ((idx c2_.Links (w64 (Int.tdiv i7 2))).bind fun e1020 =>
 ((quoI .i64 (w64 ((w64 ((w64 ((w64 ((w64 ((w64 (i12+i8))+e1020.Delay))+c3_.Proc))+(w64 (2 * c3_.Slack))))+c3_.Grid)) - 1)) c3_.Grid).bind fun q1026 =>
 (some ((w64 ((w64 ((w64 ((w64 (i12+i8))+e1020.Delay))+c3_.Proc)) - (w64 (2 * c3_.Slack)))),(w64 ((w64 ((w64 ((w64 (i12+i8))+e1020.Delay))+c3_.Proc))+(w64 (2 * c3_.Slack)))),(w64 (q1026 * c3_.Grid)))))) else (some (i10,i11,i12)))).bind fun (j1017:Int × Int × Int) =>
 ((idx c2_.Links (w64 (Int.tdiv e516 2))).bind fun e1030 =>
 ((y_ g9 (ZJ.mk e516 j1017.1 j1017.2.1 j1017.2.2 (w64 (c0_.Size * e1030.Per)))).bind fun r1031 =>
 (if (!r1031.2) then (some (.inr (.inr r1031.1))) else (some (.inl ((w64 (i6+1)),e516,j1017.1,j1017.2.1,j1017.2.2,(w64 (c0_.Size * e1030.Per)),r1031.1)))))))) else (some (.inr (.inl g9))))
def ZbX {σ:Type} (N:Nat) (y_:σ→ZJ→Option (σ × Bool)) (c0_:Zm) (c1_:Int) (c2_:Zi) (c3_:ZE) (s_:σ):Option (σ) :=
 ((idx c0_.Routes c1_).bind fun e3 =>
 ((Zac (fun x:Int × Int × Int × Int × Int × Int × σ=>ZaI N y_ c0_ c2_ c3_ e3 x.1 x.2.1 x.2.2.1 x.2.2.2.1 x.2.2.2.2.1 x.2.2.2.2.2.1 x.2.2.2.2.2.2) N (0,0,0,0,0,0,s_)).bind fun o1035=>match o1035 with
 | (.inl p1036)=>(some p1036)
 | (.inr p1037)=>(some p1037)))
def Zft (N:Nat) (a0_:Zi) (a1_:Int):Option (Int) :=
 ((idx a0_.Links (w64 (Int.tdiv a1_ 2))).bind fun e1 =>
 (some e1.Per))
def ZdT (N:Nat) (a0_:Zi) (a1_:Int):Option (Int) :=
 ((idx a0_.Links (w64 (Int.tdiv a1_ 2))).bind fun e1 =>
 (some e1.Delay))
def ZbW (N:Nat) (a0_:Zi) (a1_:Int):Option (Int) :=
 ((idx a0_.Links (w64 (Int.tdiv a1_ 2))).bind fun e1 =>
 (if ((Int.tmod a1_ 2)==1) then (some e1.B) else (some e1.A)))
def ZcK (N:Nat) (a0_:Zi) (a1_:Int):Option (Int) :=
 ((idx a0_.Links (w64 (Int.tdiv a1_ 2))).bind fun e1 =>
 (if ((Int.tmod a1_ 2)==1) then (some e1.A) else (some e1.B)))
def Zbk (N:Nat) (a0_:Zi) (a2_:ZbN) (i517:Int) (l518:(List Bool)):Option ((Int × (List Bool)) ⊕ (((List Bool)))) :=
 (if (decide (i517<((List.length a0_.Links:Nat):Int))) then ((((idx a0_.Links i517).bind fun e1525 =>
 ((((a2_.get i517).bind fun e1526=>(if (!e1526) then ((idx l518 e1525.A).bind fun e1528=>((idx l518 e1525.B).bind fun e1531=>(some (e1528 != e1531)))) else (some false)))).bind fun (j1535:Bool) =>
 (if j1535 then ((idx l518 e1525.A).bind fun e1537 =>
 ((idx (List.set l518 (Int.toNat e1525.A) true) e1525.B).bind fun e1541 =>
 (some (List.set (List.set l518 (Int.toNat e1525.A) true) (Int.toNat e1525.B) true)))) else (some l518))))).bind fun (j1524:(List Bool)) =>
 (some (.inl ((w64 (i517+1)),j1524)))) else (some (.inr l518)))
def ZbC (N:Nat) (a0_:Zi) (a2_:ZbN) (i10:Int) (l11:(List Bool)):Option ((Int × (List Bool)) ⊕ (((List Bool)))) :=
 (if (decide (i10<a0_.Nodes)) then ((Zac (fun x:Int × (List Bool)=>Zbk N a0_ a2_ x.1 x.2) N (0,l11)).bind fun o1545 =>
 (some (.inl ((w64 (i10+1)),o1545)))) else (some (.inr l11)))
def Zfk (N:Nat) (a0_:Zi) (a1_:Int) (a2_:ZbN):Option ((List Bool)) :=
 ((Zjv 1 a0_.Nodes a0_.Nodes false).bind fun l3 =>
 ((idx l3 a1_).bind fun e4 =>
 ((Zac (fun x:Int × (List Bool)=>ZbC N a0_ a2_ x.1 x.2) N (0,(List.set l3 (Int.toNat a1_) true))).bind fun o1546 =>
 (some o1546))))
def Zd1 (N:Nat) (c0_:Zm):Option (Bool) :=
 ((Zao N c0_.Id 1 4095).bind fun r2 =>
 (some r2))
def ZcC (N:Nat) (a0_:Zi) (a1_:Int):Option (Bool) :=
 ((((Zao N a1_ 0 (w64 (a0_.Nodes - 1))).bind fun r1=>(if r1 then ((idx a0_.Station a1_).bind fun e3=>(some e3)) else (some false)))).bind fun (j5:Bool) =>
 (some j5))
def ZdZ (N:Nat) (c0_:Zm):Option (Bool) :=
 ((Zao N c0_.Size 84 1542).bind fun r2 =>
 (some r2))
def ZdY (N:Nat) (c0_:Zm):Option (Bool) :=
 ((Zao N c0_.Deadline 1 1099511627776).bind fun r2 =>
 (some r2))
def ZdX (N:Nat) (c0_:Zm):Option (Bool) :=
 ((Zao N ((List.length c0_.Routes:Nat):Int) 1 2).bind fun r2 =>
 (some r2))
def Zb0 (N:Nat) (a0_:Int) (a1_:Int) (a2_:Int):Option (Bool) :=
 (some ((decide (a0_ ≥ a1_))&&(decide (a0_≤a2_))))
def ZbZ (N:Nat) (a0_:Zi) (a1_:Int):Option (Bool) :=
 ((((Zb0 N a1_ 0 (w64 (a0_.Nodes - 1))).bind fun r1=>(if r1 then ((idx a0_.Station a1_).bind fun e3=>(some e3)) else (some false)))).bind fun (j5:Bool) =>
 (some j5))
def Zex (N:Nat) (a0_:Zi) (a1_:Int):Option (Bool) :=
 (some ((decide (a1_ ≥ 0))&&(decide (a1_<a0_.Nodes))))
def Zdl (N:Nat) (a0_:(List Int)) (a1_:Int) (i1:Int):Option ((Int) ⊕ ((Unit) ⊕ (Bool))) :=
 (if (decide (i1<((List.length a0_:Nat):Int))) then ((idx a0_ i1).bind fun e503 =>
 (if (e503==a1_) then (some (.inr (.inr true))) else (some (.inl (w64 (i1+1)))))) else (some (.inr (.inl ()))))
def Ze3 (N:Nat) (a0_:(List Int)) (a1_:Int):Option (Bool) :=
 ((Zac (fun x:Int=>Zdl N a0_ a1_ x) N 0).bind fun o505=>match o505 with
 | (.inl p506)=>(some false)
 | (.inr p507)=>(some p507))
def Zbx (N:Nat) (a0_:(List Int)) (a1_:(List Int)) (i1:Int):Option ((Int) ⊕ ((Unit) ⊕ (Bool))) :=
 (if (decide (i1<(w64 (((List.length a0_:Nat):Int) - 1)))) then ((idx a0_ i1).bind fun e503 =>
 ((Ze3 N a1_ e503).bind fun r504 =>
 (if r504 then (some (.inr (.inr true))) else (some (.inl (w64 (i1+1))))))) else (some (.inr (.inl ()))))
def Zc1 (N:Nat) (a0_:(List Int)) (a1_:(List Int)):Option (Bool) :=
 ((Zac (fun x:Int=>Zbx N a0_ a1_ x) N 1).bind fun o506=>match o506 with
 | (.inl p507)=>(some false)
 | (.inr p508)=>(some p508))
def Zbn (N:Nat) (a0_:Zi) (a1_:(List Int)) (i7:Int) (l8:(List Int)):Option ((Int × (List Int)) ⊕ (((List Int)))) :=
 (if (decide (i7<((List.length a1_:Nat):Int))) then ((idx a1_ i7).bind fun e512 =>
 ((ZcK N a0_ e512).bind fun r513 =>
 ((appI 8 l8 [r513]).bind fun l516 =>
 (some (.inl ((w64 (i7+1)),l516)))))) else (some (.inr l8)))
def Zcx (N:Nat) (a0_:Zi) (a1_:(List Int)):Option ((List Int)) :=
 ((idx a1_ 0).bind fun e1 =>
 ((ZbW N a0_ e1).bind fun r2 =>
 ((Zac (fun x:Int × (List Int)=>Zbn N a0_ a1_ x.1 x.2) N (0,[r2])).bind fun o517 =>
 (some o517))))
def Zfl (N:Nat) (a0_:Zi) (a1_:Int):Option (Bool) :=
 (some ((decide (a1_ ≥ 0))&&(decide (a1_<a0_.Nodes))))
def ZeX (N:Nat) (a0_:Int) (c0_:Zi):Option (Bool) :=
 ((idx c0_.Links a0_).bind fun e2 =>
 ((((idx c0_.Station e2.A).bind fun e4=>(if (!e4) then (some true) else ((idx c0_.Station e2.B).bind fun e8=>(some (!e8)))))).bind fun (j9:Bool) =>
 (some j9)))
def ZbO (N:Nat) (e2:Zy) (l4:List Zy) (i5:Int):Option ((Int) ⊕ ((Unit) ⊕ (Bool))) :=
 (if (decide (i5<((List.length l4:Nat):Int))) then ((idx l4 i5).bind fun e507 =>
 (if (if (e2.A==e507.A) then ((e2.B==e507.B)||((e2.A==e507.B)&&(e2.B==e507.A))) else ((e2.A==e507.B)&&(e2.B==e507.A))) then (some (.inr (.inr false))) else (some (.inl (w64 (i5+1)))))) else (some (.inr (.inl ()))))
def Zd9 (N:Nat) (a0_:Int) (c0_:Zi):Option (Bool) :=
 ((idx c0_.Links a0_).bind fun e2 =>
 ((subI c0_.Links 0 a0_).bind fun l4 =>
 ((Zac (fun x:Int=>ZbO N e2 l4 x) N 0).bind fun o517=>match o517 with
 | (.inl p518)=>(some true)
 | (.inr p519)=>(some p519))))
def ZeW (N:Nat) (a0_:Int) (c0_:Zi):Option (Bool) :=
 ((idx c0_.Links a0_).bind fun e2 =>
 (some ((decide (e2.Per ≥ 1))&&((decide (e2.Per≤1000))&&((decide (e2.Delay ≥ 0))&&(decide (e2.Delay≤10000)))))))
def Zad (N:Nat) (a0_:(List Bool)) (a1_:Bool) (i1:Int):Option ((Int) ⊕ ((Unit) ⊕ (Int))) :=
 (if (decide (i1<((List.length a0_:Nat):Int))) then ((idx a0_ i1).bind fun e503 =>
 (if (a1_==e503) then (some (.inr (.inr i1))) else (some (.inl (w64 (i1+1)))))) else (some (.inr (.inl ()))))
def ZbE (N:Nat) (a0_:(List Bool)) (a1_:Bool):Option (Int) :=
 ((Zac (fun x:Int=>Zad N a0_ a1_ x) N 0).bind fun o505=>match o505 with
 | (.inl p506)=>(some (-1))
 | (.inr p507)=>(some p507))
def Zco (N:Nat) (a0_:Int) (a1_:Int) (a2_:Int):Option (Bool) :=
 (some ((decide (a1_≤a0_))&&(decide (a0_≤a2_))))
def ZbP (N:Nat) (a1_:(List Int)) (e503:Int) (i504:Int):Option ((Int) ⊕ ((Unit) ⊕ (Bool))) :=
 (if (decide (i504<((List.length a1_:Nat):Int))) then ((idx a1_ i504).bind fun e1006 =>
 (if ((w64 (Int.tdiv e503 2))==(w64 (Int.tdiv e1006 2))) then (some (.inr (.inr true))) else (some (.inl (w64 (i504+1)))))) else (some (.inr (.inl ()))))
def ZbQ (N:Nat) (a0_:(List Int)) (a1_:(List Int)) (i1:Int):Option ((Int) ⊕ ((Unit) ⊕ (Bool))) :=
 (if (decide (i1<((List.length a0_:Nat):Int))) then ((idx a0_ i1).bind fun e503 =>
 ((Zac (fun x:Int=>ZbP N a1_ e503 x) N 0).bind fun o1008=>match o1008 with
 | (.inl p1009)=>(some (.inl (w64 (i1+1))))
 | (.inr p1010)=>(some (.inr (.inr p1010))))) else (some (.inr (.inl ()))))
def Zec (N:Nat) (a0_:(List Int)) (a1_:(List Int)):Option (Bool) :=
 ((Zac (fun x:Int=>ZbQ N a0_ a1_ x) N 0).bind fun o1011=>match o1011 with
 | (.inl p1012)=>(some false)
 | (.inr p1013)=>(some p1013))
def Zfs (N:Nat) (a0_:Zi) (a1_:Int):Option (Bool) :=
 (some ((decide (a1_ ≥ 0))&&(decide (a1_<(w64 (2 * ((List.length a0_.Links:Nat):Int)))))))
def Zbp (N:Nat) (a0_:Zi) (a1_:Int) (i3:Int) (l4:(List Int)):Option ((Int × (List Int)) ⊕ (((List Int)))) :=
 (if (decide (i3<(w64 (2 * ((List.length a0_.Links:Nat):Int))))) then ((((ZbW N a0_ i3).bind fun r1011 =>
 (if (r1011==a1_) then ((appI 8 l4 [i3]).bind fun l1015 =>
 (some l1015)) else (some l4)))).bind fun (j1010:(List Int)) =>
 (some (.inl ((w64 (i3+1)),j1010)))) else (some (.inr l4)))
def ZdR (N:Nat) (a0_:Zi) (a1_:Int):Option ((List Int)) :=
 ((Zac (fun x:Int × (List Int)=>Zbp N a0_ a1_ x.1 x.2) N (0,[])).bind fun o1016 =>
 (some o1016))
def Zcn (N:Nat) (a0_:ZX) (a1_:(List Int)):Option ((List Int) × ZX) :=
 (some (a1_,a0_))
def ZU {σ:Type} (N:Nat) (y_:σ→Int→ZaL→Option (σ × Bool)) (c0_:(List Int)) (c1_:ZX) (i4:Int) (g5:σ):Option ((Int × σ) ⊕ ((σ))) :=
 (if (decide (i4<((List.length c0_:Nat):Int))) then ((idx c0_ i4).bind fun e509 =>
 (((if (decide (e509<0)) then (some true) else (some (decide (e509 ≥ (w64 (2 * ((List.length c1_.Topo.Links:Nat):Int)))))))).bind fun (j513:Bool) =>
 (if j513 then (some (.inr g5)) else ((idx c1_.Topo.Links (w64 (Int.tdiv e509 2))).bind fun e516 =>
 (((if ((Int.tmod e509 2)==1) then (some (e516.B,e516.A)) else (some (e516.A,e516.B)))).bind fun (j1017:Int × Int) =>
 ((y_ g5 i4 (ZaL.mk e509 j1017.1 j1017.2)).bind fun r1019 =>
 (if (!r1019.2) then (some (.inr r1019.1)) else (some (.inl ((w64 (i4+1)),r1019.1)))))))))) else (some (.inr g5)))
def ZbL {σ:Type} (N:Nat) (y_:σ→Int→ZaL→Option (σ × Bool)) (c0_:(List Int)) (c1_:ZX) (s_:σ):Option (σ) :=
 ((Zac (fun x:Int × σ=>ZU N y_ c0_ c1_ x.1 x.2) N (0,s_)).bind fun o1023 =>
 (some o1023))
def Zam (N:Nat) (a0_:(List Int)) (a1_:Int) (i1:Int):Option ((Int) ⊕ ((Unit) ⊕ (Int))) :=
 (if (decide (i1<((List.length a0_:Nat):Int))) then ((idx a0_ i1).bind fun e503 =>
 (if (a1_==e503) then (some (.inr (.inr i1))) else (some (.inl (w64 (i1+1)))))) else (some (.inr (.inl ()))))
def ZbY (N:Nat) (a0_:(List Int)) (a1_:Int):Option (Int) :=
 ((Zac (fun x:Int=>Zam N a0_ a1_ x) N 0).bind fun o505=>match o505 with
 | (.inl p506)=>(some (-1))
 | (.inr p507)=>(some p507))
def Zck (N:Nat) (a0_:ZE):Option (Int) :=
 ((((Zao N a0_.Grid 1 10000).bind fun r1=>(if (!r1) then (some true) else ((Zao N a0_.Slack 0 1000).bind fun r4=>(some (!r4)))))).bind fun (j5:Bool) =>
 (if j5 then (some 320) else ((((Zao N a0_.Proc 0 10000).bind fun r7=>(if (!r7) then (some true) else ((Zao N a0_.Cap 1542 65536).bind fun r10=>(some (!r10)))))).bind fun (j11:Bool) =>
 (if j11 then (some 320) else (some 0)))))
def Zdp (N:Nat) (a1_:ZE) (e513:ZJ) (r516:Int) (i520:Int):Option ((Int) ⊕ ((Int))) :=
 (if (decide (i520<(w64 ((w64 ((w64 ((w64 (e513.Open+e513.Long))+r516))+a1_.Proc))+(w64 (2 * a1_.Slack)))))) then (some (.inl (w64 (i520+a1_.Grid)))) else (some (.inr i520)))
def Zb3 (N:Nat) (a0_:Zi) (a1_:ZE) (a2_:Zm) (a3_:(List Int)) (i8:Int) (l9:(List ZJ)):Option ((Int × (List ZJ)) ⊕ (((List ZJ)))) :=
 (if (decide (i8<((List.length a3_:Nat):Int))) then ((idx l9 (w64 (i8 - 1))).bind fun e513 =>
 ((ZdT N a0_ e513.Port).bind fun r516 =>
 ((idx a3_ i8).bind fun e517 =>
 ((idx a3_ i8).bind fun e518 =>
 ((Zft N a0_ e518).bind fun r519 =>
 ((Zac (fun x:Int=>Zdp N a1_ e513 r516 x) N 0).bind fun o1022 =>
 ((appI 40 l9 [(ZJ.mk e517 (w64 ((w64 ((w64 ((w64 (e513.Open+e513.Long))+r516))+a1_.Proc)) - (w64 (2 * a1_.Slack)))) (w64 ((w64 ((w64 ((w64 (e513.Open+e513.Long))+r516))+a1_.Proc))+(w64 (2 * a1_.Slack)))) o1022 (w64 (a2_.Size * r519)))]).bind fun l1025 =>
 (some (.inl ((w64 (i8+1)),l1025)))))))))) else (some (.inr l9)))
def Zfq (N:Nat) (a0_:Zi) (a1_:ZE) (a2_:Zm) (a3_:(List Int)):Option ((List ZJ)) :=
 ((idx a3_ 0).bind fun e1 =>
 ((idx a3_ 0).bind fun e2 =>
 ((Zft N a0_ e2).bind fun r3 =>
 ((Zac (fun x:Int × (List ZJ)=>Zb3 N a0_ a1_ a2_ a3_ x.1 x.2) N (1,[(ZJ.mk e1 0 0 0 (w64 (a2_.Size * r3)))])).bind fun o1026 =>
 (some o1026)))))
def Zhn (N:Nat) (a0_:Zi) (a1_:ZE) (a2_:Zm) (a3_:(List Int)):Option (Int) :=
 ((Zfq N a0_ a1_ a2_ a3_).bind fun r1 =>
 ((idx r1 (w64 (((List.length r1:Nat):Int) - 1))).bind fun e2 =>
 ((ZdT N a0_ e2.Port).bind fun r3 =>
 (some (w64 ((w64 ((w64 (e2.Open+e2.Long))+r3))+a1_.Proc))))))
def ZeL (N:Nat) (a0_:ZE):Option (Bool) :=
 ((((Zb0 N a0_.Grid 1 10000).bind fun r1=>(if r1 then ((Zb0 N a0_.Slack 0 1000).bind fun r3=>(if r3 then ((Zb0 N a0_.Proc 0 10000).bind fun r5=>(if r5 then ((Zb0 N a0_.Cap 1542 65536).bind fun r7=>(some r7)) else (some false))) else (some false))) else (some false)))).bind fun (j11:Bool) =>
 (some j11))
def Zey (N:Nat) (a0_:Zi) (a1_:Zy):Option (Bool) :=
 ((((Zex N a0_ a1_.A).bind fun r1=>(if (!r1) then (some true) else ((Zex N a0_ a1_.B).bind fun r4=>(if (!r4) then (some true) else (if (a1_.A==a1_.B) then (some true) else ((idx a0_.Station a1_.A).bind fun e9=>(if e9 then ((idx a0_.Station a1_.B).bind fun e11=>(some e11)) else (some false))))))))).bind fun (j13:Bool) =>
 (if j13 then (some false) else (some ((decide (a1_.Per ≥ 1))&&((decide (a1_.Per≤1000))&&((decide (a1_.Delay ≥ 0))&&(decide (a1_.Delay≤10000))))))))
def Za3 (N:Nat) (a0_:Zi) (a2_:(List Int)) (i517:Int) (l518:(List Bool)):Option ((Int × (List Bool)) ⊕ (((List Bool)))) :=
 (if (decide (i517<((List.length a0_.Links:Nat):Int))) then ((((idx a0_.Links i517).bind fun e1525 =>
 ((((Ze3 N a2_ i517).bind fun r1526=>(if (!r1526) then ((idx l518 e1525.A).bind fun e1528=>(if e1528 then (some true) else ((idx l518 e1525.B).bind fun e1533=>(some e1533)))) else (some false)))).bind fun (j1537:Bool) =>
 (if j1537 then ((idx l518 e1525.A).bind fun e1539 =>
 ((idx (List.set l518 (Int.toNat e1525.A) true) e1525.B).bind fun e1543 =>
 (some (List.set (List.set l518 (Int.toNat e1525.A) true) (Int.toNat e1525.B) true)))) else (some l518))))).bind fun (j1524:(List Bool)) =>
 (some (.inl ((w64 (i517+1)),j1524)))) else (some (.inr l518)))
def Zbo (N:Nat) (a0_:Zi) (a2_:(List Int)) (i10:Int) (l11:(List Bool)):Option ((Int × (List Bool)) ⊕ (((List Bool)))) :=
 (if (decide (i10<a0_.Nodes)) then ((Zac (fun x:Int × (List Bool)=>Za3 N a0_ a2_ x.1 x.2) N (0,l11)).bind fun o1547 =>
 (some (.inl ((w64 (i10+1)),o1547)))) else (some (.inr l11)))
def ZeN (N:Nat) (a0_:Zi) (a1_:Int) (a2_:(List Int)):Option ((List Bool)) :=
 ((Zjv 1 a0_.Nodes a0_.Nodes false).bind fun l3 =>
 ((idx l3 a1_).bind fun e4 =>
 ((Zac (fun x:Int × (List Bool)=>Zbo N a0_ a2_ x.1 x.2) N (0,(List.set l3 (Int.toNat a1_) true))).bind fun o1548 =>
 (some o1548))))
def Zcb (N:Nat) (a1_:(List Int)) (a2_:(List Int)) (i1:Int) (i503:Int):Option ((Int) ⊕ ((Unit) ⊕ (Bool))) :=
 (if (decide (i503<((List.length a2_:Nat):Int))) then ((idx a1_ i1).bind fun e1005 =>
 ((idx a2_ i503).bind fun e1006 =>
 (if ((w64 (Int.tdiv e1005 2))==(w64 (Int.tdiv e1006 2))) then (some (.inr (.inr false))) else (some (.inl (w64 (i503+1))))))) else (some (.inr (.inl ()))))
def Zcc (N:Nat) (a1_:(List Int)) (a2_:(List Int)) (i1:Int):Option ((Int) ⊕ ((Unit) ⊕ (Bool))) :=
 (if (decide (i1<((List.length a1_:Nat):Int))) then ((Zac (fun x:Int=>Zcb N a1_ a2_ i1 x) N 0).bind fun o1008=>match o1008 with
 | (.inl p1009)=>(some (.inl (w64 (i1+1))))
 | (.inr p1010)=>(some (.inr (.inr p1010)))) else (some (.inr (.inl ()))))
def Zcy (N:Nat) (a0_:Zi) (a1_:(List Int)) (a2_:(List Int)):Option (Bool) :=
 ((Zac (fun x:Int=>Zcc N a1_ a2_ x) N 0).bind fun o1011=>match o1011 with
 | (.inl p1012)=>((((Zcx N a0_ a1_).bind fun r1013=>((Zcx N a0_ a2_).bind fun r1014=>((Zc1 N r1013 r1014).bind fun r1015=>(if (!r1015) then ((Zcx N a0_ a2_).bind fun r1017=>((Zcx N a0_ a1_).bind fun r1018=>((Zc1 N r1017 r1018).bind fun r1019=>(some (!r1019))))) else (some false)))))).bind fun (j1021:Bool) =>
 (some j1021))
 | (.inr p1022)=>(some p1022))
def ZaK (N:Nat) (a0_:(List Bool)) (a1_:Bool):Option (Bool) :=
 ((ZbE N a0_ a1_).bind fun r1 =>
 (some (decide (r1 ≥ 0))))
def Zd0 (N:Nat) (c0_:Zi) (c1_:Zm):Option (Bool) :=
 ((((ZcC N c0_ c1_.Talker).bind fun r3=>(if r3 then ((ZcC N c0_ c1_.Listener).bind fun r7=>(if r7 then (some (c1_.Talker != c1_.Listener)) else (some false))) else (some false)))).bind fun (j13:Bool) =>
 (some j13))
def Zfa (N:Nat) (a0_:Zbv):Option (Int) :=
 ((((Zco N a0_.Burst 1 1048576).bind fun r1=>(if (!r1) then (some true) else ((Zco N a0_.Rate 1 2097152).bind fun r4=>(some (!r4)))))).bind fun (j5:Bool) =>
 (if j5 then (some 130) else (some 0)))
def Zb9 (N:Nat) (a0_:Zi) (a1_:(List Int)) (i4:Int):Option ((Int) ⊕ ((Unit) ⊕ (Bool))) :=
 (if (decide (i4<((List.length a1_:Nat):Int))) then ((idx a1_ i4).bind fun e506 =>
 ((Zfs N a0_ e506).bind fun r507 =>
 (if (!r507) then (some (.inr (.inr false))) else (some (.inl (w64 (i4+1))))))) else (some (.inr (.inl ()))))
def Zb8 (N:Nat) (a0_:Zi) (a1_:(List Int)) (r511:(List Int)) (i512:Int):Option ((Int) ⊕ ((Unit) ⊕ (Bool))) :=
 (if (decide (i512<((List.length r511:Nat):Int))) then ((subI r511 0 i512).bind fun l1014 =>
 ((idx r511 i512).bind fun e1015 =>
 ((Ze3 N l1014 e1015).bind fun r1016 =>
 (if r1016 then (some (.inr (.inr false))) else (((if (decide (i512 > 0)) then (if (decide (i512<((List.length a1_:Nat):Int))) then ((idx r511 i512).bind fun e1020=>((idx a0_.Station e1020).bind fun e1021=>(if e1021 then (some true) else ((idx a1_ i512).bind fun e1024=>((ZbW N a0_ e1024).bind fun r1025=>((idx r511 i512).bind fun e1026=>(some (r1025 != e1026)))))))) else (some false)) else (some false))).bind fun (j1029:Bool) =>
 (if j1029 then (some (.inr (.inr false))) else (some (.inl (w64 (i512+1)))))))))) else (some (.inr (.inl ()))))
def Zca (N:Nat) (a0_:Zi) (a1_:(List Int)):Option (Bool) :=
 (if ((decide (((List.length a1_:Nat):Int)<1))||(decide (((List.length a1_:Nat):Int) > 8))) then (some false) else ((Zac (fun x:Int=>Zb9 N a0_ a1_ x) N 0).bind fun o509=>match o509 with
 | (.inl p510)=>((Zcx N a0_ a1_).bind fun r511 =>
 ((Zac (fun x:Int=>Zb8 N a0_ a1_ r511 x) N 0).bind fun o1031=>match o1031 with
 | (.inl p1032)=>(some true)
 | (.inr p1033)=>(some p1033)))
 | (.inr p1034)=>(some p1034)))
def Za6 (N:Nat) (a0_:Zi) (l8:(List Int)) (r521:(List Int)) (i526:Int) (l527:(List Int)):Option ((Int × (List Int)) ⊕ (((List Int)))) :=
 (if (decide (i526<((List.length r521:Nat):Int))) then ((((idx r521 i526).bind fun e1538 =>
 ((ZcK N a0_ e1538).bind fun r1539 =>
 ((Ze3 N l8 r1539).bind fun r1540 =>
 (if (!r1540) then ((idx r521 i526).bind fun e1543 =>
 ((appI 8 l527 [e1543]).bind fun l1546 =>
 (some l1546))) else (some l527)))))).bind fun (j1537:(List Int)) =>
 (some (.inl ((w64 (i526+1)),j1537)))) else (some (.inr l527)))
def Zb4 (N:Nat) (a0_:Zi) (a2_:Int) (i7:Int) (l8:(List Int)) (l9:(List Int)):Option ((Int × (List Int) × (List Int)) ⊕ (((List Int)) ⊕ ((List Int)))) :=
 (((if (decide (((List.length l9:Nat):Int)<8)) then (if (((List.length l9:Nat):Int)==0) then (some true) else ((idx a0_.Station i7).bind fun e517=>(some (!e517)))) else (some false))).bind fun (j519:Bool) =>
 (if j519 then ((ZdR N a0_ i7).bind fun r521 =>
 ((Zac (fun x:Int × (List Int)=>Za6 N a0_ l8 r521 x.1 x.2) N (0,[])).bind fun o1547 =>
 (if (((List.length o1547:Nat):Int)==0) then (some (.inr (.inr l9))) else ((remI (w64 ((w64 (a2_))+(w64 (3 * ((List.length l9:Nat):Int))))) ((List.length o1547:Nat):Int)).bind fun m1552 =>
 ((idx o1547 m1552).bind fun e1553 =>
 ((appI 8 l9 [e1553]).bind fun l1558 =>
 ((ZcK N a0_ e1553).bind fun r1559 =>
 ((appI 8 l8 [r1559]).bind fun l1562 =>
 (some (.inl (r1559,l1562,l1558))))))))))) else (some (.inr (.inl l9)))))
def Zfr (N:Nat) (a0_:Zi) (a1_:Int) (a2_:Int):Option ((List Int)) :=
 ((remI (w64 (a1_)) a0_.Nodes).bind fun m1 =>
 ((Zac (fun x:Int × (List Int) × (List Int)=>Zb4 N a0_ a2_ x.1 x.2.1 x.2.2) N (m1,[m1],[])).bind fun o1563=>match o1563 with
 | (.inl p1564)=>(some p1564)
 | (.inr p1565)=>(some p1565)))
def ZeY (N:Nat) (a0_:Int) (c0_:Zi):Option (Bool) :=
 ((idx c0_.Links a0_).bind fun e2 =>
 ((((Zfl N c0_ e2.A).bind fun r4=>(if r4 then ((Zfl N c0_ e2.B).bind fun r7=>(if r7 then (some (e2.A != e2.B)) else (some false))) else (some false)))).bind fun (j11:Bool) =>
 (some j11)))
def Zas (N:Nat) (a0_:ZX) (i524:Int) (i525:Int) (l526:Zr) (x522:Int) (x523:ZaL):Option ((Int × Int × Zr) × Nat) :=
 (if (x522==0) then ((l526.get x523.from_).bind fun e1026 =>
 (((Zr.set l526 x523.from_ true).get x523.to_).bind fun e1028 =>
 (if e1028 then (some ((i524,i525,(Zr.set l526 x523.from_ true)),1)) else (((Zr.set l526 x523.from_ true).get x523.to_).bind fun e1031 =>
 (some (((w64 (i524+1)),x523.to_,(Zr.set (Zr.set l526 x523.from_ true) x523.to_ true)),0)))))) else (((if (x523.from_ != i525) then (some true) else ((idx a0_.Topo.Station i525).bind fun e1041=>(some e1041)))).bind fun (j1042:Bool) =>
 (if j1042 then (some ((i524,i525,l526),1)) else ((l526.get x523.to_).bind fun e1044 =>
 (if e1044 then (some ((i524,i525,l526),1)) else ((l526.get x523.to_).bind fun e1047 =>
 (some (((w64 (i524+1)),x523.to_,(Zr.set l526 x523.to_ true)),0))))))))
def Zbb (N:Nat) (a0_:ZX) (a1_:(List Int)):Option (Bool) :=
 (if ((decide (((List.length a1_:Nat):Int)<1))||(decide (((List.length a1_:Nat):Int) > 8))) then (some false) else ((((Zcn N a0_ a1_).bind fun r517 =>
 ((ZbL N (fun (s:(Int × Int × Zr) × Nat) (x522:Int) (x523:ZaL)=>Zie (fun v:Int × Int × Zr=>Zas N a0_ v.1 v.2.1 v.2.2 x522 x523) s) r517.1 r517.2 ((0,0,(Zr.mk false false false false false false false false false false false false)),0)).bind fun o1052 =>
 (if (o1052.2==0) then (some o1052.1.1) else (if (o1052.2==1) then (some o1052.1.1) else none))))).bind fun (j515:Int) =>
 (some (j515==((List.length a1_:Nat):Int)))))
def ZaF (N:Nat) (l15:(List Int)) (x13:Int) (x14:ZaL):Option ((List Int)) :=
 (((if (x13==0) then ((appI 8 l15 [x14.from_]).bind fun l1023 =>
 (some l1023)) else (some l15))).bind fun (j1018:(List Int)) =>
 ((appI 8 j1018 [x14.to_]).bind fun l1028 =>
 (some l1028)))
def Zbw (N:Nat) (a0_:ZX) (a1_:(List Int)):Option ((List Int)) :=
 ((Zjv 8 0 (w64 (((List.length a1_:Nat):Int)+1)) 0).bind fun l3 =>
 ((Zcn N a0_ a1_).bind fun r7 =>
 ((ZbL N (fun (s:(List Int)) (x13:Int) (x14:ZaL)=>Zds (fun v:(List Int)=>ZaF N v x13 x14) s) r7.1 r7.2 l3).bind fun o1030 =>
 (some o1030))))
def ZaV (N:Nat) (a0_:(List Int)) (a1_:Int):Option (Bool) :=
 ((ZbY N a0_ a1_).bind fun r1 =>
 (some (decide (r1 ≥ 0))))
def ZdA (N:Nat) (a0_:ZX) (c0_:(List Int)):Option ((List Int) × Int) :=
 ((Zbw N a0_ c0_).bind fun r2 =>
 (some (r2,0)))
def Zce (N:Nat) (a0_:Zi) (i13:Int) (e518:Zy) (i521:Int):Option ((Int) ⊕ ((Unit) ⊕ (Bool))) :=
 (if (decide (i521<i13)) then ((idx a0_.Links i521).bind fun e1023 =>
 ((ZdS N e1023 e518.A e518.B).bind fun r1024 =>
 (if r1024 then (some (.inr (.inr false))) else (some (.inl (w64 (i521+1))))))) else (some (.inr (.inl ()))))
def Za2 (N:Nat) (a0_:Zi) (i13:Int) (l14:(List Int)):Option ((Int × (List Int)) ⊕ (((List Int)) ⊕ (Bool))) :=
 (if (decide (i13<((List.length a0_.Links:Nat):Int))) then ((idx a0_.Links i13).bind fun e518 =>
 ((Zey N a0_ e518).bind fun r519 =>
 (if (!r519) then (some (.inr (.inr false))) else ((Zac (fun x:Int=>Zce N a0_ i13 e518 x) N 0).bind fun o1026=>match o1026 with
 | (.inl p1027)=>((idx l14 e518.A).bind fun e1028 =>
 ((idx l14 e518.A).bind fun e1031 =>
 ((idx (List.set l14 (Int.toNat e518.A) (w64 (e1028+1))) e518.B).bind fun e1035 =>
 ((idx (List.set l14 (Int.toNat e518.A) (w64 (e1028+1))) e518.B).bind fun e1038 =>
 (some (.inl ((w64 (i13+1)),(List.set (List.set l14 (Int.toNat e518.A) (w64 (e1028+1))) (Int.toNat e518.B) (w64 (e1035+1))))))))))
 | (.inr p1042)=>(some (.inr (.inr p1042))))))) else (some (.inr (.inl l14))))
def Zcd (N:Nat) (a0_:Zi) (p1044:(List Int)) (r1045:(List Bool)) (i1046:Int):Option ((Int) ⊕ ((Unit) ⊕ (Bool))) :=
 (if (decide (i1046<a0_.Nodes)) then ((((idx r1045 i1046).bind fun e1548=>(if (!e1548) then (some true) else ((idx a0_.Station i1046).bind fun e1551=>(if e1551 then ((idx p1044 i1046).bind fun e1553=>(if (decide (e1553<1)) then (some true) else ((idx p1044 i1046).bind fun e1558=>(some (decide (e1558 > 2)))))) else (some false)))))).bind fun (j1562:Bool) =>
 (if j1562 then (some (.inr (.inr false))) else (some (.inl (w64 (i1046+1)))))) else (some (.inr (.inl ()))))
def ZeM (N:Nat) (a0_:Zi):Option (Bool) :=
 (if ((decide (a0_.Nodes<2))||((decide (a0_.Nodes > 12))||((((List.length a0_.Station:Nat):Int) != a0_.Nodes)||(decide (((List.length a0_.Links:Nat):Int) > 24))))) then (some false) else ((Zjv 8 a0_.Nodes a0_.Nodes 0).bind fun l10 =>
 ((Zac (fun x:Int × (List Int)=>Za2 N a0_ x.1 x.2) N (0,l10)).bind fun o1043=>match o1043 with
 | (.inl p1044)=>((ZeN N a0_ 0 ([])).bind fun r1045 =>
 ((Zac (fun x:Int=>Zcd N a0_ p1044 r1045 x) N 0).bind fun o1564=>match o1564 with
 | (.inl p1565)=>(some true)
 | (.inr p1566)=>(some p1566)))
 | (.inr p1567)=>(some p1567))))
def ZaT (N:Nat) (a1_:Zi) (a2_:Int) (a3_:Int) (i14:Int):Option ((Int) ⊕ ((Unit) ⊕ (Zi))) :=
 (if (decide (i14<((List.length a1_.Links:Nat):Int))) then ((idx a1_.Links i14).bind fun e516 =>
 ((ZdS N e516 a2_ a3_).bind fun r519 =>
 (if r519 then (some (.inr (.inr a1_))) else (some (.inl (w64 (i14+1))))))) else (some (.inr (.inl ()))))
def Zaf (N:Nat) (a0_:Zau) (a1_:Zi) (a2_:Int) (a3_:Int):Option (Zi) :=
 ((Zc2 N a0_.Pers ((List.length a1_.Links:Nat):Int)).bind fun r2 =>
 ((Zc2 N a0_.Delays ((List.length a1_.Links:Nat):Int)).bind fun r3 =>
 (((if (((List.length a1_.Links:Nat):Int)==24) then (some true) else ((Zey N a1_ (Zy.mk a2_ a3_ (w64 (1+(Int.tmod r2 20))) (Int.tmod r3 50))).bind fun r6=>(some (!r6))))).bind fun (j12:Bool) =>
 (if j12 then (some a1_) else ((Zac (fun x:Int=>ZaT N a1_ a2_ a3_ x) N 0).bind fun o521=>match o521 with
 | (.inl p522)=>((appI 32 a1_.Links [(Zy.mk a2_ a3_ (w64 (1+(Int.tmod r2 20))) (Int.tmod r3 50))]).bind fun l525 =>
 (some (Zi.mk a1_.Nodes a1_.Station l525)))
 | (.inr p526)=>(some p526))))))
def ZbJ (N:Nat) (a0_:Zi) (a1_:Zm) (i27:Int):Option ((Int) ⊕ ((Unit) ⊕ (Bool))) :=
 (if (decide (i27<((List.length a1_.Routes:Nat):Int))) then ((idx a1_.Routes i27).bind fun e529 =>
 ((((Zca N a0_ e529).bind fun r530=>(if (!r530) then (some true) else ((idx e529 0).bind fun e533=>((ZbW N a0_ e533).bind fun r534=>(if (r534 != a1_.Talker) then (some true) else ((idx e529 (w64 (((List.length e529:Nat):Int) - 1))).bind fun e537=>((ZcK N a0_ e537).bind fun r538=>(some (r538 != a1_.Listener)))))))))).bind fun (j539:Bool) =>
 (if j539 then (some (.inr (.inr false))) else (some (.inl (w64 (i27+1))))))) else (some (.inr (.inl ()))))
def Zda (N:Nat) (a0_:Zi) (a1_:Zm) (i562:Int):Option ((Int) ⊕ ((Unit) ⊕ (Bool))) :=
 (if (decide (i562<((List.length a1_.Routes:Nat):Int))) then ((idx a1_.Routes i562).bind fun e1064 =>
 ((((Zca N a0_ e1064).bind fun r1065=>(if (!r1065) then (some true) else ((idx e1064 0).bind fun e1068=>((ZbW N a0_ e1068).bind fun r1069=>(if (r1069 != a1_.Talker) then (some true) else ((idx e1064 (w64 (((List.length e1064:Nat):Int) - 1))).bind fun e1072=>((ZcK N a0_ e1072).bind fun r1073=>(some (r1073 != a1_.Listener)))))))))).bind fun (j1074:Bool) =>
 (if j1074 then (some (.inr (.inr false))) else (some (.inl (w64 (i562+1))))))) else (some (.inr (.inl ()))))
def ZdQ (N:Nat) (a0_:Zi) (a1_:Zm):Option (Bool) :=
 ((((Zb0 N a1_.Id 1 4095).bind fun r1=>(if (!r1) then (some true) else ((ZbZ N a0_ a1_.Talker).bind fun r4=>(if (!r4) then (some true) else ((ZbZ N a0_ a1_.Listener).bind fun r7=>(if (!r7) then (some true) else (if (a1_.Talker==a1_.Listener) then (some true) else ((Zb0 N a1_.Size 84 1542).bind fun r12=>(if (!r12) then (some true) else ((Zb0 N a1_.Deadline 1 1099511627776).bind fun r15=>(some (!r15))))))))))))).bind fun (j16:Bool) =>
 (if j16 then (some false) else (if (a1_.Class==7) then ((((Zb0 N a1_.Period 1 240).bind fun r19=>(if (!r19) then (some true) else (some (!((a1_.Bucket.Burst==0)&&((a1_.Bucket.Rate==0)&&true))))))).bind fun (j22:Bool) =>
 (if j22 then (some false) else (if ((decide (((List.length a1_.Routes:Nat):Int)<1))||(decide (((List.length a1_.Routes:Nat):Int) > 2))) then (some false) else ((Zac (fun x:Int=>ZbJ N a0_ a1_ x) N 0).bind fun o541=>match o541 with
 | (.inl p542)=>(((if (((List.length a1_.Routes:Nat):Int)==1) then (some true) else ((idx a1_.Routes 0).bind fun e545=>((idx a1_.Routes 1).bind fun e546=>((Zcy N a0_ e545 e546).bind fun r547=>(some r547)))))).bind fun (j548:Bool) =>
 (some j548))
 | (.inr p549)=>(some p549))))) else (if (a1_.Class==6) then (((if (a1_.Period != 0) then (some true) else ((Zb0 N a1_.Bucket.Burst a1_.Size 1048576).bind fun r553=>(if (!r553) then (some true) else ((Zb0 N a1_.Bucket.Rate 1 2097152).bind fun r556=>(some (!r556))))))).bind fun (j557:Bool) =>
 (if j557 then (some false) else (if ((decide (((List.length a1_.Routes:Nat):Int)<1))||(decide (((List.length a1_.Routes:Nat):Int) > 2))) then (some false) else ((Zac (fun x:Int=>Zda N a0_ a1_ x) N 0).bind fun o1076=>match o1076 with
 | (.inl p1077)=>(((if (((List.length a1_.Routes:Nat):Int)==1) then (some true) else ((idx a1_.Routes 0).bind fun e1080=>((idx a1_.Routes 1).bind fun e1081=>((Zcy N a0_ e1080 e1081).bind fun r1082=>(some r1082)))))).bind fun (j1083:Bool) =>
 (some j1083))
 | (.inr p1084)=>(some p1084))))) else (some false)))))
def ZcZ (N:Nat) (a0_:Zi) (a1_:Int) (a2_:Int) (i1:Int):Option ((Int) ⊕ ((Unit) ⊕ ((List Int)))) :=
 (if (decide (i1<16)) then ((Zfr N a0_ a1_ (IntKind.u8.wrap (a2_+(IntKind.u8.wrap (i1))))).bind fun r503 =>
 (((if (decide (((List.length r503:Nat):Int) > 0)) then ((Zca N a0_ r503).bind fun r505=>(if r505 then ((idx r503 0).bind fun e507=>((ZbW N a0_ e507).bind fun r508=>((idx a0_.Station r508).bind fun e509=>(if e509 then ((idx r503 (w64 (((List.length r503:Nat):Int) - 1))).bind fun e511=>((ZcK N a0_ e511).bind fun r512=>((idx a0_.Station r512).bind fun e513=>(some e513)))) else (some false))))) else (some false))) else (some false))).bind fun (j517:Bool) =>
 (if j517 then ((neL r503).bind fun _=>(some (.inr (.inr r503)))) else (some (.inl (w64 (i1+1))))))) else (some (.inr (.inl ()))))
def Zew (N:Nat) (a0_:Zi) (a1_:Int) (a2_:Int):Option ((List Int)) :=
 ((Zac (fun x:Int=>ZcZ N a0_ a1_ a2_ x) N 0).bind fun o519=>match o519 with
 | (.inl p520)=>(some [])
 | (.inr p521)=>(some p521))
def Zcv (N:Nat) (a0_:Zi) (i4:Int):Option ((Int) ⊕ ((Unit) ⊕ (Bool))) :=
 (if (decide (i4<((List.length a0_.Links:Nat):Int))) then ((ZeY N i4 a0_).bind fun r506 =>
 (if (!r506) then (some (.inr (.inr false))) else ((ZeX N i4 a0_).bind fun r508 =>
 (if (!r508) then (some (.inr (.inr false))) else ((Zd9 N i4 a0_).bind fun r510 =>
 (if (!r510) then (some (.inr (.inr false))) else ((ZeW N i4 a0_).bind fun r512 =>
 (if (!r512) then (some (.inr (.inr false))) else (some (.inl (w64 (i4+1)))))))))))) else (some (.inr (.inl ()))))
def Zfj (N:Nat) (a0_:Zi):Option (Bool) :=
 ((Zac (fun x:Int=>Zcv N a0_ x) N 0).bind fun o514=>match o514 with
 | (.inl p515)=>(some true)
 | (.inr p516)=>(some p516))
def Zc9 (N:Nat) (c0_:Zm):Option (Bool) :=
 (if (c0_.Class==7) then ((((Zao N c0_.Period 1 240).bind fun r4=>(if r4 then (some ((c0_.Bucket.Burst==0)&&((c0_.Bucket.Rate==0)&&true))) else (some false)))).bind fun (j8:Bool) =>
 (some j8)) else (if (c0_.Class==6) then (((if (c0_.Period==0) then ((Zfa N c0_.Bucket).bind fun r13=>(if (r13==0) then (some (decide (c0_.Bucket.Burst ≥ c0_.Size))) else (some false))) else (some false))).bind fun (j19:Bool) =>
 (some j19)) else (some false)))
def ZaQ (N:Nat) (r2:(List Int)) (l3:List Int) (i4:Int):Option ((Int) ⊕ ((Unit) ⊕ (Bool))) :=
 (if (decide (i4<((List.length l3:Nat):Int))) then ((idx l3 i4).bind fun e506 =>
 ((ZaV N r2 e506).bind fun r507 =>
 (if r507 then (some (.inr (.inr true))) else (some (.inl (w64 (i4+1))))))) else (some (.inr (.inl ()))))
def ZbU (N:Nat) (a0_:ZX) (a1_:(List Int)) (a2_:(List Int)):Option (Bool) :=
 ((Zbw N a0_ a1_).bind fun r1 =>
 ((Zbw N a0_ a2_).bind fun r2 =>
 ((subI r1 1 (w64 (((List.length r1:Nat):Int) - 1))).bind fun l3 =>
 ((Zac (fun x:Int=>ZaQ N r2 l3 x) N 0).bind fun o509=>match o509 with
 | (.inl p510)=>(some false)
 | (.inr p511)=>(some p511)))))
def Zak (N:Nat) (a0_:Zau) (i3:Int) (l4:(List Bool)):Option ((Int × (List Bool)) ⊕ (((List Bool)))) :=
 (if (decide (i3<(w64 ((w64 (1+(w64 ((Int.tmod a0_.Bridges 6)))))+(w64 (2+(w64 ((Int.tmod a0_.Stations 5))))))))) then ((appI 1 l4 [(decide (i3 ≥ (w64 (1+(w64 ((Int.tmod a0_.Bridges 6)))))))]).bind fun l510 =>
 (some (.inl ((w64 (i3+1)),l510)))) else (some (.inr l4)))
def Zaj (N:Nat) (a0_:Zau) (i515:Int) (i516:Int) (l517:(List Bool)) (l518:(List Zy)):Option ((Int × Int × (List Bool) × (List Zy)) ⊕ ((Int × (List Bool) × (List Zy)))) :=
 (if (decide (i515<(w64 (1+(w64 ((Int.tmod a0_.Bridges 6))))))) then ((Zaf N a0_ (Zi.mk i516 l517 l518) (w64 (i515 - 1)) i515).bind fun r1023 =>
 (some (.inl ((w64 (i515+1)),r1023.Nodes,r1023.Station,r1023.Links)))) else (some (.inr (i516,l517,l518))))
def Zai (N:Nat) (a0_:Zau) (i1031:Int) (i1032:Int) (l1033:(List Bool)) (l1034:(List Zy)):Option ((Int × Int × (List Bool) × (List Zy)) ⊕ ((Int × (List Bool) × (List Zy)))) :=
 (if (decide (i1031<(w64 (2+(w64 ((Int.tmod a0_.Stations 5))))))) then ((Zc2 N a0_.Homes (w64 (2 * i1031))).bind fun r1539 =>
 ((remI r1539 (w64 (1+(w64 ((Int.tmod a0_.Bridges 6)))))).bind fun m1540 =>
 ((Zaf N a0_ (Zi.mk i1032 l1033 l1034) (w64 ((w64 (1+(w64 ((Int.tmod a0_.Bridges 6)))))+i1031)) m1540).bind fun r1541 =>
 (some (.inl ((w64 (i1031+1)),r1541.Nodes,r1541.Station,r1541.Links)))))) else (some (.inr (i1032,l1033,l1034))))
def Z2 (N:Nat) (a0_:Zau) (i2060:Int) (i2061:Int) (l2062:(List Bool)) (l2063:(List Zy)):Option ((Int × Int × (List Bool) × (List Zy)) ⊕ ((Int × (List Bool) × (List Zy)))) :=
 (if (decide (i2060<(w64 (2+(w64 ((Int.tmod a0_.Stations 5))))))) then ((((Zc2 N a0_.Homes (w64 ((w64 (2 * i2060))+1))).bind fun r3072 =>
 (if (decide ((Int.tmod r3072 3) > 0)) then ((Zc2 N a0_.Homes (w64 ((w64 (2 * i2060))+1))).bind fun r3074 =>
 ((remI r3074 (w64 (1+(w64 ((Int.tmod a0_.Bridges 6)))))).bind fun m3075 =>
 ((Zaf N a0_ (Zi.mk i2061 l2062 l2063) (w64 ((w64 (1+(w64 ((Int.tmod a0_.Bridges 6)))))+i2060)) m3075).bind fun r3076 =>
 (some (r3076.Nodes,r3076.Station,r3076.Links))))) else (some (i2061,l2062,l2063))))).bind fun (j3071:Int × (List Bool) × (List Zy)) =>
 (some (.inl ((w64 (i2060+1)),j3071.1,j3071.2.1,j3071.2.2)))) else (some (.inr (i2061,l2062,l2063))))
def Zat (N:Nat) (a0_:Zau) (i3084:Int) (i3085:Int) (l3086:(List Bool)) (l3087:(List Zy)):Option ((Int × Int × (List Bool) × (List Zy)) ⊕ ((Int × (List Bool) × (List Zy)))) :=
 (if ((decide ((w64 (i3084+1))<((List.length a0_.Chords:Nat):Int)))&&(decide (i3084<12))) then ((idx a0_.Chords i3084).bind fun e3594 =>
 ((remI (w64 (e3594)) (w64 (1+(w64 ((Int.tmod a0_.Bridges 6)))))).bind fun m3595 =>
 ((idx a0_.Chords (w64 (i3084+1))).bind fun e3596 =>
 ((remI (w64 (e3596)) (w64 (1+(w64 ((Int.tmod a0_.Bridges 6)))))).bind fun m3597 =>
 ((Zaf N a0_ (Zi.mk i3085 l3086 l3087) m3595 m3597).bind fun r3598 =>
 (some (.inl ((w64 (i3084+2)),r3598.Nodes,r3598.Station,r3598.Links)))))))) else (some (.inr (i3085,l3086,l3087))))
def Zby (N:Nat) (a0_:Zau):Option (Zi) :=
 ((Zac (fun x:Int × (List Bool)=>Zak N a0_ x.1 x.2) N (0,[])).bind fun o511 =>
 ((Zac (fun x:Int × Int × (List Bool) × (List Zy)=>Zaj N a0_ x.1 x.2.1 x.2.2.1 x.2.2.2) N (1,(w64 ((w64 (1+(w64 ((Int.tmod a0_.Bridges 6)))))+(w64 (2+(w64 ((Int.tmod a0_.Stations 5))))))),o511,[])).bind fun o1027 =>
 ((Zac (fun x:Int × Int × (List Bool) × (List Zy)=>Zai N a0_ x.1 x.2.1 x.2.2.1 x.2.2.2) N (0,o1027.1,o1027.2.1,o1027.2.2)).bind fun o1545 =>
 (((if ((decide ((w64 (1+(w64 ((Int.tmod a0_.Bridges 6))))) > 2))&&((Int.tmod a0_.Bridges 2)==0)) then ((Zaf N a0_ (Zi.mk o1545.1 o1545.2.1 o1545.2.2) (w64 ((w64 (1+(w64 ((Int.tmod a0_.Bridges 6))))) - 1)) 0).bind fun r2053 =>
 (some (r2053.Nodes,r2053.Station,r2053.Links))) else (some (o1545.1,o1545.2.1,o1545.2.2)))).bind fun (j2049:Int × (List Bool) × (List Zy)) =>
 ((Zac (fun x:Int × Int × (List Bool) × (List Zy)=>Z2 N a0_ x.1 x.2.1 x.2.2.1 x.2.2.2) N (0,j2049.1,j2049.2.1,j2049.2.2)).bind fun o3080 =>
 ((Zac (fun x:Int × Int × (List Bool) × (List Zy)=>Zat N a0_ x.1 x.2.1 x.2.2.1 x.2.2.2) N (0,o3080.1,o3080.2.1,o3080.2.2)).bind fun o3602 =>
 (some (Zi.mk o3602.1 o3602.2.1 o3602.2.2))))))))
def ZdP (N:Nat) (a0_:Zi) (a1_:ZE) (a2_:Zm) (a3_:Int):Option (Int) :=
 ((ZeM N a0_).bind fun r1 =>
 (if (!r1) then (some 260) else ((ZeL N a1_).bind fun r3 =>
 (if (!r3) then (some 320) else ((ZdQ N a0_ a2_).bind fun r5 =>
 (if (!r5) then (some 321) else (if ((a2_.Class != 7)||((decide (a3_<0))||(decide (a3_ ≥ ((List.length a2_.Routes:Nat):Int))))) then (some 2) else (some 0))))))))
def ZaZ (N:Nat) (a1_:Zi) (i2:Int) (i3:Int):Option ((Int × Int) ⊕ ((Int))) :=
 (((if (decide (i3<a1_.Nodes)) then ((idx a1_.Station i2).bind fun e505=>(some (!e505))) else (some false))).bind fun (j507:Bool) =>
 (if j507 then ((remI (w64 (i2+1)) a1_.Nodes).bind fun m509 =>
 (some (.inl (m509,(w64 (i3+1)))))) else (some (.inr i2))))
def ZaY (N:Nat) (a0_:ZaS) (a1_:Zi) (o510:Int) (r511:(List Int)) (r516:Int) (i1024:Int) (l1025:(List (List Int))):Option ((Int × (List (List Int))) ⊕ (((List (List Int))))) :=
 (((if (decide (i1024<24)) then (if a0_.Two then (some (((List.length l1025:Nat):Int)==1)) else (some false)) else (some false))).bind fun (j1533:Bool) =>
 (if j1533 then ((((Zew N a1_ (IntKind.u8.wrap (o510)) (IntKind.u8.wrap (a0_.Way+(IntKind.u8.wrap (i1024))))).bind fun r2038 =>
 (if (List.isEmpty r2038) then (some l1025) else ((((idx r2038 (w64 (((List.length r2038:Nat):Int) - 1))).bind fun e2040=>((ZcK N a1_ e2040).bind fun r2041=>(if (r2041==r516) then ((Zcy N a1_ r511 r2038).bind fun r2043=>(some r2043)) else (some false))))).bind fun (j2045:Bool) =>
 (if j2045 then ((appI 24 l1025 [r2038]).bind fun l2049 =>
 (some l2049)) else (some l1025)))))).bind fun (j2037:(List (List Int))) =>
 (some (.inl ((w64 (i1024+1)),j2037)))) else (some (.inr l1025))))
def Zb2 (N:Nat) (a0_:ZaS) (a1_:Zi) (a2_:Int):Option (Zm × Bool) :=
 ((remI (w64 (a0_.Node)) a1_.Nodes).bind fun m1 =>
 ((Zac (fun x:Int × Int=>ZaZ N a1_ x.1 x.2) N (m1,0)).bind fun o510 =>
 ((Zew N a1_ (IntKind.u8.wrap (o510)) a0_.Way).bind fun r511 =>
 (if (List.isEmpty r511) then (some ((Zm.mk 0 0 0 0 0 0 (Zbv.mk 0 0) 0 ([])),false)) else ((idx r511 0).bind fun e513 =>
 ((ZbW N a1_ e513).bind fun r514 =>
 ((idx r511 (w64 (((List.length r511:Nat):Int) - 1))).bind fun e515 =>
 ((ZcK N a1_ e515).bind fun r516 =>
 (((if a0_.Reserved then (some (6,0,(w64 ((w64 (84+(w64 (a0_.Size))))+(w64 (4 * (w64 (a0_.Burst)))))),(w64 (1+(w64 (a0_.Rate)))))) else ((idx [4,6,8,12,16,24,48,10,5,240] (Int.tmod a0_.Period 10)).bind fun e1021 =>
 (some (7,e1021,0,0))))).bind fun (j1019:Int × Int × Int × Int) =>
 ((Zac (fun x:Int × (List (List Int))=>ZaY N a0_ a1_ o510 r511 r516 x.1 x.2) N (0,[r511])).bind fun o2050 =>
 ((ZdQ N a1_ (Zm.mk a2_ r514 r516 j1019.1 (w64 (84+(w64 (a0_.Size)))) j1019.2.1 (Zbv.mk j1019.2.2.1 j1019.2.2.2) 1099511627776 o2050)).bind fun r2052 =>
 (some ((Zm.mk a2_ r514 r516 j1019.1 (w64 (84+(w64 (a0_.Size)))) j1019.2.1 (Zbv.mk j1019.2.2.1 j1019.2.2.2) 1099511627776 o2050),r2052)))))))))))))
def Zbl (N:Nat) (a0_:Zi) (i16:Int) (l17:(List Int)):Option ((Int × (List Int)) ⊕ (((List Int)))) :=
 (if (decide (i16<((List.length a0_.Links:Nat):Int))) then ((idx a0_.Links i16).bind fun e521 =>
 ((idx l17 e521.A).bind fun e522 =>
 ((idx l17 e521.A).bind fun e525 =>
 ((idx (List.set l17 (Int.toNat e521.A) (w64 (e522+1))) e521.B).bind fun e529 =>
 ((idx (List.set l17 (Int.toNat e521.A) (w64 (e522+1))) e521.B).bind fun e532 =>
 (some (.inl ((w64 (i16+1)),(List.set (List.set l17 (Int.toNat e521.A) (w64 (e522+1))) (Int.toNat e521.B) (w64 (e529+1))))))))))) else (some (.inr l17)))
def Zcw (N:Nat) (a0_:Zi) (o536:(List Int)) (i537:Int):Option ((Int) ⊕ ((Unit) ⊕ (Int))) :=
 (if (decide (i537<((List.length a0_.Station:Nat):Int))) then ((idx a0_.Station i537).bind fun e1039 =>
 (((if e1039 then ((idx o536 i537).bind fun e1041=>(if (decide (e1041<1)) then (some true) else ((idx o536 i537).bind fun e1046=>(some (decide (e1046 > 2)))))) else (some false))).bind fun (j1050:Bool) =>
 (if j1050 then (some (.inr (.inr 260))) else (some (.inl (w64 (i537+1))))))) else (some (.inr (.inl ()))))
def Zdn (N:Nat) (a0_:Zi):Option (Int) :=
 (if ((decide (a0_.Nodes<2))||((decide (a0_.Nodes > 12))||(((List.length a0_.Station:Nat):Int) != a0_.Nodes))) then (some 260) else (((if (decide (((List.length a0_.Links:Nat):Int) > 24)) then (some true) else ((Zfj N a0_).bind fun r8=>(some (!r8))))).bind fun (j9:Bool) =>
 (if j9 then (some 260) else ((Zjv 8 a0_.Nodes a0_.Nodes 0).bind fun l13 =>
 ((Zac (fun x:Int × (List Int)=>Zbl N a0_ x.1 x.2) N (0,l13)).bind fun o536 =>
 ((Zac (fun x:Int=>Zcw N a0_ o536 x) N 0).bind fun o1052=>match o1052 with
 | (.inl p1053)=>((Zfk N a0_ 0 (ZbN.mk false false false false false false false false false false false false false false false false false false false false false false false false)).bind fun r1054 =>
 ((ZaK N r1054 false).bind fun r1055 =>
 (if r1055 then (some 260) else (some 0))))
 | (.inr p1057)=>(some p1057)))))))
def ZcY (N:Nat) (a0_:ZX) (c0_:(List Int)) (c1_:(List Int)):Option (Bool × Int) :=
 ((Zbb N a0_ c0_).bind fun r2 =>
 (if (!r2) then (some (false,310)) else ((((Zec N c1_ c0_).bind fun r6=>(if (!r6) then ((ZbU N a0_ c1_ c0_).bind fun r10=>(if (!r10) then ((ZbU N a0_ c0_ c1_).bind fun r14=>(some (!r14))) else (some false))) else (some false)))).bind fun (j17:Bool) =>
 (some (j17,0)))))
def ZcO (N:Nat) (a0_:Zi) (a1_:(List Int)):Option (Int) :=
 ((Zdn N a0_).bind fun r1 =>
 (if (r1 != 0) then (some r1) else ((Zbb N (ZX.mk a0_) a1_).bind fun r3 =>
 (if (!r3) then (some 310) else (some 0)))))
def ZcE (N:Nat) (a0_:Zi) (a1_:(List Int)) (a2_:ZX→Option ((List Int) × Int)):Option ((List Int) × Int) :=
 ((ZcO N a0_ a1_).bind fun r1 =>
 (if (r1 != 0) then (some ([],r1)) else ((a2_ (ZX.mk a0_)).bind fun r3 =>
 (some (r3.1,r3.2)))))
def ZaX (N:Nat) (a0_:Zi) (a1_:ZE) (a2_:Zm) (a3_:Int):Option ((List ZJ) × Int) :=
 ((ZdP N a0_ a1_ a2_ a3_).bind fun r1 =>
 (if (r1 != 0) then (some ([],r1)) else ((idx a2_.Routes a3_).bind fun e3 =>
 ((Zfq N a0_ a1_ a2_ e3).bind fun r4 =>
 (some (r4,0))))))
def ZaW (N:Nat) (a0_:Zi) (a1_:ZE) (a2_:Zm) (a3_:Int):Option (Int × Int) :=
 ((ZdP N a0_ a1_ a2_ a3_).bind fun r1 =>
 (if (r1 != 0) then (some (0,r1)) else ((idx a2_.Routes a3_).bind fun e3 =>
 ((Zhn N a0_ a1_ a2_ e3).bind fun r4 =>
 (some (r4,0))))))
def ZbV (N:Nat) (a0_:Zi) (a1_:(List ZaS)) (i3:Int) (l4:(List Zm)):Option ((Int × (List Zm)) ⊕ (((List Zm)))) :=
 (((if (decide (i3<((List.length a1_:Nat):Int))) then (some (decide (((List.length l4:Nat):Int)<6))) else (some false))).bind fun (j510:Bool) =>
 (if j510 then ((((idx a1_ i3).bind fun e1015 =>
 ((Zb2 N e1015 a0_ (w64 (((List.length l4:Nat):Int)+1))).bind fun r1017 =>
 (if r1017.2 then ((appI 96 l4 [r1017.1]).bind fun l1021 =>
 (some l1021)) else (some l4))))).bind fun (j1014:(List Zm)) =>
 (some (.inl ((w64 (i3+1)),j1014)))) else (some (.inr l4))))
def Zc0 (N:Nat) (a0_:Zi) (a1_:(List ZaS)):Option ((List Zm)) :=
 ((Zac (fun x:Int × (List Zm)=>ZbV N a0_ a1_ x.1 x.2) N (0,[])).bind fun o1022 =>
 (some o1022))
def ZcD (N:Nat) (a0_:Zi) (a1_:(List Int)) (a2_:ZX→Option (Bool × Int)):Option (Bool × Int) :=
 ((ZcO N a0_ a1_).bind fun r1 =>
 (if (r1 != 0) then (some (false,r1)) else ((a2_ (ZX.mk a0_)).bind fun r3 =>
 (some (r3.1,r3.2)))))
def ZcN (N:Nat) (a0_:Zi) (a1_:(List Int)):Option ((List Int) × Int) :=
 ((ZcE N a0_ a1_ (fun x0=>ZdA N x0 a1_)).bind fun r4 =>
 (some (r4.1,r4.2)))
def Zb7 (N:Nat) (a0_:Zbj) (a1_:Zi):Option (Zab) :=
 ((Zc0 N a1_ a0_.L).bind fun r1 =>
 ((appI 96 [] r1).bind fun l4 =>
 (((if (decide (((List.length l4:Nat):Int) > 0)) then ((remI (w64 (a0_.At)) ((List.length l4:Nat):Int)).bind fun m511 =>
 ((idx l4 m511).bind fun e512 =>
 (((if ((Int.tmod a0_.Bit 14)==0) then (some (a0_.Odd.Id,e512.Talker,e512.Listener,e512.Class,e512.Size,e512.Period,e512.Bucket.Burst,e512.Bucket.Rate,e512.Deadline,e512.Routes)) else (if ((Int.tmod a0_.Bit 14)==1) then (some (e512.Id,e512.Listener,e512.Talker,e512.Class,e512.Size,e512.Period,e512.Bucket.Burst,e512.Bucket.Rate,e512.Deadline,e512.Routes)) else (if ((Int.tmod a0_.Bit 14)==2) then (some (e512.Id,e512.Talker,e512.Listener,a0_.Odd.Class,e512.Size,e512.Period,e512.Bucket.Burst,e512.Bucket.Rate,e512.Deadline,e512.Routes)) else (if ((Int.tmod a0_.Bit 14)==3) then (some (e512.Id,e512.Talker,e512.Listener,e512.Class,a0_.Odd.Size,e512.Period,e512.Bucket.Burst,e512.Bucket.Rate,e512.Deadline,e512.Routes)) else (if ((Int.tmod a0_.Bit 14)==4) then (some (e512.Id,e512.Talker,e512.Listener,e512.Class,e512.Size,a0_.Odd.Period,e512.Bucket.Burst,e512.Bucket.Rate,e512.Deadline,e512.Routes)) else (if ((Int.tmod a0_.Bit 14)==5) then (some (e512.Id,e512.Talker,e512.Listener,e512.Class,e512.Size,e512.Period,a0_.Odd.Bucket.Burst,a0_.Odd.Bucket.Rate,e512.Deadline,e512.Routes)) else (if ((Int.tmod a0_.Bit 14)==6) then (some (e512.Id,e512.Talker,e512.Listener,e512.Class,e512.Size,e512.Period,e512.Bucket.Burst,e512.Bucket.Rate,a0_.Odd.Deadline,e512.Routes)) else (if ((Int.tmod a0_.Bit 14)==7) then ((idx e512.Routes 0).bind fun e1027 =>
 ((appI 24 [] e512.Routes).bind fun l1030 =>
 ((appI 24 l1030 [e1027]).bind fun l1033 =>
 (some (e512.Id,e512.Talker,e512.Listener,e512.Class,e512.Size,e512.Period,e512.Bucket.Burst,e512.Bucket.Rate,e512.Deadline,l1033))))) else (if ((Int.tmod a0_.Bit 14)==8) then ((idx e512.Routes 0).bind fun e1036 =>
 ((subI e1036 1 ((List.length e1036:Nat):Int)).bind fun l1037 =>
 (some (e512.Id,e512.Talker,e512.Listener,e512.Class,e512.Size,e512.Period,e512.Bucket.Burst,e512.Bucket.Rate,e512.Deadline,[l1037])))) else (if ((Int.tmod a0_.Bit 14)==9) then (some (e512.Id,e512.Talker,e512.Listener,e512.Class,e512.Size,e512.Period,e512.Bucket.Burst,e512.Bucket.Rate,e512.Deadline,[])) else (if ((Int.tmod a0_.Bit 14)==10) then (some (e512.Id,e512.Talker,e512.Talker,e512.Class,e512.Size,e512.Period,e512.Bucket.Burst,e512.Bucket.Rate,e512.Deadline,e512.Routes)) else (if ((Int.tmod a0_.Bit 14)==11) then ((idx l4 0).bind fun e1041 =>
 (some (e1041.Id,e512.Talker,e512.Listener,e512.Class,e512.Size,e512.Period,e512.Bucket.Burst,e512.Bucket.Rate,e512.Deadline,e512.Routes))) else (if ((Int.tmod a0_.Bit 14)==12) then ((idx l4 0).bind fun e1045 =>
 ((idx e1045.Routes 0).bind fun e1048 =>
 ((appI 24 [] e512.Routes).bind fun l1051 =>
 ((appI 24 l1051 [e1048]).bind fun l1054 =>
 (some (e512.Id,e512.Talker,e512.Listener,e512.Class,e512.Size,e512.Period,e512.Bucket.Burst,e512.Bucket.Rate,e512.Deadline,l1054)))))) else (some (a0_.Odd.Id,a0_.Odd.Talker,a0_.Odd.Listener,a0_.Odd.Class,a0_.Odd.Size,a0_.Odd.Period,a0_.Odd.Bucket.Burst,a0_.Odd.Bucket.Rate,a0_.Odd.Deadline,a0_.Odd.Routes)))))))))))))))).bind fun (j1018:Int × Int × Int × Int × Int × Int × Int × Int × Int × (List (List Int))) =>
 ((idx l4 m511).bind fun e1056 =>
 (some (List.set l4 (Int.toNat m511) (Zm.mk j1018.1 j1018.2.1 j1018.2.2.1 j1018.2.2.2.1 j1018.2.2.2.2.1 j1018.2.2.2.2.2.1 (Zbv.mk j1018.2.2.2.2.2.2.1 j1018.2.2.2.2.2.2.2.1) j1018.2.2.2.2.2.2.2.2.1 j1018.2.2.2.2.2.2.2.2.2))))))) else (some l4))).bind fun (j507:(List Zm)) =>
 (some (Zab.mk r1 j507)))))
def ZcP (N:Nat) (a0_:Zi) (a1_:(List Int)) (a2_:(List Int)):Option (Bool × Int) :=
 ((ZcD N a0_ a1_ (fun x0=>ZcY N x0 a2_ a1_)).bind fun r6 =>
 (some (r6.1,r6.2)))
def ZcX (N:Nat) (a0_:Zi) (a1_:(List Int)):Option (Int × Int × Int) :=
 ((ZcN N a0_ a1_).bind fun r1 =>
 (if (r1.2 != 0) then (some (0,0,r1.2)) else ((idx r1.1 0).bind fun e3 =>
 ((idx r1.1 (w64 (((List.length r1.1:Nat):Int) - 1))).bind fun e4 =>
 (some (e3,e4,0))))))
def Zea (N:Nat) (a0_:Zi) (a1_:(List Int)) (a2_:Int) (a3_:Int):Option (Bool) :=
 ((ZcX N a0_ a1_).bind fun r1 =>
 (some ((r1.2.2==0)&&((r1.1==a2_)&&(r1.2.1==a3_)))))
def Zc7 (N:Nat) (c0_:Zm) (c1_:Zi):Option (Bool) :=
 (if (decide (((List.length c0_.Routes:Nat):Int)<2)) then (some true) else ((idx c0_.Routes 0).bind fun e5 =>
 ((idx c0_.Routes 1).bind fun e7 =>
 ((ZcP N c1_ e5 e7).bind fun r8 =>
 (some ((r8.2==0)&&r8.1))))))
def Zbf (N:Nat) (c0_:Zm) (c1_:Zi) (i2:Int):Option ((Int) ⊕ ((Unit) ⊕ (Bool))) :=
 (if (decide (i2<((List.length c0_.Routes:Nat):Int))) then ((idx c0_.Routes i2).bind fun e504 =>
 ((Zea N c1_ e504 c0_.Talker c0_.Listener).bind fun r508 =>
 (if (!r508) then (some (.inr (.inr false))) else (some (.inl (w64 (i2+1))))))) else (some (.inr (.inl ()))))
def Zc8 (N:Nat) (c0_:Zm) (c1_:Zi):Option (Bool) :=
 ((Zac (fun x:Int=>Zbf N c0_ c1_ x) N 0).bind fun o510=>match o510 with
 | (.inl p511)=>(some true)
 | (.inr p512)=>(some p512))
def ZcM (N:Nat) (a0_:Zi) (a1_:Zm):Option (Bool) :=
 ((Zd1 N  a1_).bind fun r8 =>
 (if (!r8) then (some false) else ((Zd0 N  a0_ a1_).bind fun r11 =>
 (if (!r11) then (some false) else ((ZdZ N  a1_).bind fun r14 =>
 (if (!r14) then (some false) else ((ZdY N  a1_).bind fun r17 =>
 (if (!r17) then (some false) else ((Zc9 N  a1_).bind fun r20 =>
 (if (!r20) then (some false) else ((ZdX N  a1_).bind fun r23 =>
 (if (!r23) then (some false) else ((Zc8 N  a1_ a0_).bind fun r26 =>
 (if (!r26) then (some false) else ((Zc7 N  a1_ a0_).bind fun r29 =>
 (if (!r29) then (some false) else (some true)))))))))))))))))
def Zba (N:Nat) (a0_:Zi) (a1_:Zm):Option (Int) :=
 ((Zdn N a0_).bind fun r1 =>
 (if (r1 != 0) then (some r1) else ((ZcM N a0_ a1_).bind fun r3 =>
 (if (!r3) then (some 321) else (some 0)))))
def Za4 (N:Nat) (a0_:Zi) (a1_:(List Zm)) (i4:Int):Option ((Int) ⊕ ((Unit) ⊕ (Int))) :=
 (if (decide (i4<((List.length a1_:Nat):Int))) then ((idx a1_ i4).bind fun e506 =>
 ((ZcM N a0_ e506).bind fun r507 =>
 (if (!r507) then (some (.inr (.inr 321))) else (some (.inl (w64 (i4+1))))))) else (some (.inr (.inl ()))))
def ZaA (N:Nat) (a1_:(List Zm)) (i514:Int) (l515:(List (Int × Bool))):Option ((Int × (List (Int × Bool))) ⊕ ((Unit) ⊕ (Int))) :=
 (if (decide (i514<((List.length a1_:Nat):Int))) then ((idx a1_ i514).bind fun e1018 =>
 (if (Zle l515 e1018.Id false) then (some (.inr (.inr 322))) else (some (.inl ((w64 (i514+1)),(ZiG l515 e1018.Id true)))))) else (some (.inr (.inl ()))))
def Zcl (N:Nat) (a0_:Zi) (a1_:(List Zm)):Option (Int) :=
 ((Zdn N a0_).bind fun r1 =>
 (if (r1 != 0) then (some r1) else (if (decide (((List.length a1_:Nat):Int) > 12)) then (some 3) else ((Zac (fun x:Int=>Za4 N a0_ a1_ x) N 0).bind fun o509=>match o509 with
 | (.inl p510)=>((Zac (fun x:Int × (List (Int × Bool))=>ZaA N a1_ x.1 x.2) N (0,[])).bind fun o1023=>match o1023 with
 | (.inl p1024)=>(some 0)
 | (.inr p1025)=>(some p1025))
 | (.inr p1026)=>(some p1026)))))
def Zdo (N:Nat) (a0_:Zi) (a1_:ZE) (a2_:Zm) (a3_:Int):Option (Int) :=
 ((Zdn N a0_).bind fun r1 =>
 (if (r1 != 0) then (some r1) else ((Zck N a1_).bind fun r3 =>
 (if (r3 != 0) then (some r3) else ((ZcM N a0_ a2_).bind fun r5 =>
 (if (!r5) then (some 321) else (((if (a2_.Class != 7) then (some true) else ((Zao N a3_ 0 (w64 (((List.length a2_.Routes:Nat):Int) - 1))).bind fun r9=>(some (!r9))))).bind fun (j10:Bool) =>
 (if j10 then (some 2) else (some 0)))))))))
def ZbI (N:Nat) (l14:(List ZJ)) (x12:ZJ):Option ((List ZJ)) :=
 ((appI 40 l14 [x12]).bind fun l518 =>
 (some l518))
def Zaa (N:Nat) (a0_:Zi) (a1_:ZE) (a2_:Zm) (a3_:Int):Option ((List ZJ) × Int) :=
 ((Zdo N a0_ a1_ a2_ a3_).bind fun r1 =>
 (if (r1 != 0) then (some ([],r1)) else ((Zfw N a0_ a1_ a2_ a3_).bind fun r5 =>
 ((ZbX N (fun (s:(List ZJ)) (x12:ZJ)=>Zds (fun v:(List ZJ)=>ZbI N v x12) s) r5.1 r5.2.1 r5.2.2.1 r5.2.2.2 []).bind fun o520 =>
 (some (o520,0))))))
def ZbH (N:Nat) (a0_:Zi) (a1_:ZE) (i22:Int) (x21:ZJ):Option (Int) :=
 ((idx a0_.Links (w64 (Int.tdiv x21.Port 2))).bind fun e524 =>
 (some (w64 ((w64 ((w64 (x21.Open+x21.Long))+e524.Delay))+a1_.Proc))))
def Zah (N:Nat) (a0_:Zi) (a1_:ZE) (a2_:Zm) (a3_:Int):Option (Int × Int) :=
 ((Zdo N a0_ a1_ a2_ a3_).bind fun r7 =>
 (if (r7 != 0) then (some (0,r7)) else ((Zfw N a0_ a1_ a2_ a3_).bind fun r14 =>
 ((ZbX N (fun (s:Int) (x21:ZJ)=>Zds (fun v:Int=>ZbH N a0_ a1_ v x21) s) r14.1 r14.2.1 r14.2.2.1 r14.2.2.2 0).bind fun o527 =>
 (some (o527,0))))))
def ZeQ (N:Nat):Option (Bool) :=
 ((ZgA N).bind fun r1 =>
 ((ZfG N).bind fun r2 =>
 ((ZdF N).bind fun r3 =>
 ((Zaa N r1 r2 r3 0).bind fun r4 =>
 ((Zah N r1 r2 r3 0).bind fun r5 =>
 ((Zaa N r1 r2 r3 1).bind fun r6 =>
 (((if (r4.2 != 0) then (some true) else (if (r5.2 != 0) then (some true) else (if (((List.length r4.1:Nat):Int) != 2) then (some true) else ((idx r4.1 0).bind fun e13=>(if (!((e13.Port==0)&&((e13.Early==0)&&((e13.Late==0)&&((e13.Open==0)&&((e13.Long==800)&&true)))))) then (some true) else ((idx r4.1 1).bind fun e16=>(some (!((e16.Port==2)&&((e16.Early==811)&&((e16.Late==819)&&((e16.Open==900)&&((e16.Long==800)&&true)))))))))))))).bind fun (j17:Bool) =>
 (if j17 then (some false) else ((((Zba N r1 (Zm.mk r3.Id r3.Talker 1 r3.Class r3.Size r3.Period r3.Bucket r3.Deadline r3.Routes)).bind fun r19=>(if (r19==321) then ((Zba N r1 (Zm.mk r3.Id r3.Talker r3.Listener r3.Class 83 r3.Period r3.Bucket r3.Deadline r3.Routes)).bind fun r21=>(if (r21==321) then ((Zba N r1 (Zm.mk r3.Id r3.Talker r3.Listener r3.Class r3.Size r3.Period r3.Bucket r3.Deadline ([[2,0]]))).bind fun r23=>(some (r23==321))) else (some false))) else (some false)))).bind fun (j26:Bool) =>
 (((if (r5.1==1715) then (if (r6.2==2) then (if j26 then ((Zcl N r1 ([r3,r3])).bind fun r30=>(if (r30==322) then ((Zba N r1 r3).bind fun r32=>(some (r32==0))) else (some false))) else (some false)) else (some false)) else (some false))).bind fun (j37:Bool) =>
 (some j37)))))))))))
def Zav (N:Nat) (a0_:Zbj) (a1_:Int) (r1:Zi) (r2:Zab) (i3:Int):Option ((Int) ⊕ ((Unit) ⊕ (Bool))) :=
 (if (decide (i3<((List.length r2.x0:Nat):Int))) then ((Zb1 N a0_.U.x0 a0_.U.x1 a0_.U.x2).bind fun r505 =>
 ((idx r2.x0 i3).bind fun e506 =>
 ((Zaa N r1 a0_.Setup e506 a1_).bind fun r507 =>
 ((idx r2.x0 i3).bind fun e508 =>
 ((ZaX N r1 a0_.Setup e508 a1_).bind fun r509 =>
 ((idx r2.x0 i3).bind fun e510 =>
 ((Zah N r1 a0_.Setup e510 a1_).bind fun r511 =>
 ((idx r2.x0 i3).bind fun e512 =>
 ((ZaW N r1 a0_.Setup e512 a1_).bind fun r513 =>
 (((if (r507.2 != r509.2) then (some true) else (if (r511.2 != r513.2) then (some true) else (if (r511.1 != r513.1) then (some true) else ((Z7 N r507.1 r509.1).bind fun r520=>(some (!r520))))))).bind fun (j521:Bool) =>
 (if j521 then (some (.inr (.inr false))) else ((idx r2.x0 i3).bind fun e523 =>
 ((Zaa N r1 a0_.Setup e523 0).bind fun r524 =>
 ((idx r2.x0 i3).bind fun e525 =>
 ((ZaX N r1 a0_.Setup e525 0).bind fun r526 =>
 ((idx r2.x0 i3).bind fun e527 =>
 ((Zah N r1 a0_.Setup e527 0).bind fun r528 =>
 ((idx r2.x0 i3).bind fun e529 =>
 ((ZaW N r1 a0_.Setup e529 0).bind fun r530 =>
 (((if (r524.2 != r526.2) then (some true) else (if (r528.2 != r530.2) then (some true) else (if (r528.1 != r530.1) then (some true) else ((Z7 N r524.1 r526.1).bind fun r537=>(some (!r537))))))).bind fun (j538:Bool) =>
 (if j538 then (some (.inr (.inr false))) else ((idx r2.x0 i3).bind fun e540 =>
 ((Zaa N r1 a0_.Setup e540 1).bind fun r541 =>
 ((idx r2.x0 i3).bind fun e542 =>
 ((ZaX N r1 a0_.Setup e542 1).bind fun r543 =>
 ((idx r2.x0 i3).bind fun e544 =>
 ((Zah N r1 a0_.Setup e544 1).bind fun r545 =>
 ((idx r2.x0 i3).bind fun e546 =>
 ((ZaW N r1 a0_.Setup e546 1).bind fun r547 =>
 (((if (r541.2 != r543.2) then (some true) else (if (r545.2 != r547.2) then (some true) else (if (r545.1 != r547.1) then (some true) else ((Z7 N r541.1 r543.1).bind fun r554=>(some (!r554))))))).bind fun (j555:Bool) =>
 (if j555 then (some (.inr (.inr false))) else ((idx r2.x0 i3).bind fun e557 =>
 ((Zaa N r1 r505 e557 a1_).bind fun r558 =>
 ((idx r2.x0 i3).bind fun e559 =>
 ((ZaX N r1 r505 e559 a1_).bind fun r560 =>
 ((idx r2.x0 i3).bind fun e561 =>
 ((Zah N r1 r505 e561 a1_).bind fun r562 =>
 ((idx r2.x0 i3).bind fun e563 =>
 ((ZaW N r1 r505 e563 a1_).bind fun r564 =>
 (((if (r558.2 != r560.2) then (some true) else (if (r562.2 != r564.2) then (some true) else (if (r562.1 != r564.1) then (some true) else ((Z7 N r558.1 r560.1).bind fun r571=>(some (!r571))))))).bind fun (j572:Bool) =>
 (if j572 then (some (.inr (.inr false))) else ((idx r2.x0 i3).bind fun e574 =>
 ((Zaa N r1 r505 e574 0).bind fun r575 =>
 ((idx r2.x0 i3).bind fun e576 =>
 ((ZaX N r1 r505 e576 0).bind fun r577 =>
 ((idx r2.x0 i3).bind fun e578 =>
 ((Zah N r1 r505 e578 0).bind fun r579 =>
 ((idx r2.x0 i3).bind fun e580 =>
 ((ZaW N r1 r505 e580 0).bind fun r581 =>
 (((if (r575.2 != r577.2) then (some true) else (if (r579.2 != r581.2) then (some true) else (if (r579.1 != r581.1) then (some true) else ((Z7 N r575.1 r577.1).bind fun r588=>(some (!r588))))))).bind fun (j589:Bool) =>
 (if j589 then (some (.inr (.inr false))) else ((idx r2.x0 i3).bind fun e591 =>
 ((Zaa N r1 r505 e591 1).bind fun r592 =>
 ((idx r2.x0 i3).bind fun e593 =>
 ((ZaX N r1 r505 e593 1).bind fun r594 =>
 ((idx r2.x0 i3).bind fun e595 =>
 ((Zah N r1 r505 e595 1).bind fun r596 =>
 ((idx r2.x0 i3).bind fun e597 =>
 ((ZaW N r1 r505 e597 1).bind fun r598 =>
 (((if (r592.2 != r594.2) then (some true) else (if (r596.2 != r598.2) then (some true) else (if (r596.1 != r598.1) then (some true) else ((Z7 N r592.1 r594.1).bind fun r605=>(some (!r605))))))).bind fun (j606:Bool) =>
 (if j606 then (some (.inr (.inr false))) else (some (.inl (w64 (i3+1))))))))))))))))))))))))))))))))))))))))))))))))))))))))))))))))) else (some (.inr (.inl ()))))
def ZaG (N:Nat) (a0_:Zbj) (a1_:Int) (r1:Zi) (r2:Zab) (i610:Int):Option ((Int) ⊕ ((Unit) ⊕ (Bool))) :=
 (if (decide (i610<((List.length r2.x1:Nat):Int))) then ((Zb1 N a0_.U.x0 a0_.U.x1 a0_.U.x2).bind fun r1112 =>
 ((idx r2.x1 i610).bind fun e1113 =>
 ((Zaa N r1 a0_.Setup e1113 a1_).bind fun r1114 =>
 ((idx r2.x1 i610).bind fun e1115 =>
 ((ZaX N r1 a0_.Setup e1115 a1_).bind fun r1116 =>
 ((idx r2.x1 i610).bind fun e1117 =>
 ((Zah N r1 a0_.Setup e1117 a1_).bind fun r1118 =>
 ((idx r2.x1 i610).bind fun e1119 =>
 ((ZaW N r1 a0_.Setup e1119 a1_).bind fun r1120 =>
 (((if (r1114.2 != r1116.2) then (some true) else (if (r1118.2 != r1120.2) then (some true) else (if (r1118.1 != r1120.1) then (some true) else ((Z7 N r1114.1 r1116.1).bind fun r1127=>(some (!r1127))))))).bind fun (j1128:Bool) =>
 (if j1128 then (some (.inr (.inr false))) else ((idx r2.x1 i610).bind fun e1130 =>
 ((Zaa N r1 a0_.Setup e1130 0).bind fun r1131 =>
 ((idx r2.x1 i610).bind fun e1132 =>
 ((ZaX N r1 a0_.Setup e1132 0).bind fun r1133 =>
 ((idx r2.x1 i610).bind fun e1134 =>
 ((Zah N r1 a0_.Setup e1134 0).bind fun r1135 =>
 ((idx r2.x1 i610).bind fun e1136 =>
 ((ZaW N r1 a0_.Setup e1136 0).bind fun r1137 =>
 (((if (r1131.2 != r1133.2) then (some true) else (if (r1135.2 != r1137.2) then (some true) else (if (r1135.1 != r1137.1) then (some true) else ((Z7 N r1131.1 r1133.1).bind fun r1144=>(some (!r1144))))))).bind fun (j1145:Bool) =>
 (if j1145 then (some (.inr (.inr false))) else ((idx r2.x1 i610).bind fun e1147 =>
 ((Zaa N r1 a0_.Setup e1147 1).bind fun r1148 =>
 ((idx r2.x1 i610).bind fun e1149 =>
 ((ZaX N r1 a0_.Setup e1149 1).bind fun r1150 =>
 ((idx r2.x1 i610).bind fun e1151 =>
 ((Zah N r1 a0_.Setup e1151 1).bind fun r1152 =>
 ((idx r2.x1 i610).bind fun e1153 =>
 ((ZaW N r1 a0_.Setup e1153 1).bind fun r1154 =>
 (((if (r1148.2 != r1150.2) then (some true) else (if (r1152.2 != r1154.2) then (some true) else (if (r1152.1 != r1154.1) then (some true) else ((Z7 N r1148.1 r1150.1).bind fun r1161=>(some (!r1161))))))).bind fun (j1162:Bool) =>
 (if j1162 then (some (.inr (.inr false))) else ((idx r2.x1 i610).bind fun e1164 =>
 ((Zaa N r1 r1112 e1164 a1_).bind fun r1165 =>
 ((idx r2.x1 i610).bind fun e1166 =>
 ((ZaX N r1 r1112 e1166 a1_).bind fun r1167 =>
 ((idx r2.x1 i610).bind fun e1168 =>
 ((Zah N r1 r1112 e1168 a1_).bind fun r1169 =>
 ((idx r2.x1 i610).bind fun e1170 =>
 ((ZaW N r1 r1112 e1170 a1_).bind fun r1171 =>
 (((if (r1165.2 != r1167.2) then (some true) else (if (r1169.2 != r1171.2) then (some true) else (if (r1169.1 != r1171.1) then (some true) else ((Z7 N r1165.1 r1167.1).bind fun r1178=>(some (!r1178))))))).bind fun (j1179:Bool) =>
 (if j1179 then (some (.inr (.inr false))) else ((idx r2.x1 i610).bind fun e1181 =>
 ((Zaa N r1 r1112 e1181 0).bind fun r1182 =>
 ((idx r2.x1 i610).bind fun e1183 =>
 ((ZaX N r1 r1112 e1183 0).bind fun r1184 =>
 ((idx r2.x1 i610).bind fun e1185 =>
 ((Zah N r1 r1112 e1185 0).bind fun r1186 =>
 ((idx r2.x1 i610).bind fun e1187 =>
 ((ZaW N r1 r1112 e1187 0).bind fun r1188 =>
 (((if (r1182.2 != r1184.2) then (some true) else (if (r1186.2 != r1188.2) then (some true) else (if (r1186.1 != r1188.1) then (some true) else ((Z7 N r1182.1 r1184.1).bind fun r1195=>(some (!r1195))))))).bind fun (j1196:Bool) =>
 (if j1196 then (some (.inr (.inr false))) else ((idx r2.x1 i610).bind fun e1198 =>
 ((Zaa N r1 r1112 e1198 1).bind fun r1199 =>
 ((idx r2.x1 i610).bind fun e1200 =>
 ((ZaX N r1 r1112 e1200 1).bind fun r1201 =>
 ((idx r2.x1 i610).bind fun e1202 =>
 ((Zah N r1 r1112 e1202 1).bind fun r1203 =>
 ((idx r2.x1 i610).bind fun e1204 =>
 ((ZaW N r1 r1112 e1204 1).bind fun r1205 =>
 (((if (r1199.2 != r1201.2) then (some true) else (if (r1203.2 != r1205.2) then (some true) else (if (r1203.1 != r1205.1) then (some true) else ((Z7 N r1199.1 r1201.1).bind fun r1212=>(some (!r1212))))))).bind fun (j1213:Bool) =>
 (if j1213 then (some (.inr (.inr false))) else (some (.inl (w64 (i610+1))))))))))))))))))))))))))))))))))))))))))))))))))))))))))))))))) else (some (.inr (.inl ()))))
def Zdh (N:Nat) (a0_:Zbj) (a1_:Int):Option (Bool) :=
 ((Zby N a0_.T).bind fun r1 =>
 ((Zb7 N a0_ r1).bind fun r2 =>
 ((Zac (fun x:Int=>Zav N a0_ a1_ r1 r2 x) N 0).bind fun o608=>match o608 with
 | (.inl p609)=>((Zac (fun x:Int=>ZaG N a0_ a1_ r1 r2 x) N 0).bind fun o1215=>match o1215 with
 | (.inl p1216)=>((ZeQ N).bind fun r1217 =>
 (some r1217))
 | (.inr p1218)=>(some p1218))
 | (.inr p1219)=>(some p1219))))
end Go.Sh

