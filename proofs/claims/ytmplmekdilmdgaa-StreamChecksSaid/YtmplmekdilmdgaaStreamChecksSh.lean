/- Part of the proof; written by a program out of the texts in wip/. -/
import Derived.Test.YtmplmekdilmdgaaStreamChecksE31
namespace Go.Sh
open Go Go.Eng
set_option linter.unusedVariables false
set_option linter.unusedSimpArgs false
set_option maxRecDepth 100000
structure Zap where
 Bridges:Int
 Stations:Int
 Chords:(List Int)
 Homes:(List Int)
 Pers:(List Int)
 Delays:(List Int)
structure ZaK where
 Reserved:Bool
 Two:Bool
 Node:Int
 Way:Int
 Size:Int
 Period:Int
 Burst:Int
 Rate:Int
def Zdb (v:ZaK):List PC:=[.bool v.Reserved,.bool v.Two,.int .u8 v.Node,.int .u8 v.Way,.int .u8 v.Size,.int .u8 v.Period,.int .u8 v.Burst,.int .u16 v.Rate]
structure ZoK where
 x0:Int
 x1:Int
 x2:Int
structure Zbl where
 Burst:Int
 Rate:Int
structure Zh where
 Id:Int
 Talker:Int
 Listener:Int
 Class:Int
 Size:Int
 Period:Int
 Bucket:Zbl
 Deadline:Int
 Routes:(List (List Int))
def Zm (v:Zh):List PC:=[.int .i64 v.Id,.int .i64 v.Talker,.int .i64 v.Listener,.int .i64 v.Class,.int .i64 v.Size,.int .i64 v.Period,.int .i64 v.Bucket.Burst,.int .i64 v.Bucket.Rate,.int .i64 v.Deadline,.sl 1 false (List.map (eSl 1 eI64) v.Routes)]
structure ZL where
 Grid:Int
 Slack:Int
 Proc:Int
 Cap:Int
structure Zcl where
 T:Zap
 L:(List ZaK)
 U:ZoK
 At:Int
 Bit:Int
 Odd:Zh
 Setup:ZL
def Zl9 (v:Zcl):List PC:=[.int .u8 v.T.Bridges,.int .u8 v.T.Stations,.sl 1 false (List.map (eI .u8) v.T.Chords),.sl 1 false (List.map (eI .u8) v.T.Homes),.sl 1 false (List.map (eI .u8) v.T.Pers),.sl 1 false (List.map (eI .u8) v.T.Delays),.sl 8 false (List.map Zdb v.L),.int .u8 v.U.x0,.int .u8 v.U.x1,.int .u8 v.U.x2,.int .u8 v.At,.int .u8 v.Bit,.int .i64 v.Odd.Id,.int .i64 v.Odd.Talker,.int .i64 v.Odd.Listener,.int .i64 v.Odd.Class,.int .i64 v.Odd.Size,.int .i64 v.Odd.Period,.int .i64 v.Odd.Bucket.Burst,.int .i64 v.Odd.Bucket.Rate,.int .i64 v.Odd.Deadline,.sl 1 false (List.map (eSl 1 eI64) v.Odd.Routes),.int .i64 v.Setup.Grid,.int .i64 v.Setup.Slack,.int .i64 v.Setup.Proc,.int .i64 v.Setup.Cap]
structure Zu where
 A:Int
 B:Int
 Per:Int
 Delay:Int
def Zn (v:Zu):List PC:=[.int .i64 v.A,.int .i64 v.B,.int .i64 v.Per,.int .i64 v.Delay]
structure Zg where
 Nodes:Int
 Station:(List Bool)
 Links:(List Zu)
def ZnQ (v:Zg):List PC:=[.int .i64 v.Nodes,.sl 1 false (List.map eB v.Station),.sl 4 false (List.map Zn v.Links)]
structure Z6 where
 x0:(List Zh)
 x1:(List Zh)
structure ZT where
 Port:Int
 Early:Int
 Late:Int
 Open:Int
 Long:Int
def Zab (v:ZT):List PC:=[.int .i64 v.Port,.int .i64 v.Early,.int .i64 v.Late,.int .i64 v.Open,.int .i64 v.Long]
structure ZbE where
 x0:Bool
 x1:Bool
 x2:Bool
 x3:Bool
 x4:Bool
 x5:Bool
 x6:Bool
 x7:Bool
 x8:Bool
 x9:Bool
 x10:Bool
 x11:Bool
 x12:Bool
 x13:Bool
 x14:Bool
 x15:Bool
 x16:Bool
 x17:Bool
 x18:Bool
 x19:Bool
 x20:Bool
 x21:Bool
 x22:Bool
 x23:Bool
structure ZU where
 Topo:Zg
structure Zo where
 x0:Bool
 x1:Bool
 x2:Bool
 x3:Bool
 x4:Bool
 x5:Bool
 x6:Bool
 x7:Bool
 x8:Bool
 x9:Bool
 x10:Bool
 x11:Bool
structure ZaE where
 port:Int
 from_:Int
 to_:Int
abbrev s_eB (f:Bool) (l:List Bool):AV:=.p (.sl 1 f (List.map eB l))
abbrev Ze (f:Bool) (l:List Zu):AV:=.p (.sl 4 f (List.map Zn l))
abbrev ZbH (f:Bool) (l:List ZT):AV:=.p (.sl 5 f (List.map Zab l))
abbrev Zaw (f:Bool) (l:List ZaK):AV:=.p (.sl 8 f (List.map Zdb l))
abbrev Zd (f:Bool) (l:List Zh):AV:=.p (.sl 10 f (List.map Zm l))
abbrev Zj (f:Bool) (l:List (List Int)):AV:=.p (.sl 1 f (List.map (eSl 1 eI64) l))
abbrev ZdF (f:Bool) (l:List Int):AV:=.p (.sl 1 f (List.map (eI .u8) l))
abbrev Zi (f:Bool) (l:List Int):AV:=.p (.sl 1 f (List.map eI64 l))
abbrev Zy (v:Zap):List AV:=[.p (.int .u8 v.Bridges),.p (.int .u8 v.Stations),ZdF false v.Chords,ZdF false v.Homes,ZdF false v.Pers,ZdF false v.Delays]
abbrev ZC (v:ZaK):List AV:=[bv v.Reserved,bv v.Two,.p (.int .u8 v.Node),.p (.int .u8 v.Way),.p (.int .u8 v.Size),.p (.int .u8 v.Period),.p (.int .u8 v.Burst),.p (.int .u16 v.Rate)]
abbrev Zen (v:Zbl):List AV:=[iv v.Burst,iv v.Rate]
abbrev Zf (v:Zh):List AV:=[iv v.Id,iv v.Talker,iv v.Listener,iv v.Class,iv v.Size,iv v.Period,iv v.Bucket.Burst,iv v.Bucket.Rate,iv v.Deadline,Zj false v.Routes]
abbrev Zq (v:ZL):List AV:=[iv v.Grid,iv v.Slack,iv v.Proc,iv v.Cap]
abbrev ZI (v:Zcl):List AV:=[.p (.int .u8 v.T.Bridges),.p (.int .u8 v.T.Stations),ZdF false v.T.Chords,ZdF false v.T.Homes,ZdF false v.T.Pers,ZdF false v.T.Delays,Zaw false v.L,.p (.int .u8 v.U.x0),.p (.int .u8 v.U.x1),.p (.int .u8 v.U.x2),.p (.int .u8 v.At),.p (.int .u8 v.Bit),iv v.Odd.Id,iv v.Odd.Talker,iv v.Odd.Listener,iv v.Odd.Class,iv v.Odd.Size,iv v.Odd.Period,iv v.Odd.Bucket.Burst,iv v.Odd.Bucket.Rate,iv v.Odd.Deadline,Zj false v.Odd.Routes,iv v.Setup.Grid,iv v.Setup.Slack,iv v.Setup.Proc,iv v.Setup.Cap]
abbrev ZP (v:Zu):List AV:=[iv v.A,iv v.B,iv v.Per,iv v.Delay]
abbrev Za (v:Zg):List AV:=[iv v.Nodes,s_eB false v.Station,Ze false v.Links]
abbrev ZN (v:Z6):List AV:=[Zd false v.x0,Zd false v.x1]
abbrev Zb5 (v:ZT):List AV:=[iv v.Port,iv v.Early,iv v.Late,iv v.Open,iv v.Long]
abbrev Zam (v:ZbE):List AV:=[bv v.x0,bv v.x1,bv v.x2,bv v.x3,bv v.x4,bv v.x5,bv v.x6,bv v.x7,bv v.x8,bv v.x9,bv v.x10,bv v.x11,bv v.x12,bv v.x13,bv v.x14,bv v.x15,bv v.x16,bv v.x17,bv v.x18,bv v.x19,bv v.x20,bv v.x21,bv v.x22,bv v.x23]
def ZbE.l (v:ZbE):List Bool:=[v.x0,v.x1,v.x2,v.x3,v.x4,v.x5,v.x6,v.x7,v.x8,v.x9,v.x10,v.x11,v.x12,v.x13,v.x14,v.x15,v.x16,v.x17,v.x18,v.x19,v.x20,v.x21,v.x22,v.x23]
def ZbE.get (v:ZbE) (i:Int):Option Bool:=idx v.l i
abbrev Zv (v:Zo):List AV:=[bv v.x0,bv v.x1,bv v.x2,bv v.x3,bv v.x4,bv v.x5,bv v.x6,bv v.x7,bv v.x8,bv v.x9,bv v.x10,bv v.x11]
def Zo.l (v:Zo):List Bool:=[v.x0,v.x1,v.x2,v.x3,v.x4,v.x5,v.x6,v.x7,v.x8,v.x9,v.x10,v.x11]
def Zo.ofL (l:List Bool):Zo:=⟨l.getD 0 false,l.getD 1 false,l.getD 2 false,l.getD 3 false,l.getD 4 false,l.getD 5 false,l.getD 6 false,l.getD 7 false,l.getD 8 false,l.getD 9 false,l.getD 10 false,l.getD 11 false⟩
def Zo.get (v:Zo) (i:Int):Option Bool:=idx v.l i
def Zo.set (v:Zo) (i:Int) (x:Bool):Zo:=Zo.ofL (v.l.set i.toNat x)
theorem Zo.l_ofL (l:List Bool) (h:l.length=12):(Zo.ofL l).l=l:=Zol 12 false l h rfl
theorem Zo.l_set (v:Zo) (i:Int) (x:Bool):(v.set i x).l=v.l.set i.toNat x:=Zo.l_ofL _ (by rw [List.length_set];rfl)
theorem Zo.c_set (v:Zo) (i:Int) (x:Bool):Zv (v.set i x)=(v.l.set i.toNat x).map (fun x=>bv x):=by rw [← Zo.l_set];rfl
abbrev Z3 (v:ZaE):List AV:=[iv v.port,iv v.from_,iv v.to_]
def ZdI (N:Nat) (a0_:Int) (a1_:Int) (a2_:Int):Option (ZL) :=
 (some (ZL.mk (w64 (100+(w64 (20 * (w64 (a0_)))))) (w64 ((Int.tmod a1_ 40))) (w64 (a2_)) 8000))
def ZhX (N:Nat) (a0_:(List ZT)) (a1_:(List ZT)) (i2:Int):Option ((Int) ⊕ ((Unit) ⊕ (Bool))) :=
 (if (decide (i2<((List.length a0_:Nat):Int))) then ((idx a0_ i2).bind fun e504 =>
 ((idx a1_ i2).bind fun e505 =>
 (if (!((e504.Port==e505.Port)&&((e504.Early==e505.Early)&&((e504.Late==e505.Late)&&((e504.Open==e505.Open)&&((e504.Long==e505.Long)&&true)))))) then (some (.inr (.inr false))) else (some (.inl (w64 (i2+1))))))) else (some (.inr (.inl ()))))
def ZoL (N:Nat) (a0_:(List ZT)) (a1_:(List ZT)):Option (Bool) :=
 (if (((List.length a0_:Nat):Int) != ((List.length a1_:Nat):Int)) then (some false) else ((Z2 (fun x:Int=>ZhX N a0_ a1_ x) N 0).bind fun o507=>match o507 with
 | (.inl p508)=>(some true)
 | (.inr p509)=>(some p509)))
def Zci (N:Nat) (a0_:(List Zh)) (a1_:Int) (i1:Int):Option ((Int) ⊕ ((Unit) ⊕ (Int × Int))) :=
 (if (decide (i1<((List.length a0_:Nat):Int))) then ((idx a0_ i1).bind fun e503 =>
 (if (e503.Id==a1_) then (some (.inr (.inr (i1,0)))) else (some (.inl (w64 (i1+1)))))) else (some (.inr (.inl ()))))
def ZbU (N:Nat) (a0_:(List Zh)) (a1_:Int):Option (Int × Int) :=
 ((Z2 (fun x:Int=>Zci N a0_ a1_ x) N 0).bind fun o505=>match o505 with
 | (.inl p506)=>(some (0,4))
 | (.inr p507)=>(some p507))
def Zd9 (N:Nat) (a0_:(List Zh)) (a1_:Int) (i1:Int):Option ((Int) ⊕ ((Unit) ⊕ (Int × Int))) :=
 (if (decide (i1<((List.length a0_:Nat):Int))) then ((idx a0_ i1).bind fun e503 =>
 (if (e503.Id==a1_) then (some (.inr (.inr (i1,0)))) else (some (.inl (w64 (i1+1)))))) else (some (.inr (.inl ()))))
def Zdv (N:Nat) (a0_:(List Zh)) (a1_:Int):Option (Int × Int) :=
 ((Z2 (fun x:Int=>Zd9 N a0_ a1_ x) N 0).bind fun o505=>match o505 with
 | (.inl p506)=>(some (0,4))
 | (.inr p507)=>(some p507))
def ZgH (N:Nat):Option (Zg) :=
 (some (Zg.mk 3 ([true,false,true]) ([(Zu.mk 0 1 8 5),(Zu.mk 1 2 8 5)])))
def ZfQ (N:Nat):Option (ZL) :=
 (some (ZL.mk 100 2 10 8000))
def ZdM (N:Nat):Option (Zh) :=
 (some (Zh.mk 1 0 2 7 100 20 (Zbl.mk 0 0) 10000 ([[0,2]])))
def Zc8 (N:Nat) (a0_:(List Int)) (a1_:Int):Option (Int) :=
 (if (decide (a1_<((List.length a0_:Nat):Int))) then ((idx a0_ a1_).bind fun e2 =>
 (some (w64 (e2)))) else (some 0))
def ZfF (N:Nat) (a0_:Zg) (a1_:ZL) (a2_:Zh) (a3_:Int):Option (Zh × Int × Zg × ZL) :=
 (some (a2_,a3_,a0_,a1_))
def Zai (N:Nat) (a0_:Int) (a1_:Int) (a2_:Int):Option (Bool) :=
 (some ((decide (a0_ ≥ a1_))&&(decide (a0_≤a2_))))
def ZdV (N:Nat) (a0_:Zu) (a1_:Int) (a2_:Int):Option (Bool) :=
 (some (if (a0_.A==a1_) then ((a0_.B==a2_)||((a0_.A==a2_)&&(a0_.B==a1_))) else ((a0_.A==a2_)&&(a0_.B==a1_))))
def Zaz {σ:Type} (N:Nat) (y_:σ→ZT→Option (σ × Bool)) (c0_:Zh) (c2_:Zg) (c3_:ZL) (e3:(List Int)) (i6:Int) (i7:Int) (i10:Int) (i11:Int) (i12:Int) (i8:Int) (g9:σ):Option ((Int × Int × Int × Int × Int × Int × σ) ⊕ ((σ) ⊕ (σ))) :=
 (if (decide (i6<((List.length e3:Nat):Int))) then ((idx e3 i6).bind fun e516 =>
 (((if (decide (i6 > 0)) then ((idx c2_.Links (w64 (Int.tdiv i7 2))).bind fun e1020 =>
 ((quoI .i64 (w64 ((w64 ((w64 ((w64 ((w64 ((w64 (i12+i8))+e1020.Delay))+c3_.Proc))+(w64 (2 * c3_.Slack))))+c3_.Grid)) - 1)) c3_.Grid).bind fun q1026 =>
 (some ((w64 ((w64 ((w64 ((w64 (i12+i8))+e1020.Delay))+c3_.Proc)) - (w64 (2 * c3_.Slack)))),(w64 ((w64 ((w64 ((w64 (i12+i8))+e1020.Delay))+c3_.Proc))+(w64 (2 * c3_.Slack)))),(w64 (q1026 * c3_.Grid)))))) else (some (i10,i11,i12)))).bind fun (j1017:Int × Int × Int) =>
 ((idx c2_.Links (w64 (Int.tdiv e516 2))).bind fun e1030 =>
 ((y_ g9 (ZT.mk e516 j1017.1 j1017.2.1 j1017.2.2 (w64 (c0_.Size * e1030.Per)))).bind fun r1031 =>
 (if (!r1031.2) then (some (.inr (.inr r1031.1))) else (some (.inl ((w64 (i6+1)),e516,j1017.1,j1017.2.1,j1017.2.2,(w64 (c0_.Size * e1030.Per)),r1031.1)))))))) else (some (.inr (.inl g9))))
def ZbT {σ:Type} (N:Nat) (y_:σ→ZT→Option (σ × Bool)) (c0_:Zh) (c1_:Int) (c2_:Zg) (c3_:ZL) (s_:σ):Option (σ) :=
 ((idx c0_.Routes c1_).bind fun e3 =>
 ((Z2 (fun x:Int × Int × Int × Int × Int × Int × σ=>Zaz N y_ c0_ c2_ c3_ e3 x.1 x.2.1 x.2.2.1 x.2.2.2.1 x.2.2.2.2.1 x.2.2.2.2.2.1 x.2.2.2.2.2.2) N (0,0,0,0,0,0,s_)).bind fun o1035=>match o1035 with
 | (.inl p1036)=>(some p1036)
 | (.inr p1037)=>(some p1037)))
def ZbR (N:Nat) (a0_:Zg) (a1_:Int):Option (Int) :=
 ((idx a0_.Links (w64 (Int.tdiv a1_ 2))).bind fun e1 =>
 (if ((Int.tmod a1_ 2)==1) then (some e1.B) else (some e1.A)))
def ZcJ (N:Nat) (a0_:Zg) (a1_:Int):Option (Int) :=
 ((idx a0_.Links (w64 (Int.tdiv a1_ 2))).bind fun e1 =>
 (if ((Int.tmod a1_ 2)==1) then (some e1.A) else (some e1.B)))
def Za7 (N:Nat) (a0_:Zg) (a2_:ZbE) (i517:Int) (l518:(List Bool)):Option ((Int × (List Bool)) ⊕ (((List Bool)))) :=
 (if (decide (i517<((List.length a0_.Links:Nat):Int))) then ((((idx a0_.Links i517).bind fun e1525 =>
 ((((a2_.get i517).bind fun e1526=>(if (!e1526) then ((idx l518 e1525.A).bind fun e1528=>((idx l518 e1525.B).bind fun e1531=>(some (e1528 != e1531)))) else (some false)))).bind fun (j1535:Bool) =>
 (if j1535 then ((idx l518 e1525.A).bind fun e1537 =>
 ((idx (List.set l518 (Int.toNat e1525.A) true) e1525.B).bind fun e1541 =>
 (some (List.set (List.set l518 (Int.toNat e1525.A) true) (Int.toNat e1525.B) true)))) else (some l518))))).bind fun (j1524:(List Bool)) =>
 (some (.inl ((w64 (i517+1)),j1524)))) else (some (.inr l518)))
def Zbu (N:Nat) (a0_:Zg) (a2_:ZbE) (i10:Int) (l11:(List Bool)):Option ((Int × (List Bool)) ⊕ (((List Bool)))) :=
 (if (decide (i10<a0_.Nodes)) then ((Z2 (fun x:Int × (List Bool)=>Za7 N a0_ a2_ x.1 x.2) N (0,l11)).bind fun o1545 =>
 (some (.inl ((w64 (i10+1)),o1545)))) else (some (.inr l11)))
def Zft (N:Nat) (a0_:Zg) (a1_:Int) (a2_:ZbE):Option ((List Bool)) :=
 ((Zjv 1 a0_.Nodes a0_.Nodes false).bind fun l3 =>
 ((idx l3 a1_).bind fun e4 =>
 ((Z2 (fun x:Int × (List Bool)=>Zbu N a0_ a2_ x.1 x.2) N (0,(List.set l3 (Int.toNat a1_) true))).bind fun o1546 =>
 (some o1546))))
def Zd4 (N:Nat) (c0_:Zh):Option (Bool) :=
 ((Zai N c0_.Id 1 4095).bind fun r2 =>
 (some r2))
def ZcC (N:Nat) (a0_:Zg) (a1_:Int):Option (Bool) :=
 ((((Zai N a1_ 0 (w64 (a0_.Nodes - 1))).bind fun r1=>(if r1 then ((idx a0_.Station a1_).bind fun e3=>(some e3)) else (some false)))).bind fun (j5:Bool) =>
 (some j5))
def Zd2 (N:Nat) (c0_:Zh):Option (Bool) :=
 ((Zai N c0_.Size 84 1542).bind fun r2 =>
 (some r2))
def Zd1 (N:Nat) (c0_:Zh):Option (Bool) :=
 ((Zai N c0_.Deadline 1 1099511627776).bind fun r2 =>
 (some r2))
def Zd0 (N:Nat) (c0_:Zh):Option (Bool) :=
 ((Zai N ((List.length c0_.Routes:Nat):Int) 1 2).bind fun r2 =>
 (some r2))
def ZbZ (N:Nat) (a0_:Int) (a1_:Int) (a2_:Int):Option (Bool) :=
 (some ((decide (a0_ ≥ a1_))&&(decide (a0_≤a2_))))
def ZbY (N:Nat) (a0_:Zg) (a1_:Int):Option (Bool) :=
 ((((ZbZ N a1_ 0 (w64 (a0_.Nodes - 1))).bind fun r1=>(if r1 then ((idx a0_.Station a1_).bind fun e3=>(some e3)) else (some false)))).bind fun (j5:Bool) =>
 (some j5))
def ZeI (N:Nat) (a0_:Zg) (a1_:Int):Option (Bool) :=
 (some ((decide (a1_ ≥ 0))&&(decide (a1_<a0_.Nodes))))
def Zdx (N:Nat) (a0_:(List Int)) (a1_:Int) (i1:Int):Option ((Int) ⊕ ((Unit) ⊕ (Bool))) :=
 (if (decide (i1<((List.length a0_:Nat):Int))) then ((idx a0_ i1).bind fun e503 =>
 (if (e503==a1_) then (some (.inr (.inr true))) else (some (.inl (w64 (i1+1)))))) else (some (.inr (.inl ()))))
def Zfb (N:Nat) (a0_:(List Int)) (a1_:Int):Option (Bool) :=
 ((Z2 (fun x:Int=>Zdx N a0_ a1_ x) N 0).bind fun o505=>match o505 with
 | (.inl p506)=>(some false)
 | (.inr p507)=>(some p507))
def Zbo (N:Nat) (a0_:(List Int)) (a1_:(List Int)) (i1:Int):Option ((Int) ⊕ ((Unit) ⊕ (Bool))) :=
 (if (decide (i1<(w64 (((List.length a0_:Nat):Int) - 1)))) then ((idx a0_ i1).bind fun e503 =>
 ((Zfb N a1_ e503).bind fun r504 =>
 (if r504 then (some (.inr (.inr true))) else (some (.inl (w64 (i1+1))))))) else (some (.inr (.inl ()))))
def Zc7 (N:Nat) (a0_:(List Int)) (a1_:(List Int)):Option (Bool) :=
 ((Z2 (fun x:Int=>Zbo N a0_ a1_ x) N 1).bind fun o506=>match o506 with
 | (.inl p507)=>(some false)
 | (.inr p508)=>(some p508))
def Zba (N:Nat) (a0_:Zg) (a1_:(List Int)) (i7:Int) (l8:(List Int)):Option ((Int × (List Int)) ⊕ (((List Int)))) :=
 (if (decide (i7<((List.length a1_:Nat):Int))) then ((idx a1_ i7).bind fun e512 =>
 ((ZcJ N a0_ e512).bind fun r513 =>
 ((appI 8 l8 [r513]).bind fun l516 =>
 (some (.inl ((w64 (i7+1)),l516)))))) else (some (.inr l8)))
def Zcw (N:Nat) (a0_:Zg) (a1_:(List Int)):Option ((List Int)) :=
 ((idx a1_ 0).bind fun e1 =>
 ((ZbR N a0_ e1).bind fun r2 =>
 ((Z2 (fun x:Int × (List Int)=>Zba N a0_ a1_ x.1 x.2) N (0,[r2])).bind fun o517 =>
 (some o517))))
def Zfu (N:Nat) (a0_:Zg) (a1_:Int):Option (Bool) :=
 (some ((decide (a1_ ≥ 0))&&(decide (a1_<a0_.Nodes))))
def Ze6 (N:Nat) (a0_:Int) (c0_:Zg):Option (Bool) :=
 ((idx c0_.Links a0_).bind fun e2 =>
 ((((idx c0_.Station e2.A).bind fun e4=>(if (!e4) then (some true) else ((idx c0_.Station e2.B).bind fun e8=>(some (!e8)))))).bind fun (j9:Bool) =>
 (some j9)))
def ZbF (N:Nat) (e2:Zu) (l4:List Zu) (i5:Int):Option ((Int) ⊕ ((Unit) ⊕ (Bool))) :=
 (if (decide (i5<((List.length l4:Nat):Int))) then ((idx l4 i5).bind fun e507 =>
 (if (if (e2.A==e507.A) then ((e2.B==e507.B)||((e2.A==e507.B)&&(e2.B==e507.A))) else ((e2.A==e507.B)&&(e2.B==e507.A))) then (some (.inr (.inr false))) else (some (.inl (w64 (i5+1)))))) else (some (.inr (.inl ()))))
def Zeg (N:Nat) (a0_:Int) (c0_:Zg):Option (Bool) :=
 ((idx c0_.Links a0_).bind fun e2 =>
 ((subI c0_.Links 0 a0_).bind fun l4 =>
 ((Z2 (fun x:Int=>ZbF N e2 l4 x) N 0).bind fun o517=>match o517 with
 | (.inl p518)=>(some true)
 | (.inr p519)=>(some p519))))
def Ze5 (N:Nat) (a0_:Int) (c0_:Zg):Option (Bool) :=
 ((idx c0_.Links a0_).bind fun e2 =>
 (some ((decide (e2.Per ≥ 1))&&((decide (e2.Per≤1000))&&((decide (e2.Delay ≥ 0))&&(decide (e2.Delay≤10000)))))))
def Z7 (N:Nat) (a0_:(List Bool)) (a1_:Bool) (i1:Int):Option ((Int) ⊕ ((Unit) ⊕ (Int))) :=
 (if (decide (i1<((List.length a0_:Nat):Int))) then ((idx a0_ i1).bind fun e503 =>
 (if (a1_==e503) then (some (.inr (.inr i1))) else (some (.inl (w64 (i1+1)))))) else (some (.inr (.inl ()))))
def Zbv (N:Nat) (a0_:(List Bool)) (a1_:Bool):Option (Int) :=
 ((Z2 (fun x:Int=>Z7 N a0_ a1_ x) N 0).bind fun o505=>match o505 with
 | (.inl p506)=>(some (-1))
 | (.inr p507)=>(some p507))
def Zcm (N:Nat) (a0_:Int) (a1_:Int) (a2_:Int):Option (Bool) :=
 (some ((decide (a1_≤a0_))&&(decide (a0_≤a2_))))
def ZbI (N:Nat) (a1_:(List Int)) (e503:Int) (i504:Int):Option ((Int) ⊕ ((Unit) ⊕ (Bool))) :=
 (if (decide (i504<((List.length a1_:Nat):Int))) then ((idx a1_ i504).bind fun e1006 =>
 (if ((w64 (Int.tdiv e503 2))==(w64 (Int.tdiv e1006 2))) then (some (.inr (.inr true))) else (some (.inl (w64 (i504+1)))))) else (some (.inr (.inl ()))))
def ZbJ (N:Nat) (a0_:(List Int)) (a1_:(List Int)) (i1:Int):Option ((Int) ⊕ ((Unit) ⊕ (Bool))) :=
 (if (decide (i1<((List.length a0_:Nat):Int))) then ((idx a0_ i1).bind fun e503 =>
 ((Z2 (fun x:Int=>ZbI N a1_ e503 x) N 0).bind fun o1008=>match o1008 with
 | (.inl p1009)=>(some (.inl (w64 (i1+1))))
 | (.inr p1010)=>(some (.inr (.inr p1010))))) else (some (.inr (.inl ()))))
def Zek (N:Nat) (a0_:(List Int)) (a1_:(List Int)):Option (Bool) :=
 ((Z2 (fun x:Int=>ZbJ N a0_ a1_ x) N 0).bind fun o1011=>match o1011 with
 | (.inl p1012)=>(some false)
 | (.inr p1013)=>(some p1013))
def ZfB (N:Nat) (a0_:Zg) (a1_:Int):Option (Bool) :=
 (some ((decide (a1_ ≥ 0))&&(decide (a1_<(w64 (2 * ((List.length a0_.Links:Nat):Int)))))))
def Zbc (N:Nat) (a0_:Zg) (a1_:Int) (i3:Int) (l4:(List Int)):Option ((Int × (List Int)) ⊕ (((List Int)))) :=
 (if (decide (i3<(w64 (2 * ((List.length a0_.Links:Nat):Int))))) then ((((ZbR N a0_ i3).bind fun r1011 =>
 (if (r1011==a1_) then ((appI 8 l4 [i3]).bind fun l1015 =>
 (some l1015)) else (some l4)))).bind fun (j1010:(List Int)) =>
 (some (.inl ((w64 (i3+1)),j1010)))) else (some (.inr l4)))
def ZdU (N:Nat) (a0_:Zg) (a1_:Int):Option ((List Int)) :=
 ((Z2 (fun x:Int × (List Int)=>Zbc N a0_ a1_ x.1 x.2) N (0,[])).bind fun o1016 =>
 (some o1016))
def Zck (N:Nat) (a0_:ZU) (a1_:(List Int)):Option ((List Int) × ZU) :=
 (some (a1_,a0_))
def ZR {σ:Type} (N:Nat) (y_:σ→Int→ZaE→Option (σ × Bool)) (c0_:(List Int)) (c1_:ZU) (i4:Int) (g5:σ):Option ((Int × σ) ⊕ ((σ))) :=
 (if (decide (i4<((List.length c0_:Nat):Int))) then ((idx c0_ i4).bind fun e509 =>
 (((if (decide (e509<0)) then (some true) else (some (decide (e509 ≥ (w64 (2 * ((List.length c1_.Topo.Links:Nat):Int)))))))).bind fun (j513:Bool) =>
 (if j513 then (some (.inr g5)) else ((idx c1_.Topo.Links (w64 (Int.tdiv e509 2))).bind fun e516 =>
 (((if ((Int.tmod e509 2)==1) then (some (e516.B,e516.A)) else (some (e516.A,e516.B)))).bind fun (j1017:Int × Int) =>
 ((y_ g5 i4 (ZaE.mk e509 j1017.1 j1017.2)).bind fun r1019 =>
 (if (!r1019.2) then (some (.inr r1019.1)) else (some (.inl ((w64 (i4+1)),r1019.1)))))))))) else (some (.inr g5)))
def ZbD {σ:Type} (N:Nat) (y_:σ→Int→ZaE→Option (σ × Bool)) (c0_:(List Int)) (c1_:ZU) (s_:σ):Option (σ) :=
 ((Z2 (fun x:Int × σ=>ZR N y_ c0_ c1_ x.1 x.2) N (0,s_)).bind fun o1023 =>
 (some o1023))
def Zaf (N:Nat) (a0_:(List Int)) (a1_:Int) (i1:Int):Option ((Int) ⊕ ((Unit) ⊕ (Int))) :=
 (if (decide (i1<((List.length a0_:Nat):Int))) then ((idx a0_ i1).bind fun e503 =>
 (if (a1_==e503) then (some (.inr (.inr i1))) else (some (.inl (w64 (i1+1)))))) else (some (.inr (.inl ()))))
def ZbX (N:Nat) (a0_:(List Int)) (a1_:Int):Option (Int) :=
 ((Z2 (fun x:Int=>Zaf N a0_ a1_ x) N 0).bind fun o505=>match o505 with
 | (.inl p506)=>(some (-1))
 | (.inr p507)=>(some p507))
def Za3 (N:Nat) (a0_:ZL):Option (Int) :=
 ((((Zai N a0_.Grid 1 10000).bind fun r1=>(if (!r1) then (some true) else ((Zai N a0_.Slack 0 1000).bind fun r4=>(some (!r4)))))).bind fun (j5:Bool) =>
 (if j5 then (some 320) else ((((Zai N a0_.Proc 0 10000).bind fun r7=>(if (!r7) then (some true) else ((Zai N a0_.Cap 1542 65536).bind fun r10=>(some (!r10)))))).bind fun (j11:Bool) =>
 (if j11 then (some 320) else (some 0)))))
def ZeT (N:Nat) (a0_:ZL):Option (Bool) :=
 ((((ZbZ N a0_.Grid 1 10000).bind fun r1=>(if r1 then ((ZbZ N a0_.Slack 0 1000).bind fun r3=>(if r3 then ((ZbZ N a0_.Proc 0 10000).bind fun r5=>(if r5 then ((ZbZ N a0_.Cap 1542 65536).bind fun r7=>(some r7)) else (some false))) else (some false))) else (some false)))).bind fun (j11:Bool) =>
 (some j11))
def ZeJ (N:Nat) (a0_:Zg) (a1_:Zu):Option (Bool) :=
 ((((ZeI N a0_ a1_.A).bind fun r1=>(if (!r1) then (some true) else ((ZeI N a0_ a1_.B).bind fun r4=>(if (!r4) then (some true) else (if (a1_.A==a1_.B) then (some true) else ((idx a0_.Station a1_.A).bind fun e9=>(if e9 then ((idx a0_.Station a1_.B).bind fun e11=>(some e11)) else (some false))))))))).bind fun (j13:Bool) =>
 (if j13 then (some false) else (some ((decide (a1_.Per ≥ 1))&&((decide (a1_.Per≤1000))&&((decide (a1_.Delay ≥ 0))&&(decide (a1_.Delay≤10000))))))))
def ZaR (N:Nat) (a0_:Zg) (a2_:(List Int)) (i517:Int) (l518:(List Bool)):Option ((Int × (List Bool)) ⊕ (((List Bool)))) :=
 (if (decide (i517<((List.length a0_.Links:Nat):Int))) then ((((idx a0_.Links i517).bind fun e1525 =>
 ((((Zfb N a2_ i517).bind fun r1526=>(if (!r1526) then ((idx l518 e1525.A).bind fun e1528=>(if e1528 then (some true) else ((idx l518 e1525.B).bind fun e1533=>(some e1533)))) else (some false)))).bind fun (j1537:Bool) =>
 (if j1537 then ((idx l518 e1525.A).bind fun e1539 =>
 ((idx (List.set l518 (Int.toNat e1525.A) true) e1525.B).bind fun e1543 =>
 (some (List.set (List.set l518 (Int.toNat e1525.A) true) (Int.toNat e1525.B) true)))) else (some l518))))).bind fun (j1524:(List Bool)) =>
 (some (.inl ((w64 (i517+1)),j1524)))) else (some (.inr l518)))
def Zbb (N:Nat) (a0_:Zg) (a2_:(List Int)) (i10:Int) (l11:(List Bool)):Option ((Int × (List Bool)) ⊕ (((List Bool)))) :=
 (if (decide (i10<a0_.Nodes)) then ((Z2 (fun x:Int × (List Bool)=>ZaR N a0_ a2_ x.1 x.2) N (0,l11)).bind fun o1547 =>
 (some (.inl ((w64 (i10+1)),o1547)))) else (some (.inr l11)))
def ZeW (N:Nat) (a0_:Zg) (a1_:Int) (a2_:(List Int)):Option ((List Bool)) :=
 ((Zjv 1 a0_.Nodes a0_.Nodes false).bind fun l3 =>
 ((idx l3 a1_).bind fun e4 =>
 ((Z2 (fun x:Int × (List Bool)=>Zbb N a0_ a2_ x.1 x.2) N (0,(List.set l3 (Int.toNat a1_) true))).bind fun o1548 =>
 (some o1548))))
def Zca (N:Nat) (a1_:(List Int)) (a2_:(List Int)) (i1:Int) (i503:Int):Option ((Int) ⊕ ((Unit) ⊕ (Bool))) :=
 (if (decide (i503<((List.length a2_:Nat):Int))) then ((idx a1_ i1).bind fun e1005 =>
 ((idx a2_ i503).bind fun e1006 =>
 (if ((w64 (Int.tdiv e1005 2))==(w64 (Int.tdiv e1006 2))) then (some (.inr (.inr false))) else (some (.inl (w64 (i503+1))))))) else (some (.inr (.inl ()))))
def Zcb (N:Nat) (a1_:(List Int)) (a2_:(List Int)) (i1:Int):Option ((Int) ⊕ ((Unit) ⊕ (Bool))) :=
 (if (decide (i1<((List.length a1_:Nat):Int))) then ((Z2 (fun x:Int=>Zca N a1_ a2_ i1 x) N 0).bind fun o1008=>match o1008 with
 | (.inl p1009)=>(some (.inl (w64 (i1+1))))
 | (.inr p1010)=>(some (.inr (.inr p1010)))) else (some (.inr (.inl ()))))
def Zcx (N:Nat) (a0_:Zg) (a1_:(List Int)) (a2_:(List Int)):Option (Bool) :=
 ((Z2 (fun x:Int=>Zcb N a1_ a2_ x) N 0).bind fun o1011=>match o1011 with
 | (.inl p1012)=>((((Zcw N a0_ a1_).bind fun r1013=>((Zcw N a0_ a2_).bind fun r1014=>((Zc7 N r1013 r1014).bind fun r1015=>(if (!r1015) then ((Zcw N a0_ a2_).bind fun r1017=>((Zcw N a0_ a1_).bind fun r1018=>((Zc7 N r1017 r1018).bind fun r1019=>(some (!r1019))))) else (some false)))))).bind fun (j1021:Bool) =>
 (some j1021))
 | (.inr p1022)=>(some p1022))
def ZaD (N:Nat) (a0_:(List Bool)) (a1_:Bool):Option (Bool) :=
 ((Zbv N a0_ a1_).bind fun r1 =>
 (some (decide (r1 ≥ 0))))
def Zd3 (N:Nat) (c0_:Zg) (c1_:Zh):Option (Bool) :=
 ((((ZcC N c0_ c1_.Talker).bind fun r3=>(if r3 then ((ZcC N c0_ c1_.Listener).bind fun r7=>(if r7 then (some (c1_.Talker != c1_.Listener)) else (some false))) else (some false)))).bind fun (j13:Bool) =>
 (some j13))
def Zfh (N:Nat) (a0_:Zbl):Option (Int) :=
 ((((Zcm N a0_.Burst 1 1048576).bind fun r1=>(if (!r1) then (some true) else ((Zcm N a0_.Rate 1 2097152).bind fun r4=>(some (!r4)))))).bind fun (j5:Bool) =>
 (if j5 then (some 130) else (some 0)))
def Zb8 (N:Nat) (a0_:Zg) (a1_:(List Int)) (i4:Int):Option ((Int) ⊕ ((Unit) ⊕ (Bool))) :=
 (if (decide (i4<((List.length a1_:Nat):Int))) then ((idx a1_ i4).bind fun e506 =>
 ((ZfB N a0_ e506).bind fun r507 =>
 (if (!r507) then (some (.inr (.inr false))) else (some (.inl (w64 (i4+1))))))) else (some (.inr (.inl ()))))
def Zb7 (N:Nat) (a0_:Zg) (a1_:(List Int)) (r511:(List Int)) (i512:Int):Option ((Int) ⊕ ((Unit) ⊕ (Bool))) :=
 (if (decide (i512<((List.length r511:Nat):Int))) then ((subI r511 0 i512).bind fun l1014 =>
 ((idx r511 i512).bind fun e1015 =>
 ((Zfb N l1014 e1015).bind fun r1016 =>
 (if r1016 then (some (.inr (.inr false))) else (((if (decide (i512 > 0)) then (if (decide (i512<((List.length a1_:Nat):Int))) then ((idx r511 i512).bind fun e1020=>((idx a0_.Station e1020).bind fun e1021=>(if e1021 then (some true) else ((idx a1_ i512).bind fun e1024=>((ZbR N a0_ e1024).bind fun r1025=>((idx r511 i512).bind fun e1026=>(some (r1025 != e1026)))))))) else (some false)) else (some false))).bind fun (j1029:Bool) =>
 (if j1029 then (some (.inr (.inr false))) else (some (.inl (w64 (i512+1)))))))))) else (some (.inr (.inl ()))))
def Zb9 (N:Nat) (a0_:Zg) (a1_:(List Int)):Option (Bool) :=
 (if ((decide (((List.length a1_:Nat):Int)<1))||(decide (((List.length a1_:Nat):Int) > 8))) then (some false) else ((Z2 (fun x:Int=>Zb8 N a0_ a1_ x) N 0).bind fun o509=>match o509 with
 | (.inl p510)=>((Zcw N a0_ a1_).bind fun r511 =>
 ((Z2 (fun x:Int=>Zb7 N a0_ a1_ r511 x) N 0).bind fun o1031=>match o1031 with
 | (.inl p1032)=>(some true)
 | (.inr p1033)=>(some p1033)))
 | (.inr p1034)=>(some p1034)))
def ZaT (N:Nat) (a0_:Zg) (l8:(List Int)) (r521:(List Int)) (i526:Int) (l527:(List Int)):Option ((Int × (List Int)) ⊕ (((List Int)))) :=
 (if (decide (i526<((List.length r521:Nat):Int))) then ((((idx r521 i526).bind fun e1538 =>
 ((ZcJ N a0_ e1538).bind fun r1539 =>
 ((Zfb N l8 r1539).bind fun r1540 =>
 (if (!r1540) then ((idx r521 i526).bind fun e1543 =>
 ((appI 8 l527 [e1543]).bind fun l1546 =>
 (some l1546))) else (some l527)))))).bind fun (j1537:(List Int)) =>
 (some (.inl ((w64 (i526+1)),j1537)))) else (some (.inr l527)))
def Zb1 (N:Nat) (a0_:Zg) (a2_:Int) (i7:Int) (l8:(List Int)) (l9:(List Int)):Option ((Int × (List Int) × (List Int)) ⊕ (((List Int)) ⊕ ((List Int)))) :=
 (((if (decide (((List.length l9:Nat):Int)<8)) then (if (((List.length l9:Nat):Int)==0) then (some true) else ((idx a0_.Station i7).bind fun e517=>(some (!e517)))) else (some false))).bind fun (j519:Bool) =>
 (if j519 then ((ZdU N a0_ i7).bind fun r521 =>
 ((Z2 (fun x:Int × (List Int)=>ZaT N a0_ l8 r521 x.1 x.2) N (0,[])).bind fun o1547 =>
 (if (((List.length o1547:Nat):Int)==0) then (some (.inr (.inr l9))) else ((remI (w64 ((w64 (a2_))+(w64 (3 * ((List.length l9:Nat):Int))))) ((List.length o1547:Nat):Int)).bind fun m1552 =>
 ((idx o1547 m1552).bind fun e1553 =>
 ((appI 8 l9 [e1553]).bind fun l1558 =>
 ((ZcJ N a0_ e1553).bind fun r1559 =>
 ((appI 8 l8 [r1559]).bind fun l1562 =>
 (some (.inl (r1559,l1562,l1558))))))))))) else (some (.inr (.inl l9)))))
def ZfA (N:Nat) (a0_:Zg) (a1_:Int) (a2_:Int):Option ((List Int)) :=
 ((remI (w64 (a1_)) a0_.Nodes).bind fun m1 =>
 ((Z2 (fun x:Int × (List Int) × (List Int)=>Zb1 N a0_ a2_ x.1 x.2.1 x.2.2) N (m1,[m1],[])).bind fun o1563=>match o1563 with
 | (.inl p1564)=>(some p1564)
 | (.inr p1565)=>(some p1565)))
def Ze7 (N:Nat) (a0_:Int) (c0_:Zg):Option (Bool) :=
 ((idx c0_.Links a0_).bind fun e2 =>
 ((((Zfu N c0_ e2.A).bind fun r4=>(if r4 then ((Zfu N c0_ e2.B).bind fun r7=>(if r7 then (some (e2.A != e2.B)) else (some false))) else (some false)))).bind fun (j11:Bool) =>
 (some j11)))
def Zan (N:Nat) (a0_:ZU) (i524:Int) (i525:Int) (l526:Zo) (x522:Int) (x523:ZaE):Option ((Int × Int × Zo) × Nat) :=
 (if (x522==0) then ((l526.get x523.from_).bind fun e1026 =>
 (((Zo.set l526 x523.from_ true).get x523.to_).bind fun e1028 =>
 (if e1028 then (some ((i524,i525,(Zo.set l526 x523.from_ true)),1)) else (((Zo.set l526 x523.from_ true).get x523.to_).bind fun e1031 =>
 (some (((w64 (i524+1)),x523.to_,(Zo.set (Zo.set l526 x523.from_ true) x523.to_ true)),0)))))) else (((if (x523.from_ != i525) then (some true) else ((idx a0_.Topo.Station i525).bind fun e1041=>(some e1041)))).bind fun (j1042:Bool) =>
 (if j1042 then (some ((i524,i525,l526),1)) else ((l526.get x523.to_).bind fun e1044 =>
 (if e1044 then (some ((i524,i525,l526),1)) else ((l526.get x523.to_).bind fun e1047 =>
 (some (((w64 (i524+1)),x523.to_,(Zo.set l526 x523.to_ true)),0))))))))
def ZaY (N:Nat) (a0_:ZU) (a1_:(List Int)):Option (Bool) :=
 (if ((decide (((List.length a1_:Nat):Int)<1))||(decide (((List.length a1_:Nat):Int) > 8))) then (some false) else ((((Zck N a0_ a1_).bind fun r517 =>
 ((ZbD N (fun (s:(Int × Int × Zo) × Nat) (x522:Int) (x523:ZaE)=>Zie (fun v:Int × Int × Zo=>Zan N a0_ v.1 v.2.1 v.2.2 x522 x523) s) r517.1 r517.2 ((0,0,(Zo.mk false false false false false false false false false false false false)),0)).bind fun o1052 =>
 (if (o1052.2==0) then (some o1052.1.1) else (if (o1052.2==1) then (some o1052.1.1) else none))))).bind fun (j515:Int) =>
 (some (j515==((List.length a1_:Nat):Int)))))
def Zax (N:Nat) (l15:(List Int)) (x13:Int) (x14:ZaE):Option ((List Int)) :=
 (((if (x13==0) then ((appI 8 l15 [x14.from_]).bind fun l1023 =>
 (some l1023)) else (some l15))).bind fun (j1018:(List Int)) =>
 ((appI 8 j1018 [x14.to_]).bind fun l1028 =>
 (some l1028)))
def Zbn (N:Nat) (a0_:ZU) (a1_:(List Int)):Option ((List Int)) :=
 ((Zjv 8 0 (w64 (((List.length a1_:Nat):Int)+1)) 0).bind fun l3 =>
 ((Zck N a0_ a1_).bind fun r7 =>
 ((ZbD N (fun (s:(List Int)) (x13:Int) (x14:ZaE)=>ZdB (fun v:(List Int)=>Zax N v x13 x14) s) r7.1 r7.2 l3).bind fun o1030 =>
 (some o1030))))
def ZaM (N:Nat) (a0_:(List Int)) (a1_:Int):Option (Bool) :=
 ((ZbX N a0_ a1_).bind fun r1 =>
 (some (decide (r1 ≥ 0))))
def ZdG (N:Nat) (a0_:ZU) (c0_:(List Int)):Option ((List Int) × Int) :=
 ((Zbn N a0_ c0_).bind fun r2 =>
 (some (r2,0)))
def ZbQ (N:Nat) (a0_:ZL):Option (Int) :=
 ((ZeT N a0_).bind fun r1 =>
 (if r1 then (some 0) else (some 320)))
def Zcd (N:Nat) (a0_:Zg) (i13:Int) (e518:Zu) (i521:Int):Option ((Int) ⊕ ((Unit) ⊕ (Bool))) :=
 (if (decide (i521<i13)) then ((idx a0_.Links i521).bind fun e1023 =>
 ((ZdV N e1023 e518.A e518.B).bind fun r1024 =>
 (if r1024 then (some (.inr (.inr false))) else (some (.inl (w64 (i521+1))))))) else (some (.inr (.inl ()))))
def ZaQ (N:Nat) (a0_:Zg) (i13:Int) (l14:(List Int)):Option ((Int × (List Int)) ⊕ (((List Int)) ⊕ (Bool))) :=
 (if (decide (i13<((List.length a0_.Links:Nat):Int))) then ((idx a0_.Links i13).bind fun e518 =>
 ((ZeJ N a0_ e518).bind fun r519 =>
 (if (!r519) then (some (.inr (.inr false))) else ((Z2 (fun x:Int=>Zcd N a0_ i13 e518 x) N 0).bind fun o1026=>match o1026 with
 | (.inl p1027)=>((idx l14 e518.A).bind fun e1028 =>
 ((idx l14 e518.A).bind fun e1031 =>
 ((idx (List.set l14 (Int.toNat e518.A) (w64 (e1028+1))) e518.B).bind fun e1035 =>
 ((idx (List.set l14 (Int.toNat e518.A) (w64 (e1028+1))) e518.B).bind fun e1038 =>
 (some (.inl ((w64 (i13+1)),(List.set (List.set l14 (Int.toNat e518.A) (w64 (e1028+1))) (Int.toNat e518.B) (w64 (e1035+1))))))))))
 | (.inr p1042)=>(some (.inr (.inr p1042))))))) else (some (.inr (.inl l14))))
def Zcc (N:Nat) (a0_:Zg) (p1044:(List Int)) (r1045:(List Bool)) (i1046:Int):Option ((Int) ⊕ ((Unit) ⊕ (Bool))) :=
 (if (decide (i1046<a0_.Nodes)) then ((((idx r1045 i1046).bind fun e1548=>(if (!e1548) then (some true) else ((idx a0_.Station i1046).bind fun e1551=>(if e1551 then ((idx p1044 i1046).bind fun e1553=>(if (decide (e1553<1)) then (some true) else ((idx p1044 i1046).bind fun e1558=>(some (decide (e1558 > 2)))))) else (some false)))))).bind fun (j1562:Bool) =>
 (if j1562 then (some (.inr (.inr false))) else (some (.inl (w64 (i1046+1)))))) else (some (.inr (.inl ()))))
def ZdT (N:Nat) (a0_:Zg):Option (Bool) :=
 (if ((decide (a0_.Nodes<2))||((decide (a0_.Nodes > 12))||((((List.length a0_.Station:Nat):Int) != a0_.Nodes)||(decide (((List.length a0_.Links:Nat):Int) > 24))))) then (some false) else ((Zjv 8 a0_.Nodes a0_.Nodes 0).bind fun l10 =>
 ((Z2 (fun x:Int × (List Int)=>ZaQ N a0_ x.1 x.2) N (0,l10)).bind fun o1043=>match o1043 with
 | (.inl p1044)=>((ZeW N a0_ 0 ([])).bind fun r1045 =>
 ((Z2 (fun x:Int=>Zcc N a0_ p1044 r1045 x) N 0).bind fun o1564=>match o1564 with
 | (.inl p1565)=>(some true)
 | (.inr p1566)=>(some p1566)))
 | (.inr p1567)=>(some p1567))))
def ZaL (N:Nat) (a1_:Zg) (a2_:Int) (a3_:Int) (i14:Int):Option ((Int) ⊕ ((Unit) ⊕ (Zg))) :=
 (if (decide (i14<((List.length a1_.Links:Nat):Int))) then ((idx a1_.Links i14).bind fun e516 =>
 ((ZdV N e516 a2_ a3_).bind fun r519 =>
 (if r519 then (some (.inr (.inr a1_))) else (some (.inl (w64 (i14+1))))))) else (some (.inr (.inl ()))))
def Z8 (N:Nat) (a0_:Zap) (a1_:Zg) (a2_:Int) (a3_:Int):Option (Zg) :=
 ((Zc8 N a0_.Pers ((List.length a1_.Links:Nat):Int)).bind fun r2 =>
 ((Zc8 N a0_.Delays ((List.length a1_.Links:Nat):Int)).bind fun r3 =>
 (((if (((List.length a1_.Links:Nat):Int)==24) then (some true) else ((ZeJ N a1_ (Zu.mk a2_ a3_ (w64 (1+(Int.tmod r2 20))) (Int.tmod r3 50))).bind fun r6=>(some (!r6))))).bind fun (j12:Bool) =>
 (if j12 then (some a1_) else ((Z2 (fun x:Int=>ZaL N a1_ a2_ a3_ x) N 0).bind fun o521=>match o521 with
 | (.inl p522)=>((appI 32 a1_.Links [(Zu.mk a2_ a3_ (w64 (1+(Int.tmod r2 20))) (Int.tmod r3 50))]).bind fun l525 =>
 (some (Zg.mk a1_.Nodes a1_.Station l525)))
 | (.inr p526)=>(some p526))))))
def ZbA (N:Nat) (a0_:Zg) (a1_:Zh) (i27:Int):Option ((Int) ⊕ ((Unit) ⊕ (Bool))) :=
 (if (decide (i27<((List.length a1_.Routes:Nat):Int))) then ((idx a1_.Routes i27).bind fun e529 =>
 ((((Zb9 N a0_ e529).bind fun r530=>(if (!r530) then (some true) else ((idx e529 0).bind fun e533=>((ZbR N a0_ e533).bind fun r534=>(if (r534 != a1_.Talker) then (some true) else ((idx e529 (w64 (((List.length e529:Nat):Int) - 1))).bind fun e537=>((ZcJ N a0_ e537).bind fun r538=>(some (r538 != a1_.Listener)))))))))).bind fun (j539:Bool) =>
 (if j539 then (some (.inr (.inr false))) else (some (.inl (w64 (i27+1))))))) else (some (.inr (.inl ()))))
def Zdj (N:Nat) (a0_:Zg) (a1_:Zh) (i562:Int):Option ((Int) ⊕ ((Unit) ⊕ (Bool))) :=
 (if (decide (i562<((List.length a1_.Routes:Nat):Int))) then ((idx a1_.Routes i562).bind fun e1064 =>
 ((((Zb9 N a0_ e1064).bind fun r1065=>(if (!r1065) then (some true) else ((idx e1064 0).bind fun e1068=>((ZbR N a0_ e1068).bind fun r1069=>(if (r1069 != a1_.Talker) then (some true) else ((idx e1064 (w64 (((List.length e1064:Nat):Int) - 1))).bind fun e1072=>((ZcJ N a0_ e1072).bind fun r1073=>(some (r1073 != a1_.Listener)))))))))).bind fun (j1074:Bool) =>
 (if j1074 then (some (.inr (.inr false))) else (some (.inl (w64 (i562+1))))))) else (some (.inr (.inl ()))))
def Zdu (N:Nat) (a0_:Zg) (a1_:Zh):Option (Bool) :=
 ((((ZbZ N a1_.Id 1 4095).bind fun r1=>(if (!r1) then (some true) else ((ZbY N a0_ a1_.Talker).bind fun r4=>(if (!r4) then (some true) else ((ZbY N a0_ a1_.Listener).bind fun r7=>(if (!r7) then (some true) else (if (a1_.Talker==a1_.Listener) then (some true) else ((ZbZ N a1_.Size 84 1542).bind fun r12=>(if (!r12) then (some true) else ((ZbZ N a1_.Deadline 1 1099511627776).bind fun r15=>(some (!r15))))))))))))).bind fun (j16:Bool) =>
 (if j16 then (some false) else (if (a1_.Class==7) then ((((ZbZ N a1_.Period 1 240).bind fun r19=>(if (!r19) then (some true) else (some (!((a1_.Bucket.Burst==0)&&((a1_.Bucket.Rate==0)&&true))))))).bind fun (j22:Bool) =>
 (if j22 then (some false) else (if ((decide (((List.length a1_.Routes:Nat):Int)<1))||(decide (((List.length a1_.Routes:Nat):Int) > 2))) then (some false) else ((Z2 (fun x:Int=>ZbA N a0_ a1_ x) N 0).bind fun o541=>match o541 with
 | (.inl p542)=>(((if (((List.length a1_.Routes:Nat):Int)==1) then (some true) else ((idx a1_.Routes 0).bind fun e545=>((idx a1_.Routes 1).bind fun e546=>((Zcx N a0_ e545 e546).bind fun r547=>(some r547)))))).bind fun (j548:Bool) =>
 (some j548))
 | (.inr p549)=>(some p549))))) else (if (a1_.Class==6) then (((if (a1_.Period != 0) then (some true) else ((ZbZ N a1_.Bucket.Burst a1_.Size 1048576).bind fun r553=>(if (!r553) then (some true) else ((ZbZ N a1_.Bucket.Rate 1 2097152).bind fun r556=>(some (!r556))))))).bind fun (j557:Bool) =>
 (if j557 then (some false) else (if ((decide (((List.length a1_.Routes:Nat):Int)<1))||(decide (((List.length a1_.Routes:Nat):Int) > 2))) then (some false) else ((Z2 (fun x:Int=>Zdj N a0_ a1_ x) N 0).bind fun o1076=>match o1076 with
 | (.inl p1077)=>(((if (((List.length a1_.Routes:Nat):Int)==1) then (some true) else ((idx a1_.Routes 0).bind fun e1080=>((idx a1_.Routes 1).bind fun e1081=>((Zcx N a0_ e1080 e1081).bind fun r1082=>(some r1082)))))).bind fun (j1083:Bool) =>
 (some j1083))
 | (.inr p1084)=>(some p1084))))) else (some false)))))
def Zc3 (N:Nat) (a0_:Zg) (a1_:Int) (a2_:Int) (i1:Int):Option ((Int) ⊕ ((Unit) ⊕ ((List Int)))) :=
 (if (decide (i1<16)) then ((ZfA N a0_ a1_ (IntKind.u8.wrap (a2_+(IntKind.u8.wrap (i1))))).bind fun r503 =>
 (((if (decide (((List.length r503:Nat):Int) > 0)) then ((Zb9 N a0_ r503).bind fun r505=>(if r505 then ((idx r503 0).bind fun e507=>((ZbR N a0_ e507).bind fun r508=>((idx a0_.Station r508).bind fun e509=>(if e509 then ((idx r503 (w64 (((List.length r503:Nat):Int) - 1))).bind fun e511=>((ZcJ N a0_ e511).bind fun r512=>((idx a0_.Station r512).bind fun e513=>(some e513)))) else (some false))))) else (some false))) else (some false))).bind fun (j517:Bool) =>
 (if j517 then ((neL r503).bind fun _=>(some (.inr (.inr r503)))) else (some (.inl (w64 (i1+1))))))) else (some (.inr (.inl ()))))
def ZeH (N:Nat) (a0_:Zg) (a1_:Int) (a2_:Int):Option ((List Int)) :=
 ((Z2 (fun x:Int=>Zc3 N a0_ a1_ a2_ x) N 0).bind fun o519=>match o519 with
 | (.inl p520)=>(some [])
 | (.inr p521)=>(some p521))
def Zct (N:Nat) (a0_:Zg) (i4:Int):Option ((Int) ⊕ ((Unit) ⊕ (Bool))) :=
 (if (decide (i4<((List.length a0_.Links:Nat):Int))) then ((Ze7 N i4 a0_).bind fun r506 =>
 (if (!r506) then (some (.inr (.inr false))) else ((Ze6 N i4 a0_).bind fun r508 =>
 (if (!r508) then (some (.inr (.inr false))) else ((Zeg N i4 a0_).bind fun r510 =>
 (if (!r510) then (some (.inr (.inr false))) else ((Ze5 N i4 a0_).bind fun r512 =>
 (if (!r512) then (some (.inr (.inr false))) else (some (.inl (w64 (i4+1)))))))))))) else (some (.inr (.inl ()))))
def Zfs (N:Nat) (a0_:Zg):Option (Bool) :=
 ((Z2 (fun x:Int=>Zct N a0_ x) N 0).bind fun o514=>match o514 with
 | (.inl p515)=>(some true)
 | (.inr p516)=>(some p516))
def Zdi (N:Nat) (c0_:Zh):Option (Bool) :=
 (if (c0_.Class==7) then ((((Zai N c0_.Period 1 240).bind fun r4=>(if r4 then (some ((c0_.Bucket.Burst==0)&&((c0_.Bucket.Rate==0)&&true))) else (some false)))).bind fun (j8:Bool) =>
 (some j8)) else (if (c0_.Class==6) then (((if (c0_.Period==0) then ((Zfh N c0_.Bucket).bind fun r13=>(if (r13==0) then (some (decide (c0_.Bucket.Burst ≥ c0_.Size))) else (some false))) else (some false))).bind fun (j19:Bool) =>
 (some j19)) else (some false)))
def ZaI (N:Nat) (r2:(List Int)) (l3:List Int) (i4:Int):Option ((Int) ⊕ ((Unit) ⊕ (Bool))) :=
 (if (decide (i4<((List.length l3:Nat):Int))) then ((idx l3 i4).bind fun e506 =>
 ((ZaM N r2 e506).bind fun r507 =>
 (if r507 then (some (.inr (.inr true))) else (some (.inl (w64 (i4+1))))))) else (some (.inr (.inl ()))))
def ZbO (N:Nat) (a0_:ZU) (a1_:(List Int)) (a2_:(List Int)):Option (Bool) :=
 ((Zbn N a0_ a1_).bind fun r1 =>
 ((Zbn N a0_ a2_).bind fun r2 =>
 ((subI r1 1 (w64 (((List.length r1:Nat):Int) - 1))).bind fun l3 =>
 ((Z2 (fun x:Int=>ZaI N r2 l3 x) N 0).bind fun o509=>match o509 with
 | (.inl p510)=>(some false)
 | (.inr p511)=>(some p511)))))
def Zae (N:Nat) (a0_:Zap) (i3:Int) (l4:(List Bool)):Option ((Int × (List Bool)) ⊕ (((List Bool)))) :=
 (if (decide (i3<(w64 ((w64 (1+(w64 ((Int.tmod a0_.Bridges 6)))))+(w64 (2+(w64 ((Int.tmod a0_.Stations 5))))))))) then ((appI 1 l4 [(decide (i3 ≥ (w64 (1+(w64 ((Int.tmod a0_.Bridges 6)))))))]).bind fun l510 =>
 (some (.inl ((w64 (i3+1)),l510)))) else (some (.inr l4)))
def Zad (N:Nat) (a0_:Zap) (i515:Int) (i516:Int) (l517:(List Bool)) (l518:(List Zu)):Option ((Int × Int × (List Bool) × (List Zu)) ⊕ ((Int × (List Bool) × (List Zu)))) :=
 (if (decide (i515<(w64 (1+(w64 ((Int.tmod a0_.Bridges 6))))))) then ((Z8 N a0_ (Zg.mk i516 l517 l518) (w64 (i515 - 1)) i515).bind fun r1023 =>
 (some (.inl ((w64 (i515+1)),r1023.Nodes,r1023.Station,r1023.Links)))) else (some (.inr (i516,l517,l518))))
def Zac (N:Nat) (a0_:Zap) (i1031:Int) (i1032:Int) (l1033:(List Bool)) (l1034:(List Zu)):Option ((Int × Int × (List Bool) × (List Zu)) ⊕ ((Int × (List Bool) × (List Zu)))) :=
 (if (decide (i1031<(w64 (2+(w64 ((Int.tmod a0_.Stations 5))))))) then ((Zc8 N a0_.Homes (w64 (2 * i1031))).bind fun r1539 =>
 ((remI r1539 (w64 (1+(w64 ((Int.tmod a0_.Bridges 6)))))).bind fun m1540 =>
 ((Z8 N a0_ (Zg.mk i1032 l1033 l1034) (w64 ((w64 (1+(w64 ((Int.tmod a0_.Bridges 6)))))+i1031)) m1540).bind fun r1541 =>
 (some (.inl ((w64 (i1031+1)),r1541.Nodes,r1541.Station,r1541.Links)))))) else (some (.inr (i1032,l1033,l1034))))
def ZZ (N:Nat) (a0_:Zap) (i2060:Int) (i2061:Int) (l2062:(List Bool)) (l2063:(List Zu)):Option ((Int × Int × (List Bool) × (List Zu)) ⊕ ((Int × (List Bool) × (List Zu)))) :=
 (if (decide (i2060<(w64 (2+(w64 ((Int.tmod a0_.Stations 5))))))) then ((((Zc8 N a0_.Homes (w64 ((w64 (2 * i2060))+1))).bind fun r3072 =>
 (if (decide ((Int.tmod r3072 3) > 0)) then ((Zc8 N a0_.Homes (w64 ((w64 (2 * i2060))+1))).bind fun r3074 =>
 ((remI r3074 (w64 (1+(w64 ((Int.tmod a0_.Bridges 6)))))).bind fun m3075 =>
 ((Z8 N a0_ (Zg.mk i2061 l2062 l2063) (w64 ((w64 (1+(w64 ((Int.tmod a0_.Bridges 6)))))+i2060)) m3075).bind fun r3076 =>
 (some (r3076.Nodes,r3076.Station,r3076.Links))))) else (some (i2061,l2062,l2063))))).bind fun (j3071:Int × (List Bool) × (List Zu)) =>
 (some (.inl ((w64 (i2060+1)),j3071.1,j3071.2.1,j3071.2.2)))) else (some (.inr (i2061,l2062,l2063))))
def Zao (N:Nat) (a0_:Zap) (i3084:Int) (i3085:Int) (l3086:(List Bool)) (l3087:(List Zu)):Option ((Int × Int × (List Bool) × (List Zu)) ⊕ ((Int × (List Bool) × (List Zu)))) :=
 (if ((decide ((w64 (i3084+1))<((List.length a0_.Chords:Nat):Int)))&&(decide (i3084<12))) then ((idx a0_.Chords i3084).bind fun e3594 =>
 ((remI (w64 (e3594)) (w64 (1+(w64 ((Int.tmod a0_.Bridges 6)))))).bind fun m3595 =>
 ((idx a0_.Chords (w64 (i3084+1))).bind fun e3596 =>
 ((remI (w64 (e3596)) (w64 (1+(w64 ((Int.tmod a0_.Bridges 6)))))).bind fun m3597 =>
 ((Z8 N a0_ (Zg.mk i3085 l3086 l3087) m3595 m3597).bind fun r3598 =>
 (some (.inl ((w64 (i3084+2)),r3598.Nodes,r3598.Station,r3598.Links)))))))) else (some (.inr (i3085,l3086,l3087))))
def Zbp (N:Nat) (a0_:Zap):Option (Zg) :=
 ((Z2 (fun x:Int × (List Bool)=>Zae N a0_ x.1 x.2) N (0,[])).bind fun o511 =>
 ((Z2 (fun x:Int × Int × (List Bool) × (List Zu)=>Zad N a0_ x.1 x.2.1 x.2.2.1 x.2.2.2) N (1,(w64 ((w64 (1+(w64 ((Int.tmod a0_.Bridges 6)))))+(w64 (2+(w64 ((Int.tmod a0_.Stations 5))))))),o511,[])).bind fun o1027 =>
 ((Z2 (fun x:Int × Int × (List Bool) × (List Zu)=>Zac N a0_ x.1 x.2.1 x.2.2.1 x.2.2.2) N (0,o1027.1,o1027.2.1,o1027.2.2)).bind fun o1545 =>
 (((if ((decide ((w64 (1+(w64 ((Int.tmod a0_.Bridges 6))))) > 2))&&((Int.tmod a0_.Bridges 2)==0)) then ((Z8 N a0_ (Zg.mk o1545.1 o1545.2.1 o1545.2.2) (w64 ((w64 (1+(w64 ((Int.tmod a0_.Bridges 6))))) - 1)) 0).bind fun r2053 =>
 (some (r2053.Nodes,r2053.Station,r2053.Links))) else (some (o1545.1,o1545.2.1,o1545.2.2)))).bind fun (j2049:Int × (List Bool) × (List Zu)) =>
 ((Z2 (fun x:Int × Int × (List Bool) × (List Zu)=>ZZ N a0_ x.1 x.2.1 x.2.2.1 x.2.2.2) N (0,j2049.1,j2049.2.1,j2049.2.2)).bind fun o3080 =>
 ((Z2 (fun x:Int × Int × (List Bool) × (List Zu)=>Zao N a0_ x.1 x.2.1 x.2.2.1 x.2.2.2) N (0,o3080.1,o3080.2.1,o3080.2.2)).bind fun o3602 =>
 (some (Zg.mk o3602.1 o3602.2.1 o3602.2.2))))))))
def Zcv (N:Nat) (a0_:Zg) (a1_:Zh):Option (Int) :=
 ((ZdT N a0_).bind fun r1 =>
 (if (!r1) then (some 260) else ((Zdu N a0_ a1_).bind fun r3 =>
 (if (!r3) then (some 321) else (some 0)))))
def Za4 (N:Nat) (a0_:Zg) (a1_:(List Zh)) (i4:Int):Option ((Int) ⊕ ((Unit) ⊕ (Int))) :=
 (if (decide (i4<((List.length a1_:Nat):Int))) then ((idx a1_ i4).bind fun e506 =>
 ((Zdu N a0_ e506).bind fun r507 =>
 (if (!r507) then (some (.inr (.inr 321))) else (some (.inl (w64 (i4+1))))))) else (some (.inr (.inl ()))))
def ZaB (N:Nat) (a1_:(List Zh)) (i511:Int) (i1013:Int):Option ((Int) ⊕ ((Unit) ⊕ (Int))) :=
 (if (decide (i1013<i511)) then ((idx a1_ i1013).bind fun e1515 =>
 ((idx a1_ i511).bind fun e1516 =>
 (if (e1515.Id==e1516.Id) then (some (.inr (.inr 322))) else (some (.inl (w64 (i1013+1))))))) else (some (.inr (.inl ()))))
def ZaC (N:Nat) (a1_:(List Zh)) (i511:Int):Option ((Int) ⊕ ((Unit) ⊕ (Int))) :=
 (if (decide (i511<((List.length a1_:Nat):Int))) then ((Z2 (fun x:Int=>ZaB N a1_ i511 x) N 0).bind fun o1518=>match o1518 with
 | (.inl p1519)=>(some (.inl (w64 (i511+1))))
 | (.inr p1520)=>(some (.inr (.inr p1520)))) else (some (.inr (.inl ()))))
def ZbB (N:Nat) (a0_:Zg) (a1_:(List Zh)):Option (Int) :=
 ((ZdT N a0_).bind fun r1 =>
 (if (!r1) then (some 260) else (if (decide (((List.length a1_:Nat):Int) > 12)) then (some 3) else ((Z2 (fun x:Int=>Za4 N a0_ a1_ x) N 0).bind fun o509=>match o509 with
 | (.inl p510)=>((Z2 (fun x:Int=>ZaC N a1_ x) N 0).bind fun o1521=>match o1521 with
 | (.inl p1522)=>(some 0)
 | (.inr p1523)=>(some p1523))
 | (.inr p1524)=>(some p1524)))))
def ZaO (N:Nat) (a1_:Zg) (i2:Int) (i3:Int):Option ((Int × Int) ⊕ ((Int))) :=
 (((if (decide (i3<a1_.Nodes)) then ((idx a1_.Station i2).bind fun e505=>(some (!e505))) else (some false))).bind fun (j507:Bool) =>
 (if j507 then ((remI (w64 (i2+1)) a1_.Nodes).bind fun m509 =>
 (some (.inl (m509,(w64 (i3+1)))))) else (some (.inr i2))))
def ZaN (N:Nat) (a0_:ZaK) (a1_:Zg) (o510:Int) (r511:(List Int)) (r516:Int) (i1024:Int) (l1025:(List (List Int))):Option ((Int × (List (List Int))) ⊕ (((List (List Int))))) :=
 (((if (decide (i1024<24)) then (if a0_.Two then (some (((List.length l1025:Nat):Int)==1)) else (some false)) else (some false))).bind fun (j1533:Bool) =>
 (if j1533 then ((((ZeH N a1_ (IntKind.u8.wrap (o510)) (IntKind.u8.wrap (a0_.Way+(IntKind.u8.wrap (i1024))))).bind fun r2038 =>
 (if (List.isEmpty r2038) then (some l1025) else ((((idx r2038 (w64 (((List.length r2038:Nat):Int) - 1))).bind fun e2040=>((ZcJ N a1_ e2040).bind fun r2041=>(if (r2041==r516) then ((Zcx N a1_ r511 r2038).bind fun r2043=>(some r2043)) else (some false))))).bind fun (j2045:Bool) =>
 (if j2045 then ((appI 24 l1025 [r2038]).bind fun l2049 =>
 (some l2049)) else (some l1025)))))).bind fun (j2037:(List (List Int))) =>
 (some (.inl ((w64 (i1024+1)),j2037)))) else (some (.inr l1025))))
def Zb0 (N:Nat) (a0_:ZaK) (a1_:Zg) (a2_:Int):Option (Zh × Bool) :=
 ((remI (w64 (a0_.Node)) a1_.Nodes).bind fun m1 =>
 ((Z2 (fun x:Int × Int=>ZaO N a1_ x.1 x.2) N (m1,0)).bind fun o510 =>
 ((ZeH N a1_ (IntKind.u8.wrap (o510)) a0_.Way).bind fun r511 =>
 (if (List.isEmpty r511) then (some ((Zh.mk 0 0 0 0 0 0 (Zbl.mk 0 0) 0 ([])),false)) else ((idx r511 0).bind fun e513 =>
 ((ZbR N a1_ e513).bind fun r514 =>
 ((idx r511 (w64 (((List.length r511:Nat):Int) - 1))).bind fun e515 =>
 ((ZcJ N a1_ e515).bind fun r516 =>
 (((if a0_.Reserved then (some (6,0,(w64 ((w64 (84+(w64 (a0_.Size))))+(w64 (4 * (w64 (a0_.Burst)))))),(w64 (1+(w64 (a0_.Rate)))))) else ((idx [4,6,8,12,16,24,48,10,5,240] (Int.tmod a0_.Period 10)).bind fun e1021 =>
 (some (7,e1021,0,0))))).bind fun (j1019:Int × Int × Int × Int) =>
 ((Z2 (fun x:Int × (List (List Int))=>ZaN N a0_ a1_ o510 r511 r516 x.1 x.2) N (0,[r511])).bind fun o2050 =>
 ((Zdu N a1_ (Zh.mk a2_ r514 r516 j1019.1 (w64 (84+(w64 (a0_.Size)))) j1019.2.1 (Zbl.mk j1019.2.2.1 j1019.2.2.2) 1099511627776 o2050)).bind fun r2052 =>
 (some ((Zh.mk a2_ r514 r516 j1019.1 (w64 (84+(w64 (a0_.Size)))) j1019.2.1 (Zbl.mk j1019.2.2.1 j1019.2.2.2) 1099511627776 o2050),r2052)))))))))))))
def Za8 (N:Nat) (a0_:Zg) (i16:Int) (l17:(List Int)):Option ((Int × (List Int)) ⊕ (((List Int)))) :=
 (if (decide (i16<((List.length a0_.Links:Nat):Int))) then ((idx a0_.Links i16).bind fun e521 =>
 ((idx l17 e521.A).bind fun e522 =>
 ((idx l17 e521.A).bind fun e525 =>
 ((idx (List.set l17 (Int.toNat e521.A) (w64 (e522+1))) e521.B).bind fun e529 =>
 ((idx (List.set l17 (Int.toNat e521.A) (w64 (e522+1))) e521.B).bind fun e532 =>
 (some (.inl ((w64 (i16+1)),(List.set (List.set l17 (Int.toNat e521.A) (w64 (e522+1))) (Int.toNat e521.B) (w64 (e529+1))))))))))) else (some (.inr l17)))
def Zcu (N:Nat) (a0_:Zg) (o536:(List Int)) (i537:Int):Option ((Int) ⊕ ((Unit) ⊕ (Int))) :=
 (if (decide (i537<((List.length a0_.Station:Nat):Int))) then ((idx a0_.Station i537).bind fun e1039 =>
 (((if e1039 then ((idx o536 i537).bind fun e1041=>(if (decide (e1041<1)) then (some true) else ((idx o536 i537).bind fun e1046=>(some (decide (e1046 > 2)))))) else (some false))).bind fun (j1050:Bool) =>
 (if j1050 then (some (.inr (.inr 260))) else (some (.inl (w64 (i537+1))))))) else (some (.inr (.inl ()))))
def Zdz (N:Nat) (a0_:Zg):Option (Int) :=
 (if ((decide (a0_.Nodes<2))||((decide (a0_.Nodes > 12))||(((List.length a0_.Station:Nat):Int) != a0_.Nodes))) then (some 260) else (((if (decide (((List.length a0_.Links:Nat):Int) > 24)) then (some true) else ((Zfs N a0_).bind fun r8=>(some (!r8))))).bind fun (j9:Bool) =>
 (if j9 then (some 260) else ((Zjv 8 a0_.Nodes a0_.Nodes 0).bind fun l13 =>
 ((Z2 (fun x:Int × (List Int)=>Za8 N a0_ x.1 x.2) N (0,l13)).bind fun o536 =>
 ((Z2 (fun x:Int=>Zcu N a0_ o536 x) N 0).bind fun o1052=>match o1052 with
 | (.inl p1053)=>((Zft N a0_ 0 (ZbE.mk false false false false false false false false false false false false false false false false false false false false false false false false)).bind fun r1054 =>
 ((ZaD N r1054 false).bind fun r1055 =>
 (if r1055 then (some 260) else (some 0))))
 | (.inr p1057)=>(some p1057)))))))
def Zc2 (N:Nat) (a0_:ZU) (c0_:(List Int)) (c1_:(List Int)):Option (Bool × Int) :=
 ((ZaY N a0_ c0_).bind fun r2 =>
 (if (!r2) then (some (false,310)) else ((((Zek N c1_ c0_).bind fun r6=>(if (!r6) then ((ZbO N a0_ c1_ c0_).bind fun r10=>(if (!r10) then ((ZbO N a0_ c0_ c1_).bind fun r14=>(some (!r14))) else (some false))) else (some false)))).bind fun (j17:Bool) =>
 (some (j17,0)))))
def ZcR (N:Nat) (a0_:Zg) (a1_:(List Int)):Option (Int) :=
 ((Zdz N a0_).bind fun r1 =>
 (if (r1 != 0) then (some r1) else ((ZaY N (ZU.mk a0_) a1_).bind fun r3 =>
 (if (!r3) then (some 310) else (some 0)))))
def ZcE (N:Nat) (a0_:Zg) (a1_:(List Int)) (a2_:ZU→Option ((List Int) × Int)):Option ((List Int) × Int) :=
 ((ZcR N a0_ a1_).bind fun r1 =>
 (if (r1 != 0) then (some ([],r1)) else ((a2_ (ZU.mk a0_)).bind fun r3 =>
 (some (r3.1,r3.2)))))
def ZbP (N:Nat) (a0_:Zg) (a1_:(List ZaK)) (i3:Int) (l4:(List Zh)):Option ((Int × (List Zh)) ⊕ (((List Zh)))) :=
 (((if (decide (i3<((List.length a1_:Nat):Int))) then (some (decide (((List.length l4:Nat):Int)<6))) else (some false))).bind fun (j510:Bool) =>
 (if j510 then ((((idx a1_ i3).bind fun e1015 =>
 ((Zb0 N e1015 a0_ (w64 (((List.length l4:Nat):Int)+1))).bind fun r1017 =>
 (if r1017.2 then ((appI 96 l4 [r1017.1]).bind fun l1021 =>
 (some l1021)) else (some l4))))).bind fun (j1014:(List Zh)) =>
 (some (.inl ((w64 (i3+1)),j1014)))) else (some (.inr l4))))
def Zc4 (N:Nat) (a0_:Zg) (a1_:(List ZaK)):Option ((List Zh)) :=
 ((Z2 (fun x:Int × (List Zh)=>ZbP N a0_ a1_ x.1 x.2) N (0,[])).bind fun o1022 =>
 (some o1022))
def ZcD (N:Nat) (a0_:Zg) (a1_:(List Int)) (a2_:ZU→Option (Bool × Int)):Option (Bool × Int) :=
 ((ZcR N a0_ a1_).bind fun r1 =>
 (if (r1 != 0) then (some (false,r1)) else ((a2_ (ZU.mk a0_)).bind fun r3 =>
 (some (r3.1,r3.2)))))
def ZcQ (N:Nat) (a0_:Zg) (a1_:(List Int)):Option ((List Int) × Int) :=
 ((ZcE N a0_ a1_ (fun x0=>ZdG N x0 a1_)).bind fun r4 =>
 (some (r4.1,r4.2)))
def Zb4 (N:Nat) (a0_:Zcl) (a1_:Zg):Option (Z6) :=
 ((Zc4 N a1_ a0_.L).bind fun r1 =>
 ((appI 96 [] r1).bind fun l4 =>
 (((if (decide (((List.length l4:Nat):Int) > 0)) then ((remI (w64 (a0_.At)) ((List.length l4:Nat):Int)).bind fun m511 =>
 ((idx l4 m511).bind fun e512 =>
 (((if ((Int.tmod a0_.Bit 14)==0) then (some (a0_.Odd.Id,e512.Talker,e512.Listener,e512.Class,e512.Size,e512.Period,e512.Bucket.Burst,e512.Bucket.Rate,e512.Deadline,e512.Routes)) else (if ((Int.tmod a0_.Bit 14)==1) then (some (e512.Id,e512.Listener,e512.Talker,e512.Class,e512.Size,e512.Period,e512.Bucket.Burst,e512.Bucket.Rate,e512.Deadline,e512.Routes)) else (if ((Int.tmod a0_.Bit 14)==2) then (some (e512.Id,e512.Talker,e512.Listener,a0_.Odd.Class,e512.Size,e512.Period,e512.Bucket.Burst,e512.Bucket.Rate,e512.Deadline,e512.Routes)) else (if ((Int.tmod a0_.Bit 14)==3) then (some (e512.Id,e512.Talker,e512.Listener,e512.Class,a0_.Odd.Size,e512.Period,e512.Bucket.Burst,e512.Bucket.Rate,e512.Deadline,e512.Routes)) else (if ((Int.tmod a0_.Bit 14)==4) then (some (e512.Id,e512.Talker,e512.Listener,e512.Class,e512.Size,a0_.Odd.Period,e512.Bucket.Burst,e512.Bucket.Rate,e512.Deadline,e512.Routes)) else (if ((Int.tmod a0_.Bit 14)==5) then (some (e512.Id,e512.Talker,e512.Listener,e512.Class,e512.Size,e512.Period,a0_.Odd.Bucket.Burst,a0_.Odd.Bucket.Rate,e512.Deadline,e512.Routes)) else (if ((Int.tmod a0_.Bit 14)==6) then (some (e512.Id,e512.Talker,e512.Listener,e512.Class,e512.Size,e512.Period,e512.Bucket.Burst,e512.Bucket.Rate,a0_.Odd.Deadline,e512.Routes)) else (if ((Int.tmod a0_.Bit 14)==7) then ((idx e512.Routes 0).bind fun e1027 =>
 ((appI 24 [] e512.Routes).bind fun l1030 =>
 ((appI 24 l1030 [e1027]).bind fun l1033 =>
 (some (e512.Id,e512.Talker,e512.Listener,e512.Class,e512.Size,e512.Period,e512.Bucket.Burst,e512.Bucket.Rate,e512.Deadline,l1033))))) else (if ((Int.tmod a0_.Bit 14)==8) then ((idx e512.Routes 0).bind fun e1036 =>
 ((subI e1036 1 ((List.length e1036:Nat):Int)).bind fun l1037 =>
 (some (e512.Id,e512.Talker,e512.Listener,e512.Class,e512.Size,e512.Period,e512.Bucket.Burst,e512.Bucket.Rate,e512.Deadline,[l1037])))) else (if ((Int.tmod a0_.Bit 14)==9) then (some (e512.Id,e512.Talker,e512.Listener,e512.Class,e512.Size,e512.Period,e512.Bucket.Burst,e512.Bucket.Rate,e512.Deadline,[])) else (if ((Int.tmod a0_.Bit 14)==10) then (some (e512.Id,e512.Talker,e512.Talker,e512.Class,e512.Size,e512.Period,e512.Bucket.Burst,e512.Bucket.Rate,e512.Deadline,e512.Routes)) else (if ((Int.tmod a0_.Bit 14)==11) then ((idx l4 0).bind fun e1041 =>
 (some (e1041.Id,e512.Talker,e512.Listener,e512.Class,e512.Size,e512.Period,e512.Bucket.Burst,e512.Bucket.Rate,e512.Deadline,e512.Routes))) else (if ((Int.tmod a0_.Bit 14)==12) then ((idx l4 0).bind fun e1045 =>
 ((idx e1045.Routes 0).bind fun e1048 =>
 ((appI 24 [] e512.Routes).bind fun l1051 =>
 ((appI 24 l1051 [e1048]).bind fun l1054 =>
 (some (e512.Id,e512.Talker,e512.Listener,e512.Class,e512.Size,e512.Period,e512.Bucket.Burst,e512.Bucket.Rate,e512.Deadline,l1054)))))) else (some (a0_.Odd.Id,a0_.Odd.Talker,a0_.Odd.Listener,a0_.Odd.Class,a0_.Odd.Size,a0_.Odd.Period,a0_.Odd.Bucket.Burst,a0_.Odd.Bucket.Rate,a0_.Odd.Deadline,a0_.Odd.Routes)))))))))))))))).bind fun (j1018:Int × Int × Int × Int × Int × Int × Int × Int × Int × (List (List Int))) =>
 ((idx l4 m511).bind fun e1056 =>
 (some (List.set l4 (Int.toNat m511) (Zh.mk j1018.1 j1018.2.1 j1018.2.2.1 j1018.2.2.2.1 j1018.2.2.2.2.1 j1018.2.2.2.2.2.1 (Zbl.mk j1018.2.2.2.2.2.2.1 j1018.2.2.2.2.2.2.2.1) j1018.2.2.2.2.2.2.2.2.1 j1018.2.2.2.2.2.2.2.2.2))))))) else (some l4))).bind fun (j507:(List Zh)) =>
 (some (Z6.mk r1 j507)))))
def ZcS (N:Nat) (a0_:Zg) (a1_:(List Int)) (a2_:(List Int)):Option (Bool × Int) :=
 ((ZcD N a0_ a1_ (fun x0=>Zc2 N x0 a2_ a1_)).bind fun r6 =>
 (some (r6.1,r6.2)))
def Zc1 (N:Nat) (a0_:Zg) (a1_:(List Int)):Option (Int × Int × Int) :=
 ((ZcQ N a0_ a1_).bind fun r1 =>
 (if (r1.2 != 0) then (some (0,0,r1.2)) else ((idx r1.1 0).bind fun e3 =>
 ((idx r1.1 (w64 (((List.length r1.1:Nat):Int) - 1))).bind fun e4 =>
 (some (e3,e4,0))))))
def Zeh (N:Nat) (a0_:Zg) (a1_:(List Int)) (a2_:Int) (a3_:Int):Option (Bool) :=
 ((Zc1 N a0_ a1_).bind fun r1 =>
 (some ((r1.2.2==0)&&((r1.1==a2_)&&(r1.2.1==a3_)))))
def Zdg (N:Nat) (c0_:Zh) (c1_:Zg):Option (Bool) :=
 (if (decide (((List.length c0_.Routes:Nat):Int)<2)) then (some true) else ((idx c0_.Routes 0).bind fun e5 =>
 ((idx c0_.Routes 1).bind fun e7 =>
 ((ZcS N c1_ e5 e7).bind fun r8 =>
 (some ((r8.2==0)&&r8.1))))))
def Za2 (N:Nat) (c0_:Zh) (c1_:Zg) (i2:Int):Option ((Int) ⊕ ((Unit) ⊕ (Bool))) :=
 (if (decide (i2<((List.length c0_.Routes:Nat):Int))) then ((idx c0_.Routes i2).bind fun e504 =>
 ((Zeh N c1_ e504 c0_.Talker c0_.Listener).bind fun r508 =>
 (if (!r508) then (some (.inr (.inr false))) else (some (.inl (w64 (i2+1))))))) else (some (.inr (.inl ()))))
def Zdh (N:Nat) (c0_:Zh) (c1_:Zg):Option (Bool) :=
 ((Z2 (fun x:Int=>Za2 N c0_ c1_ x) N 0).bind fun o510=>match o510 with
 | (.inl p511)=>(some true)
 | (.inr p512)=>(some p512))
def ZcN (N:Nat) (a0_:Zg) (a1_:Zh):Option (Bool) :=
 ((Zd4 N  a1_).bind fun r8 =>
 (if (!r8) then (some false) else ((Zd3 N  a0_ a1_).bind fun r11 =>
 (if (!r11) then (some false) else ((Zd2 N  a1_).bind fun r14 =>
 (if (!r14) then (some false) else ((Zd1 N  a1_).bind fun r17 =>
 (if (!r17) then (some false) else ((Zdi N  a1_).bind fun r20 =>
 (if (!r20) then (some false) else ((Zd0 N  a1_).bind fun r23 =>
 (if (!r23) then (some false) else ((Zdh N  a1_ a0_).bind fun r26 =>
 (if (!r26) then (some false) else ((Zdg N  a1_ a0_).bind fun r29 =>
 (if (!r29) then (some false) else (some true)))))))))))))))))
def Zal (N:Nat) (a0_:Zg) (a1_:Zh):Option (Int) :=
 ((Zdz N a0_).bind fun r1 =>
 (if (r1 != 0) then (some r1) else ((ZcN N a0_ a1_).bind fun r3 =>
 (if (!r3) then (some 321) else (some 0)))))
def ZaS (N:Nat) (a0_:Zg) (a1_:(List Zh)) (i4:Int):Option ((Int) ⊕ ((Unit) ⊕ (Int))) :=
 (if (decide (i4<((List.length a1_:Nat):Int))) then ((idx a1_ i4).bind fun e506 =>
 ((ZcN N a0_ e506).bind fun r507 =>
 (if (!r507) then (some (.inr (.inr 321))) else (some (.inl (w64 (i4+1))))))) else (some (.inr (.inl ()))))
def Zar (N:Nat) (a1_:(List Zh)) (i514:Int) (l515:(List (Int × Bool))):Option ((Int × (List (Int × Bool))) ⊕ ((Unit) ⊕ (Int))) :=
 (if (decide (i514<((List.length a1_:Nat):Int))) then ((idx a1_ i514).bind fun e1018 =>
 (if (Zlh l515 e1018.Id false) then (some (.inr (.inr 322))) else (some (.inl ((w64 (i514+1)),(ZiE l515 e1018.Id true)))))) else (some (.inr (.inl ()))))
def ZaF (N:Nat) (a0_:Zg) (a1_:(List Zh)):Option (Int) :=
 ((Zdz N a0_).bind fun r1 =>
 (if (r1 != 0) then (some r1) else (if (decide (((List.length a1_:Nat):Int) > 12)) then (some 3) else ((Z2 (fun x:Int=>ZaS N a0_ a1_ x) N 0).bind fun o509=>match o509 with
 | (.inl p510)=>((Z2 (fun x:Int × (List (Int × Bool))=>Zar N a1_ x.1 x.2) N (0,[])).bind fun o1023=>match o1023 with
 | (.inl p1024)=>(some 0)
 | (.inr p1025)=>(some p1025))
 | (.inr p1026)=>(some p1026)))))
def ZdR (N:Nat) (a0_:Zg) (a1_:ZL) (a2_:Zh) (a3_:Int):Option (Int) :=
 ((Zdz N a0_).bind fun r1 =>
 (if (r1 != 0) then (some r1) else ((Za3 N a1_).bind fun r3 =>
 (if (r3 != 0) then (some r3) else ((ZcN N a0_ a2_).bind fun r5 =>
 (if (!r5) then (some 321) else (((if (a2_.Class != 7) then (some true) else ((Zai N a3_ 0 (w64 (((List.length a2_.Routes:Nat):Int) - 1))).bind fun r9=>(some (!r9))))).bind fun (j10:Bool) =>
 (if j10 then (some 2) else (some 0)))))))))
def Zbz (N:Nat) (l14:(List ZT)) (x12:ZT):Option ((List ZT)) :=
 ((appI 40 l14 [x12]).bind fun l518 =>
 (some l518))
def Zb6 (N:Nat) (a0_:Zg) (a1_:ZL) (a2_:Zh) (a3_:Int):Option ((List ZT) × Int) :=
 ((ZdR N a0_ a1_ a2_ a3_).bind fun r1 =>
 (if (r1 != 0) then (some ([],r1)) else ((ZfF N a0_ a1_ a2_ a3_).bind fun r5 =>
 ((ZbT N (fun (s:(List ZT)) (x12:ZT)=>ZdB (fun v:(List ZT)=>Zbz N v x12) s) r5.1 r5.2.1 r5.2.2.1 r5.2.2.2 []).bind fun o520 =>
 (some (o520,0))))))
def Zby (N:Nat) (a0_:Zg) (a1_:ZL) (i22:Int) (x21:ZT):Option (Int) :=
 ((idx a0_.Links (w64 (Int.tdiv x21.Port 2))).bind fun e524 =>
 (some (w64 ((w64 ((w64 (x21.Open+x21.Long))+e524.Delay))+a1_.Proc))))
def ZcO (N:Nat) (a0_:Zg) (a1_:ZL) (a2_:Zh) (a3_:Int):Option (Int × Int) :=
 ((ZdR N a0_ a1_ a2_ a3_).bind fun r7 =>
 (if (r7 != 0) then (some (0,r7)) else ((ZfF N a0_ a1_ a2_ a3_).bind fun r14 =>
 ((ZbT N (fun (s:Int) (x21:ZT)=>ZdB (fun v:Int=>Zby N a0_ a1_ v x21) s) r14.1 r14.2.1 r14.2.2.1 r14.2.2.2 0).bind fun o527 =>
 (some (o527,0))))))
def ZeZ (N:Nat):Option (Bool) :=
 ((ZgH N).bind fun r1 =>
 ((ZfQ N).bind fun r2 =>
 ((ZdM N).bind fun r3 =>
 ((Zb6 N r1 r2 r3 0).bind fun r4 =>
 ((ZcO N r1 r2 r3 0).bind fun r5 =>
 ((Zb6 N r1 r2 r3 1).bind fun r6 =>
 (((if (r4.2 != 0) then (some true) else (if (r5.2 != 0) then (some true) else (if (((List.length r4.1:Nat):Int) != 2) then (some true) else ((idx r4.1 0).bind fun e13=>(if (!((e13.Port==0)&&((e13.Early==0)&&((e13.Late==0)&&((e13.Open==0)&&((e13.Long==800)&&true)))))) then (some true) else ((idx r4.1 1).bind fun e16=>(some (!((e16.Port==2)&&((e16.Early==811)&&((e16.Late==819)&&((e16.Open==900)&&((e16.Long==800)&&true)))))))))))))).bind fun (j17:Bool) =>
 (if j17 then (some false) else ((((Zal N r1 (Zh.mk r3.Id r3.Talker 1 r3.Class r3.Size r3.Period r3.Bucket r3.Deadline r3.Routes)).bind fun r19=>(if (r19==321) then ((Zal N r1 (Zh.mk r3.Id r3.Talker r3.Listener r3.Class 83 r3.Period r3.Bucket r3.Deadline r3.Routes)).bind fun r21=>(if (r21==321) then ((Zal N r1 (Zh.mk r3.Id r3.Talker r3.Listener r3.Class r3.Size r3.Period r3.Bucket r3.Deadline ([[2,0]]))).bind fun r23=>(some (r23==321))) else (some false))) else (some false)))).bind fun (j26:Bool) =>
 (((if (r5.1==1715) then (if (r6.2==2) then (if j26 then ((ZaF N r1 ([r3,r3])).bind fun r30=>(if (r30==322) then ((Zal N r1 r3).bind fun r32=>(some (r32==0))) else (some false))) else (some false)) else (some false)) else (some false))).bind fun (j37:Bool) =>
 (some j37)))))))))))
def Zbh (N:Nat) (r1:Zg) (r10:Z6) (i11:Int):Option ((Int) ⊕ ((Unit) ⊕ (Bool))) :=
 (if (decide (i11<((List.length r10.x0:Nat):Int))) then ((idx r10.x0 i11).bind fun e513 =>
 ((Zal N r1 e513).bind fun r514 =>
 ((idx r10.x0 i11).bind fun e515 =>
 ((Zcv N r1 e515).bind fun r516 =>
 (if (r514 != r516) then (some (.inr (.inr false))) else (some (.inl (w64 (i11+1))))))))) else (some (.inr (.inl ()))))
def Zbg (N:Nat) (a1_:Zg) (l2:List Zu) (r10:Z6) (i523:Int):Option ((Int) ⊕ ((Unit) ⊕ (Bool))) :=
 (if (decide (i523<((List.length r10.x0:Nat):Int))) then ((idx r10.x0 i523).bind fun e1025 =>
 ((Zal N (Zg.mk a1_.Nodes a1_.Station l2) e1025).bind fun r1026 =>
 ((idx r10.x0 i523).bind fun e1027 =>
 ((Zcv N (Zg.mk a1_.Nodes a1_.Station l2) e1027).bind fun r1028 =>
 (if (r1026 != r1028) then (some (.inr (.inr false))) else (some (.inl (w64 (i523+1))))))))) else (some (.inr (.inl ()))))
def Zbf (N:Nat) (r1:Zg) (r10:Z6) (i1045:Int):Option ((Int) ⊕ ((Unit) ⊕ (Bool))) :=
 (if (decide (i1045<((List.length r10.x1:Nat):Int))) then ((idx r10.x1 i1045).bind fun e1547 =>
 ((Zal N r1 e1547).bind fun r1548 =>
 ((idx r10.x1 i1045).bind fun e1549 =>
 ((Zcv N r1 e1549).bind fun r1550 =>
 (if (r1548 != r1550) then (some (.inr (.inr false))) else (some (.inl (w64 (i1045+1))))))))) else (some (.inr (.inl ()))))
def Zbe (N:Nat) (a1_:Zg) (l2:List Zu) (r10:Z6) (i1557:Int):Option ((Int) ⊕ ((Unit) ⊕ (Bool))) :=
 (if (decide (i1557<((List.length r10.x1:Nat):Int))) then ((idx r10.x1 i1557).bind fun e2059 =>
 ((Zal N (Zg.mk a1_.Nodes a1_.Station l2) e2059).bind fun r2060 =>
 ((idx r10.x1 i1557).bind fun e2061 =>
 ((Zcv N (Zg.mk a1_.Nodes a1_.Station l2) e2061).bind fun r2062 =>
 (if (r2060 != r2062) then (some (.inr (.inr false))) else (some (.inl (w64 (i1557+1))))))))) else (some (.inr (.inl ()))))
def ZcL (N:Nat) (a0_:Zcl) (a1_:Zg) (a2_:Int):Option (Bool) :=
 ((Zbp N a0_.T).bind fun r1 =>
 ((subI a1_.Links 0 (if 30<((List.length a1_.Links:Nat):Int) then 30 else ((List.length a1_.Links:Nat):Int))).bind fun l2 =>
 ((ZdI N a0_.U.x0 a0_.U.x1 a0_.U.x2).bind fun r3 =>
 ((Za3 N a0_.Setup).bind fun r4 =>
 ((ZbQ N a0_.Setup).bind fun r5 =>
 (if (r4 != r5) then (some false) else ((Za3 N r3).bind fun r7 =>
 ((ZbQ N r3).bind fun r8 =>
 (if (r7 != r8) then (some false) else ((Zb4 N a0_ r1).bind fun r10 =>
 ((Z2 (fun x:Int=>Zbh N r1 r10 x) N 0).bind fun o518=>match o518 with
 | (.inl p519)=>((ZaF N r1 r10.x0).bind fun r520 =>
 ((ZbB N r1 r10.x0).bind fun r521 =>
 (if (r520 != r521) then (some false) else ((Z2 (fun x:Int=>Zbg N a1_ l2 r10 x) N 0).bind fun o1030=>match o1030 with
 | (.inl p1031)=>((ZaF N (Zg.mk a1_.Nodes a1_.Station l2) r10.x0).bind fun r1032 =>
 ((ZbB N (Zg.mk a1_.Nodes a1_.Station l2) r10.x0).bind fun r1033 =>
 (if (r1032 != r1033) then (some false) else ((ZbU N r10.x0 a2_).bind fun r1035 =>
 ((Zdv N r10.x0 a2_).bind fun r1036 =>
 (if ((r1035.1 != r1036.1)||(r1035.2 != r1036.2)) then (some false) else ((ZbU N r10.x0 (w64 (1+(w64 ((Int.tmod a0_.At 7)))))).bind fun r1040 =>
 ((Zdv N r10.x0 (w64 (1+(w64 ((Int.tmod a0_.At 7)))))).bind fun r1041 =>
 (if ((r1040.1 != r1041.1)||(r1040.2 != r1041.2)) then (some false) else ((Z2 (fun x:Int=>Zbf N r1 r10 x) N 0).bind fun o1552=>match o1552 with
 | (.inl p1553)=>((ZaF N r1 r10.x1).bind fun r1554 =>
 ((ZbB N r1 r10.x1).bind fun r1555 =>
 (if (r1554 != r1555) then (some false) else ((Z2 (fun x:Int=>Zbe N a1_ l2 r10 x) N 0).bind fun o2064=>match o2064 with
 | (.inl p2065)=>((ZaF N (Zg.mk a1_.Nodes a1_.Station l2) r10.x1).bind fun r2066 =>
 ((ZbB N (Zg.mk a1_.Nodes a1_.Station l2) r10.x1).bind fun r2067 =>
 (if (r2066 != r2067) then (some false) else ((ZbU N r10.x1 a2_).bind fun r2069 =>
 ((Zdv N r10.x1 a2_).bind fun r2070 =>
 (if ((r2069.1 != r2070.1)||(r2069.2 != r2070.2)) then (some false) else ((ZbU N r10.x1 (w64 (1+(w64 ((Int.tmod a0_.At 7)))))).bind fun r2074 =>
 ((Zdv N r10.x1 (w64 (1+(w64 ((Int.tmod a0_.At 7)))))).bind fun r2075 =>
 (if ((r2074.1 != r2075.1)||(r2074.2 != r2075.2)) then (some false) else ((ZeZ N).bind fun r2079 =>
 (some r2079)))))))))))
 | (.inr p2080)=>(some p2080)))))
 | (.inr p2081)=>(some p2081)))))))))))
 | (.inr p2082)=>(some p2082)))))
 | (.inr p2083)=>(some p2083))))))))))))
end Go.Sh

