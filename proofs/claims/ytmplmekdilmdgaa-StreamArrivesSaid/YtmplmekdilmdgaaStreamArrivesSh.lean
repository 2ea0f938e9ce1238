/- Part of the proof; written by a program out of the texts in wip/. -/
import Derived.Test.YtmplmekdilmdgaaStreamArrivesE31
namespace Go.Sh
open Go Go.Eng
set_option linter.unusedVariables false
set_option linter.unusedSimpArgs false
set_option maxRecDepth 100000
structure Zal where
 Bridges:Int
 Stations:Int
 Chords:(List Int)
 Homes:(List Int)
 Pers:(List Int)
 Delays:(List Int)
structure ZaC where
 Reserved:Bool
 Two:Bool
 Node:Int
 Way:Int
 Size:Int
 Period:Int
 Burst:Int
 Rate:Int
def ZcJ (v:ZaC):List PC:=[.bool v.Reserved,.bool v.Two,.int .u8 v.Node,.int .u8 v.Way,.int .u8 v.Size,.int .u8 v.Period,.int .u8 v.Burst,.int .u16 v.Rate]
structure Zn3 where
 x0:Int
 x1:Int
 x2:Int
structure Zcd where
 Burst:Int
 Rate:Int
structure Zh where
 Id:Int
 Talker:Int
 Listener:Int
 Class:Int
 Size:Int
 Period:Int
 Bucket:Zcd
 Deadline:Int
 Routes:(List (List Int))
def ZD (v:Zh):List PC:=[.int .i64 v.Id,.int .i64 v.Talker,.int .i64 v.Listener,.int .i64 v.Class,.int .i64 v.Size,.int .i64 v.Period,.int .i64 v.Bucket.Burst,.int .i64 v.Bucket.Rate,.int .i64 v.Deadline,.sl 1 false (List.map (eSl 1 eI64) v.Routes)]
structure ZL where
 Grid:Int
 Slack:Int
 Proc:Int
 Cap:Int
structure Zc2 where
 T:Zal
 L:(List ZaC)
 U:Zn3
 At:Int
 Bit:Int
 Odd:Zh
 Setup:ZL
def Zlr (v:Zc2):List PC:=[.int .u8 v.T.Bridges,.int .u8 v.T.Stations,.sl 1 false (List.map (eI .u8) v.T.Chords),.sl 1 false (List.map (eI .u8) v.T.Homes),.sl 1 false (List.map (eI .u8) v.T.Pers),.sl 1 false (List.map (eI .u8) v.T.Delays),.sl 8 false (List.map ZcJ v.L),.int .u8 v.U.x0,.int .u8 v.U.x1,.int .u8 v.U.x2,.int .u8 v.At,.int .u8 v.Bit,.int .i64 v.Odd.Id,.int .i64 v.Odd.Talker,.int .i64 v.Odd.Listener,.int .i64 v.Odd.Class,.int .i64 v.Odd.Size,.int .i64 v.Odd.Period,.int .i64 v.Odd.Bucket.Burst,.int .i64 v.Odd.Bucket.Rate,.int .i64 v.Odd.Deadline,.sl 1 false (List.map (eSl 1 eI64) v.Odd.Routes),.int .i64 v.Setup.Grid,.int .i64 v.Setup.Slack,.int .i64 v.Setup.Proc,.int .i64 v.Setup.Cap]
structure Zcx where
 x0:Int
 x1:Int
 x2:Int
 x3:Int
 x4:Int
 x5:Int
 x6:Int
 x7:Int
 x8:Int
def ZnQ (v:Zcx):List PC:=[.int .i8 v.x0,.int .i8 v.x1,.int .i8 v.x2,.int .i8 v.x3,.int .i8 v.x4,.int .i8 v.x5,.int .i8 v.x6,.int .i8 v.x7,.int .i8 v.x8]
structure Zs where
 A:Int
 B:Int
 Per:Int
 Delay:Int
def Zn (v:Zs):List PC:=[.int .i64 v.A,.int .i64 v.B,.int .i64 v.Per,.int .i64 v.Delay]
structure Ze where
 Nodes:Int
 Station:(List Bool)
 Links:(List Zs)
structure ZQ where
 Port:Int
 Early:Int
 Late:Int
 Open:Int
 Long:Int
def ZM (v:ZQ):List PC:=[.int .i64 v.Port,.int .i64 v.Early,.int .i64 v.Late,.int .i64 v.Open,.int .i64 v.Long]
structure Zbm where
 x0:Bool
 x1:Bool
 x2:Bool
 x3:Bool
 x4:Bool
 x5:Bool
 x6:Bool
 x7:Bool
 x8:Bool
 x9:Bool
 x10:Bool
 x11:Bool
 x12:Bool
 x13:Bool
 x14:Bool
 x15:Bool
 x16:Bool
 x17:Bool
 x18:Bool
 x19:Bool
 x20:Bool
 x21:Bool
 x22:Bool
 x23:Bool
structure ZS where
 Topo:Ze
structure Zm where
 x0:Bool
 x1:Bool
 x2:Bool
 x3:Bool
 x4:Bool
 x5:Bool
 x6:Bool
 x7:Bool
 x8:Bool
 x9:Bool
 x10:Bool
 x11:Bool
structure Zay where
 port:Int
 from_:Int
 to_:Int
abbrev s_eB (f:Bool) (l:List Bool):AV:=.p (.sl 1 f (List.map eB l))
abbrev Zd (f:Bool) (l:List Zs):AV:=.p (.sl 4 f (List.map Zn l))
abbrev Z2 (f:Bool) (l:List ZQ):AV:=.p (.sl 5 f (List.map ZM l))
abbrev Zas (f:Bool) (l:List ZaC):AV:=.p (.sl 8 f (List.map ZcJ l))
abbrev ZB (f:Bool) (l:List Zh):AV:=.p (.sl 10 f (List.map ZD l))
abbrev Zj (f:Bool) (l:List (List Int)):AV:=.p (.sl 1 f (List.map (eSl 1 eI64) l))
abbrev Zda (f:Bool) (l:List Int):AV:=.p (.sl 1 f (List.map (eI .u8) l))
abbrev Zg (f:Bool) (l:List Int):AV:=.p (.sl 1 f (List.map eI64 l))
abbrev Zt (v:Zal):List AV:=[.p (.int .u8 v.Bridges),.p (.int .u8 v.Stations),Zda false v.Chords,Zda false v.Homes,Zda false v.Pers,Zda false v.Delays]
abbrev Zz (v:ZaC):List AV:=[bv v.Reserved,bv v.Two,.p (.int .u8 v.Node),.p (.int .u8 v.Way),.p (.int .u8 v.Size),.p (.int .u8 v.Period),.p (.int .u8 v.Burst),.p (.int .u16 v.Rate)]
abbrev ZdK (v:Zcd):List AV:=[iv v.Burst,iv v.Rate]
abbrev Zf (v:Zh):List AV:=[iv v.Id,iv v.Talker,iv v.Listener,iv v.Class,iv v.Size,iv v.Period,iv v.Bucket.Burst,iv v.Bucket.Rate,iv v.Deadline,Zj false v.Routes]
abbrev Zk (v:ZL):List AV:=[iv v.Grid,iv v.Slack,iv v.Proc,iv v.Cap]
abbrev Zlv (v:Zc2):List AV:=[.p (.int .u8 v.T.Bridges),.p (.int .u8 v.T.Stations),Zda false v.T.Chords,Zda false v.T.Homes,Zda false v.T.Pers,Zda false v.T.Delays,Zas false v.L,.p (.int .u8 v.U.x0),.p (.int .u8 v.U.x1),.p (.int .u8 v.U.x2),.p (.int .u8 v.At),.p (.int .u8 v.Bit),iv v.Odd.Id,iv v.Odd.Talker,iv v.Odd.Listener,iv v.Odd.Class,iv v.Odd.Size,iv v.Odd.Period,iv v.Odd.Bucket.Burst,iv v.Odd.Bucket.Rate,iv v.Odd.Deadline,Zj false v.Odd.Routes,iv v.Setup.Grid,iv v.Setup.Slack,iv v.Setup.Proc,iv v.Setup.Cap]
abbrev Zb7 (v:Zcx):List AV:=[.p (.int .i8 v.x0),.p (.int .i8 v.x1),.p (.int .i8 v.x2),.p (.int .i8 v.x3),.p (.int .i8 v.x4),.p (.int .i8 v.x5),.p (.int .i8 v.x6),.p (.int .i8 v.x7),.p (.int .i8 v.x8)]
def Zcx.l (v:Zcx):List Int:=[v.x0,v.x1,v.x2,v.x3,v.x4,v.x5,v.x6,v.x7,v.x8]
def Zcx.get (v:Zcx) (i:Int):Option Int:=idx v.l i
abbrev Zam (v:Zs):List AV:=[iv v.A,iv v.B,iv v.Per,iv v.Delay]
abbrev Za (v:Ze):List AV:=[iv v.Nodes,s_eB false v.Station,Zd false v.Links]
abbrev Zbt (v:ZQ):List AV:=[iv v.Port,iv v.Early,iv v.Late,iv v.Open,iv v.Long]
abbrev Zai (v:Zbm):List AV:=[bv v.x0,bv v.x1,bv v.x2,bv v.x3,bv v.x4,bv v.x5,bv v.x6,bv v.x7,bv v.x8,bv v.x9,bv v.x10,bv v.x11,bv v.x12,bv v.x13,bv v.x14,bv v.x15,bv v.x16,bv v.x17,bv v.x18,bv v.x19,bv v.x20,bv v.x21,bv v.x22,bv v.x23]
def Zbm.l (v:Zbm):List Bool:=[v.x0,v.x1,v.x2,v.x3,v.x4,v.x5,v.x6,v.x7,v.x8,v.x9,v.x10,v.x11,v.x12,v.x13,v.x14,v.x15,v.x16,v.x17,v.x18,v.x19,v.x20,v.x21,v.x22,v.x23]
def Zbm.get (v:Zbm) (i:Int):Option Bool:=idx v.l i
abbrev Zq (v:Zm):List AV:=[bv v.x0,bv v.x1,bv v.x2,bv v.x3,bv v.x4,bv v.x5,bv v.x6,bv v.x7,bv v.x8,bv v.x9,bv v.x10,bv v.x11]
def Zm.l (v:Zm):List Bool:=[v.x0,v.x1,v.x2,v.x3,v.x4,v.x5,v.x6,v.x7,v.x8,v.x9,v.x10,v.x11]
def Zm.ofL (l:List Bool):Zm:=⟨l.getD 0 false,l.getD 1 false,l.getD 2 false,l.getD 3 false,l.getD 4 false,l.getD 5 false,l.getD 6 false,l.getD 7 false,l.getD 8 false,l.getD 9 false,l.getD 10 false,l.getD 11 false⟩
def Zm.get (v:Zm) (i:Int):Option Bool:=idx v.l i
def Zm.set (v:Zm) (i:Int) (x:Bool):Zm:=Zm.ofL (v.l.set i.toNat x)
theorem Zm.l_ofL (l:List Bool) (h:l.length=12):(Zm.ofL l).l=l:=ZnC 12 false l h rfl
theorem Zm.l_set (v:Zm) (i:Int) (x:Bool):(v.set i x).l=v.l.set i.toNat x:=Zm.l_ofL _ (by rw [List.length_set];rfl)
theorem Zm.c_set (v:Zm) (i:Int) (x:Bool):Zq (v.set i x)=(v.l.set i.toNat x).map (fun x=>bv x):=by rw [← Zm.l_set];rfl
abbrev ZZ (v:Zay):List AV:=[iv v.port,iv v.from_,iv v.to_]
def Zdc (N:Nat) (a0_:Int) (a1_:Int) (a2_:Int):Option (ZL) :=
 (some (ZL.mk (w64 (100+(w64 (20 * (w64 (a0_)))))) (w64 ((Int.tmod a1_ 40))) (w64 (a2_)) 8000))
def Zhi (N:Nat) (a0_:(List ZQ)) (a1_:(List ZQ)) (i2:Int):Option ((Int) ⊕ ((Unit) ⊕ (Bool))) :=
 (if (decide (i2<((List.length a0_:Nat):Int))) then ((idx a0_ i2).bind fun e504 =>
 ((idx a1_ i2).bind fun e505 =>
 (if (!((e504.Port==e505.Port)&&((e504.Early==e505.Early)&&((e504.Late==e505.Late)&&((e504.Open==e505.Open)&&((e504.Long==e505.Long)&&true)))))) then (some (.inr (.inr false))) else (some (.inl (w64 (i2+1))))))) else (some (.inr (.inl ()))))
def Zn4 (N:Nat) (a0_:(List ZQ)) (a1_:(List ZQ)):Option (Bool) :=
 (if (((List.length a0_:Nat):Int) != ((List.length a1_:Nat):Int)) then (some false) else ((Zae (fun x:Int=>Zhi N a0_ a1_ x) N 0).bind fun o507=>match o507 with
 | (.inl p508)=>(some true)
 | (.inr p509)=>(some p509)))
def ZfZ (N:Nat):Option (Ze) :=
 (some (Ze.mk 3 ([true,false,true]) ([(Zs.mk 0 1 8 5),(Zs.mk 1 2 8 5)])))
def Ze7 (N:Nat):Option (ZL) :=
 (some (ZL.mk 100 2 10 8000))
def Zdf (N:Nat):Option (Zh) :=
 (some (Zh.mk 1 0 2 7 100 20 (Zcd.mk 0 0) 10000 ([[0,2]])))
def ZcF (N:Nat) (a0_:(List Int)) (a1_:Int):Option (Int) :=
 (if (decide (a1_<((List.length a0_:Nat):Int))) then ((idx a0_ a1_).bind fun e2 =>
 (some (w64 (e2)))) else (some 0))
def ZeZ (N:Nat) (a0_:Ze) (a1_:ZL) (a2_:Zh) (a3_:Int):Option (Zh × Int × Ze × ZL) :=
 (some (a2_,a3_,a0_,a1_))
def Zag (N:Nat) (a0_:Int) (a1_:Int) (a2_:Int):Option (Bool) :=
 (some ((decide (a0_ ≥ a1_))&&(decide (a0_≤a2_))))
def Zed (N:Nat) (a0_:Zs) (a1_:Int) (a2_:Int):Option (Bool) :=
 (some (if (a0_.A==a1_) then ((a0_.B==a2_)||((a0_.A==a2_)&&(a0_.B==a1_))) else ((a0_.A==a2_)&&(a0_.B==a1_))))
def Zav {σ:Type} (N:Nat) (y_:σ→ZQ→Option (σ × Bool)) (c0_:Zh) (c2_:Ze) (c3_:ZL) (e3:(List Int)) (i6:Int) (i7:Int) (i10:Int) (i11:Int) (i12:Int) (i8:Int) (g9:σ):Option ((Int × Int × Int × Int × Int × Int × σ) ⊕ ((σ) ⊕ (σ))) :=
 (if (decide (i6<((List.length e3:Nat):Int))) then ((idx e3 i6).bind fun e516 =>
 (((if (decide (i6 > 0)) then ((idx c2_.Links (w64 (Int.tdiv i7 2))).bind fun e1020 =>
 ((quoI .i64 (w64 ((w64 ((w64 ((w64 ((w64 ((w64 (i12+i8))+e1020.Delay))+c3_.Proc))+(w64 (2 * c3_.Slack))))+c3_.Grid)) - 1)) c3_.Grid).bind fun q1026 =>
 (some ((w64 ((w64 ((w64 ((w64 (i12+i8))+e1020.Delay))+c3_.Proc)) - (w64 (2 * c3_.Slack)))),(w64 ((w64 ((w64 ((w64 (i12+i8))+e1020.Delay))+c3_.Proc))+(w64 (2 * c3_.Slack)))),(w64 (q1026 * c3_.Grid)))))) else (some (i10,i11,i12)))).bind fun (j1017:Int × Int × Int) =>
 ((idx c2_.Links (w64 (Int.tdiv e516 2))).bind fun e1030 =>
 ((y_ g9 (ZQ.mk e516 j1017.1 j1017.2.1 j1017.2.2 (w64 (c0_.Size * e1030.Per)))).bind fun r1031 =>
 (if (!r1031.2) then (some (.inr (.inr r1031.1))) else (some (.inl ((w64 (i6+1)),e516,j1017.1,j1017.2.1,j1017.2.2,(w64 (c0_.Size * e1030.Per)),r1031.1)))))))) else (some (.inr (.inl g9))))
def Zby {σ:Type} (N:Nat) (y_:σ→ZQ→Option (σ × Bool)) (c0_:Zh) (c1_:Int) (c2_:Ze) (c3_:ZL) (s_:σ):Option (σ) :=
 ((idx c0_.Routes c1_).bind fun e3 =>
 ((Zae (fun x:Int × Int × Int × Int × Int × Int × σ=>Zav N y_ c0_ c2_ c3_ e3 x.1 x.2.1 x.2.2.1 x.2.2.2.1 x.2.2.2.2.1 x.2.2.2.2.2.1 x.2.2.2.2.2.2) N (0,0,0,0,0,0,s_)).bind fun o1035=>match o1035 with
 | (.inl p1036)=>(some p1036)
 | (.inr p1037)=>(some p1037)))
def Zbx (N:Nat) (a0_:Ze) (a1_:Int):Option (Int) :=
 ((idx a0_.Links (w64 (Int.tdiv a1_ 2))).bind fun e1 =>
 (if ((Int.tmod a1_ 2)==1) then (some e1.B) else (some e1.A)))
def Zci (N:Nat) (a0_:Ze) (a1_:Int):Option (Int) :=
 ((idx a0_.Links (w64 (Int.tdiv a1_ 2))).bind fun e1 =>
 (if ((Int.tmod a1_ 2)==1) then (some e1.A) else (some e1.B)))
def ZaV (N:Nat) (a0_:Ze) (a2_:Zbm) (i517:Int) (l518:(List Bool)):Option ((Int × (List Bool)) ⊕ (((List Bool)))) :=
 (if (decide (i517<((List.length a0_.Links:Nat):Int))) then ((((idx a0_.Links i517).bind fun e1525 =>
 ((((a2_.get i517).bind fun e1526=>(if (!e1526) then ((idx l518 e1525.A).bind fun e1528=>((idx l518 e1525.B).bind fun e1531=>(some (e1528 != e1531)))) else (some false)))).bind fun (j1535:Bool) =>
 (if j1535 then ((idx l518 e1525.A).bind fun e1537 =>
 ((idx (List.set l518 (Int.toNat e1525.A) true) e1525.B).bind fun e1541 =>
 (some (List.set (List.set l518 (Int.toNat e1525.A) true) (Int.toNat e1525.B) true)))) else (some l518))))).bind fun (j1524:(List Bool)) =>
 (some (.inl ((w64 (i517+1)),j1524)))) else (some (.inr l518)))
def Zbc (N:Nat) (a0_:Ze) (a2_:Zbm) (i10:Int) (l11:(List Bool)):Option ((Int × (List Bool)) ⊕ (((List Bool)))) :=
 (if (decide (i10<a0_.Nodes)) then ((Zae (fun x:Int × (List Bool)=>ZaV N a0_ a2_ x.1 x.2) N (0,l11)).bind fun o1545 =>
 (some (.inl ((w64 (i10+1)),o1545)))) else (some (.inr l11)))
def ZeJ (N:Nat) (a0_:Ze) (a1_:Int) (a2_:Zbm):Option ((List Bool)) :=
 ((Zku 1 a0_.Nodes a0_.Nodes false).bind fun l3 =>
 ((idx l3 a1_).bind fun e4 =>
 ((Zae (fun x:Int × (List Bool)=>Zbc N a0_ a2_ x.1 x.2) N (0,(List.set l3 (Int.toNat a1_) true))).bind fun o1546 =>
 (some o1546))))
def Zdw (N:Nat) (c0_:Zh):Option (Bool) :=
 ((Zag N c0_.Id 1 4095).bind fun r2 =>
 (some r2))
def Zb8 (N:Nat) (a0_:Ze) (a1_:Int):Option (Bool) :=
 ((((Zag N a1_ 0 (w64 (a0_.Nodes - 1))).bind fun r1=>(if r1 then ((idx a0_.Station a1_).bind fun e3=>(some e3)) else (some false)))).bind fun (j5:Bool) =>
 (some j5))
def Zdu (N:Nat) (c0_:Zh):Option (Bool) :=
 ((Zag N c0_.Size 84 1542).bind fun r2 =>
 (some r2))
def Zdt (N:Nat) (c0_:Zh):Option (Bool) :=
 ((Zag N c0_.Deadline 1 1099511627776).bind fun r2 =>
 (some r2))
def Zds (N:Nat) (c0_:Zh):Option (Bool) :=
 ((Zag N ((List.length c0_.Routes:Nat):Int) 1 2).bind fun r2 =>
 (some r2))
def ZcB (N:Nat) (a0_:Int) (a1_:Int) (a2_:Int):Option (Bool) :=
 (some ((decide (a0_ ≥ a1_))&&(decide (a0_≤a2_))))
def ZbA (N:Nat) (a0_:Ze) (a1_:Int):Option (Bool) :=
 ((((ZcB N a1_ 0 (w64 (a0_.Nodes - 1))).bind fun r1=>(if r1 then ((idx a0_.Station a1_).bind fun e3=>(some e3)) else (some false)))).bind fun (j5:Bool) =>
 (some j5))
def Zd1 (N:Nat) (a0_:Ze) (a1_:Int):Option (Bool) :=
 (some ((decide (a1_ ≥ 0))&&(decide (a1_<a0_.Nodes))))
def Zc0 (N:Nat) (a0_:(List Int)) (a1_:Int) (i1:Int):Option ((Int) ⊕ ((Unit) ⊕ (Bool))) :=
 (if (decide (i1<((List.length a0_:Nat):Int))) then ((idx a0_ i1).bind fun e503 =>
 (if (e503==a1_) then (some (.inr (.inr true))) else (some (.inl (w64 (i1+1)))))) else (some (.inr (.inl ()))))
def Ze5 (N:Nat) (a0_:(List Int)) (a1_:Int):Option (Bool) :=
 ((Zae (fun x:Int=>Zc0 N a0_ a1_ x) N 0).bind fun o505=>match o505 with
 | (.inl p506)=>(some false)
 | (.inr p507)=>(some p507))
def Za4 (N:Nat) (a0_:(List Int)) (a1_:(List Int)) (i1:Int):Option ((Int) ⊕ ((Unit) ⊕ (Bool))) :=
 (if (decide (i1<(w64 (((List.length a0_:Nat):Int) - 1)))) then ((idx a0_ i1).bind fun e503 =>
 ((Ze5 N a1_ e503).bind fun r504 =>
 (if r504 then (some (.inr (.inr true))) else (some (.inl (w64 (i1+1))))))) else (some (.inr (.inl ()))))
def ZcE (N:Nat) (a0_:(List Int)) (a1_:(List Int)):Option (Bool) :=
 ((Zae (fun x:Int=>Za4 N a0_ a1_ x) N 1).bind fun o506=>match o506 with
 | (.inl p507)=>(some false)
 | (.inr p508)=>(some p508))
def ZaY (N:Nat) (a0_:Ze) (a1_:(List Int)) (i7:Int) (l8:(List Int)):Option ((Int × (List Int)) ⊕ (((List Int)))) :=
 (if (decide (i7<((List.length a1_:Nat):Int))) then ((idx a1_ i7).bind fun e512 =>
 ((Zci N a0_ e512).bind fun r513 =>
 ((appI 8 l8 [r513]).bind fun l516 =>
 (some (.inl ((w64 (i7+1)),l516)))))) else (some (.inr l8)))
def Zb1 (N:Nat) (a0_:Ze) (a1_:(List Int)):Option ((List Int)) :=
 ((idx a1_ 0).bind fun e1 =>
 ((Zbx N a0_ e1).bind fun r2 =>
 ((Zae (fun x:Int × (List Int)=>ZaY N a0_ a1_ x.1 x.2) N (0,[r2])).bind fun o517 =>
 (some o517))))
def ZeK (N:Nat) (a0_:Ze) (a1_:Int):Option (Bool) :=
 (some ((decide (a1_ ≥ 0))&&(decide (a1_<a0_.Nodes))))
def Zel (N:Nat) (a0_:Int) (c0_:Ze):Option (Bool) :=
 ((idx c0_.Links a0_).bind fun e2 =>
 ((((idx c0_.Station e2.A).bind fun e4=>(if (!e4) then (some true) else ((idx c0_.Station e2.B).bind fun e8=>(some (!e8)))))).bind fun (j9:Bool) =>
 (some j9)))
def Zbn (N:Nat) (e2:Zs) (l4:List Zs) (i5:Int):Option ((Int) ⊕ ((Unit) ⊕ (Bool))) :=
 (if (decide (i5<((List.length l4:Nat):Int))) then ((idx l4 i5).bind fun e507 =>
 (if (if (e2.A==e507.A) then ((e2.B==e507.B)||((e2.A==e507.B)&&(e2.B==e507.A))) else ((e2.A==e507.B)&&(e2.B==e507.A))) then (some (.inr (.inr false))) else (some (.inl (w64 (i5+1)))))) else (some (.inr (.inl ()))))
def ZdE (N:Nat) (a0_:Int) (c0_:Ze):Option (Bool) :=
 ((idx c0_.Links a0_).bind fun e2 =>
 ((subI c0_.Links 0 a0_).bind fun l4 =>
 ((Zae (fun x:Int=>Zbn N e2 l4 x) N 0).bind fun o517=>match o517 with
 | (.inl p518)=>(some true)
 | (.inr p519)=>(some p519))))
def Zek (N:Nat) (a0_:Int) (c0_:Ze):Option (Bool) :=
 ((idx c0_.Links a0_).bind fun e2 =>
 (some ((decide (e2.Per ≥ 1))&&((decide (e2.Per≤1000))&&((decide (e2.Delay ≥ 0))&&(decide (e2.Delay≤10000)))))))
def Z4 (N:Nat) (a0_:(List Bool)) (a1_:Bool) (i1:Int):Option ((Int) ⊕ ((Unit) ⊕ (Int))) :=
 (if (decide (i1<((List.length a0_:Nat):Int))) then ((idx a0_ i1).bind fun e503 =>
 (if (a1_==e503) then (some (.inr (.inr i1))) else (some (.inl (w64 (i1+1)))))) else (some (.inr (.inl ()))))
def Zbd (N:Nat) (a0_:(List Bool)) (a1_:Bool):Option (Int) :=
 ((Zae (fun x:Int=>Z4 N a0_ a1_ x) N 0).bind fun o505=>match o505 with
 | (.inl p506)=>(some (-1))
 | (.inr p507)=>(some p507))
def ZbR (N:Nat) (a0_:Int) (a1_:Int) (a2_:Int):Option (Bool) :=
 (some ((decide (a1_≤a0_))&&(decide (a0_≤a2_))))
def Zbp (N:Nat) (a1_:(List Int)) (e503:Int) (i504:Int):Option ((Int) ⊕ ((Unit) ⊕ (Bool))) :=
 (if (decide (i504<((List.length a1_:Nat):Int))) then ((idx a1_ i504).bind fun e1006 =>
 (if ((w64 (Int.tdiv e503 2))==(w64 (Int.tdiv e1006 2))) then (some (.inr (.inr true))) else (some (.inl (w64 (i504+1)))))) else (some (.inr (.inl ()))))
def Zbq (N:Nat) (a0_:(List Int)) (a1_:(List Int)) (i1:Int):Option ((Int) ⊕ ((Unit) ⊕ (Bool))) :=
 (if (decide (i1<((List.length a0_:Nat):Int))) then ((idx a0_ i1).bind fun e503 =>
 ((Zae (fun x:Int=>Zbp N a1_ e503 x) N 0).bind fun o1008=>match o1008 with
 | (.inl p1009)=>(some (.inl (w64 (i1+1))))
 | (.inr p1010)=>(some (.inr (.inr p1010))))) else (some (.inr (.inl ()))))
def ZdH (N:Nat) (a0_:(List Int)) (a1_:(List Int)):Option (Bool) :=
 ((Zae (fun x:Int=>Zbq N a0_ a1_ x) N 0).bind fun o1011=>match o1011 with
 | (.inl p1012)=>(some false)
 | (.inr p1013)=>(some p1013))
def ZeS (N:Nat) (a0_:Ze) (a1_:Int):Option (Bool) :=
 (some ((decide (a1_ ≥ 0))&&(decide (a1_<(w64 (2 * ((List.length a0_.Links:Nat):Int)))))))
def ZaZ (N:Nat) (a0_:Ze) (a1_:Int) (i3:Int) (l4:(List Int)):Option ((Int × (List Int)) ⊕ (((List Int)))) :=
 (if (decide (i3<(w64 (2 * ((List.length a0_.Links:Nat):Int))))) then ((((Zbx N a0_ i3).bind fun r1011 =>
 (if (r1011==a1_) then ((appI 8 l4 [i3]).bind fun l1015 =>
 (some l1015)) else (some l4)))).bind fun (j1010:(List Int)) =>
 (some (.inl ((w64 (i3+1)),j1010)))) else (some (.inr l4)))
def Zdp (N:Nat) (a0_:Ze) (a1_:Int):Option ((List Int)) :=
 ((Zae (fun x:Int × (List Int)=>ZaZ N a0_ a1_ x.1 x.2) N (0,[])).bind fun o1016 =>
 (some o1016))
def ZbP (N:Nat) (a0_:ZS) (a1_:(List Int)):Option ((List Int) × ZS) :=
 (some (a1_,a0_))
def ZP {σ:Type} (N:Nat) (y_:σ→Int→Zay→Option (σ × Bool)) (c0_:(List Int)) (c1_:ZS) (i4:Int) (g5:σ):Option ((Int × σ) ⊕ ((σ))) :=
 (if (decide (i4<((List.length c0_:Nat):Int))) then ((idx c0_ i4).bind fun e509 =>
 (((if (decide (e509<0)) then (some true) else (some (decide (e509 ≥ (w64 (2 * ((List.length c1_.Topo.Links:Nat):Int)))))))).bind fun (j513:Bool) =>
 (if j513 then (some (.inr g5)) else ((idx c1_.Topo.Links (w64 (Int.tdiv e509 2))).bind fun e516 =>
 (((if ((Int.tmod e509 2)==1) then (some (e516.B,e516.A)) else (some (e516.A,e516.B)))).bind fun (j1017:Int × Int) =>
 ((y_ g5 i4 (Zay.mk e509 j1017.1 j1017.2)).bind fun r1019 =>
 (if (!r1019.2) then (some (.inr r1019.1)) else (some (.inl ((w64 (i4+1)),r1019.1)))))))))) else (some (.inr g5)))
def Zbk {σ:Type} (N:Nat) (y_:σ→Int→Zay→Option (σ × Bool)) (c0_:(List Int)) (c1_:ZS) (s_:σ):Option (σ) :=
 ((Zae (fun x:Int × σ=>ZP N y_ c0_ c1_ x.1 x.2) N (0,s_)).bind fun o1023 =>
 (some o1023))
def Zad (N:Nat) (a0_:(List Int)) (a1_:Int) (i1:Int):Option ((Int) ⊕ ((Unit) ⊕ (Int))) :=
 (if (decide (i1<((List.length a0_:Nat):Int))) then ((idx a0_ i1).bind fun e503 =>
 (if (a1_==e503) then (some (.inr (.inr i1))) else (some (.inl (w64 (i1+1)))))) else (some (.inr (.inl ()))))
def Zbz (N:Nat) (a0_:(List Int)) (a1_:Int):Option (Int) :=
 ((Zae (fun x:Int=>Zad N a0_ a1_ x) N 0).bind fun o505=>match o505 with
 | (.inl p506)=>(some (-1))
 | (.inr p507)=>(some p507))
def ZbM (N:Nat) (a0_:ZL):Option (Int) :=
 ((((Zag N a0_.Grid 1 10000).bind fun r1=>(if (!r1) then (some true) else ((Zag N a0_.Slack 0 1000).bind fun r4=>(some (!r4)))))).bind fun (j5:Bool) =>
 (if j5 then (some 320) else ((((Zag N a0_.Proc 0 10000).bind fun r7=>(if (!r7) then (some true) else ((Zag N a0_.Cap 1542 65536).bind fun r10=>(some (!r10)))))).bind fun (j11:Bool) =>
 (if j11 then (some 320) else (some 0)))))
def ZeR (N:Nat) (a0_:Ze) (a1_:Zs):Option (Bool) :=
 ((((Zd1 N a0_ a1_.A).bind fun r1=>(if (!r1) then (some true) else ((Zd1 N a0_ a1_.B).bind fun r4=>(if (!r4) then (some true) else (if (a1_.A==a1_.B) then (some true) else ((idx a0_.Station a1_.A).bind fun e9=>(if e9 then ((idx a0_.Station a1_.B).bind fun e11=>(some e11)) else (some false))))))))).bind fun (j13:Bool) =>
 (if j13 then (some false) else (some ((decide (a1_.Per ≥ 1))&&((decide (a1_.Per≤1000))&&((decide (a1_.Delay ≥ 0))&&(decide (a1_.Delay≤10000))))))))
def ZbH (N:Nat) (a1_:(List Int)) (a2_:(List Int)) (i1:Int) (i503:Int):Option ((Int) ⊕ ((Unit) ⊕ (Bool))) :=
 (if (decide (i503<((List.length a2_:Nat):Int))) then ((idx a1_ i1).bind fun e1005 =>
 ((idx a2_ i503).bind fun e1006 =>
 (if ((w64 (Int.tdiv e1005 2))==(w64 (Int.tdiv e1006 2))) then (some (.inr (.inr false))) else (some (.inl (w64 (i503+1))))))) else (some (.inr (.inl ()))))
def ZbI (N:Nat) (a1_:(List Int)) (a2_:(List Int)) (i1:Int):Option ((Int) ⊕ ((Unit) ⊕ (Bool))) :=
 (if (decide (i1<((List.length a1_:Nat):Int))) then ((Zae (fun x:Int=>ZbH N a1_ a2_ i1 x) N 0).bind fun o1008=>match o1008 with
 | (.inl p1009)=>(some (.inl (w64 (i1+1))))
 | (.inr p1010)=>(some (.inr (.inr p1010)))) else (some (.inr (.inl ()))))
def Zb2 (N:Nat) (a0_:Ze) (a1_:(List Int)) (a2_:(List Int)):Option (Bool) :=
 ((Zae (fun x:Int=>ZbI N a1_ a2_ x) N 0).bind fun o1011=>match o1011 with
 | (.inl p1012)=>((((Zb1 N a0_ a1_).bind fun r1013=>((Zb1 N a0_ a2_).bind fun r1014=>((ZcE N r1013 r1014).bind fun r1015=>(if (!r1015) then ((Zb1 N a0_ a2_).bind fun r1017=>((Zb1 N a0_ a1_).bind fun r1018=>((ZcE N r1017 r1018).bind fun r1019=>(some (!r1019))))) else (some false)))))).bind fun (j1021:Bool) =>
 (some j1021))
 | (.inr p1022)=>(some p1022))
def Zax (N:Nat) (a0_:(List Bool)) (a1_:Bool):Option (Bool) :=
 ((Zbd N a0_ a1_).bind fun r1 =>
 (some (decide (r1 ≥ 0))))
def Zdv (N:Nat) (c0_:Ze) (c1_:Zh):Option (Bool) :=
 ((((Zb8 N c0_ c1_.Talker).bind fun r3=>(if r3 then ((Zb8 N c0_ c1_.Listener).bind fun r7=>(if r7 then (some (c1_.Talker != c1_.Listener)) else (some false))) else (some false)))).bind fun (j13:Bool) =>
 (some j13))
def Zex (N:Nat) (a0_:Zcd):Option (Int) :=
 ((((ZbR N a0_.Burst 1 1048576).bind fun r1=>(if (!r1) then (some true) else ((ZbR N a0_.Rate 1 2097152).bind fun r4=>(some (!r4)))))).bind fun (j5:Bool) =>
 (if j5 then (some 130) else (some 0)))
def ZbF (N:Nat) (a0_:Ze) (a1_:(List Int)) (i4:Int):Option ((Int) ⊕ ((Unit) ⊕ (Bool))) :=
 (if (decide (i4<((List.length a1_:Nat):Int))) then ((idx a1_ i4).bind fun e506 =>
 ((ZeS N a0_ e506).bind fun r507 =>
 (if (!r507) then (some (.inr (.inr false))) else (some (.inl (w64 (i4+1))))))) else (some (.inr (.inl ()))))
def ZbE (N:Nat) (a0_:Ze) (a1_:(List Int)) (r511:(List Int)) (i512:Int):Option ((Int) ⊕ ((Unit) ⊕ (Bool))) :=
 (if (decide (i512<((List.length r511:Nat):Int))) then ((subI r511 0 i512).bind fun l1014 =>
 ((idx r511 i512).bind fun e1015 =>
 ((Ze5 N l1014 e1015).bind fun r1016 =>
 (if r1016 then (some (.inr (.inr false))) else (((if (decide (i512 > 0)) then (if (decide (i512<((List.length a1_:Nat):Int))) then ((idx r511 i512).bind fun e1020=>((idx a0_.Station e1020).bind fun e1021=>(if e1021 then (some true) else ((idx a1_ i512).bind fun e1024=>((Zbx N a0_ e1024).bind fun r1025=>((idx r511 i512).bind fun e1026=>(some (r1025 != e1026)))))))) else (some false)) else (some false))).bind fun (j1029:Bool) =>
 (if j1029 then (some (.inr (.inr false))) else (some (.inl (w64 (i512+1)))))))))) else (some (.inr (.inl ()))))
def ZbG (N:Nat) (a0_:Ze) (a1_:(List Int)):Option (Bool) :=
 (if ((decide (((List.length a1_:Nat):Int)<1))||(decide (((List.length a1_:Nat):Int) > 8))) then (some false) else ((Zae (fun x:Int=>ZbF N a0_ a1_ x) N 0).bind fun o509=>match o509 with
 | (.inl p510)=>((Zb1 N a0_ a1_).bind fun r511 =>
 ((Zae (fun x:Int=>ZbE N a0_ a1_ r511 x) N 0).bind fun o1031=>match o1031 with
 | (.inl p1032)=>(some true)
 | (.inr p1033)=>(some p1033)))
 | (.inr p1034)=>(some p1034)))
def ZaK (N:Nat) (a0_:Ze) (l8:(List Int)) (r521:(List Int)) (i526:Int) (l527:(List Int)):Option ((Int × (List Int)) ⊕ (((List Int)))) :=
 (if (decide (i526<((List.length r521:Nat):Int))) then ((((idx r521 i526).bind fun e1538 =>
 ((Zci N a0_ e1538).bind fun r1539 =>
 ((Ze5 N l8 r1539).bind fun r1540 =>
 (if (!r1540) then ((idx r521 i526).bind fun e1543 =>
 ((appI 8 l527 [e1543]).bind fun l1546 =>
 (some l1546))) else (some l527)))))).bind fun (j1537:(List Int)) =>
 (some (.inl ((w64 (i526+1)),j1537)))) else (some (.inr l527)))
def ZbC (N:Nat) (a0_:Ze) (a2_:Int) (i7:Int) (l8:(List Int)) (l9:(List Int)):Option ((Int × (List Int) × (List Int)) ⊕ (((List Int)) ⊕ ((List Int)))) :=
 (((if (decide (((List.length l9:Nat):Int)<8)) then (if (((List.length l9:Nat):Int)==0) then (some true) else ((idx a0_.Station i7).bind fun e517=>(some (!e517)))) else (some false))).bind fun (j519:Bool) =>
 (if j519 then ((Zdp N a0_ i7).bind fun r521 =>
 ((Zae (fun x:Int × (List Int)=>ZaK N a0_ l8 r521 x.1 x.2) N (0,[])).bind fun o1547 =>
 (if (((List.length o1547:Nat):Int)==0) then (some (.inr (.inr l9))) else ((remI (w64 ((w64 (a2_))+(w64 (3 * ((List.length l9:Nat):Int))))) ((List.length o1547:Nat):Int)).bind fun m1552 =>
 ((idx o1547 m1552).bind fun e1553 =>
 ((appI 8 l9 [e1553]).bind fun l1558 =>
 ((Zci N a0_ e1553).bind fun r1559 =>
 ((appI 8 l8 [r1559]).bind fun l1562 =>
 (some (.inl (r1559,l1562,l1558))))))))))) else (some (.inr (.inl l9)))))
def ZeQ (N:Nat) (a0_:Ze) (a1_:Int) (a2_:Int):Option ((List Int)) :=
 ((remI (w64 (a1_)) a0_.Nodes).bind fun m1 =>
 ((Zae (fun x:Int × (List Int) × (List Int)=>ZbC N a0_ a2_ x.1 x.2.1 x.2.2) N (m1,[m1],[])).bind fun o1563=>match o1563 with
 | (.inl p1564)=>(some p1564)
 | (.inr p1565)=>(some p1565)))
def Zem (N:Nat) (a0_:Int) (c0_:Ze):Option (Bool) :=
 ((idx c0_.Links a0_).bind fun e2 =>
 ((((ZeK N c0_ e2.A).bind fun r4=>(if r4 then ((ZeK N c0_ e2.B).bind fun r7=>(if r7 then (some (e2.A != e2.B)) else (some false))) else (some false)))).bind fun (j11:Bool) =>
 (some j11)))
def Zaj (N:Nat) (a0_:ZS) (i524:Int) (i525:Int) (l526:Zm) (x522:Int) (x523:Zay):Option ((Int × Int × Zm) × Nat) :=
 (if (x522==0) then ((l526.get x523.from_).bind fun e1026 =>
 (((Zm.set l526 x523.from_ true).get x523.to_).bind fun e1028 =>
 (if e1028 then (some ((i524,i525,(Zm.set l526 x523.from_ true)),1)) else (((Zm.set l526 x523.from_ true).get x523.to_).bind fun e1031 =>
 (some (((w64 (i524+1)),x523.to_,(Zm.set (Zm.set l526 x523.from_ true) x523.to_ true)),0)))))) else (((if (x523.from_ != i525) then (some true) else ((idx a0_.Topo.Station i525).bind fun e1041=>(some e1041)))).bind fun (j1042:Bool) =>
 (if j1042 then (some ((i524,i525,l526),1)) else ((l526.get x523.to_).bind fun e1044 =>
 (if e1044 then (some ((i524,i525,l526),1)) else ((l526.get x523.to_).bind fun e1047 =>
 (some (((w64 (i524+1)),x523.to_,(Zm.set l526 x523.to_ true)),0))))))))
def ZaN (N:Nat) (a0_:ZS) (a1_:(List Int)):Option (Bool) :=
 (if ((decide (((List.length a1_:Nat):Int)<1))||(decide (((List.length a1_:Nat):Int) > 8))) then (some false) else ((((ZbP N a0_ a1_).bind fun r517 =>
 ((Zbk N (fun (s:(Int × Int × Zm) × Nat) (x522:Int) (x523:Zay)=>ZhB (fun v:Int × Int × Zm=>Zaj N a0_ v.1 v.2.1 v.2.2 x522 x523) s) r517.1 r517.2 ((0,0,(Zm.mk false false false false false false false false false false false false)),0)).bind fun o1052 =>
 (if (o1052.2==0) then (some o1052.1.1) else (if (o1052.2==1) then (some o1052.1.1) else none))))).bind fun (j515:Int) =>
 (some (j515==((List.length a1_:Nat):Int)))))
def Zat (N:Nat) (l15:(List Int)) (x13:Int) (x14:Zay):Option ((List Int)) :=
 (((if (x13==0) then ((appI 8 l15 [x14.from_]).bind fun l1023 =>
 (some l1023)) else (some l15))).bind fun (j1018:(List Int)) =>
 ((appI 8 j1018 [x14.to_]).bind fun l1028 =>
 (some l1028)))
def Za3 (N:Nat) (a0_:ZS) (a1_:(List Int)):Option ((List Int)) :=
 ((Zku 8 0 (w64 (((List.length a1_:Nat):Int)+1)) 0).bind fun l3 =>
 ((ZbP N a0_ a1_).bind fun r7 =>
 ((Zbk N (fun (s:(List Int)) (x13:Int) (x14:Zay)=>Zc6 (fun v:(List Int)=>Zat N v x13 x14) s) r7.1 r7.2 l3).bind fun o1030 =>
 (some o1030))))
def ZaE (N:Nat) (a0_:(List Int)) (a1_:Int):Option (Bool) :=
 ((Zbz N a0_ a1_).bind fun r1 =>
 (some (decide (r1 ≥ 0))))
def Zdb (N:Nat) (a0_:ZS) (c0_:(List Int)):Option ((List Int) × Int) :=
 ((Za3 N a0_ c0_).bind fun r2 =>
 (some (r2,0)))
def ZaD (N:Nat) (a1_:Ze) (a2_:Int) (a3_:Int) (i14:Int):Option ((Int) ⊕ ((Unit) ⊕ (Ze))) :=
 (if (decide (i14<((List.length a1_.Links:Nat):Int))) then ((idx a1_.Links i14).bind fun e516 =>
 ((Zed N e516 a2_ a3_).bind fun r519 =>
 (if r519 then (some (.inr (.inr a1_))) else (some (.inl (w64 (i14+1))))))) else (some (.inr (.inl ()))))
def Z5 (N:Nat) (a0_:Zal) (a1_:Ze) (a2_:Int) (a3_:Int):Option (Ze) :=
 ((ZcF N a0_.Pers ((List.length a1_.Links:Nat):Int)).bind fun r2 =>
 ((ZcF N a0_.Delays ((List.length a1_.Links:Nat):Int)).bind fun r3 =>
 (((if (((List.length a1_.Links:Nat):Int)==24) then (some true) else ((ZeR N a1_ (Zs.mk a2_ a3_ (w64 (1+(Int.tmod r2 20))) (Int.tmod r3 50))).bind fun r6=>(some (!r6))))).bind fun (j12:Bool) =>
 (if j12 then (some a1_) else ((Zae (fun x:Int=>ZaD N a1_ a2_ a3_ x) N 0).bind fun o521=>match o521 with
 | (.inl p522)=>((appI 32 a1_.Links [(Zs.mk a2_ a3_ (w64 (1+(Int.tmod r2 20))) (Int.tmod r3 50))]).bind fun l525 =>
 (some (Ze.mk a1_.Nodes a1_.Station l525)))
 | (.inr p526)=>(some p526))))))
def Zbi (N:Nat) (a0_:Ze) (a1_:Zh) (i27:Int):Option ((Int) ⊕ ((Unit) ⊕ (Bool))) :=
 (if (decide (i27<((List.length a1_.Routes:Nat):Int))) then ((idx a1_.Routes i27).bind fun e529 =>
 ((((ZbG N a0_ e529).bind fun r530=>(if (!r530) then (some true) else ((idx e529 0).bind fun e533=>((Zbx N a0_ e533).bind fun r534=>(if (r534 != a1_.Talker) then (some true) else ((idx e529 (w64 (((List.length e529:Nat):Int) - 1))).bind fun e537=>((Zci N a0_ e537).bind fun r538=>(some (r538 != a1_.Listener)))))))))).bind fun (j539:Bool) =>
 (if j539 then (some (.inr (.inr false))) else (some (.inl (w64 (i27+1))))))) else (some (.inr (.inl ()))))
def ZcO (N:Nat) (a0_:Ze) (a1_:Zh) (i562:Int):Option ((Int) ⊕ ((Unit) ⊕ (Bool))) :=
 (if (decide (i562<((List.length a1_.Routes:Nat):Int))) then ((idx a1_.Routes i562).bind fun e1064 =>
 ((((ZbG N a0_ e1064).bind fun r1065=>(if (!r1065) then (some true) else ((idx e1064 0).bind fun e1068=>((Zbx N a0_ e1068).bind fun r1069=>(if (r1069 != a1_.Talker) then (some true) else ((idx e1064 (w64 (((List.length e1064:Nat):Int) - 1))).bind fun e1072=>((Zci N a0_ e1072).bind fun r1073=>(some (r1073 != a1_.Listener)))))))))).bind fun (j1074:Bool) =>
 (if j1074 then (some (.inr (.inr false))) else (some (.inl (w64 (i562+1))))))) else (some (.inr (.inl ()))))
def Zec (N:Nat) (a0_:Ze) (a1_:Zh):Option (Bool) :=
 ((((ZcB N a1_.Id 1 4095).bind fun r1=>(if (!r1) then (some true) else ((ZbA N a0_ a1_.Talker).bind fun r4=>(if (!r4) then (some true) else ((ZbA N a0_ a1_.Listener).bind fun r7=>(if (!r7) then (some true) else (if (a1_.Talker==a1_.Listener) then (some true) else ((ZcB N a1_.Size 84 1542).bind fun r12=>(if (!r12) then (some true) else ((ZcB N a1_.Deadline 1 1099511627776).bind fun r15=>(some (!r15))))))))))))).bind fun (j16:Bool) =>
 (if j16 then (some false) else (if (a1_.Class==7) then ((((ZcB N a1_.Period 1 240).bind fun r19=>(if (!r19) then (some true) else (some (!((a1_.Bucket.Burst==0)&&((a1_.Bucket.Rate==0)&&true))))))).bind fun (j22:Bool) =>
 (if j22 then (some false) else (if ((decide (((List.length a1_.Routes:Nat):Int)<1))||(decide (((List.length a1_.Routes:Nat):Int) > 2))) then (some false) else ((Zae (fun x:Int=>Zbi N a0_ a1_ x) N 0).bind fun o541=>match o541 with
 | (.inl p542)=>(((if (((List.length a1_.Routes:Nat):Int)==1) then (some true) else ((idx a1_.Routes 0).bind fun e545=>((idx a1_.Routes 1).bind fun e546=>((Zb2 N a0_ e545 e546).bind fun r547=>(some r547)))))).bind fun (j548:Bool) =>
 (some j548))
 | (.inr p549)=>(some p549))))) else (if (a1_.Class==6) then (((if (a1_.Period != 0) then (some true) else ((ZcB N a1_.Bucket.Burst a1_.Size 1048576).bind fun r553=>(if (!r553) then (some true) else ((ZcB N a1_.Bucket.Rate 1 2097152).bind fun r556=>(some (!r556))))))).bind fun (j557:Bool) =>
 (if j557 then (some false) else (if ((decide (((List.length a1_.Routes:Nat):Int)<1))||(decide (((List.length a1_.Routes:Nat):Int) > 2))) then (some false) else ((Zae (fun x:Int=>ZcO N a0_ a1_ x) N 0).bind fun o1076=>match o1076 with
 | (.inl p1077)=>(((if (((List.length a1_.Routes:Nat):Int)==1) then (some true) else ((idx a1_.Routes 0).bind fun e1080=>((idx a1_.Routes 1).bind fun e1081=>((Zb2 N a0_ e1080 e1081).bind fun r1082=>(some r1082)))))).bind fun (j1083:Bool) =>
 (some j1083))
 | (.inr p1084)=>(some p1084))))) else (some false)))))
def ZcC (N:Nat) (a0_:Ze) (a1_:Int) (a2_:Int) (i1:Int):Option ((Int) ⊕ ((Unit) ⊕ ((List Int)))) :=
 (if (decide (i1<16)) then ((ZeQ N a0_ a1_ (IntKind.u8.wrap (a2_+(IntKind.u8.wrap (i1))))).bind fun r503 =>
 (((if (decide (((List.length r503:Nat):Int) > 0)) then ((ZbG N a0_ r503).bind fun r505=>(if r505 then ((idx r503 0).bind fun e507=>((Zbx N a0_ e507).bind fun r508=>((idx a0_.Station r508).bind fun e509=>(if e509 then ((idx r503 (w64 (((List.length r503:Nat):Int) - 1))).bind fun e511=>((Zci N a0_ e511).bind fun r512=>((idx a0_.Station r512).bind fun e513=>(some e513)))) else (some false))))) else (some false))) else (some false))).bind fun (j517:Bool) =>
 (if j517 then ((neL r503).bind fun _=>(some (.inr (.inr r503)))) else (some (.inl (w64 (i1+1))))))) else (some (.inr (.inl ()))))
def Zd0 (N:Nat) (a0_:Ze) (a1_:Int) (a2_:Int):Option ((List Int)) :=
 ((Zae (fun x:Int=>ZcC N a0_ a1_ a2_ x) N 0).bind fun o519=>match o519 with
 | (.inl p520)=>(some [])
 | (.inr p521)=>(some p521))
def ZbY (N:Nat) (a0_:Ze) (i4:Int):Option ((Int) ⊕ ((Unit) ⊕ (Bool))) :=
 (if (decide (i4<((List.length a0_.Links:Nat):Int))) then ((Zem N i4 a0_).bind fun r506 =>
 (if (!r506) then (some (.inr (.inr false))) else ((Zel N i4 a0_).bind fun r508 =>
 (if (!r508) then (some (.inr (.inr false))) else ((ZdE N i4 a0_).bind fun r510 =>
 (if (!r510) then (some (.inr (.inr false))) else ((Zek N i4 a0_).bind fun r512 =>
 (if (!r512) then (some (.inr (.inr false))) else (some (.inl (w64 (i4+1)))))))))))) else (some (.inr (.inl ()))))
def ZeI (N:Nat) (a0_:Ze):Option (Bool) :=
 ((Zae (fun x:Int=>ZbY N a0_ x) N 0).bind fun o514=>match o514 with
 | (.inl p515)=>(some true)
 | (.inr p516)=>(some p516))
def ZcN (N:Nat) (c0_:Zh):Option (Bool) :=
 (if (c0_.Class==7) then ((((Zag N c0_.Period 1 240).bind fun r4=>(if r4 then (some ((c0_.Bucket.Burst==0)&&((c0_.Bucket.Rate==0)&&true))) else (some false)))).bind fun (j8:Bool) =>
 (some j8)) else (if (c0_.Class==6) then (((if (c0_.Period==0) then ((Zex N c0_.Bucket).bind fun r13=>(if (r13==0) then (some (decide (c0_.Bucket.Burst ≥ c0_.Size))) else (some false))) else (some false))).bind fun (j19:Bool) =>
 (some j19)) else (some false)))
def ZaB (N:Nat) (r2:(List Int)) (l3:List Int) (i4:Int):Option ((Int) ⊕ ((Unit) ⊕ (Bool))) :=
 (if (decide (i4<((List.length l3:Nat):Int))) then ((idx l3 i4).bind fun e506 =>
 ((ZaE N r2 e506).bind fun r507 =>
 (if r507 then (some (.inr (.inr true))) else (some (.inl (w64 (i4+1))))))) else (some (.inr (.inl ()))))
def Zbv (N:Nat) (a0_:ZS) (a1_:(List Int)) (a2_:(List Int)):Option (Bool) :=
 ((Za3 N a0_ a1_).bind fun r1 =>
 ((Za3 N a0_ a2_).bind fun r2 =>
 ((subI r1 1 (w64 (((List.length r1:Nat):Int) - 1))).bind fun l3 =>
 ((Zae (fun x:Int=>ZaB N r2 l3 x) N 0).bind fun o509=>match o509 with
 | (.inl p510)=>(some false)
 | (.inr p511)=>(some p511)))))
def Z9 (N:Nat) (a0_:Zal) (i3:Int) (l4:(List Bool)):Option ((Int × (List Bool)) ⊕ (((List Bool)))) :=
 (if (decide (i3<(w64 ((w64 (1+(w64 ((Int.tmod a0_.Bridges 6)))))+(w64 (2+(w64 ((Int.tmod a0_.Stations 5))))))))) then ((appI 1 l4 [(decide (i3 ≥ (w64 (1+(w64 ((Int.tmod a0_.Bridges 6)))))))]).bind fun l510 =>
 (some (.inl ((w64 (i3+1)),l510)))) else (some (.inr l4)))
def Z8 (N:Nat) (a0_:Zal) (i515:Int) (i516:Int) (l517:(List Bool)) (l518:(List Zs)):Option ((Int × Int × (List Bool) × (List Zs)) ⊕ ((Int × (List Bool) × (List Zs)))) :=
 (if (decide (i515<(w64 (1+(w64 ((Int.tmod a0_.Bridges 6))))))) then ((Z5 N a0_ (Ze.mk i516 l517 l518) (w64 (i515 - 1)) i515).bind fun r1023 =>
 (some (.inl ((w64 (i515+1)),r1023.Nodes,r1023.Station,r1023.Links)))) else (some (.inr (i516,l517,l518))))
def Z7 (N:Nat) (a0_:Zal) (i1031:Int) (i1032:Int) (l1033:(List Bool)) (l1034:(List Zs)):Option ((Int × Int × (List Bool) × (List Zs)) ⊕ ((Int × (List Bool) × (List Zs)))) :=
 (if (decide (i1031<(w64 (2+(w64 ((Int.tmod a0_.Stations 5))))))) then ((ZcF N a0_.Homes (w64 (2 * i1031))).bind fun r1539 =>
 ((remI r1539 (w64 (1+(w64 ((Int.tmod a0_.Bridges 6)))))).bind fun m1540 =>
 ((Z5 N a0_ (Ze.mk i1032 l1033 l1034) (w64 ((w64 (1+(w64 ((Int.tmod a0_.Bridges 6)))))+i1031)) m1540).bind fun r1541 =>
 (some (.inl ((w64 (i1031+1)),r1541.Nodes,r1541.Station,r1541.Links)))))) else (some (.inr (i1032,l1033,l1034))))
def ZX (N:Nat) (a0_:Zal) (i2060:Int) (i2061:Int) (l2062:(List Bool)) (l2063:(List Zs)):Option ((Int × Int × (List Bool) × (List Zs)) ⊕ ((Int × (List Bool) × (List Zs)))) :=
 (if (decide (i2060<(w64 (2+(w64 ((Int.tmod a0_.Stations 5))))))) then ((((ZcF N a0_.Homes (w64 ((w64 (2 * i2060))+1))).bind fun r3072 =>
 (if (decide ((Int.tmod r3072 3) > 0)) then ((ZcF N a0_.Homes (w64 ((w64 (2 * i2060))+1))).bind fun r3074 =>
 ((remI r3074 (w64 (1+(w64 ((Int.tmod a0_.Bridges 6)))))).bind fun m3075 =>
 ((Z5 N a0_ (Ze.mk i2061 l2062 l2063) (w64 ((w64 (1+(w64 ((Int.tmod a0_.Bridges 6)))))+i2060)) m3075).bind fun r3076 =>
 (some (r3076.Nodes,r3076.Station,r3076.Links))))) else (some (i2061,l2062,l2063))))).bind fun (j3071:Int × (List Bool) × (List Zs)) =>
 (some (.inl ((w64 (i2060+1)),j3071.1,j3071.2.1,j3071.2.2)))) else (some (.inr (i2061,l2062,l2063))))
def Zak (N:Nat) (a0_:Zal) (i3084:Int) (i3085:Int) (l3086:(List Bool)) (l3087:(List Zs)):Option ((Int × Int × (List Bool) × (List Zs)) ⊕ ((Int × (List Bool) × (List Zs)))) :=
 (if ((decide ((w64 (i3084+1))<((List.length a0_.Chords:Nat):Int)))&&(decide (i3084<12))) then ((idx a0_.Chords i3084).bind fun e3594 =>
 ((remI (w64 (e3594)) (w64 (1+(w64 ((Int.tmod a0_.Bridges 6)))))).bind fun m3595 =>
 ((idx a0_.Chords (w64 (i3084+1))).bind fun e3596 =>
 ((remI (w64 (e3596)) (w64 (1+(w64 ((Int.tmod a0_.Bridges 6)))))).bind fun m3597 =>
 ((Z5 N a0_ (Ze.mk i3085 l3086 l3087) m3595 m3597).bind fun r3598 =>
 (some (.inl ((w64 (i3084+2)),r3598.Nodes,r3598.Station,r3598.Links)))))))) else (some (.inr (i3085,l3086,l3087))))
def Za5 (N:Nat) (a0_:Zal):Option (Ze) :=
 ((Zae (fun x:Int × (List Bool)=>Z9 N a0_ x.1 x.2) N (0,[])).bind fun o511 =>
 ((Zae (fun x:Int × Int × (List Bool) × (List Zs)=>Z8 N a0_ x.1 x.2.1 x.2.2.1 x.2.2.2) N (1,(w64 ((w64 (1+(w64 ((Int.tmod a0_.Bridges 6)))))+(w64 (2+(w64 ((Int.tmod a0_.Stations 5))))))),o511,[])).bind fun o1027 =>
 ((Zae (fun x:Int × Int × (List Bool) × (List Zs)=>Z7 N a0_ x.1 x.2.1 x.2.2.1 x.2.2.2) N (0,o1027.1,o1027.2.1,o1027.2.2)).bind fun o1545 =>
 (((if ((decide ((w64 (1+(w64 ((Int.tmod a0_.Bridges 6))))) > 2))&&((Int.tmod a0_.Bridges 2)==0)) then ((Z5 N a0_ (Ze.mk o1545.1 o1545.2.1 o1545.2.2) (w64 ((w64 (1+(w64 ((Int.tmod a0_.Bridges 6))))) - 1)) 0).bind fun r2053 =>
 (some (r2053.Nodes,r2053.Station,r2053.Links))) else (some (o1545.1,o1545.2.1,o1545.2.2)))).bind fun (j2049:Int × (List Bool) × (List Zs)) =>
 ((Zae (fun x:Int × Int × (List Bool) × (List Zs)=>ZX N a0_ x.1 x.2.1 x.2.2.1 x.2.2.2) N (0,j2049.1,j2049.2.1,j2049.2.2)).bind fun o3080 =>
 ((Zae (fun x:Int × Int × (List Bool) × (List Zs)=>Zak N a0_ x.1 x.2.1 x.2.2.1 x.2.2.2) N (0,o3080.1,o3080.2.1,o3080.2.2)).bind fun o3602 =>
 (some (Ze.mk o3602.1 o3602.2.1 o3602.2.2))))))))
def ZaG (N:Nat) (a1_:Ze) (i2:Int) (i3:Int):Option ((Int × Int) ⊕ ((Int))) :=
 (((if (decide (i3<a1_.Nodes)) then ((idx a1_.Station i2).bind fun e505=>(some (!e505))) else (some false))).bind fun (j507:Bool) =>
 (if j507 then ((remI (w64 (i2+1)) a1_.Nodes).bind fun m509 =>
 (some (.inl (m509,(w64 (i3+1)))))) else (some (.inr i2))))
def ZaF (N:Nat) (a0_:ZaC) (a1_:Ze) (o510:Int) (r511:(List Int)) (r516:Int) (i1024:Int) (l1025:(List (List Int))):Option ((Int × (List (List Int))) ⊕ (((List (List Int))))) :=
 (((if (decide (i1024<24)) then (if a0_.Two then (some (((List.length l1025:Nat):Int)==1)) else (some false)) else (some false))).bind fun (j1533:Bool) =>
 (if j1533 then ((((Zd0 N a1_ (IntKind.u8.wrap (o510)) (IntKind.u8.wrap (a0_.Way+(IntKind.u8.wrap (i1024))))).bind fun r2038 =>
 (if (List.isEmpty r2038) then (some l1025) else ((((idx r2038 (w64 (((List.length r2038:Nat):Int) - 1))).bind fun e2040=>((Zci N a1_ e2040).bind fun r2041=>(if (r2041==r516) then ((Zb2 N a1_ r511 r2038).bind fun r2043=>(some r2043)) else (some false))))).bind fun (j2045:Bool) =>
 (if j2045 then ((appI 24 l1025 [r2038]).bind fun l2049 =>
 (some l2049)) else (some l1025)))))).bind fun (j2037:(List (List Int))) =>
 (some (.inl ((w64 (i1024+1)),j2037)))) else (some (.inr l1025))))
def ZbB (N:Nat) (a0_:ZaC) (a1_:Ze) (a2_:Int):Option (Zh × Bool) :=
 ((remI (w64 (a0_.Node)) a1_.Nodes).bind fun m1 =>
 ((Zae (fun x:Int × Int=>ZaG N a1_ x.1 x.2) N (m1,0)).bind fun o510 =>
 ((Zd0 N a1_ (IntKind.u8.wrap (o510)) a0_.Way).bind fun r511 =>
 (if (List.isEmpty r511) then (some ((Zh.mk 0 0 0 0 0 0 (Zcd.mk 0 0) 0 ([])),false)) else ((idx r511 0).bind fun e513 =>
 ((Zbx N a1_ e513).bind fun r514 =>
 ((idx r511 (w64 (((List.length r511:Nat):Int) - 1))).bind fun e515 =>
 ((Zci N a1_ e515).bind fun r516 =>
 (((if a0_.Reserved then (some (6,0,(w64 ((w64 (84+(w64 (a0_.Size))))+(w64 (4 * (w64 (a0_.Burst)))))),(w64 (1+(w64 (a0_.Rate)))))) else ((idx [4,6,8,12,16,24,48,10,5,240] (Int.tmod a0_.Period 10)).bind fun e1021 =>
 (some (7,e1021,0,0))))).bind fun (j1019:Int × Int × Int × Int) =>
 ((Zae (fun x:Int × (List (List Int))=>ZaF N a0_ a1_ o510 r511 r516 x.1 x.2) N (0,[r511])).bind fun o2050 =>
 ((Zec N a1_ (Zh.mk a2_ r514 r516 j1019.1 (w64 (84+(w64 (a0_.Size)))) j1019.2.1 (Zcd.mk j1019.2.2.1 j1019.2.2.2) 1099511627776 o2050)).bind fun r2052 =>
 (some ((Zh.mk a2_ r514 r516 j1019.1 (w64 (84+(w64 (a0_.Size)))) j1019.2.1 (Zcd.mk j1019.2.2.1 j1019.2.2.2) 1099511627776 o2050),r2052)))))))))))))
def ZaW (N:Nat) (a0_:Ze) (i16:Int) (l17:(List Int)):Option ((Int × (List Int)) ⊕ (((List Int)))) :=
 (if (decide (i16<((List.length a0_.Links:Nat):Int))) then ((idx a0_.Links i16).bind fun e521 =>
 ((idx l17 e521.A).bind fun e522 =>
 ((idx l17 e521.A).bind fun e525 =>
 ((idx (List.set l17 (Int.toNat e521.A) (w64 (e522+1))) e521.B).bind fun e529 =>
 ((idx (List.set l17 (Int.toNat e521.A) (w64 (e522+1))) e521.B).bind fun e532 =>
 (some (.inl ((w64 (i16+1)),(List.set (List.set l17 (Int.toNat e521.A) (w64 (e522+1))) (Int.toNat e521.B) (w64 (e529+1))))))))))) else (some (.inr l17)))
def ZbZ (N:Nat) (a0_:Ze) (o536:(List Int)) (i537:Int):Option ((Int) ⊕ ((Unit) ⊕ (Int))) :=
 (if (decide (i537<((List.length a0_.Station:Nat):Int))) then ((idx a0_.Station i537).bind fun e1039 =>
 (((if e1039 then ((idx o536 i537).bind fun e1041=>(if (decide (e1041<1)) then (some true) else ((idx o536 i537).bind fun e1046=>(some (decide (e1046 > 2)))))) else (some false))).bind fun (j1050:Bool) =>
 (if j1050 then (some (.inr (.inr 260))) else (some (.inl (w64 (i537+1))))))) else (some (.inr (.inl ()))))
def Zc1 (N:Nat) (a0_:Ze):Option (Int) :=
 (if ((decide (a0_.Nodes<2))||((decide (a0_.Nodes > 12))||(((List.length a0_.Station:Nat):Int) != a0_.Nodes))) then (some 260) else (((if (decide (((List.length a0_.Links:Nat):Int) > 24)) then (some true) else ((ZeI N a0_).bind fun r8=>(some (!r8))))).bind fun (j9:Bool) =>
 (if j9 then (some 260) else ((Zku 8 a0_.Nodes a0_.Nodes 0).bind fun l13 =>
 ((Zae (fun x:Int × (List Int)=>ZaW N a0_ x.1 x.2) N (0,l13)).bind fun o536 =>
 ((Zae (fun x:Int=>ZbZ N a0_ o536 x) N 0).bind fun o1052=>match o1052 with
 | (.inl p1053)=>((ZeJ N a0_ 0 (Zbm.mk false false false false false false false false false false false false false false false false false false false false false false false false)).bind fun r1054 =>
 ((Zax N r1054 false).bind fun r1055 =>
 (if r1055 then (some 260) else (some 0))))
 | (.inr p1057)=>(some p1057)))))))
def ZcA (N:Nat) (a0_:ZS) (c0_:(List Int)) (c1_:(List Int)):Option (Bool × Int) :=
 ((ZaN N a0_ c0_).bind fun r2 =>
 (if (!r2) then (some (false,310)) else ((((ZdH N c1_ c0_).bind fun r6=>(if (!r6) then ((Zbv N a0_ c1_ c0_).bind fun r10=>(if (!r10) then ((Zbv N a0_ c0_ c1_).bind fun r14=>(some (!r14))) else (some false))) else (some false)))).bind fun (j17:Bool) =>
 (some (j17,0)))))
def Zco (N:Nat) (a0_:Ze) (a1_:(List Int)):Option (Int) :=
 ((Zc1 N a0_).bind fun r1 =>
 (if (r1 != 0) then (some r1) else ((ZaN N (ZS.mk a0_) a1_).bind fun r3 =>
 (if (!r3) then (some 310) else (some 0)))))
def Zca (N:Nat) (a0_:Ze) (a1_:(List Int)) (a2_:ZS→Option ((List Int) × Int)):Option ((List Int) × Int) :=
 ((Zco N a0_ a1_).bind fun r1 =>
 (if (r1 != 0) then (some ([],r1)) else ((a2_ (ZS.mk a0_)).bind fun r3 =>
 (some (r3.1,r3.2)))))
def Zbw (N:Nat) (a0_:Ze) (a1_:(List ZaC)) (i3:Int) (l4:(List Zh)):Option ((Int × (List Zh)) ⊕ (((List Zh)))) :=
 (((if (decide (i3<((List.length a1_:Nat):Int))) then (some (decide (((List.length l4:Nat):Int)<6))) else (some false))).bind fun (j510:Bool) =>
 (if j510 then ((((idx a1_ i3).bind fun e1015 =>
 ((ZbB N e1015 a0_ (w64 (((List.length l4:Nat):Int)+1))).bind fun r1017 =>
 (if r1017.2 then ((appI 96 l4 [r1017.1]).bind fun l1021 =>
 (some l1021)) else (some l4))))).bind fun (j1014:(List Zh)) =>
 (some (.inl ((w64 (i3+1)),j1014)))) else (some (.inr l4))))
def ZcD (N:Nat) (a0_:Ze) (a1_:(List ZaC)):Option ((List Zh)) :=
 ((Zae (fun x:Int × (List Zh)=>Zbw N a0_ a1_ x.1 x.2) N (0,[])).bind fun o1022 =>
 (some o1022))
def Zb9 (N:Nat) (a0_:Ze) (a1_:(List Int)) (a2_:ZS→Option (Bool × Int)):Option (Bool × Int) :=
 ((Zco N a0_ a1_).bind fun r1 =>
 (if (r1 != 0) then (some (false,r1)) else ((a2_ (ZS.mk a0_)).bind fun r3 =>
 (some (r3.1,r3.2)))))
def Zcn (N:Nat) (a0_:Ze) (a1_:(List Int)):Option ((List Int) × Int) :=
 ((Zca N a0_ a1_ (fun x0=>Zdb N x0 a1_)).bind fun r4 =>
 (some (r4.1,r4.2)))
def Zcp (N:Nat) (a0_:Ze) (a1_:(List Int)) (a2_:(List Int)):Option (Bool × Int) :=
 ((Zb9 N a0_ a1_ (fun x0=>ZcA N x0 a2_ a1_)).bind fun r6 =>
 (some (r6.1,r6.2)))
def Zcz (N:Nat) (a0_:Ze) (a1_:(List Int)):Option (Int × Int × Int) :=
 ((Zcn N a0_ a1_).bind fun r1 =>
 (if (r1.2 != 0) then (some (0,0,r1.2)) else ((idx r1.1 0).bind fun e3 =>
 ((idx r1.1 (w64 (((List.length r1.1:Nat):Int) - 1))).bind fun e4 =>
 (some (e3,e4,0))))))
def ZdF (N:Nat) (a0_:Ze) (a1_:(List Int)) (a2_:Int) (a3_:Int):Option (Bool) :=
 ((Zcz N a0_ a1_).bind fun r1 =>
 (some ((r1.2.2==0)&&((r1.1==a2_)&&(r1.2.1==a3_)))))
def ZcL (N:Nat) (c0_:Zh) (c1_:Ze):Option (Bool) :=
 (if (decide (((List.length c0_.Routes:Nat):Int)<2)) then (some true) else ((idx c0_.Routes 0).bind fun e5 =>
 ((idx c0_.Routes 1).bind fun e7 =>
 ((Zcp N c1_ e5 e7).bind fun r8 =>
 (some ((r8.2==0)&&r8.1))))))
def ZaR (N:Nat) (c0_:Zh) (c1_:Ze) (i2:Int):Option ((Int) ⊕ ((Unit) ⊕ (Bool))) :=
 (if (decide (i2<((List.length c0_.Routes:Nat):Int))) then ((idx c0_.Routes i2).bind fun e504 =>
 ((ZdF N c1_ e504 c0_.Talker c0_.Listener).bind fun r508 =>
 (if (!r508) then (some (.inr (.inr false))) else (some (.inl (w64 (i2+1))))))) else (some (.inr (.inl ()))))
def ZcM (N:Nat) (c0_:Zh) (c1_:Ze):Option (Bool) :=
 ((Zae (fun x:Int=>ZaR N c0_ c1_ x) N 0).bind fun o510=>match o510 with
 | (.inl p511)=>(some true)
 | (.inr p512)=>(some p512))
def Zcm (N:Nat) (a0_:Ze) (a1_:Zh):Option (Bool) :=
 ((Zdw N  a1_).bind fun r8 =>
 (if (!r8) then (some false) else ((Zdv N  a0_ a1_).bind fun r11 =>
 (if (!r11) then (some false) else ((Zdu N  a1_).bind fun r14 =>
 (if (!r14) then (some false) else ((Zdt N  a1_).bind fun r17 =>
 (if (!r17) then (some false) else ((ZcN N  a1_).bind fun r20 =>
 (if (!r20) then (some false) else ((Zds N  a1_).bind fun r23 =>
 (if (!r23) then (some false) else ((ZcM N  a1_ a0_).bind fun r26 =>
 (if (!r26) then (some false) else ((ZcL N  a1_ a0_).bind fun r29 =>
 (if (!r29) then (some false) else (some true)))))))))))))))))
def ZaM (N:Nat) (a0_:Ze) (a1_:Zh):Option (Int) :=
 ((Zc1 N a0_).bind fun r1 =>
 (if (r1 != 0) then (some r1) else ((Zcm N a0_ a1_).bind fun r3 =>
 (if (!r3) then (some 321) else (some 0)))))
def ZaJ (N:Nat) (a0_:Ze) (a1_:(List Zh)) (i4:Int):Option ((Int) ⊕ ((Unit) ⊕ (Int))) :=
 (if (decide (i4<((List.length a1_:Nat):Int))) then ((idx a1_ i4).bind fun e506 =>
 ((Zcm N a0_ e506).bind fun r507 =>
 (if (!r507) then (some (.inr (.inr 321))) else (some (.inl (w64 (i4+1))))))) else (some (.inr (.inl ()))))
def Zap (N:Nat) (a1_:(List Zh)) (i514:Int) (l515:(List (Int × Bool))):Option ((Int × (List (Int × Bool))) ⊕ ((Unit) ⊕ (Int))) :=
 (if (decide (i514<((List.length a1_:Nat):Int))) then ((idx a1_ i514).bind fun e1018 =>
 (if (Zkt l515 e1018.Id false) then (some (.inr (.inr 322))) else (some (.inl ((w64 (i514+1)),(Zh2 l515 e1018.Id true)))))) else (some (.inr (.inl ()))))
def ZbN (N:Nat) (a0_:Ze) (a1_:(List Zh)):Option (Int) :=
 ((Zc1 N a0_).bind fun r1 =>
 (if (r1 != 0) then (some r1) else (if (decide (((List.length a1_:Nat):Int) > 12)) then (some 3) else ((Zae (fun x:Int=>ZaJ N a0_ a1_ x) N 0).bind fun o509=>match o509 with
 | (.inl p510)=>((Zae (fun x:Int × (List (Int × Bool))=>Zap N a1_ x.1 x.2) N (0,[])).bind fun o1023=>match o1023 with
 | (.inl p1024)=>(some 0)
 | (.inr p1025)=>(some p1025))
 | (.inr p1026)=>(some p1026)))))
def Zdn (N:Nat) (a0_:Ze) (a1_:ZL) (a2_:Zh) (a3_:Int):Option (Int) :=
 ((Zc1 N a0_).bind fun r1 =>
 (if (r1 != 0) then (some r1) else ((ZbM N a1_).bind fun r3 =>
 (if (r3 != 0) then (some r3) else ((Zcm N a0_ a2_).bind fun r5 =>
 (if (!r5) then (some 321) else (((if (a2_.Class != 7) then (some true) else ((Zag N a3_ 0 (w64 (((List.length a2_.Routes:Nat):Int) - 1))).bind fun r9=>(some (!r9))))).bind fun (j10:Bool) =>
 (if j10 then (some 2) else (some 0)))))))))
def Zbh (N:Nat) (l14:(List ZQ)) (x12:ZQ):Option ((List ZQ)) :=
 ((appI 40 l14 [x12]).bind fun l518 =>
 (some l518))
def Zbo (N:Nat) (a0_:Ze) (a1_:ZL) (a2_:Zh) (a3_:Int):Option ((List ZQ) × Int) :=
 ((Zdn N a0_ a1_ a2_ a3_).bind fun r1 =>
 (if (r1 != 0) then (some ([],r1)) else ((ZeZ N a0_ a1_ a2_ a3_).bind fun r5 =>
 ((Zby N (fun (s:(List ZQ)) (x12:ZQ)=>Zc6 (fun v:(List ZQ)=>Zbh N v x12) s) r5.1 r5.2.1 r5.2.2.1 r5.2.2.2 []).bind fun o520 =>
 (some (o520,0))))))
def Zbg (N:Nat) (a0_:Ze) (a1_:ZL) (i22:Int) (x21:ZQ):Option (Int) :=
 ((idx a0_.Links (w64 (Int.tdiv x21.Port 2))).bind fun e524 =>
 (some (w64 ((w64 ((w64 (x21.Open+x21.Long))+e524.Delay))+a1_.Proc))))
def Zb0 (N:Nat) (a0_:Ze) (a1_:ZL) (a2_:Zh) (a3_:Int):Option (Int × Int) :=
 ((Zdn N a0_ a1_ a2_ a3_).bind fun r7 =>
 (if (r7 != 0) then (some (0,r7)) else ((ZeZ N a0_ a1_ a2_ a3_).bind fun r14 =>
 ((Zby N (fun (s:Int) (x21:ZQ)=>Zc6 (fun v:Int=>Zbg N a0_ a1_ v x21) s) r14.1 r14.2.1 r14.2.2.1 r14.2.2.2 0).bind fun o527 =>
 (some (o527,0))))))
def Zef (N:Nat):Option (Bool) :=
 ((ZfZ N).bind fun r1 =>
 ((Ze7 N).bind fun r2 =>
 ((Zdf N).bind fun r3 =>
 ((Zbo N r1 r2 r3 0).bind fun r4 =>
 ((Zb0 N r1 r2 r3 0).bind fun r5 =>
 ((Zbo N r1 r2 r3 1).bind fun r6 =>
 (((if (r4.2 != 0) then (some true) else (if (r5.2 != 0) then (some true) else (if (((List.length r4.1:Nat):Int) != 2) then (some true) else ((idx r4.1 0).bind fun e13=>(if (!((e13.Port==0)&&((e13.Early==0)&&((e13.Late==0)&&((e13.Open==0)&&((e13.Long==800)&&true)))))) then (some true) else ((idx r4.1 1).bind fun e16=>(some (!((e16.Port==2)&&((e16.Early==811)&&((e16.Late==819)&&((e16.Open==900)&&((e16.Long==800)&&true)))))))))))))).bind fun (j17:Bool) =>
 (if j17 then (some false) else ((((ZaM N r1 (Zh.mk r3.Id r3.Talker 1 r3.Class r3.Size r3.Period r3.Bucket r3.Deadline r3.Routes)).bind fun r19=>(if (r19==321) then ((ZaM N r1 (Zh.mk r3.Id r3.Talker r3.Listener r3.Class 83 r3.Period r3.Bucket r3.Deadline r3.Routes)).bind fun r21=>(if (r21==321) then ((ZaM N r1 (Zh.mk r3.Id r3.Talker r3.Listener r3.Class r3.Size r3.Period r3.Bucket r3.Deadline ([[2,0]]))).bind fun r23=>(some (r23==321))) else (some false))) else (some false)))).bind fun (j26:Bool) =>
 (((if (r5.1==1715) then (if (r6.2==2) then (if j26 then ((ZbN N r1 ([r3,r3])).bind fun r30=>(if (r30==322) then ((ZaM N r1 r3).bind fun r32=>(some (r32==0))) else (some false))) else (some false)) else (some false)) else (some false))).bind fun (j37:Bool) =>
 (some j37)))))))))))
def Zaa (N:Nat) (a1_:Zcx) (r3:Ze) (r4:ZL) (r5:(List Zh)) (i6:Int) (i508:Int) (r1016:(List ZQ) × Int) (r1018:Int × Int) (i1027:Int):Option ((Int) ⊕ ((Unit) ⊕ (Bool))) :=
 (if (decide (i1027<((List.length r1016.1:Nat):Int))) then ((idx r1016.1 i1027).bind fun e1529 =>
 ((idx r3.Links (w64 (Int.tdiv e1529.Port 2))).bind fun e1530 =>
 ((a1_.get (Int.tmod i1027 9)).bind fun e1531 =>
 ((idx r1016.1 i1027).bind fun e1532 =>
 ((idx r5 i6).bind fun e1533 =>
 ((((idx r1016.1 i1027).bind fun e1534=>((idx r5 i6).bind fun e1535=>((idx e1535.Routes i508).bind fun e1536=>((idx e1536 i1027).bind fun e1537=>(if (e1534.Port != e1537) then (some true) else (if (i1027==(w64 (((List.length r1016.1:Nat):Int) - 1))) then (some ((w64 ((w64 ((w64 ((w64 (e1532.Open - (if (if r4.Slack<(w64 (e1531)) then r4.Slack else (w64 (e1531))) > (w64 (0 - r4.Slack)) then (if r4.Slack<(w64 (e1531)) then r4.Slack else (w64 (e1531))) else (w64 (0 - r4.Slack)))))+(w64 (e1533.Size * e1530.Per))))+e1530.Delay))+r4.Proc)) != (w64 (r1018.1 - (if (if r4.Slack<(w64 (e1531)) then r4.Slack else (w64 (e1531))) > (w64 (0 - r4.Slack)) then (if r4.Slack<(w64 (e1531)) then r4.Slack else (w64 (e1531))) else (w64 (0 - r4.Slack))))))) else (some false)))))))).bind fun (j1542:Bool) =>
 (if j1542 then (some (.inr (.inr false))) else (if (decide ((w64 (i1027+1))<((List.length r1016.1:Nat):Int))) then ((idx r1016.1 (w64 (i1027+1))).bind fun e1545 =>
 ((a1_.get (Int.tmod (w64 (i1027+1)) 9)).bind fun e1546 =>
 (if ((decide ((w64 ((w64 ((w64 ((w64 ((w64 (e1532.Open - (if (if r4.Slack<(w64 (e1531)) then r4.Slack else (w64 (e1531))) > (w64 (0 - r4.Slack)) then (if r4.Slack<(w64 (e1531)) then r4.Slack else (w64 (e1531))) else (w64 (0 - r4.Slack)))))+(w64 (e1533.Size * e1530.Per))))+e1530.Delay))+r4.Proc))+(if (if r4.Slack<(w64 (e1546)) then r4.Slack else (w64 (e1546))) > (w64 (0 - r4.Slack)) then (if r4.Slack<(w64 (e1546)) then r4.Slack else (w64 (e1546))) else (w64 (0 - r4.Slack)))))<e1545.Early))||((decide ((w64 ((w64 ((w64 ((w64 ((w64 (e1532.Open - (if (if r4.Slack<(w64 (e1531)) then r4.Slack else (w64 (e1531))) > (w64 (0 - r4.Slack)) then (if r4.Slack<(w64 (e1531)) then r4.Slack else (w64 (e1531))) else (w64 (0 - r4.Slack)))))+(w64 (e1533.Size * e1530.Per))))+e1530.Delay))+r4.Proc))+(if (if r4.Slack<(w64 (e1546)) then r4.Slack else (w64 (e1546))) > (w64 (0 - r4.Slack)) then (if r4.Slack<(w64 (e1546)) then r4.Slack else (w64 (e1546))) else (w64 (0 - r4.Slack))))) > e1545.Late))||(decide (e1545.Late > e1545.Open)))) then (some (.inr (.inr false))) else (some (.inl (w64 (i1027+1))))))) else (some (.inl (w64 (i1027+1)))))))))))) else (some (.inr (.inl ()))))
def Zab (N:Nat) (a1_:Zcx) (r3:Ze) (r4:ZL) (r5:(List Zh)) (i6:Int) (i508:Int):Option ((Int) ⊕ ((Unit) ⊕ (Bool))) :=
 ((((idx r5 i6).bind fun e1009=>(if (decide (i508<((List.length e1009.Routes:Nat):Int))) then ((idx r5 i6).bind fun e1011=>(some (e1011.Class==7))) else (some false)))).bind fun (j1013:Bool) =>
 (if j1013 then ((idx r5 i6).bind fun e1015 =>
 ((Zbo N r3 r4 e1015 i508).bind fun r1016 =>
 ((idx r5 i6).bind fun e1017 =>
 ((Zb0 N r3 r4 e1017 i508).bind fun r1018 =>
 (((if (r1016.2 != 0) then (some true) else (if (r1018.2 != 0) then (some true) else ((idx r5 i6).bind fun e1023=>((idx e1023.Routes i508).bind fun e1024=>(some (((List.length r1016.1:Nat):Int) != ((List.length e1024:Nat):Int)))))))).bind fun (j1025:Bool) =>
 (if j1025 then (some (.inr (.inr false))) else ((Zae (fun x:Int=>Zaa N a1_ r3 r4 r5 i6 i508 r1016 r1018 x) N 0).bind fun o1552=>match o1552 with
 | (.inl p1553)=>(some (.inl (w64 (i508+1))))
 | (.inr p1554)=>(some (.inr (.inr p1554)))))))))) else (some (.inr (.inl ())))))
def Zan (N:Nat) (a1_:Zcx) (r3:Ze) (r4:ZL) (r5:(List Zh)) (i6:Int):Option ((Int) ⊕ ((Unit) ⊕ (Bool))) :=
 (if (decide (i6<((List.length r5:Nat):Int))) then ((Zae (fun x:Int=>Zab N a1_ r3 r4 r5 i6 x) N 0).bind fun o1555=>match o1555 with
 | (.inl p1556)=>(some (.inl (w64 (i6+1))))
 | (.inr p1557)=>(some (.inr (.inr p1557)))) else (some (.inr (.inl ()))))
def Zb5 (N:Nat) (a0_:Zc2) (a1_:Zcx):Option (Bool) :=
 ((Zef N).bind fun r1 =>
 (if (!r1) then (some false) else ((Za5 N a0_.T).bind fun r3 =>
 ((Zdc N a0_.U.x0 a0_.U.x1 a0_.U.x2).bind fun r4 =>
 ((ZcD N r3 a0_.L).bind fun r5 =>
 ((Zae (fun x:Int=>Zan N a1_ r3 r4 r5 x) N 0).bind fun o1558=>match o1558 with
 | (.inl p1559)=>(some true)
 | (.inr p1560)=>(some p1560)))))))
end Go.Sh

