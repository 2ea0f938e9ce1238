/- Part of the proof; written by a program out of the texts in wip/. -/
import Derived.Test.YthipedbbcjemhaaGreatPlanCoversE33
namespace Go.Sh
open Go Go.Eng
set_option linter.unusedVariables false
set_option linter.unusedSimpArgs false
set_option maxRecDepth 100000
structure Zae where
 Bridges:Int
 Stations:Int
 Chords:(List Int)
 Homes:(List Int)
 Pers:(List Int)
 Delays:(List Int)
def ZmL (v:Zae):List PC:=[.int .u8 v.Bridges,.int .u8 v.Stations,.sl 1 false (List.map (eI .u8) v.Chords),.sl 1 false (List.map (eI .u8) v.Homes),.sl 1 false (List.map (eI .u8) v.Pers),.sl 1 false (List.map (eI .u8) v.Delays)]
structure ZaB where
 Reserved:Bool
 Two:Bool
 Node:Int
 Way:Int
 Size:Int
 Period:Int
 Burst:Int
 Rate:Int
def ZdW (v:ZaB):List PC:=[.bool v.Reserved,.bool v.Two,.int .u8 v.Node,.int .u8 v.Way,.int .u8 v.Size,.int .u8 v.Period,.int .u8 v.Burst,.int .u16 v.Rate]
structure Zji where
 x0:Int
 x1:Int
 x2:Int
def Zqp (v:Zji):List PC:=[.int .u8 v.x0,.int .u8 v.x1,.int .u8 v.x2]
structure Zy where
 A:Int
 B:Int
 Per:Int
 Delay:Int
def Zp (v:Zy):List PC:=[.int .i64 v.A,.int .i64 v.B,.int .i64 v.Per,.int .i64 v.Delay]
structure Zh where
 Nodes:Int
 Station:(List Bool)
 Links:(List Zy)
structure Zdj where
 Burst:Int
 Rate:Int
structure Zj where
 Id:Int
 Talker:Int
 Listener:Int
 Class:Int
 Size:Int
 Period:Int
 Bucket:Zdj
 Deadline:Int
 Routes:(List (List Int))
def ZY (v:Zj):List PC:=[.int .i64 v.Id,.int .i64 v.Talker,.int .i64 v.Listener,.int .i64 v.Class,.int .i64 v.Size,.int .i64 v.Period,.int .i64 v.Bucket.Burst,.int .i64 v.Bucket.Rate,.int .i64 v.Deadline,.sl 1 false (List.map (eSl 1 eI64) v.Routes)]
structure ZE where
 Grid:Int
 Slack:Int
 Proc:Int
 Cap:Int
structure ZB where
 Stream:Int
 Port:Int
 From:Int
 Long:Int
def Zq (v:ZB):List PC:=[.int .i64 v.Stream,.int .i64 v.Port,.int .i64 v.From,.int .i64 v.Long]
structure Zs where
 Periods:(List Int)
 Uses:(List ZB)
structure ZR where
 Port:Int
 Early:Int
 Late:Int
 Open:Int
 Long:Int
def ZV (v:ZR):List PC:=[.int .i64 v.Port,.int .i64 v.Early,.int .i64 v.Late,.int .i64 v.Open,.int .i64 v.Long]
structure Zas where
 Problem:Zs
 late:Bool
structure ZF where
 Period:Int
 From:Int
 Long:Int
def Zax (v:ZF):List PC:=[.int .i64 v.Period,.int .i64 v.From,.int .i64 v.Long]
structure ZbM where
 x0:Bool
 x1:Bool
 x2:Bool
 x3:Bool
 x4:Bool
 x5:Bool
 x6:Bool
 x7:Bool
 x8:Bool
 x9:Bool
 x10:Bool
 x11:Bool
 x12:Bool
 x13:Bool
 x14:Bool
 x15:Bool
 x16:Bool
 x17:Bool
 x18:Bool
 x19:Bool
 x20:Bool
 x21:Bool
 x22:Bool
 x23:Bool
structure Z6 where
 Topo:Zh
structure Zo where
 x0:Bool
 x1:Bool
 x2:Bool
 x3:Bool
 x4:Bool
 x5:Bool
 x6:Bool
 x7:Bool
 x8:Bool
 x9:Bool
 x10:Bool
 x11:Bool
structure ZaG where
 port:Int
 from_:Int
 to_:Int
abbrev Zaz (f:Bool) (l:List ZaB):AV:=.p (.sl 8 f (List.map ZdW l))
abbrev s_eB (f:Bool) (l:List Bool):AV:=.p (.sl 1 f (List.map eB l))
abbrev Ze (f:Bool) (l:List Zy):AV:=.p (.sl 4 f (List.map Zp l))
abbrev ZG (f:Bool) (l:List Zj):AV:=.p (.sl 10 f (List.map ZY l))
abbrev Zg (f:Bool) (l:List Int):AV:=.p (.sl 1 f (List.map eI64 l))
abbrev ZK (f:Bool) (l:List ZB):AV:=.p (.sl 4 f (List.map Zq l))
abbrev ZfC (f:Bool) (l:List Int):AV:=.p (.sl 1 f (List.map (eI .u8) l))
abbrev Zn (f:Bool) (l:List (List Int)):AV:=.p (.sl 1 f (List.map (eSl 1 eI64) l))
abbrev Zat (f:Bool) (l:List ZF):AV:=.p (.sl 3 f (List.map Zax l))
abbrev Z1 (f:Bool) (l:List ZR):AV:=.p (.sl 5 f (List.map ZV l))
abbrev ZA (v:Zae):List AV:=[.p (.int .u8 v.Bridges),.p (.int .u8 v.Stations),ZfC false v.Chords,ZfC false v.Homes,ZfC false v.Pers,ZfC false v.Delays]
abbrev ZJ (v:ZaB):List AV:=[bv v.Reserved,bv v.Two,.p (.int .u8 v.Node),.p (.int .u8 v.Way),.p (.int .u8 v.Size),.p (.int .u8 v.Period),.p (.int .u8 v.Burst),.p (.int .u16 v.Rate)]
abbrev Zqy (v:Zji):List AV:=[.p (.int .u8 v.x0),.p (.int .u8 v.x1),.p (.int .u8 v.x2)]
abbrev Zay (v:Zy):List AV:=[iv v.A,iv v.B,iv v.Per,iv v.Delay]
abbrev Zc (v:Zh):List AV:=[iv v.Nodes,s_eB false v.Station,Ze false v.Links]
abbrev Zex (v:Zdj):List AV:=[iv v.Burst,iv v.Rate]
abbrev Zf (v:Zj):List AV:=[iv v.Id,iv v.Talker,iv v.Listener,iv v.Class,iv v.Size,iv v.Period,iv v.Bucket.Burst,iv v.Bucket.Rate,iv v.Deadline,Zn false v.Routes]
abbrev Zl (v:ZE):List AV:=[iv v.Grid,iv v.Slack,iv v.Proc,iv v.Cap]
abbrev ZZ (v:ZB):List AV:=[iv v.Stream,iv v.Port,iv v.From,iv v.Long]
abbrev Zd (v:Zs):List AV:=[Zg false v.Periods,ZK false v.Uses]
abbrev Zcm (v:ZR):List AV:=[iv v.Port,iv v.Early,iv v.Late,iv v.Open,iv v.Long]
abbrev Zcl (v:ZF):List AV:=[iv v.Period,iv v.From,iv v.Long]
abbrev Zap (v:ZbM):List AV:=[bv v.x0,bv v.x1,bv v.x2,bv v.x3,bv v.x4,bv v.x5,bv v.x6,bv v.x7,bv v.x8,bv v.x9,bv v.x10,bv v.x11,bv v.x12,bv v.x13,bv v.x14,bv v.x15,bv v.x16,bv v.x17,bv v.x18,bv v.x19,bv v.x20,bv v.x21,bv v.x22,bv v.x23]
def ZbM.l (v:ZbM):List Bool:=[v.x0,v.x1,v.x2,v.x3,v.x4,v.x5,v.x6,v.x7,v.x8,v.x9,v.x10,v.x11,v.x12,v.x13,v.x14,v.x15,v.x16,v.x17,v.x18,v.x19,v.x20,v.x21,v.x22,v.x23]
def ZbM.get (v:ZbM) (i:Int):Option Bool:=idx v.l i
abbrev ZC (v:Zo):List AV:=[bv v.x0,bv v.x1,bv v.x2,bv v.x3,bv v.x4,bv v.x5,bv v.x6,bv v.x7,bv v.x8,bv v.x9,bv v.x10,bv v.x11]
def Zo.l (v:Zo):List Bool:=[v.x0,v.x1,v.x2,v.x3,v.x4,v.x5,v.x6,v.x7,v.x8,v.x9,v.x10,v.x11]
def Zo.ofL (l:List Bool):Zo:=⟨l.getD 0 false,l.getD 1 false,l.getD 2 false,l.getD 3 false,l.getD 4 false,l.getD 5 false,l.getD 6 false,l.getD 7 false,l.getD 8 false,l.getD 9 false,l.getD 10 false,l.getD 11 false⟩
def Zo.get (v:Zo) (i:Int):Option Bool:=idx v.l i
def Zo.set (v:Zo) (i:Int) (x:Bool):Zo:=Zo.ofL (v.l.set i.toNat x)
theorem Zo.l_ofL (l:List Bool) (h:l.length=12):(Zo.ofL l).l=l:=Zp7 12 false l h rfl
theorem Zo.l_set (v:Zo) (i:Int) (x:Bool):(v.set i x).l=v.l.set i.toNat x:=Zo.l_ofL _ (by rw [List.length_set];rfl)
theorem Zo.c_set (v:Zo) (i:Int) (x:Bool):ZC (v.set i x)=(v.l.set i.toNat x).map (fun x=>bv x):=by rw [← Zo.l_set];rfl
abbrev Zaa (v:ZaG):List AV:=[iv v.port,iv v.from_,iv v.to_]
def ZeQ (N:Nat) (a0_:Int) (a1_:Int) (a2_:Int):Option (ZE) :=
 (some (ZE.mk (w64 (100+(w64 (20 * (w64 (a0_)))))) (w64 ((Int.tmod a1_ 40))) (w64 (a2_)) 8000))
def ZeP (N:Nat) (a0_:Zs) (a1_:Zs) (i4:Int):Option ((Int) ⊕ ((Unit) ⊕ (Bool))) :=
 (if (decide (i4<((List.length a0_.Periods:Nat):Int))) then ((idx a0_.Periods i4).bind fun e506 =>
 ((idx a1_.Periods i4).bind fun e507 =>
 (if (e506 != e507) then (some (.inr (.inr false))) else (some (.inl (w64 (i4+1))))))) else (some (.inr (.inl ()))))
def ZeO (N:Nat) (a0_:Zs) (a1_:Zs) (i511:Int):Option ((Int) ⊕ ((Unit) ⊕ (Bool))) :=
 (if (decide (i511<((List.length a0_.Uses:Nat):Int))) then ((idx a0_.Uses i511).bind fun e1013 =>
 ((idx a1_.Uses i511).bind fun e1014 =>
 (if (!((e1013.Stream==e1014.Stream)&&((e1013.Port==e1014.Port)&&((e1013.From==e1014.From)&&((e1013.Long==e1014.Long)&&true))))) then (some (.inr (.inr false))) else (some (.inl (w64 (i511+1))))))) else (some (.inr (.inl ()))))
def ZiS (N:Nat) (a0_:Zs) (a1_:Zs):Option (Bool) :=
 (if ((((List.length a0_.Periods:Nat):Int) != ((List.length a1_.Periods:Nat):Int))||(((List.length a0_.Uses:Nat):Int) != ((List.length a1_.Uses:Nat):Int))) then (some false) else ((Z2 (fun x:Int=>ZeP N a0_ a1_ x) N 0).bind fun o509=>match o509 with
 | (.inl p510)=>((Z2 (fun x:Int=>ZeO N a0_ a1_ x) N 0).bind fun o1016=>match o1016 with
 | (.inl p1017)=>(some true)
 | (.inr p1018)=>(some p1018))
 | (.inr p1019)=>(some p1019)))
def Zde (N:Nat) (a0_:(List Int)) (a1_:Int):Option (Int) :=
 (if (decide (a1_<((List.length a0_:Nat):Int))) then ((idx a0_ a1_).bind fun e2 =>
 (some (w64 (e2)))) else (some 0))
def Znk (N:Nat) (a0_:(List Int)) (i1:Int) (b503:Bool) (i504:Int):Option ((Bool × Int) ⊕ ((Bool))) :=
 (if (decide (i504<((List.length a0_:Nat):Int))) then (((if b503 then ((idx a0_ i504).bind fun e1007=>((remI i1 e1007).bind fun m1008=>(if (m1008==0) then (some true) else (some false)))) else (some false))).bind fun (j1012:Bool) =>
 (some (.inl (j1012,(w64 (i504+1)))))) else (some (.inr b503)))
def Znl (N:Nat) (a0_:(List Int)) (i1:Int):Option ((Int) ⊕ ((Unit) ⊕ (Int))) :=
 (if (decide (i1≤960)) then ((Z2 (fun x:Bool × Int=>Znk N a0_ i1 x.1 x.2) N (true,0)).bind fun o1013 =>
 (if o1013 then (some (.inr (.inr i1))) else (some (.inl (w64 (i1+1)))))) else (some (.inr (.inl ()))))
def ref24_Lcm (N:Nat) (a0_:(List Int)):Option (Int) :=
 ((Z2 (fun x:Int=>Znl N a0_ x) N 1).bind fun o1015=>match o1015 with
 | (.inl p1016)=>(some 0)
 | (.inr p1017)=>(some p1017))
def Za9 (N:Nat) (a0_:Int) (a1_:Int) (a2_:Int):Option (Zj) :=
 (some (Zj.mk a0_ 0 2 7 100 a1_ (Zdj.mk 0 0) a2_ ([[0,2]])))
def Zf7 (N:Nat) (a0_:Zh) (a1_:ZE) (a2_:Zj) (a3_:Int):Option (Zj × Int × Zh × ZE) :=
 (some (a2_,a3_,a0_,a1_))
def Ze8 (N:Nat) (a0_:Zy) (a1_:Int) (a2_:Int):Option (Bool) :=
 (some (if (a0_.A==a1_) then ((a0_.B==a2_)||((a0_.A==a2_)&&(a0_.B==a1_))) else ((a0_.A==a2_)&&(a0_.B==a1_))))
def ZbV (N:Nat) (a0_:Zh) (a1_:Int):Option (Int) :=
 ((idx a0_.Links (w64 (Int.tdiv a1_ 2))).bind fun e1 =>
 (if ((Int.tmod a1_ 2)==1) then (some e1.B) else (some e1.A)))
def ZcP (N:Nat) (a0_:Zh) (a1_:Int):Option (Int) :=
 ((idx a0_.Links (w64 (Int.tdiv a1_ 2))).bind fun e1 =>
 (if ((Int.tmod a1_ 2)==1) then (some e1.A) else (some e1.B)))
def Zan (N:Nat) (a0_:Int) (a1_:Int) (a2_:Int):Option (Bool) :=
 (some ((decide (a0_ ≥ a1_))&&(decide (a0_≤a2_))))
def ZcJ (N:Nat) (a0_:Int) (a1_:Int):Option (Int) :=
 ((quoI .i64 a0_ a1_).bind fun q1 =>
 ((((remI a0_ a1_).bind fun m503 =>
 (if (decide (m503<0)) then (some (w64 (q1 - 1))) else (some q1)))).bind fun (j502:Int) =>
 (some j502)))
def Zdb (N:Nat) (a0_:Int) (a1_:Int) (a2_:Int):Option (Bool) :=
 (some ((decide (a0_ ≥ a1_))&&(decide (a0_≤a2_))))
def Zi4 (N:Nat):Option (Zh) :=
 (some (Zh.mk 3 ([true,false,true]) ([(Zy.mk 0 1 8 5),(Zy.mk 1 2 8 5)])))
def ZaD {σ:Type} (N:Nat) (y_:σ→ZR→Option (σ × Bool)) (c0_:Zj) (c2_:Zh) (c3_:ZE) (e3:(List Int)) (i6:Int) (i7:Int) (i10:Int) (i11:Int) (i12:Int) (i8:Int) (g9:σ):Option ((Int × Int × Int × Int × Int × Int × σ) ⊕ ((σ) ⊕ (σ))) :=
 (if (decide (i6<((List.length e3:Nat):Int))) then ((idx e3 i6).bind fun e516 =>
 (((if (decide (i6 > 0)) then ((idx c2_.Links (w64 (Int.tdiv i7 2))).bind fun e1020 =>
 ((quoI .i64 (w64 ((w64 ((w64 ((w64 ((w64 ((w64 (i12+i8))+e1020.Delay))+c3_.Proc))+(w64 (2 * c3_.Slack))))+c3_.Grid)) - 1)) c3_.Grid).bind fun q1026 =>
 (some ((w64 ((w64 ((w64 ((w64 (i12+i8))+e1020.Delay))+c3_.Proc)) - (w64 (2 * c3_.Slack)))),(w64 ((w64 ((w64 ((w64 (i12+i8))+e1020.Delay))+c3_.Proc))+(w64 (2 * c3_.Slack)))),(w64 (q1026 * c3_.Grid)))))) else (some (i10,i11,i12)))).bind fun (j1017:Int × Int × Int) =>
 ((idx c2_.Links (w64 (Int.tdiv e516 2))).bind fun e1030 =>
 ((y_ g9 (ZR.mk e516 j1017.1 j1017.2.1 j1017.2.2 (w64 (c0_.Size * e1030.Per)))).bind fun r1031 =>
 (if (!r1031.2) then (some (.inr (.inr r1031.1))) else (some (.inl ((w64 (i6+1)),e516,j1017.1,j1017.2.1,j1017.2.2,(w64 (c0_.Size * e1030.Per)),r1031.1)))))))) else (some (.inr (.inl g9))))
def ZbY {σ:Type} (N:Nat) (y_:σ→ZR→Option (σ × Bool)) (c0_:Zj) (c1_:Int) (c2_:Zh) (c3_:ZE) (s_:σ):Option (σ) :=
 ((idx c0_.Routes c1_).bind fun e3 =>
 ((Z2 (fun x:Int × Int × Int × Int × Int × Int × σ=>ZaD N y_ c0_ c2_ c3_ e3 x.1 x.2.1 x.2.2.1 x.2.2.2.1 x.2.2.2.2.1 x.2.2.2.2.2.1 x.2.2.2.2.2.2) N (0,0,0,0,0,0,s_)).bind fun o1035=>match o1035 with
 | (.inl p1036)=>(some p1036)
 | (.inr p1037)=>(some p1037)))
def ZeY (N:Nat) (a0_:Zh) (a1_:Int):Option (Bool) :=
 (some ((decide (a1_ ≥ 0))&&(decide (a1_<a0_.Nodes))))
def Zbp (N:Nat) (a0_:Zh) (a1_:(List Int)) (i7:Int) (l8:(List Int)):Option ((Int × (List Int)) ⊕ (((List Int)))) :=
 (if (decide (i7<((List.length a1_:Nat):Int))) then ((idx a1_ i7).bind fun e512 =>
 ((ZcP N a0_ e512).bind fun r513 =>
 ((appI 8 l8 [r513]).bind fun l516 =>
 (some (.inl ((w64 (i7+1)),l516)))))) else (some (.inr l8)))
def Zct (N:Nat) (a0_:Zh) (a1_:(List Int)):Option ((List Int)) :=
 ((idx a1_ 0).bind fun e1 =>
 ((ZbV N a0_ e1).bind fun r2 =>
 ((Z2 (fun x:Int × (List Int)=>Zbp N a0_ a1_ x.1 x.2) N (0,[r2])).bind fun o517 =>
 (some o517))))
def Zb0 (N:Nat) (a0_:Zh) (a1_:Int):Option (Bool) :=
 ((((Zdb N a1_ 0 (w64 (a0_.Nodes - 1))).bind fun r1=>(if r1 then ((idx a0_.Station a1_).bind fun e3=>(some e3)) else (some false)))).bind fun (j5:Bool) =>
 (some j5))
def Zbm (N:Nat) (a0_:Zh) (a2_:ZbM) (i517:Int) (l518:(List Bool)):Option ((Int × (List Bool)) ⊕ (((List Bool)))) :=
 (if (decide (i517<((List.length a0_.Links:Nat):Int))) then ((((idx a0_.Links i517).bind fun e1525 =>
 ((((a2_.get i517).bind fun e1526=>(if (!e1526) then ((idx l518 e1525.A).bind fun e1528=>((idx l518 e1525.B).bind fun e1531=>(some (e1528 != e1531)))) else (some false)))).bind fun (j1535:Bool) =>
 (if j1535 then ((idx l518 e1525.A).bind fun e1537 =>
 ((idx (List.set l518 (Int.toNat e1525.A) true) e1525.B).bind fun e1541 =>
 (some (List.set (List.set l518 (Int.toNat e1525.A) true) (Int.toNat e1525.B) true)))) else (some l518))))).bind fun (j1524:(List Bool)) =>
 (some (.inl ((w64 (i517+1)),j1524)))) else (some (.inr l518)))
def ZbA (N:Nat) (a0_:Zh) (a2_:ZbM) (i10:Int) (l11:(List Bool)):Option ((Int × (List Bool)) ⊕ (((List Bool)))) :=
 (if (decide (i10<a0_.Nodes)) then ((Z2 (fun x:Int × (List Bool)=>Zbm N a0_ a2_ x.1 x.2) N (0,l11)).bind fun o1545 =>
 (some (.inl ((w64 (i10+1)),o1545)))) else (some (.inr l11)))
def ZfN (N:Nat) (a0_:Zh) (a1_:Int) (a2_:ZbM):Option ((List Bool)) :=
 ((Zh2 1 a0_.Nodes a0_.Nodes false).bind fun l3 =>
 ((idx l3 a1_).bind fun e4 =>
 ((Z2 (fun x:Int × (List Bool)=>ZbA N a0_ a2_ x.1 x.2) N (0,(List.set l3 (Int.toNat a1_) true))).bind fun o1546 =>
 (some o1546))))
def Zeg (N:Nat) (c0_:Zj):Option (Bool) :=
 ((Zan N c0_.Id 1 4095).bind fun r2 =>
 (some r2))
def ZcG (N:Nat) (a0_:Zh) (a1_:Int):Option (Bool) :=
 ((((Zan N a1_ 0 (w64 (a0_.Nodes - 1))).bind fun r1=>(if r1 then ((idx a0_.Station a1_).bind fun e3=>(some e3)) else (some false)))).bind fun (j5:Bool) =>
 (some j5))
def Zee (N:Nat) (c0_:Zj):Option (Bool) :=
 ((Zan N c0_.Size 84 1542).bind fun r2 =>
 (some r2))
def Zed (N:Nat) (c0_:Zj):Option (Bool) :=
 ((Zan N c0_.Deadline 1 1099511627776).bind fun r2 =>
 (some r2))
def Zec (N:Nat) (c0_:Zj):Option (Bool) :=
 ((Zan N ((List.length c0_.Routes:Nat):Int) 1 2).bind fun r2 =>
 (some r2))
def ZdD (N:Nat) (a0_:(List Int)) (a1_:Int) (i1:Int):Option ((Int) ⊕ ((Unit) ⊕ (Bool))) :=
 (if (decide (i1<((List.length a0_:Nat):Int))) then ((idx a0_ i1).bind fun e503 =>
 (if (e503==a1_) then (some (.inr (.inr true))) else (some (.inl (w64 (i1+1)))))) else (some (.inr (.inl ()))))
def Zgg (N:Nat) (a0_:(List Int)) (a1_:Int):Option (Bool) :=
 ((Z2 (fun x:Int=>ZdD N a0_ a1_ x) N 0).bind fun o505=>match o505 with
 | (.inl p506)=>(some false)
 | (.inr p507)=>(some p507))
def Ze9 (N:Nat) (a0_:Zs) (a1_:Int) (a2_:Int):Option (Bool) :=
 (((if (decide (a2_ ≥ 0)) then ((idx a0_.Periods a1_).bind fun e2=>(some (decide (a2_<e2)))) else (some false))).bind fun (j4:Bool) =>
 (some j4))
def Zbq (N:Nat) (a0_:Zh) (a1_:Int) (i3:Int) (l4:(List Int)):Option ((Int × (List Int)) ⊕ (((List Int)))) :=
 (if (decide (i3<(w64 (2 * ((List.length a0_.Links:Nat):Int))))) then ((((ZbV N a0_ i3).bind fun r1011 =>
 (if (r1011==a1_) then ((appI 8 l4 [i3]).bind fun l1015 =>
 (some l1015)) else (some l4)))).bind fun (j1010:(List Int)) =>
 (some (.inl ((w64 (i3+1)),j1010)))) else (some (.inr l4)))
def Zd8 (N:Nat) (a0_:Zh) (a1_:Int):Option ((List Int)) :=
 ((Z2 (fun x:Int × (List Int)=>Zbq N a0_ a1_ x.1 x.2) N (0,[])).bind fun o1016 =>
 (some o1016))
def ZfX (N:Nat) (a0_:Zh) (a1_:Int):Option (Bool) :=
 (some ((decide (a1_ ≥ 0))&&(decide (a1_<(w64 (2 * ((List.length a0_.Links:Nat):Int)))))))
def ZfO (N:Nat) (a0_:Zh) (a1_:Int):Option (Bool) :=
 (some ((decide (a1_ ≥ 0))&&(decide (a1_<a0_.Nodes))))
def Zfg (N:Nat) (a0_:Int) (c0_:Zh):Option (Bool) :=
 ((idx c0_.Links a0_).bind fun e2 =>
 ((((idx c0_.Station e2.A).bind fun e4=>(if (!e4) then (some true) else ((idx c0_.Station e2.B).bind fun e8=>(some (!e8)))))).bind fun (j9:Bool) =>
 (some j9)))
def ZbN (N:Nat) (e2:Zy) (l4:List Zy) (i5:Int):Option ((Int) ⊕ ((Unit) ⊕ (Bool))) :=
 (if (decide (i5<((List.length l4:Nat):Int))) then ((idx l4 i5).bind fun e507 =>
 (if (if (e2.A==e507.A) then ((e2.B==e507.B)||((e2.A==e507.B)&&(e2.B==e507.A))) else ((e2.A==e507.B)&&(e2.B==e507.A))) then (some (.inr (.inr false))) else (some (.inl (w64 (i5+1)))))) else (some (.inr (.inl ()))))
def Zen (N:Nat) (a0_:Int) (c0_:Zh):Option (Bool) :=
 ((idx c0_.Links a0_).bind fun e2 =>
 ((subI c0_.Links 0 a0_).bind fun l4 =>
 ((Z2 (fun x:Int=>ZbN N e2 l4 x) N 0).bind fun o517=>match o517 with
 | (.inl p518)=>(some true)
 | (.inr p519)=>(some p519))))
def Zff (N:Nat) (a0_:Int) (c0_:Zh):Option (Bool) :=
 ((idx c0_.Links a0_).bind fun e2 =>
 (some ((decide (e2.Per ≥ 1))&&((decide (e2.Per≤1000))&&((decide (e2.Delay ≥ 0))&&(decide (e2.Delay≤10000)))))))
def Zad (N:Nat) (a0_:(List Bool)) (a1_:Bool) (i1:Int):Option ((Int) ⊕ ((Unit) ⊕ (Int))) :=
 (if (decide (i1<((List.length a0_:Nat):Int))) then ((idx a0_ i1).bind fun e503 =>
 (if (a1_==e503) then (some (.inr (.inr i1))) else (some (.inl (w64 (i1+1)))))) else (some (.inr (.inl ()))))
def ZbB (N:Nat) (a0_:(List Bool)) (a1_:Bool):Option (Int) :=
 ((Z2 (fun x:Int=>Zad N a0_ a1_ x) N 0).bind fun o505=>match o505 with
 | (.inl p506)=>(some (-1))
 | (.inr p507)=>(some p507))
def Zcn (N:Nat) (a0_:Int) (a1_:Int) (a2_:Int):Option (Bool) :=
 (some ((decide (a1_≤a0_))&&(decide (a0_≤a2_))))
def ZbO (N:Nat) (a1_:(List Int)) (e503:Int) (i504:Int):Option ((Int) ⊕ ((Unit) ⊕ (Bool))) :=
 (if (decide (i504<((List.length a1_:Nat):Int))) then ((idx a1_ i504).bind fun e1006 =>
 (if ((w64 (Int.tdiv e503 2))==(w64 (Int.tdiv e1006 2))) then (some (.inr (.inr true))) else (some (.inl (w64 (i504+1)))))) else (some (.inr (.inl ()))))
def ZbP (N:Nat) (a0_:(List Int)) (a1_:(List Int)) (i1:Int):Option ((Int) ⊕ ((Unit) ⊕ (Bool))) :=
 (if (decide (i1<((List.length a0_:Nat):Int))) then ((idx a0_ i1).bind fun e503 =>
 ((Z2 (fun x:Int=>ZbO N a1_ e503 x) N 0).bind fun o1008=>match o1008 with
 | (.inl p1009)=>(some (.inl (w64 (i1+1))))
 | (.inr p1010)=>(some (.inr (.inr p1010))))) else (some (.inr (.inl ()))))
def Zer (N:Nat) (a0_:(List Int)) (a1_:(List Int)):Option (Bool) :=
 ((Z2 (fun x:Int=>ZbP N a0_ a1_ x) N 0).bind fun o1011=>match o1011 with
 | (.inl p1012)=>(some false)
 | (.inr p1013)=>(some p1013))
def ZiU (N:Nat) (a0_:Zs) (a1_:Int) (a2_:Int):Option (Zs × Int × Int) :=
 (some (a0_,a1_,a2_))
def ZeS (N:Nat) (a0_:Zs) (a1_:ZB) (a2_:Int):Option (ZF) :=
 ((idx a0_.Periods a1_.Stream).bind fun e1 =>
 ((remI (w64 (a1_.From+a2_)) e1).bind fun m2 =>
 (some (ZF.mk e1 m2 a1_.Long))))
def Zcs (N:Nat) (a0_:ZF):Option (Int) :=
 (if ((decide (a0_.Period<1))||((decide (a0_.Period > 960))||((decide (a0_.From<0))||(decide (a0_.From ≥ a0_.Period))))) then (some 330) else (if ((decide (a0_.Long<1))||(decide (a0_.Long > a0_.Period))) then (some 330) else (some 0)))
def Zb7 (N:Nat) (i1:Int) (i2:Int):Option ((Int × Int) ⊕ ((Int))) :=
 (if (i2 != 0) then ((remI i1 i2).bind fun m504 =>
 (some (.inl (i2,m504)))) else (some (.inr i1)))
def Zd7 (N:Nat) (a0_:Int) (a1_:Int):Option (Int) :=
 ((Z2 (fun x:Int × Int=>Zb7 N x.1 x.2) N (a0_,a1_)).bind fun o505 =>
 (some o505))
def Zcj (N:Nat) (a0_:Z6) (a1_:(List Int)):Option ((List Int) × Z6) :=
 (some (a1_,a0_))
def ZdS {σ:Type} (N:Nat) (y_:σ→ZB→ZB→Option (σ × Bool)) (c0_:Zs) (c2_:Int) (i4:Int) (e509:ZB) (i515:Int) (g516:σ):Option ((Int × σ) ⊕ ((σ) ⊕ (σ))) :=
 (if (decide (i515<((List.length c0_.Uses:Nat):Int))) then ((idx c0_.Uses i515).bind fun e1020 =>
 (((if (i515==i4) then (some true) else (if (e1020.Stream != c2_) then (some true) else (some (e1020.Port != e509.Port))))).bind fun (j1026:Bool) =>
 (if j1026 then (some (.inl ((w64 (i515+1)),g516))) else ((y_ g516 e509 e1020).bind fun r1028 =>
 (if (!r1028.2) then (some (.inr (.inr r1028.1))) else (some (.inl ((w64 (i515+1)),r1028.1)))))))) else (some (.inr (.inl g516))))
def ZdT {σ:Type} (N:Nat) (y_:σ→ZB→ZB→Option (σ × Bool)) (c0_:Zs) (c1_:Int) (c2_:Int) (i4:Int) (g5:σ):Option ((Int × σ) ⊕ ((σ) ⊕ (σ))) :=
 (if (decide (i4<((List.length c0_.Uses:Nat):Int))) then ((idx c0_.Uses i4).bind fun e509 =>
 (if (e509.Stream != c1_) then (some (.inl ((w64 (i4+1)),g5))) else ((Z2 (fun x:Int × σ=>ZdS N y_ c0_ c2_ i4 e509 x.1 x.2) N (0,g5)).bind fun o1032=>match o1032 with
 | (.inl p1033)=>(some (.inl ((w64 (i4+1)),p1033)))
 | (.inr p1034)=>(some (.inr (.inr p1034)))))) else (some (.inr (.inl g5))))
def Zg0 {σ:Type} (N:Nat) (y_:σ→ZB→ZB→Option (σ × Bool)) (c0_:Zs) (c1_:Int) (c2_:Int) (s_:σ):Option (σ) :=
 ((Z2 (fun x:Int × σ=>ZdT N y_ c0_ c1_ c2_ x.1 x.2) N (0,s_)).bind fun o1035=>match o1035 with
 | (.inl p1036)=>(some p1036)
 | (.inr p1037)=>(some p1037))
def Z0 {σ:Type} (N:Nat) (y_:σ→Int→ZaG→Option (σ × Bool)) (c0_:(List Int)) (c1_:Z6) (i4:Int) (g5:σ):Option ((Int × σ) ⊕ ((σ))) :=
 (if (decide (i4<((List.length c0_:Nat):Int))) then ((idx c0_ i4).bind fun e509 =>
 (((if (decide (e509<0)) then (some true) else (some (decide (e509 ≥ (w64 (2 * ((List.length c1_.Topo.Links:Nat):Int)))))))).bind fun (j513:Bool) =>
 (if j513 then (some (.inr g5)) else ((idx c1_.Topo.Links (w64 (Int.tdiv e509 2))).bind fun e516 =>
 (((if ((Int.tmod e509 2)==1) then (some (e516.B,e516.A)) else (some (e516.A,e516.B)))).bind fun (j1017:Int × Int) =>
 ((y_ g5 i4 (ZaG.mk e509 j1017.1 j1017.2)).bind fun r1019 =>
 (if (!r1019.2) then (some (.inr r1019.1)) else (some (.inl ((w64 (i4+1)),r1019.1)))))))))) else (some (.inr g5)))
def ZbI {σ:Type} (N:Nat) (y_:σ→Int→ZaG→Option (σ × Bool)) (c0_:(List Int)) (c1_:Z6) (s_:σ):Option (σ) :=
 ((Z2 (fun x:Int × σ=>Z0 N y_ c0_ c1_ x.1 x.2) N (0,s_)).bind fun o1023 =>
 (some o1023))
def Zal (N:Nat) (a0_:(List Int)) (a1_:Int) (i1:Int):Option ((Int) ⊕ ((Unit) ⊕ (Int))) :=
 (if (decide (i1<((List.length a0_:Nat):Int))) then ((idx a0_ i1).bind fun e503 =>
 (if (a1_==e503) then (some (.inr (.inr i1))) else (some (.inl (w64 (i1+1)))))) else (some (.inr (.inl ()))))
def ZbZ (N:Nat) (a0_:(List Int)) (a1_:Int):Option (Int) :=
 ((Z2 (fun x:Int=>Zal N a0_ a1_ x) N 0).bind fun o505=>match o505 with
 | (.inl p506)=>(some (-1))
 | (.inr p507)=>(some p507))
def ZgV (N:Nat) (a0_:ZF) (a1_:ZF):Option (Int × Int × Int) :=
 ((Zd7 N a0_.Period a1_.Period).bind fun r1 =>
 (some (a0_.Long,(w64 (r1 - a1_.Long)),r1)))
def ZhR (N:Nat) (a0_:Int) (a1_:Int):Option (Int) :=
 ((remI a0_ a1_).bind fun m1 =>
 ((remI (w64 (m1+a1_)) a1_).bind fun m2 =>
 (some m2)))
def ZbH (N:Nat) (a0_:ZE):Option (Int) :=
 ((((Zan N a0_.Grid 1 10000).bind fun r1=>(if (!r1) then (some true) else ((Zan N a0_.Slack 0 1000).bind fun r4=>(some (!r4)))))).bind fun (j5:Bool) =>
 (if j5 then (some 320) else ((((Zan N a0_.Proc 0 10000).bind fun r7=>(if (!r7) then (some true) else ((Zan N a0_.Cap 1542 65536).bind fun r10=>(some (!r10)))))).bind fun (j11:Bool) =>
 (if j11 then (some 320) else (some 0)))))
def ZfW (N:Nat) (a0_:Zh) (a1_:Zy):Option (Bool) :=
 ((((ZeY N a0_ a1_.A).bind fun r1=>(if (!r1) then (some true) else ((ZeY N a0_ a1_.B).bind fun r4=>(if (!r4) then (some true) else (if (a1_.A==a1_.B) then (some true) else ((idx a0_.Station a1_.A).bind fun e9=>(if e9 then ((idx a0_.Station a1_.B).bind fun e11=>(some e11)) else (some false))))))))).bind fun (j13:Bool) =>
 (if j13 then (some false) else (some ((decide (a1_.Per ≥ 1))&&((decide (a1_.Per≤1000))&&((decide (a1_.Delay ≥ 0))&&(decide (a1_.Delay≤10000))))))))
def Za7 (N:Nat) (a0_:Zh) (l8:(List Int)) (r521:(List Int)) (i526:Int) (l527:(List Int)):Option ((Int × (List Int)) ⊕ (((List Int)))) :=
 (if (decide (i526<((List.length r521:Nat):Int))) then ((((idx r521 i526).bind fun e1538 =>
 ((ZcP N a0_ e1538).bind fun r1539 =>
 ((Zgg N l8 r1539).bind fun r1540 =>
 (if (!r1540) then ((idx r521 i526).bind fun e1543 =>
 ((appI 8 l527 [e1543]).bind fun l1546 =>
 (some l1546))) else (some l527)))))).bind fun (j1537:(List Int)) =>
 (some (.inl ((w64 (i526+1)),j1537)))) else (some (.inr l527)))
def Zb2 (N:Nat) (a0_:Zh) (a2_:Int) (i7:Int) (l8:(List Int)) (l9:(List Int)):Option ((Int × (List Int) × (List Int)) ⊕ (((List Int)) ⊕ ((List Int)))) :=
 (((if (decide (((List.length l9:Nat):Int)<8)) then (if (((List.length l9:Nat):Int)==0) then (some true) else ((idx a0_.Station i7).bind fun e517=>(some (!e517)))) else (some false))).bind fun (j519:Bool) =>
 (if j519 then ((Zd8 N a0_ i7).bind fun r521 =>
 ((Z2 (fun x:Int × (List Int)=>Za7 N a0_ l8 r521 x.1 x.2) N (0,[])).bind fun o1547 =>
 (if (((List.length o1547:Nat):Int)==0) then (some (.inr (.inr l9))) else ((remI (w64 ((w64 (a2_))+(w64 (3 * ((List.length l9:Nat):Int))))) ((List.length o1547:Nat):Int)).bind fun m1552 =>
 ((idx o1547 m1552).bind fun e1553 =>
 ((appI 8 l9 [e1553]).bind fun l1558 =>
 ((ZcP N a0_ e1553).bind fun r1559 =>
 ((appI 8 l8 [r1559]).bind fun l1562 =>
 (some (.inl (r1559,l1562,l1558))))))))))) else (some (.inr (.inl l9)))))
def ZfV (N:Nat) (a0_:Zh) (a1_:Int) (a2_:Int):Option ((List Int)) :=
 ((remI (w64 (a1_)) a0_.Nodes).bind fun m1 =>
 ((Z2 (fun x:Int × (List Int) × (List Int)=>Zb2 N a0_ a2_ x.1 x.2.1 x.2.2) N (m1,[m1],[])).bind fun o1563=>match o1563 with
 | (.inl p1564)=>(some p1564)
 | (.inr p1565)=>(some p1565)))
def Zb9 (N:Nat) (a0_:Zh) (a1_:(List Int)) (i4:Int):Option ((Int) ⊕ ((Unit) ⊕ (Bool))) :=
 (if (decide (i4<((List.length a1_:Nat):Int))) then ((idx a1_ i4).bind fun e506 =>
 ((ZfX N a0_ e506).bind fun r507 =>
 (if (!r507) then (some (.inr (.inr false))) else (some (.inl (w64 (i4+1))))))) else (some (.inr (.inl ()))))
def Zb8 (N:Nat) (a0_:Zh) (a1_:(List Int)) (r511:(List Int)) (i512:Int):Option ((Int) ⊕ ((Unit) ⊕ (Bool))) :=
 (if (decide (i512<((List.length r511:Nat):Int))) then ((subI r511 0 i512).bind fun l1014 =>
 ((idx r511 i512).bind fun e1015 =>
 ((Zgg N l1014 e1015).bind fun r1016 =>
 (if r1016 then (some (.inr (.inr false))) else (((if (decide (i512 > 0)) then (if (decide (i512<((List.length a1_:Nat):Int))) then ((idx r511 i512).bind fun e1020=>((idx a0_.Station e1020).bind fun e1021=>(if e1021 then (some true) else ((idx a1_ i512).bind fun e1024=>((ZbV N a0_ e1024).bind fun r1025=>((idx r511 i512).bind fun e1026=>(some (r1025 != e1026)))))))) else (some false)) else (some false))).bind fun (j1029:Bool) =>
 (if j1029 then (some (.inr (.inr false))) else (some (.inl (w64 (i512+1)))))))))) else (some (.inr (.inl ()))))
def Zca (N:Nat) (a0_:Zh) (a1_:(List Int)):Option (Bool) :=
 (if ((decide (((List.length a1_:Nat):Int)<1))||(decide (((List.length a1_:Nat):Int) > 8))) then (some false) else ((Z2 (fun x:Int=>Zb9 N a0_ a1_ x) N 0).bind fun o509=>match o509 with
 | (.inl p510)=>((Zct N a0_ a1_).bind fun r511 =>
 ((Z2 (fun x:Int=>Zb8 N a0_ a1_ r511 x) N 0).bind fun o1031=>match o1031 with
 | (.inl p1032)=>(some true)
 | (.inr p1033)=>(some p1033)))
 | (.inr p1034)=>(some p1034)))
def Zbv (N:Nat) (a0_:(List Int)) (a1_:(List Int)) (i1:Int):Option ((Int) ⊕ ((Unit) ⊕ (Bool))) :=
 (if (decide (i1<(w64 (((List.length a0_:Nat):Int) - 1)))) then ((idx a0_ i1).bind fun e503 =>
 ((Zgg N a1_ e503).bind fun r504 =>
 (if r504 then (some (.inr (.inr true))) else (some (.inl (w64 (i1+1))))))) else (some (.inr (.inl ()))))
def Zdd (N:Nat) (a0_:(List Int)) (a1_:(List Int)):Option (Bool) :=
 ((Z2 (fun x:Int=>Zbv N a0_ a1_ x) N 1).bind fun o506=>match o506 with
 | (.inl p507)=>(some false)
 | (.inr p508)=>(some p508))
def ZaF (N:Nat) (a0_:(List Bool)) (a1_:Bool):Option (Bool) :=
 ((ZbB N a0_ a1_).bind fun r1 =>
 (some (decide (r1 ≥ 0))))
def Zef (N:Nat) (c0_:Zh) (c1_:Zj):Option (Bool) :=
 ((((ZcG N c0_ c1_.Talker).bind fun r3=>(if r3 then ((ZcG N c0_ c1_.Listener).bind fun r7=>(if r7 then (some (c1_.Talker != c1_.Listener)) else (some false))) else (some false)))).bind fun (j13:Bool) =>
 (some j13))
def ZfB (N:Nat) (a0_:Zdj):Option (Int) :=
 ((((Zcn N a0_.Burst 1 1048576).bind fun r1=>(if (!r1) then (some true) else ((Zcn N a0_.Rate 1 2097152).bind fun r4=>(some (!r4)))))).bind fun (j5:Bool) =>
 (if j5 then (some 130) else (some 0)))
def ZaO (N:Nat) (a0_:(List ZF)) (i2:Int):Option ((Int) ⊕ ((Unit) ⊕ (Int))) :=
 (if (decide (i2<((List.length a0_:Nat):Int))) then ((idx a0_ i2).bind fun e504 =>
 ((Zcs N e504).bind fun r505 =>
 (if (r505 != 0) then (some (.inr (.inr r505))) else (some (.inl (w64 (i2+1))))))) else (some (.inr (.inl ()))))
def ZcC (N:Nat) (a0_:(List ZF)):Option (Int) :=
 (if (decide (((List.length a0_:Nat):Int) > 32)) then (some 3) else ((Z2 (fun x:Int=>ZaO N a0_ x) N 0).bind fun o507=>match o507 with
 | (.inl p508)=>(some 0)
 | (.inr p509)=>(some p509)))
def Za6 (N:Nat) (a0_:Int) (a1_:(List Int)) (i1:Int) (i2:Int):Option ((Int × Int) ⊕ ((Int))) :=
 (if (decide (i2<((List.length a1_:Nat):Int))) then ((idx a1_ i2).bind fun e504 =>
 ((Zd7 N i1 e504).bind fun r505 =>
 ((quoI .i64 i1 r505).bind fun q506 =>
 (if (decide ((w64 (q506 * e504)) > a0_)) then (some (.inr (w64 (q506 * e504)))) else (some (.inl ((w64 (q506 * e504)),(w64 (i2+1))))))))) else (some (.inr i1)))
def Zes (N:Nat) (a0_:Int) (a1_:(List Int)):Option (Int) :=
 ((Z2 (fun x:Int × Int=>Za6 N a0_ a1_ x.1 x.2) N (1,0)).bind fun o508 =>
 (some o508))
def Zfh (N:Nat) (a0_:Int) (c0_:Zh):Option (Bool) :=
 ((idx c0_.Links a0_).bind fun e2 =>
 ((((ZfO N c0_ e2.A).bind fun r4=>(if r4 then ((ZfO N c0_ e2.B).bind fun r7=>(if r7 then (some (e2.A != e2.B)) else (some false))) else (some false)))).bind fun (j11:Bool) =>
 (some j11)))
def Zaq (N:Nat) (a0_:Z6) (i524:Int) (i525:Int) (l526:Zo) (x522:Int) (x523:ZaG):Option ((Int × Int × Zo) × Nat) :=
 (if (x522==0) then ((l526.get x523.from_).bind fun e1026 =>
 (((Zo.set l526 x523.from_ true).get x523.to_).bind fun e1028 =>
 (if e1028 then (some ((i524,i525,(Zo.set l526 x523.from_ true)),1)) else (((Zo.set l526 x523.from_ true).get x523.to_).bind fun e1031 =>
 (some (((w64 (i524+1)),x523.to_,(Zo.set (Zo.set l526 x523.from_ true) x523.to_ true)),0)))))) else (((if (x523.from_ != i525) then (some true) else ((idx a0_.Topo.Station i525).bind fun e1041=>(some e1041)))).bind fun (j1042:Bool) =>
 (if j1042 then (some ((i524,i525,l526),1)) else ((l526.get x523.to_).bind fun e1044 =>
 (if e1044 then (some ((i524,i525,l526),1)) else ((l526.get x523.to_).bind fun e1047 =>
 (some (((w64 (i524+1)),x523.to_,(Zo.set l526 x523.to_ true)),0))))))))
def Zbc (N:Nat) (a0_:Z6) (a1_:(List Int)):Option (Bool) :=
 (if ((decide (((List.length a1_:Nat):Int)<1))||(decide (((List.length a1_:Nat):Int) > 8))) then (some false) else ((((Zcj N a0_ a1_).bind fun r517 =>
 ((ZbI N (fun (s:(Int × Int × Zo) × Nat) (x522:Int) (x523:ZaG)=>ZgK (fun v:Int × Int × Zo=>Zaq N a0_ v.1 v.2.1 v.2.2 x522 x523) s) r517.1 r517.2 ((0,0,(Zo.mk false false false false false false false false false false false false)),0)).bind fun o1052 =>
 (if (o1052.2==0) then (some o1052.1.1) else (if (o1052.2==1) then (some o1052.1.1) else none))))).bind fun (j515:Int) =>
 (some (j515==((List.length a1_:Nat):Int)))))
def ZaA (N:Nat) (l15:(List Int)) (x13:Int) (x14:ZaG):Option ((List Int)) :=
 (((if (x13==0) then ((appI 8 l15 [x14.from_]).bind fun l1023 =>
 (some l1023)) else (some l15))).bind fun (j1018:(List Int)) =>
 ((appI 8 j1018 [x14.to_]).bind fun l1028 =>
 (some l1028)))
def Zbt (N:Nat) (a0_:Z6) (a1_:(List Int)):Option ((List Int)) :=
 ((Zh2 8 0 (w64 (((List.length a1_:Nat):Int)+1)) 0).bind fun l3 =>
 ((Zcj N a0_ a1_).bind fun r7 =>
 ((ZbI N (fun (s:(List Int)) (x13:Int) (x14:ZaG)=>ZdL (fun v:(List Int)=>ZaA N v x13 x14) s) r7.1 r7.2 l3).bind fun o1030 =>
 (some o1030))))
def ZaZ (N:Nat) (a0_:(List Int)) (a1_:Int):Option (Bool) :=
 ((ZbZ N a0_ a1_).bind fun r1 =>
 (some (decide (r1 ≥ 0))))
def Zgd (N:Nat) (a0_:ZF) (a1_:ZF):Option (Bool) :=
 (if ((a0_.Period==a1_.Period)&&((a0_.From==a1_.From)&&((a0_.Long==a1_.Long)&&true))) then (some false) else ((ZgV N a0_ a1_).bind fun r2 =>
 ((ZhR N (w64 (a1_.From - a0_.From)) r2.2.2).bind fun r3 =>
 (some ((decide (r2.1≤r3))&&(decide (r3≤r2.2.1)))))))
def ZdM (N:Nat) (a0_:Z6) (c0_:(List Int)):Option ((List Int) × Int) :=
 ((Zbt N a0_ c0_).bind fun r2 =>
 (some (r2,0)))
def ZaP (N:Nat) (a1_:Zh) (a2_:Int) (a3_:Int) (i14:Int):Option ((Int) ⊕ ((Unit) ⊕ (Zh))) :=
 (if (decide (i14<((List.length a1_.Links:Nat):Int))) then ((idx a1_.Links i14).bind fun e516 =>
 ((Ze8 N e516 a2_ a3_).bind fun r519 =>
 (if r519 then (some (.inr (.inr a1_))) else (some (.inl (w64 (i14+1))))))) else (some (.inr (.inl ()))))
def Zaf (N:Nat) (a0_:Zae) (a1_:Zh) (a2_:Int) (a3_:Int):Option (Zh) :=
 ((Zde N a0_.Pers ((List.length a1_.Links:Nat):Int)).bind fun r2 =>
 ((Zde N a0_.Delays ((List.length a1_.Links:Nat):Int)).bind fun r3 =>
 (((if (((List.length a1_.Links:Nat):Int)==24) then (some true) else ((ZfW N a1_ (Zy.mk a2_ a3_ (w64 (1+(Int.tmod r2 20))) (Int.tmod r3 50))).bind fun r6=>(some (!r6))))).bind fun (j12:Bool) =>
 (if j12 then (some a1_) else ((Z2 (fun x:Int=>ZaP N a1_ a2_ a3_ x) N 0).bind fun o521=>match o521 with
 | (.inl p522)=>((appI 32 a1_.Links [(Zy.mk a2_ a3_ (w64 (1+(Int.tmod r2 20))) (Int.tmod r3 50))]).bind fun l525 =>
 (some (Zh.mk a1_.Nodes a1_.Station l525)))
 | (.inr p526)=>(some p526))))))
def Zdc (N:Nat) (a0_:Zh) (a1_:Int) (a2_:Int) (i1:Int):Option ((Int) ⊕ ((Unit) ⊕ ((List Int)))) :=
 (if (decide (i1<16)) then ((ZfV N a0_ a1_ (IntKind.u8.wrap (a2_+(IntKind.u8.wrap (i1))))).bind fun r503 =>
 (((if (decide (((List.length r503:Nat):Int) > 0)) then ((Zca N a0_ r503).bind fun r505=>(if r505 then ((idx r503 0).bind fun e507=>((ZbV N a0_ e507).bind fun r508=>((idx a0_.Station r508).bind fun e509=>(if e509 then ((idx r503 (w64 (((List.length r503:Nat):Int) - 1))).bind fun e511=>((ZcP N a0_ e511).bind fun r512=>((idx a0_.Station r512).bind fun e513=>(some e513)))) else (some false))))) else (some false))) else (some false))).bind fun (j517:Bool) =>
 (if j517 then ((neL r503).bind fun _=>(some (.inr (.inr r503)))) else (some (.inl (w64 (i1+1))))))) else (some (.inr (.inl ()))))
def ZeX (N:Nat) (a0_:Zh) (a1_:Int) (a2_:Int):Option ((List Int)) :=
 ((Z2 (fun x:Int=>Zdc N a0_ a1_ a2_ x) N 0).bind fun o519=>match o519 with
 | (.inl p520)=>(some [])
 | (.inr p521)=>(some p521))
def Zcb (N:Nat) (a1_:(List Int)) (a2_:(List Int)) (i1:Int) (i503:Int):Option ((Int) ⊕ ((Unit) ⊕ (Bool))) :=
 (if (decide (i503<((List.length a2_:Nat):Int))) then ((idx a1_ i1).bind fun e1005 =>
 ((idx a2_ i503).bind fun e1006 =>
 (if ((w64 (Int.tdiv e1005 2))==(w64 (Int.tdiv e1006 2))) then (some (.inr (.inr false))) else (some (.inl (w64 (i503+1))))))) else (some (.inr (.inl ()))))
def Zcc (N:Nat) (a1_:(List Int)) (a2_:(List Int)) (i1:Int):Option ((Int) ⊕ ((Unit) ⊕ (Bool))) :=
 (if (decide (i1<((List.length a1_:Nat):Int))) then ((Z2 (fun x:Int=>Zcb N a1_ a2_ i1 x) N 0).bind fun o1008=>match o1008 with
 | (.inl p1009)=>(some (.inl (w64 (i1+1))))
 | (.inr p1010)=>(some (.inr (.inr p1010)))) else (some (.inr (.inl ()))))
def Zcu (N:Nat) (a0_:Zh) (a1_:(List Int)) (a2_:(List Int)):Option (Bool) :=
 ((Z2 (fun x:Int=>Zcc N a1_ a2_ x) N 0).bind fun o1011=>match o1011 with
 | (.inl p1012)=>((((Zct N a0_ a1_).bind fun r1013=>((Zct N a0_ a2_).bind fun r1014=>((Zdd N r1013 r1014).bind fun r1015=>(if (!r1015) then ((Zct N a0_ a2_).bind fun r1017=>((Zct N a0_ a1_).bind fun r1018=>((Zdd N r1017 r1018).bind fun r1019=>(some (!r1019))))) else (some false)))))).bind fun (j1021:Bool) =>
 (some j1021))
 | (.inr p1022)=>(some p1022))
def ZbF (N:Nat) (a0_:Zh) (a1_:Zj) (i27:Int):Option ((Int) ⊕ ((Unit) ⊕ (Bool))) :=
 (if (decide (i27<((List.length a1_.Routes:Nat):Int))) then ((idx a1_.Routes i27).bind fun e529 =>
 ((((Zca N a0_ e529).bind fun r530=>(if (!r530) then (some true) else ((idx e529 0).bind fun e533=>((ZbV N a0_ e533).bind fun r534=>(if (r534 != a1_.Talker) then (some true) else ((idx e529 (w64 (((List.length e529:Nat):Int) - 1))).bind fun e537=>((ZcP N a0_ e537).bind fun r538=>(some (r538 != a1_.Listener)))))))))).bind fun (j539:Bool) =>
 (if j539 then (some (.inr (.inr false))) else (some (.inl (w64 (i27+1))))))) else (some (.inr (.inl ()))))
def Zdo (N:Nat) (a0_:Zh) (a1_:Zj) (i562:Int):Option ((Int) ⊕ ((Unit) ⊕ (Bool))) :=
 (if (decide (i562<((List.length a1_.Routes:Nat):Int))) then ((idx a1_.Routes i562).bind fun e1064 =>
 ((((Zca N a0_ e1064).bind fun r1065=>(if (!r1065) then (some true) else ((idx e1064 0).bind fun e1068=>((ZbV N a0_ e1068).bind fun r1069=>(if (r1069 != a1_.Talker) then (some true) else ((idx e1064 (w64 (((List.length e1064:Nat):Int) - 1))).bind fun e1072=>((ZcP N a0_ e1072).bind fun r1073=>(some (r1073 != a1_.Listener)))))))))).bind fun (j1074:Bool) =>
 (if j1074 then (some (.inr (.inr false))) else (some (.inl (w64 (i562+1))))))) else (some (.inr (.inl ()))))
def Ze7 (N:Nat) (a0_:Zh) (a1_:Zj):Option (Bool) :=
 ((((Zdb N a1_.Id 1 4095).bind fun r1=>(if (!r1) then (some true) else ((Zb0 N a0_ a1_.Talker).bind fun r4=>(if (!r4) then (some true) else ((Zb0 N a0_ a1_.Listener).bind fun r7=>(if (!r7) then (some true) else (if (a1_.Talker==a1_.Listener) then (some true) else ((Zdb N a1_.Size 84 1542).bind fun r12=>(if (!r12) then (some true) else ((Zdb N a1_.Deadline 1 1099511627776).bind fun r15=>(some (!r15))))))))))))).bind fun (j16:Bool) =>
 (if j16 then (some false) else (if (a1_.Class==7) then ((((Zdb N a1_.Period 1 240).bind fun r19=>(if (!r19) then (some true) else (some (!((a1_.Bucket.Burst==0)&&((a1_.Bucket.Rate==0)&&true))))))).bind fun (j22:Bool) =>
 (if j22 then (some false) else (if ((decide (((List.length a1_.Routes:Nat):Int)<1))||(decide (((List.length a1_.Routes:Nat):Int) > 2))) then (some false) else ((Z2 (fun x:Int=>ZbF N a0_ a1_ x) N 0).bind fun o541=>match o541 with
 | (.inl p542)=>(((if (((List.length a1_.Routes:Nat):Int)==1) then (some true) else ((idx a1_.Routes 0).bind fun e545=>((idx a1_.Routes 1).bind fun e546=>((Zcu N a0_ e545 e546).bind fun r547=>(some r547)))))).bind fun (j548:Bool) =>
 (some j548))
 | (.inr p549)=>(some p549))))) else (if (a1_.Class==6) then (((if (a1_.Period != 0) then (some true) else ((Zdb N a1_.Bucket.Burst a1_.Size 1048576).bind fun r553=>(if (!r553) then (some true) else ((Zdb N a1_.Bucket.Rate 1 2097152).bind fun r556=>(some (!r556))))))).bind fun (j557:Bool) =>
 (if j557 then (some false) else (if ((decide (((List.length a1_.Routes:Nat):Int)<1))||(decide (((List.length a1_.Routes:Nat):Int) > 2))) then (some false) else ((Z2 (fun x:Int=>Zdo N a0_ a1_ x) N 0).bind fun o1076=>match o1076 with
 | (.inl p1077)=>(((if (((List.length a1_.Routes:Nat):Int)==1) then (some true) else ((idx a1_.Routes 0).bind fun e1080=>((idx a1_.Routes 1).bind fun e1081=>((Zcu N a0_ e1080 e1081).bind fun r1082=>(some r1082)))))).bind fun (j1083:Bool) =>
 (some j1083))
 | (.inr p1084)=>(some p1084))))) else (some false)))))
def Zbu (N:Nat) (a0_:(List ZF)) (i8:Int) (l9:(List Int)):Option ((Int × (List Int)) ⊕ (((List Int)))) :=
 (if (decide (i8<((List.length a0_:Nat):Int))) then ((idx a0_ i8).bind fun e513 =>
 ((idx l9 i8).bind fun e514 =>
 (some (.inl ((w64 (i8+1)),(List.set l9 (Int.toNat i8) e513.Period)))))) else (some (.inr l9)))
def ZdN (N:Nat) (a0_:(List ZF)):Option (Int × Int) :=
 ((ZcC N a0_).bind fun r1 =>
 (if (r1 != 0) then (some (0,r1)) else ((Zh2 8 ((List.length a0_:Nat):Int) ((List.length a0_:Nat):Int) 0).bind fun l5 =>
 ((Z2 (fun x:Int × (List Int)=>Zbu N a0_ x.1 x.2) N (0,l5)).bind fun o518 =>
 ((Zes N 960 o518).bind fun r519 =>
 (if (decide (r519 > 960)) then (some (0,6)) else (some (r519,0))))))))
def Zcq (N:Nat) (a0_:Zh) (i4:Int):Option ((Int) ⊕ ((Unit) ⊕ (Bool))) :=
 (if (decide (i4<((List.length a0_.Links:Nat):Int))) then ((Zfh N i4 a0_).bind fun r506 =>
 (if (!r506) then (some (.inr (.inr false))) else ((Zfg N i4 a0_).bind fun r508 =>
 (if (!r508) then (some (.inr (.inr false))) else ((Zen N i4 a0_).bind fun r510 =>
 (if (!r510) then (some (.inr (.inr false))) else ((Zff N i4 a0_).bind fun r512 =>
 (if (!r512) then (some (.inr (.inr false))) else (some (.inl (w64 (i4+1)))))))))))) else (some (.inr (.inl ()))))
def ZfM (N:Nat) (a0_:Zh):Option (Bool) :=
 ((Z2 (fun x:Int=>Zcq N a0_ x) N 0).bind fun o514=>match o514 with
 | (.inl p515)=>(some true)
 | (.inr p516)=>(some p516))
def Zdn (N:Nat) (c0_:Zj):Option (Bool) :=
 (if (c0_.Class==7) then ((((Zan N c0_.Period 1 240).bind fun r4=>(if r4 then (some ((c0_.Bucket.Burst==0)&&((c0_.Bucket.Rate==0)&&true))) else (some false)))).bind fun (j8:Bool) =>
 (some j8)) else (if (c0_.Class==6) then (((if (c0_.Period==0) then ((ZfB N c0_.Bucket).bind fun r13=>(if (r13==0) then (some (decide (c0_.Bucket.Burst ≥ c0_.Size))) else (some false))) else (some false))).bind fun (j19:Bool) =>
 (some j19)) else (some false)))
def ZaN (N:Nat) (r2:(List Int)) (l3:List Int) (i4:Int):Option ((Int) ⊕ ((Unit) ⊕ (Bool))) :=
 (if (decide (i4<((List.length l3:Nat):Int))) then ((idx l3 i4).bind fun e506 =>
 ((ZaZ N r2 e506).bind fun r507 =>
 (if r507 then (some (.inr (.inr true))) else (some (.inl (w64 (i4+1))))))) else (some (.inr (.inl ()))))
def ZbT (N:Nat) (a0_:Z6) (a1_:(List Int)) (a2_:(List Int)):Option (Bool) :=
 ((Zbt N a0_ a1_).bind fun r1 =>
 ((Zbt N a0_ a2_).bind fun r2 =>
 ((subI r1 1 (w64 (((List.length r1:Nat):Int) - 1))).bind fun l3 =>
 ((Z2 (fun x:Int=>ZaN N r2 l3 x) N 0).bind fun o509=>match o509 with
 | (.inl p510)=>(some false)
 | (.inr p511)=>(some p511)))))
def Zge (N:Nat) (a0_:ZF) (a1_:ZF):Option (Bool × Int) :=
 ((Zcs N a0_).bind fun r1 =>
 (if (r1 != 0) then (some (false,r1)) else ((Zcs N a1_).bind fun r3 =>
 (if (r3 != 0) then (some (false,r3)) else ((Zgd N a0_ a1_).bind fun r5 =>
 (some (r5,0)))))))
def Zak (N:Nat) (a0_:Zae) (i3:Int) (l4:(List Bool)):Option ((Int × (List Bool)) ⊕ (((List Bool)))) :=
 (if (decide (i3<(w64 ((w64 (1+(w64 ((Int.tmod a0_.Bridges 6)))))+(w64 (2+(w64 ((Int.tmod a0_.Stations 5))))))))) then ((appI 1 l4 [(decide (i3 ≥ (w64 (1+(w64 ((Int.tmod a0_.Bridges 6)))))))]).bind fun l510 =>
 (some (.inl ((w64 (i3+1)),l510)))) else (some (.inr l4)))
def Zaj (N:Nat) (a0_:Zae) (i515:Int) (i516:Int) (l517:(List Bool)) (l518:(List Zy)):Option ((Int × Int × (List Bool) × (List Zy)) ⊕ ((Int × (List Bool) × (List Zy)))) :=
 (if (decide (i515<(w64 (1+(w64 ((Int.tmod a0_.Bridges 6))))))) then ((Zaf N a0_ (Zh.mk i516 l517 l518) (w64 (i515 - 1)) i515).bind fun r1023 =>
 (some (.inl ((w64 (i515+1)),r1023.Nodes,r1023.Station,r1023.Links)))) else (some (.inr (i516,l517,l518))))
def Zai (N:Nat) (a0_:Zae) (i1031:Int) (i1032:Int) (l1033:(List Bool)) (l1034:(List Zy)):Option ((Int × Int × (List Bool) × (List Zy)) ⊕ ((Int × (List Bool) × (List Zy)))) :=
 (if (decide (i1031<(w64 (2+(w64 ((Int.tmod a0_.Stations 5))))))) then ((Zde N a0_.Homes (w64 (2 * i1031))).bind fun r1539 =>
 ((remI r1539 (w64 (1+(w64 ((Int.tmod a0_.Bridges 6)))))).bind fun m1540 =>
 ((Zaf N a0_ (Zh.mk i1032 l1033 l1034) (w64 ((w64 (1+(w64 ((Int.tmod a0_.Bridges 6)))))+i1031)) m1540).bind fun r1541 =>
 (some (.inl ((w64 (i1031+1)),r1541.Nodes,r1541.Station,r1541.Links)))))) else (some (.inr (i1032,l1033,l1034))))
def Z9 (N:Nat) (a0_:Zae) (i2060:Int) (i2061:Int) (l2062:(List Bool)) (l2063:(List Zy)):Option ((Int × Int × (List Bool) × (List Zy)) ⊕ ((Int × (List Bool) × (List Zy)))) :=
 (if (decide (i2060<(w64 (2+(w64 ((Int.tmod a0_.Stations 5))))))) then ((((Zde N a0_.Homes (w64 ((w64 (2 * i2060))+1))).bind fun r3072 =>
 (if (decide ((Int.tmod r3072 3) > 0)) then ((Zde N a0_.Homes (w64 ((w64 (2 * i2060))+1))).bind fun r3074 =>
 ((remI r3074 (w64 (1+(w64 ((Int.tmod a0_.Bridges 6)))))).bind fun m3075 =>
 ((Zaf N a0_ (Zh.mk i2061 l2062 l2063) (w64 ((w64 (1+(w64 ((Int.tmod a0_.Bridges 6)))))+i2060)) m3075).bind fun r3076 =>
 (some (r3076.Nodes,r3076.Station,r3076.Links))))) else (some (i2061,l2062,l2063))))).bind fun (j3071:Int × (List Bool) × (List Zy)) =>
 (some (.inl ((w64 (i2060+1)),j3071.1,j3071.2.1,j3071.2.2)))) else (some (.inr (i2061,l2062,l2063))))
def Zar (N:Nat) (a0_:Zae) (i3084:Int) (i3085:Int) (l3086:(List Bool)) (l3087:(List Zy)):Option ((Int × Int × (List Bool) × (List Zy)) ⊕ ((Int × (List Bool) × (List Zy)))) :=
 (if ((decide ((w64 (i3084+1))<((List.length a0_.Chords:Nat):Int)))&&(decide (i3084<12))) then ((idx a0_.Chords i3084).bind fun e3594 =>
 ((remI (w64 (e3594)) (w64 (1+(w64 ((Int.tmod a0_.Bridges 6)))))).bind fun m3595 =>
 ((idx a0_.Chords (w64 (i3084+1))).bind fun e3596 =>
 ((remI (w64 (e3596)) (w64 (1+(w64 ((Int.tmod a0_.Bridges 6)))))).bind fun m3597 =>
 ((Zaf N a0_ (Zh.mk i3085 l3086 l3087) m3595 m3597).bind fun r3598 =>
 (some (.inl ((w64 (i3084+2)),r3598.Nodes,r3598.Station,r3598.Links)))))))) else (some (.inr (i3085,l3086,l3087))))
def ZbW (N:Nat) (a0_:Zae):Option (Zh) :=
 ((Z2 (fun x:Int × (List Bool)=>Zak N a0_ x.1 x.2) N (0,[])).bind fun o511 =>
 ((Z2 (fun x:Int × Int × (List Bool) × (List Zy)=>Zaj N a0_ x.1 x.2.1 x.2.2.1 x.2.2.2) N (1,(w64 ((w64 (1+(w64 ((Int.tmod a0_.Bridges 6)))))+(w64 (2+(w64 ((Int.tmod a0_.Stations 5))))))),o511,[])).bind fun o1027 =>
 ((Z2 (fun x:Int × Int × (List Bool) × (List Zy)=>Zai N a0_ x.1 x.2.1 x.2.2.1 x.2.2.2) N (0,o1027.1,o1027.2.1,o1027.2.2)).bind fun o1545 =>
 (((if ((decide ((w64 (1+(w64 ((Int.tmod a0_.Bridges 6))))) > 2))&&((Int.tmod a0_.Bridges 2)==0)) then ((Zaf N a0_ (Zh.mk o1545.1 o1545.2.1 o1545.2.2) (w64 ((w64 (1+(w64 ((Int.tmod a0_.Bridges 6))))) - 1)) 0).bind fun r2053 =>
 (some (r2053.Nodes,r2053.Station,r2053.Links))) else (some (o1545.1,o1545.2.1,o1545.2.2)))).bind fun (j2049:Int × (List Bool) × (List Zy)) =>
 ((Z2 (fun x:Int × Int × (List Bool) × (List Zy)=>Z9 N a0_ x.1 x.2.1 x.2.2.1 x.2.2.2) N (0,j2049.1,j2049.2.1,j2049.2.2)).bind fun o3080 =>
 ((Z2 (fun x:Int × Int × (List Bool) × (List Zy)=>Zar N a0_ x.1 x.2.1 x.2.2.1 x.2.2.2) N (0,o3080.1,o3080.2.1,o3080.2.2)).bind fun o3602 =>
 (some (Zh.mk o3602.1 o3602.2.1 o3602.2.2))))))))
def Za1 (N:Nat) (a1_:Zh) (i2:Int) (i3:Int):Option ((Int × Int) ⊕ ((Int))) :=
 (((if (decide (i3<a1_.Nodes)) then ((idx a1_.Station i2).bind fun e505=>(some (!e505))) else (some false))).bind fun (j507:Bool) =>
 (if j507 then ((remI (w64 (i2+1)) a1_.Nodes).bind fun m509 =>
 (some (.inl (m509,(w64 (i3+1)))))) else (some (.inr i2))))
def Za0 (N:Nat) (a0_:ZaB) (a1_:Zh) (o510:Int) (r511:(List Int)) (r516:Int) (i1024:Int) (l1025:(List (List Int))):Option ((Int × (List (List Int))) ⊕ (((List (List Int))))) :=
 (((if (decide (i1024<24)) then (if a0_.Two then (some (((List.length l1025:Nat):Int)==1)) else (some false)) else (some false))).bind fun (j1533:Bool) =>
 (if j1533 then ((((ZeX N a1_ (IntKind.u8.wrap (o510)) (IntKind.u8.wrap (a0_.Way+(IntKind.u8.wrap (i1024))))).bind fun r2038 =>
 (if (List.isEmpty r2038) then (some l1025) else ((((idx r2038 (w64 (((List.length r2038:Nat):Int) - 1))).bind fun e2040=>((ZcP N a1_ e2040).bind fun r2041=>(if (r2041==r516) then ((Zcu N a1_ r511 r2038).bind fun r2043=>(some r2043)) else (some false))))).bind fun (j2045:Bool) =>
 (if j2045 then ((appI 24 l1025 [r2038]).bind fun l2049 =>
 (some l2049)) else (some l1025)))))).bind fun (j2037:(List (List Int))) =>
 (some (.inl ((w64 (i1024+1)),j2037)))) else (some (.inr l1025))))
def Zb1 (N:Nat) (a0_:ZaB) (a1_:Zh) (a2_:Int):Option (Zj × Bool) :=
 ((remI (w64 (a0_.Node)) a1_.Nodes).bind fun m1 =>
 ((Z2 (fun x:Int × Int=>Za1 N a1_ x.1 x.2) N (m1,0)).bind fun o510 =>
 ((ZeX N a1_ (IntKind.u8.wrap (o510)) a0_.Way).bind fun r511 =>
 (if (List.isEmpty r511) then (some ((Zj.mk 0 0 0 0 0 0 (Zdj.mk 0 0) 0 ([])),false)) else ((idx r511 0).bind fun e513 =>
 ((ZbV N a1_ e513).bind fun r514 =>
 ((idx r511 (w64 (((List.length r511:Nat):Int) - 1))).bind fun e515 =>
 ((ZcP N a1_ e515).bind fun r516 =>
 (((if a0_.Reserved then (some (6,0,(w64 ((w64 (84+(w64 (a0_.Size))))+(w64 (4 * (w64 (a0_.Burst)))))),(w64 (1+(w64 (a0_.Rate)))))) else ((idx [4,6,8,12,16,24,48,10,5,240] (Int.tmod a0_.Period 10)).bind fun e1021 =>
 (some (7,e1021,0,0))))).bind fun (j1019:Int × Int × Int × Int) =>
 ((Z2 (fun x:Int × (List (List Int))=>Za0 N a0_ a1_ o510 r511 r516 x.1 x.2) N (0,[r511])).bind fun o2050 =>
 ((Ze7 N a1_ (Zj.mk a2_ r514 r516 j1019.1 (w64 (84+(w64 (a0_.Size)))) j1019.2.1 (Zdj.mk j1019.2.2.1 j1019.2.2.2) 1099511627776 o2050)).bind fun r2052 =>
 (some ((Zj.mk a2_ r514 r516 j1019.1 (w64 (84+(w64 (a0_.Size)))) j1019.2.1 (Zdj.mk j1019.2.2.1 j1019.2.2.2) 1099511627776 o2050),r2052)))))))))))))
def Zcy (N:Nat) (a0_:(List Int)) (i6:Int) (l7:(List ZF)):Option ((Int × (List ZF)) ⊕ (((List ZF)))) :=
 (if (decide (i6<((List.length a0_:Nat):Int))) then ((idx a0_ i6).bind fun e511 =>
 ((idx l7 i6).bind fun e512 =>
 (some (.inl ((w64 (i6+1)),(List.set l7 (Int.toNat i6) (ZF.mk e511 0 1))))))) else (some (.inr l7)))
def ZdG (N:Nat) (a0_:(List Int)):Option (Int × Int) :=
 ((Zh2 24 ((List.length a0_:Nat):Int) ((List.length a0_:Nat):Int) (ZF.mk 0 0 0)).bind fun l3 =>
 ((Z2 (fun x:Int × (List ZF)=>Zcy N a0_ x.1 x.2) N (0,l3)).bind fun o516 =>
 ((ZdN N o516).bind fun r517 =>
 (some (r517.1,r517.2)))))
def Zbn (N:Nat) (a0_:Zh) (i16:Int) (l17:(List Int)):Option ((Int × (List Int)) ⊕ (((List Int)))) :=
 (if (decide (i16<((List.length a0_.Links:Nat):Int))) then ((idx a0_.Links i16).bind fun e521 =>
 ((idx l17 e521.A).bind fun e522 =>
 ((idx l17 e521.A).bind fun e525 =>
 ((idx (List.set l17 (Int.toNat e521.A) (w64 (e522+1))) e521.B).bind fun e529 =>
 ((idx (List.set l17 (Int.toNat e521.A) (w64 (e522+1))) e521.B).bind fun e532 =>
 (some (.inl ((w64 (i16+1)),(List.set (List.set l17 (Int.toNat e521.A) (w64 (e522+1))) (Int.toNat e521.B) (w64 (e529+1))))))))))) else (some (.inr l17)))
def Zcr (N:Nat) (a0_:Zh) (o536:(List Int)) (i537:Int):Option ((Int) ⊕ ((Unit) ⊕ (Int))) :=
 (if (decide (i537<((List.length a0_.Station:Nat):Int))) then ((idx a0_.Station i537).bind fun e1039 =>
 (((if e1039 then ((idx o536 i537).bind fun e1041=>(if (decide (e1041<1)) then (some true) else ((idx o536 i537).bind fun e1046=>(some (decide (e1046 > 2)))))) else (some false))).bind fun (j1050:Bool) =>
 (if j1050 then (some (.inr (.inr 260))) else (some (.inl (w64 (i537+1))))))) else (some (.inr (.inl ()))))
def Zd2 (N:Nat) (a0_:Zh):Option (Int) :=
 (if ((decide (a0_.Nodes<2))||((decide (a0_.Nodes > 12))||(((List.length a0_.Station:Nat):Int) != a0_.Nodes))) then (some 260) else (((if (decide (((List.length a0_.Links:Nat):Int) > 24)) then (some true) else ((ZfM N a0_).bind fun r8=>(some (!r8))))).bind fun (j9:Bool) =>
 (if j9 then (some 260) else ((Zh2 8 a0_.Nodes a0_.Nodes 0).bind fun l13 =>
 ((Z2 (fun x:Int × (List Int)=>Zbn N a0_ x.1 x.2) N (0,l13)).bind fun o536 =>
 ((Z2 (fun x:Int=>Zcr N a0_ o536 x) N 0).bind fun o1052=>match o1052 with
 | (.inl p1053)=>((ZfN N a0_ 0 (ZbM.mk false false false false false false false false false false false false false false false false false false false false false false false false)).bind fun r1054 =>
 ((ZaF N r1054 false).bind fun r1055 =>
 (if r1055 then (some 260) else (some 0))))
 | (.inr p1057)=>(some p1057)))))))
def ZcF (N:Nat) (a0_:Zs) (a2_:Int) (a4_:Int) (b18:Bool) (x16:ZB) (x17:ZB):Option ((Bool) × Nat) :=
 (if ((x16.Stream==x17.Stream)&&((x16.Port==x17.Port)&&((x16.From==x17.From)&&((x16.Long==x17.Long)&&true)))) then (some (true,1)) else ((ZeS N a0_ x16 a2_).bind fun r523 =>
 ((ZeS N a0_ x17 a4_).bind fun r526 =>
 ((Zge N r523 r526).bind fun r527 =>
 (if (!r527.1) then (some (true,1)) else (some (b18,0)))))))
def ZeT (N:Nat) (a0_:Zs) (a1_:Int) (a2_:Int) (a3_:Int) (a4_:Int):Option (Bool) :=
 ((ZiU N a0_ a1_ a3_).bind fun r10 =>
 ((Zg0 N (fun (s:(Bool) × Nat) (x16:ZB) (x17:ZB)=>ZgK (fun v:Bool=>ZcF N a0_ a2_ a4_ v x16 x17) s) r10.1 r10.2.1 r10.2.2 (false,0)).bind fun o530 =>
 (if (o530.2==0) then (some false) else (if (o530.2==1) then (some o530.1) else none))))
def Zda (N:Nat) (a0_:Z6) (c0_:(List Int)) (c1_:(List Int)):Option (Bool × Int) :=
 ((Zbc N a0_ c0_).bind fun r2 =>
 (if (!r2) then (some (false,310)) else ((((Zer N c1_ c0_).bind fun r6=>(if (!r6) then ((ZbT N a0_ c1_ c0_).bind fun r10=>(if (!r10) then ((ZbT N a0_ c0_ c1_).bind fun r14=>(some (!r14))) else (some false))) else (some false)))).bind fun (j17:Bool) =>
 (some (j17,0)))))
def ZcW (N:Nat) (a0_:Zh) (a1_:(List Int)):Option (Int) :=
 ((Zd2 N a0_).bind fun r1 =>
 (if (r1 != 0) then (some r1) else ((Zbc N (Z6.mk a0_) a1_).bind fun r3 =>
 (if (!r3) then (some 310) else (some 0)))))
def ZcI (N:Nat) (a0_:Zh) (a1_:(List Int)) (a2_:Z6→Option ((List Int) × Int)):Option ((List Int) × Int) :=
 ((ZcW N a0_ a1_).bind fun r1 =>
 (if (r1 != 0) then (some ([],r1)) else ((a2_ (Z6.mk a0_)).bind fun r3 =>
 (some (r3.1,r3.2)))))
def ZbU (N:Nat) (a0_:Zh) (a1_:(List ZaB)) (i3:Int) (l4:(List Zj)):Option ((Int × (List Zj)) ⊕ (((List Zj)))) :=
 (((if (decide (i3<((List.length a1_:Nat):Int))) then (some (decide (((List.length l4:Nat):Int)<6))) else (some false))).bind fun (j510:Bool) =>
 (if j510 then ((((idx a1_ i3).bind fun e1015 =>
 ((Zb1 N e1015 a0_ (w64 (((List.length l4:Nat):Int)+1))).bind fun r1017 =>
 (if r1017.2 then ((appI 96 l4 [r1017.1]).bind fun l1021 =>
 (some l1021)) else (some l4))))).bind fun (j1014:(List Zj)) =>
 (some (.inl ((w64 (i3+1)),j1014)))) else (some (.inr l4))))
def ZdO (N:Nat) (a0_:Zh) (a1_:(List ZaB)):Option ((List Zj)) :=
 ((Z2 (fun x:Int × (List Zj)=>ZbU N a0_ a1_ x.1 x.2) N (0,[])).bind fun o1022 =>
 (some o1022))
def Zdh (N:Nat) (a0_:Zs) (i4:Int):Option ((Int) ⊕ ((Unit) ⊕ (Int))) :=
 (if (decide (i4<((List.length a0_.Periods:Nat):Int))) then ((idx a0_.Periods i4).bind fun e506 =>
 (if ((decide (e506<1))||(decide (e506 > 240))) then (some (.inr (.inr 340))) else (some (.inl (w64 (i4+1)))))) else (some (.inr (.inl ()))))
def Zdg (N:Nat) (a0_:Zs) (i514:Int):Option ((Int) ⊕ ((Unit) ⊕ (Int))) :=
 (if (decide (i514<((List.length a0_.Uses:Nat):Int))) then ((idx a0_.Uses i514).bind fun e1016 =>
 (if ((decide (e1016.Stream<0))||((decide (e1016.Stream ≥ ((List.length a0_.Periods:Nat):Int)))||((decide (e1016.Port<0))||(decide (e1016.Port ≥ 48))))) then (some (.inr (.inr 340))) else ((idx a0_.Periods e1016.Stream).bind fun e1024 =>
 (if ((decide (e1016.From<0))||((decide (e1016.From ≥ e1024))||((decide (e1016.Long<1))||(decide (e1016.Long > e1024))))) then (some (.inr (.inr 340))) else (some (.inl (w64 (i514+1)))))))) else (some (.inr (.inl ()))))
def ZdH (N:Nat) (a0_:Zs):Option (Int) :=
 (if ((decide (((List.length a0_.Periods:Nat):Int) > 12))||(decide (((List.length a0_.Uses:Nat):Int) > 192))) then (some 340) else ((Z2 (fun x:Int=>Zdh N a0_ x) N 0).bind fun o510=>match o510 with
 | (.inl p511)=>((ZdG N a0_.Periods).bind fun r512 =>
 (if (r512.2 != 0) then (some 340) else ((Z2 (fun x:Int=>Zdg N a0_ x) N 0).bind fun o1032=>match o1032 with
 | (.inl p1033)=>(some 0)
 | (.inr p1034)=>(some p1034))))
 | (.inr p1035)=>(some p1035)))
def Zbi (N:Nat) (a0_:Zas) (i5:Int) (m5:(List (Int × (List ZB)))):Option ((Int × (List (Int × (List ZB)))) ⊕ ((List (Int × (List ZB))))) :=
 (if (decide (i5<((List.length a0_.Problem.Uses:Nat):Int))) then ((idx a0_.Problem.Uses i5).bind fun e507 =>
 ((appI 32 (ZfJ m5 e507.Port []) [e507]).bind fun l508 =>
 (some (.inl ((w64 (i5+1)),(ZcT m5 e507.Port l508)))))) else (some (.inr m5)))
def Zbh (N:Nat) (a0_:Zas) (r2:Int × Int) (us_:(List ZB)) (i510:Int) (i511:Int):Option ((Int × Int) ⊕ ((Int))) :=
 (if (decide (i511<((List.length us_:Nat):Int))) then ((idx us_ i511).bind fun e1013 =>
 ((idx a0_.Problem.Periods e1013.Stream).bind fun e1017 =>
 ((quoI .i64 r2.1 e1017).bind fun q1018 =>
 (some (.inl ((w64 (i510+q1018)),(w64 (i511+1)))))))) else (some (.inr i510)))
def Zbs (N:Nat) (a0_:Zas) (r2:Int × Int) (us_:(List ZB)):Option Bool :=
 ((Z2 (fun x:Int × Int=>Zbh N a0_ r2 us_ x.1 x.2) N (0,0)).bind fun o1019 =>
 (some (decide (o1019 > 63))))
def ZaQ (N:Nat) (a0_:Zas) (i1022:Int):Option ((Int) ⊕ ((Unit) ⊕ (Int))) :=
 (if (decide (i1022<((List.length a0_.Problem.Uses:Nat):Int))) then ((idx a0_.Problem.Uses i1022).bind fun e1524 =>
 ((idx a0_.Problem.Periods e1524.Stream).bind fun e1526 =>
 (if (decide (e1524.Long > e1526)) then (some (.inr (.inr 341))) else (some (.inl (w64 (i1022+1))))))) else (some (.inr (.inl ()))))
def ZcE (N:Nat) (a0_:Zas):Option (Int) :=
 ((ZdG N a0_.Problem.Periods).bind fun r2 =>
 (if (r2.2 != 0) then (some r2.2) else ((Z2 (fun x:Int × (List (Int × (List ZB)))=>Zbi N a0_ x.1 x.2) N (0,[])).bind fun o508 =>
 ((rgF (Zbs N a0_ r2) o508).bind fun b1020 =>
 (if b1020 then (some 7) else ((Z2 (fun x:Int=>ZaQ N a0_ x) N 0).bind fun o1528=>match o1528 with
 | (.inl p1529)=>(if a0_.late then (some 342) else (some 0))
 | (.inr p1532)=>(some p1532)))))))
def Zhl (N:Nat) (a0_:Zs):Option (Int × Int) :=
 ((ZdH N a0_).bind fun r1 =>
 (if (r1 != 0) then (some (0,r1)) else ((ZdG N a0_.Periods).bind fun r3 =>
 (some (r3.1,r3.2)))))
def Zgk (N:Nat) (a0_:Zs) (a1_:Int) (a2_:Int) (a3_:Int) (a4_:Int):Option (Bool × Int) :=
 ((ZdH N a0_).bind fun r1 =>
 (if (r1 != 0) then (some (false,r1)) else (if ((decide (a1_<0))||((decide (a1_ ≥ ((List.length a0_.Periods:Nat):Int)))||((decide (a3_<0))||(decide (a3_ ≥ ((List.length a0_.Periods:Nat):Int)))))) then (some (false,2)) else ((((Ze9 N a0_ a1_ a2_).bind fun r10=>(if (!r10) then (some true) else ((Ze9 N a0_ a3_ a4_).bind fun r13=>(if (!r13) then (some true) else (if (a1_==a3_) then (some (a2_ != a4_)) else (some false))))))).bind fun (j18:Bool) =>
 (if j18 then (some (false,2)) else ((ZeT N a0_ a1_ a2_ a3_ a4_).bind fun r20 =>
 (some (r20,0))))))))
def Zft (N:Nat) (a0_:Zs) (a1_:(List Int)) (i4:Int):Option ((Int) ⊕ ((Unit) ⊕ (Bool × Int))) :=
 (if (decide (i4<((List.length a1_:Nat):Int))) then ((idx a1_ i4).bind fun e506 =>
 ((Ze9 N a0_ i4 e506).bind fun r507 =>
 (if (!r507) then (some (.inr (.inr (false,2)))) else (some (.inl (w64 (i4+1))))))) else (some (.inr (.inl ()))))
def Zfr (N:Nat) (a0_:Zs) (i511:Int) (e1013:Int) (l1014:List Int) (i1015:Int):Option ((Int) ⊕ ((Unit) ⊕ (Bool × Int))) :=
 (if (decide (i1015<((List.length l1014:Nat):Int))) then ((idx l1014 i1015).bind fun e1517 =>
 ((ZeT N a0_ i1015 e1517 i511 e1013).bind fun r1518 =>
 (if r1518 then (some (.inr (.inr (false,0)))) else (some (.inl (w64 (i1015+1))))))) else (some (.inr (.inl ()))))
def Zfs (N:Nat) (a0_:Zs) (a1_:(List Int)) (i511:Int):Option ((Int) ⊕ ((Unit) ⊕ (Bool × Int))) :=
 (if (decide (i511<((List.length a1_:Nat):Int))) then ((idx a1_ i511).bind fun e1013 =>
 ((subI a1_ 0 (w64 (i511+1))).bind fun l1014 =>
 ((Z2 (fun x:Int=>Zfr N a0_ i511 e1013 l1014 x) N 0).bind fun o1520=>match o1520 with
 | (.inl p1521)=>(some (.inl (w64 (i511+1))))
 | (.inr p1522)=>(some (.inr (.inr p1522)))))) else (some (.inr (.inl ()))))
def Zky (N:Nat) (a0_:Zs) (a1_:(List Int)):Option (Bool × Int) :=
 ((ZdH N a0_).bind fun r1 =>
 (if (r1 != 0) then (some (false,r1)) else (if (((List.length a1_:Nat):Int) != ((List.length a0_.Periods:Nat):Int)) then (some (false,2)) else ((Z2 (fun x:Int=>Zft N a0_ a1_ x) N 0).bind fun o509=>match o509 with
 | (.inl p510)=>((Z2 (fun x:Int=>Zfs N a0_ a1_ x) N 0).bind fun o1523=>match o1523 with
 | (.inl p1524)=>(some (true,0))
 | (.inr p1525)=>(some p1525))
 | (.inr p1526)=>(some p1526)))))
def ZcH (N:Nat) (a0_:Zh) (a1_:(List Int)) (a2_:Z6→Option (Bool × Int)):Option (Bool × Int) :=
 ((ZcW N a0_ a1_).bind fun r1 =>
 (if (r1 != 0) then (some (false,r1)) else ((a2_ (Z6.mk a0_)).bind fun r3 =>
 (some (r3.1,r3.2)))))
def ZcV (N:Nat) (a0_:Zh) (a1_:(List Int)):Option ((List Int) × Int) :=
 ((ZcI N a0_ a1_ (fun x0=>ZdM N x0 a1_)).bind fun r4 =>
 (some (r4.1,r4.2)))
def ZcK (N:Nat) (a0_:Zs) (a1_:Int) (a2_:Int):Option (Bool) :=
 ((Zgk N a0_ 0 a1_ 1 a2_).bind fun r1 =>
 (some (r1.1&&(r1.2==0))))
def Zf1 (N:Nat) (a0_:Zs) (a1_:(List Int)):Option (Bool) :=
 ((Zky N a0_ a1_).bind fun r1 =>
 (some (r1.1&&(r1.2==0))))
def ZcX (N:Nat) (a0_:Zh) (a1_:(List Int)) (a2_:(List Int)):Option (Bool × Int) :=
 ((ZcH N a0_ a1_ (fun x0=>Zda N x0 a2_ a1_)).bind fun r6 =>
 (some (r6.1,r6.2)))
def Zc9 (N:Nat) (a0_:Zh) (a1_:(List Int)):Option (Int × Int × Int) :=
 ((ZcV N a0_ a1_).bind fun r1 =>
 (if (r1.2 != 0) then (some (0,0,r1.2)) else ((idx r1.1 0).bind fun e3 =>
 ((idx r1.1 (w64 (((List.length r1.1:Nat):Int) - 1))).bind fun e4 =>
 (some (e3,e4,0))))))
def Zep (N:Nat) (a0_:Zh) (a1_:(List Int)) (a2_:Int) (a3_:Int):Option (Bool) :=
 ((Zc9 N a0_ a1_).bind fun r1 =>
 (some ((r1.2.2==0)&&((r1.1==a2_)&&(r1.2.1==a3_)))))
def Zdl (N:Nat) (c0_:Zj) (c1_:Zh):Option (Bool) :=
 (if (decide (((List.length c0_.Routes:Nat):Int)<2)) then (some true) else ((idx c0_.Routes 0).bind fun e5 =>
 ((idx c0_.Routes 1).bind fun e7 =>
 ((ZcX N c1_ e5 e7).bind fun r8 =>
 (some ((r8.2==0)&&r8.1))))))
def Zbf (N:Nat) (c0_:Zj) (c1_:Zh) (i2:Int):Option ((Int) ⊕ ((Unit) ⊕ (Bool))) :=
 (if (decide (i2<((List.length c0_.Routes:Nat):Int))) then ((idx c0_.Routes i2).bind fun e504 =>
 ((Zep N c1_ e504 c0_.Talker c0_.Listener).bind fun r508 =>
 (if (!r508) then (some (.inr (.inr false))) else (some (.inl (w64 (i2+1))))))) else (some (.inr (.inl ()))))
def Zdm (N:Nat) (c0_:Zj) (c1_:Zh):Option (Bool) :=
 ((Z2 (fun x:Int=>Zbf N c0_ c1_ x) N 0).bind fun o510=>match o510 with
 | (.inl p511)=>(some true)
 | (.inr p512)=>(some p512))
def ZdE (N:Nat) (a0_:Zh) (a1_:Zj):Option (Bool) :=
 ((Zeg N  a1_).bind fun r8 =>
 (if (!r8) then (some false) else ((Zef N  a0_ a1_).bind fun r11 =>
 (if (!r11) then (some false) else ((Zee N  a1_).bind fun r14 =>
 (if (!r14) then (some false) else ((Zed N  a1_).bind fun r17 =>
 (if (!r17) then (some false) else ((Zdn N  a1_).bind fun r20 =>
 (if (!r20) then (some false) else ((Zec N  a1_).bind fun r23 =>
 (if (!r23) then (some false) else ((Zdm N  a1_ a0_).bind fun r26 =>
 (if (!r26) then (some false) else ((Zdl N  a1_ a0_).bind fun r29 =>
 (if (!r29) then (some false) else (some true)))))))))))))))))
def Za5 (N:Nat) (a0_:Zh) (a1_:(List Zj)) (i4:Int):Option ((Int) ⊕ ((Unit) ⊕ (Int))) :=
 (if (decide (i4<((List.length a1_:Nat):Int))) then ((idx a1_ i4).bind fun e506 =>
 ((ZdE N a0_ e506).bind fun r507 =>
 (if (!r507) then (some (.inr (.inr 321))) else (some (.inl (w64 (i4+1))))))) else (some (.inr (.inl ()))))
def Zav (N:Nat) (a1_:(List Zj)) (i514:Int) (l515:(List (Int × Bool))):Option ((Int × (List (Int × Bool))) ⊕ ((Unit) ⊕ (Int))) :=
 (if (decide (i514<((List.length a1_:Nat):Int))) then ((idx a1_ i514).bind fun e1018 =>
 (if (ZfJ l515 e1018.Id false) then (some (.inr (.inr 322))) else (some (.inl ((w64 (i514+1)),(ZcT l515 e1018.Id true)))))) else (some (.inr (.inl ()))))
def Zch (N:Nat) (a0_:Zh) (a1_:(List Zj)):Option (Int) :=
 ((Zd2 N a0_).bind fun r1 =>
 (if (r1 != 0) then (some r1) else (if (decide (((List.length a1_:Nat):Int) > 12)) then (some 3) else ((Z2 (fun x:Int=>Za5 N a0_ a1_ x) N 0).bind fun o509=>match o509 with
 | (.inl p510)=>((Z2 (fun x:Int × (List (Int × Bool))=>Zav N a1_ x.1 x.2) N (0,[])).bind fun o1023=>match o1023 with
 | (.inl p1024)=>(some 0)
 | (.inr p1025)=>(some p1025))
 | (.inr p1026)=>(some p1026)))))
def ZeW (N:Nat) (a0_:Zh) (a1_:ZE) (a2_:Zj) (a3_:Int):Option (Int) :=
 ((Zd2 N a0_).bind fun r1 =>
 (if (r1 != 0) then (some r1) else ((ZbH N a1_).bind fun r3 =>
 (if (r3 != 0) then (some r3) else ((ZdE N a0_ a2_).bind fun r5 =>
 (if (!r5) then (some 321) else (((if (a2_.Class != 7) then (some true) else ((Zan N a3_ 0 (w64 (((List.length a2_.Routes:Nat):Int) - 1))).bind fun r9=>(some (!r9))))).bind fun (j10:Bool) =>
 (if j10 then (some 2) else (some 0)))))))))
def ZbE (N:Nat) (l14:(List ZR)) (x12:ZR):Option ((List ZR)) :=
 ((appI 40 l14 [x12]).bind fun l518 =>
 (some l518))
def Zd4 (N:Nat) (a0_:Zh) (a1_:ZE) (a2_:Zj) (a3_:Int):Option ((List ZR) × Int) :=
 ((ZeW N a0_ a1_ a2_ a3_).bind fun r1 =>
 (if (r1 != 0) then (some ([],r1)) else ((Zf7 N a0_ a1_ a2_ a3_).bind fun r5 =>
 ((ZbY N (fun (s:(List ZR)) (x12:ZR)=>ZdL (fun v:(List ZR)=>ZbE N v x12) s) r5.1 r5.2.1 r5.2.2.1 r5.2.2.2 []).bind fun o520 =>
 (some (o520,0))))))
def ZbD (N:Nat) (a0_:Zh) (a1_:ZE) (i22:Int) (x21:ZR):Option (Int) :=
 ((idx a0_.Links (w64 (Int.tdiv x21.Port 2))).bind fun e524 =>
 (some (w64 ((w64 ((w64 (x21.Open+x21.Long))+e524.Delay))+a1_.Proc))))
def Zd3 (N:Nat) (a0_:Zh) (a1_:ZE) (a2_:Zj) (a3_:Int):Option (Int × Int) :=
 ((ZeW N a0_ a1_ a2_ a3_).bind fun r7 =>
 (if (r7 != 0) then (some (0,r7)) else ((Zf7 N a0_ a1_ a2_ a3_).bind fun r14 =>
 ((ZbY N (fun (s:Int) (x21:ZR)=>ZdL (fun v:Int=>ZbD N a0_ a1_ v x21) s) r14.1 r14.2.1 r14.2.2.1 r14.2.2.2 0).bind fun o527 =>
 (some (o527,0))))))
def ZbK (N:Nat) (a0_:Zas) (a2_:ZE) (a3_:Zj) (r518:(List ZR) × Int) (i523:Int) (l524:(List ZB)):Option ((Int × (List ZB)) ⊕ (((List ZB)))) :=
 (if (decide (i523<((List.length r518.1:Nat):Int))) then ((idx r518.1 i523).bind fun e1029 =>
 ((ZcJ N e1029.Early a2_.Grid).bind fun r1030 =>
 ((ZcJ N (w64 ((w64 ((w64 (e1029.Open+e1029.Long))+a2_.Grid)) - 1)) a2_.Grid).bind fun r1031 =>
 ((ZcJ N r1030 a3_.Period).bind fun r1032 =>
 ((appI 32 l524 [(ZB.mk ((List.length a0_.Problem.Periods:Nat):Int) e1029.Port (w64 (r1030 - (w64 (r1032 * a3_.Period)))) (w64 (r1031 - r1030)))]).bind fun l1036 =>
 (some (.inl ((w64 (i523+1)),l1036)))))))) else (some (.inr l524)))
def ZbL (N:Nat) (a0_:Zas) (a1_:Zh) (a2_:ZE) (a3_:Zj) (l6:List Int) (i11:Int) (b12:Bool) (l13:(List ZB)):Option ((Int × Bool × (List ZB)) ⊕ ((Bool × (List ZB)) ⊕ (Int × Zas))) :=
 (if (decide (i11<((List.length a3_.Routes:Nat):Int))) then ((Zd4 N a1_ a2_ a3_ i11).bind fun r518 =>
 (if (r518.2 != 0) then (some (.inr (.inr (r518.2,(Zas.mk (Zs.mk l6 l13) b12))))) else ((Z2 (fun x:Int × (List ZB)=>ZbK N a0_ a2_ a3_ r518 x.1 x.2) N (0,l13)).bind fun o1038 =>
 ((Zd3 N a1_ a2_ a3_ i11).bind fun r1039 =>
 (if (r1039.2 != 0) then (some (.inr (.inr (r1039.2,(Zas.mk (Zs.mk l6 o1038) b12))))) else (((if b12 then (some true) else (some (decide ((w64 (r1039.1+(w64 (2 * a2_.Slack)))) > a3_.Deadline))))).bind fun (j1049:Bool) =>
 (some (.inl ((w64 (i11+1)),j1049,o1038))))))))) else (some (.inr (.inl (b12,l13)))))
def Zdq (N:Nat) (a0_:Zas) (a1_:Zh) (a2_:ZE) (a3_:Zj):Option (Int × Zas) :=
 ((appI 8 a0_.Problem.Periods [a3_.Period]).bind fun l6 =>
 ((Z2 (fun x:Int × Bool × (List ZB)=>ZbL N a0_ a1_ a2_ a3_ l6 x.1 x.2.1 x.2.2) N (0,a0_.late,a0_.Problem.Uses)).bind fun o1050=>match o1050 with
 | (.inl p1051)=>(some (0,(Zas.mk (Zs.mk l6 p1051.2) p1051.1)))
 | (.inr p1052)=>(some p1052)))
def Zea (N:Nat) (a0_:Zh) (a1_:ZE) (a2_:(List Zj)) (i12:Int) (b13:Bool) (l14:(List Int)) (l15:(List ZB)):Option ((Int × Bool × (List Int) × (List ZB)) ⊕ ((Bool × (List Int) × (List ZB)) ⊕ (Zs × Int))) :=
 (if (decide (i12<((List.length a2_:Nat):Int))) then ((idx a2_ i12).bind fun e520 =>
 (if (e520.Class != 7) then (some (.inl ((w64 (i12+1)),b13,l14,l15))) else ((Zdq N (Zas.mk (Zs.mk l14 l15) b13) a0_ a1_ e520).bind fun r522 =>
 (if (r522.1 != 0) then (some (.inr (.inr ((Zs.mk ([]) ([])),r522.1)))) else (some (.inl ((w64 (i12+1)),r522.2.late,r522.2.Problem.Periods,r522.2.Problem.Uses))))))) else (some (.inr (.inl (b13,l14,l15)))))
def ZiX (N:Nat) (a0_:Zh) (a1_:ZE) (a2_:(List Zj)):Option (Zs × Int) :=
 ((Zch N a0_ ([])).bind fun r1 =>
 (if (r1 != 0) then (some ((Zs.mk ([]) ([])),r1)) else ((ZbH N a1_).bind fun r3 =>
 (if (r3 != 0) then (some ((Zs.mk ([]) ([])),r3)) else ((Zch N a0_ a2_).bind fun r5 =>
 (if (r5 != 0) then (some ((Zs.mk ([]) ([])),r5)) else ((Z2 (fun x:Int × Bool × (List Int) × (List ZB)=>Zea N a0_ a1_ a2_ x.1 x.2.1 x.2.2.1 x.2.2.2) N (0,false,[],[])).bind fun o527=>match o527 with
 | (.inl p528)=>((ZcE N (Zas.mk (Zs.mk p528.2.1 p528.2.2) p528.1)).bind fun r529 =>
 (if (r529 != 0) then (some ((Zs.mk ([]) ([])),r529)) else (some ((Zs.mk p528.2.1 p528.2.2),0))))
 | (.inr p533)=>(some p533))))))))
def Zfu (N:Nat) (a0_:(List Zj)):Option (Zs × Int) :=
 ((Zi4 N).bind fun r1 =>
 ((ZiX N r1 (ZE.mk 100 2 10 8000) a0_).bind fun r2 =>
 (some (r2.1,r2.2))))
def Zfb (N:Nat):Option (Bool) :=
 ((Za9 N 1 20 10000).bind fun r1 =>
 ((Zfu N ([r1])).bind fun r2 =>
 ((Za9 N 1 8 10000).bind fun r3 =>
 ((Zfu N ([r3])).bind fun r4 =>
 ((Za9 N 1 20 1718).bind fun r5 =>
 ((Zfu N ([r5])).bind fun r6 =>
 ((Za9 N 1 20 10000).bind fun r7 =>
 ((Za9 N 2 30 10000).bind fun r8 =>
 ((Zfu N ([r7,r8])).bind fun r9 =>
 ((Za9 N 1 40 10000).bind fun r10 =>
 ((Za9 N 2 40 10000).bind fun r11 =>
 ((Zfu N ([r10,r11])).bind fun r12 =>
 ((Zfu N ([])).bind fun r13 =>
 ((Zhl N r9.1).bind fun r14 =>
 ((Zhl N r13.1).bind fun r15 =>
 (((if (r2.2 != 0) then (some true) else (if (r9.2 != 0) then (some true) else (if (r12.2 != 0) then (some true) else (if (r13.2 != 0) then (some true) else (if (r14.2 != 0) then (some true) else (if (r15.2 != 0) then (some true) else ((ZiS N r2.1 (Zs.mk ([20]) ([(ZB.mk 0 0 0 8),(ZB.mk 0 2 8 9)]))).bind fun r28=>(some (!r28)))))))))).bind fun (j29:Bool) =>
 (if j29 then (some false) else ((((ZcK N r9.1 0 8).bind fun r31=>(if r31 then ((ZcK N r9.1 0 9).bind fun r33=>(if r33 then ((ZcK N r9.1 0 10).bind fun r35=>(if r35 then ((ZcK N r9.1 0 2).bind fun r37=>(some r37)) else (some false))) else (some false))) else (some false)))).bind fun (j41:Bool) =>
 (((if (r4.2==341) then (if (r6.2==342) then (if j41 then ((Zf1 N r12.1 ([0,9])).bind fun r45=>(if r45 then ((Zf1 N r12.1 ([0,8])).bind fun r47=>(if (!r47) then ((Zf1 N r12.1 ([35,4])).bind fun r49=>(if r49 then (if (r14.1==60) then (some (r15.1==1)) else (some false)) else (some false))) else (some false))) else (some false))) else (some false)) else (some false)) else (some false))).bind fun (j59:Bool) =>
 (some j59))))))))))))))))))))
def ZaS (N:Nat) (r5:ZE) (e520:Zj) (r1025:(List ZR) × Int) (i1033:Int) (i1539:Int):Option ((Int) ⊕ ((Int))) :=
 ((idx r1025.1 i1033).bind fun e2040 =>
 (if (decide ((w64 (i1539 * r5.Grid)) > e2040.Early)) then (some (.inl (w64 (i1539 - e520.Period)))) else (some (.inr i1539))))
def ZaR (N:Nat) (r5:ZE) (e520:Zj) (r1025:(List ZR) × Int) (i1033:Int) (i2043:Int):Option ((Int) ⊕ ((Int))) :=
 ((idx r1025.1 i1033).bind fun e2544 =>
 (if (decide ((w64 ((w64 (i2043+e520.Period)) * r5.Grid))≤e2544.Early)) then (some (.inl (w64 (i2043+e520.Period)))) else (some (.inr i2043))))
def ZaT (N:Nat) (r5:ZE) (r6:Zs × Int) (i17:Int) (e520:Zj) (r1025:(List ZR) × Int) (i1032:Int) (i1033:Int):Option ((Int × Int) ⊕ ((Int) ⊕ (Bool))) :=
 (if (decide (i1033<((List.length r1025.1:Nat):Int))) then (if ((decide (i1032 ≥ ((List.length r6.1.Uses:Nat):Int)))||(decide (i17 ≥ ((List.length r6.1.Periods:Nat):Int)))) then (some (.inr (.inr false))) else ((idx r6.1.Uses i1032).bind fun e1538 =>
 ((Z2 (fun x:Int=>ZaS N r5 e520 r1025 i1033 x) N e1538.From).bind fun o2042 =>
 ((Z2 (fun x:Int=>ZaR N r5 e520 r1025 i1033 x) N o2042).bind fun o2546 =>
 (((if (e1538.Stream != i17) then (some true) else ((idx r1025.1 i1033).bind fun e2549=>(if (e1538.Port != e2549.Port) then (some true) else ((idx r1025.1 i1033).bind fun e2552=>(if (decide ((w64 (e2552.Early - (w64 (o2546 * r5.Grid)))) ≥ r5.Grid)) then (some true) else ((idx r1025.1 i1033).bind fun e2555=>((idx r1025.1 i1033).bind fun e2556=>(if (decide ((w64 ((w64 (o2546+e1538.Long)) * r5.Grid))<(w64 (e2555.Open+e2556.Long)))) then (some true) else ((idx r1025.1 i1033).bind fun e2559=>((idx r1025.1 i1033).bind fun e2560=>(some (decide ((w64 ((w64 ((w64 (o2546+e1538.Long)) * r5.Grid)) - r5.Grid)) ≥ (w64 (e2559.Open+e2560.Long)))))))))))))))).bind fun (j2561:Bool) =>
 (if j2561 then (some (.inr (.inr false))) else (some (.inl ((w64 (i1032+1)),(w64 (i1033+1))))))))))) else (some (.inr (.inl i1032))))
def ZaU (N:Nat) (r3:Zh) (r5:ZE) (r6:Zs × Int) (i17:Int) (e520:Zj) (i522:Int) (i523:Int):Option ((Int × Int) ⊕ ((Int) ⊕ (Bool))) :=
 (if (decide (i523<((List.length e520.Routes:Nat):Int))) then ((Zd4 N r3 r5 e520 i523).bind fun r1025 =>
 ((Zd3 N r3 r5 e520 i523).bind fun r1026 =>
 (if ((r1025.2 != 0)||((r1026.2 != 0)||(decide ((w64 (r1026.1+(w64 (2 * r5.Slack)))) > e520.Deadline)))) then (some (.inr (.inr false))) else ((Z2 (fun x:Int × Int=>ZaT N r5 r6 i17 e520 r1025 x.1 x.2) N (i522,0)).bind fun o2563=>match o2563 with
 | (.inl p2564)=>(some (.inl (p2564,(w64 (i523+1)))))
 | (.inr p2565)=>(some (.inr (.inr p2565))))))) else (some (.inr (.inl i522))))
def ZaV (N:Nat) (r3:Zh) (r4:(List Zj)) (r5:ZE) (r6:Zs × Int) (i16:Int) (i17:Int) (i18:Int):Option ((Int × Int × Int) ⊕ ((Int × Int) ⊕ (Bool))) :=
 (if (decide (i18<((List.length r4:Nat):Int))) then ((idx r4 i18).bind fun e520 =>
 (if (e520.Class != 7) then (some (.inl (i16,i17,(w64 (i18+1))))) else ((Z2 (fun x:Int × Int=>ZaU N r3 r5 r6 i17 e520 x.1 x.2) N (i16,0)).bind fun o2566=>match o2566 with
 | (.inl p2567)=>((idx r6.1.Periods i17).bind fun e2568 =>
 (if (e2568 != e520.Period) then (some (.inr (.inr false))) else (some (.inl (p2567,(w64 (i17+1)),(w64 (i18+1)))))))
 | (.inr p2570)=>(some (.inr (.inr p2570)))))) else (some (.inr (.inl (i16,i17)))))
def Zdz (N:Nat) (a0_:Zae) (a1_:(List ZaB)) (a2_:Zji):Option (Bool) :=
 ((Zfb N).bind fun r1 =>
 (if (!r1) then (some false) else ((ZbW N a0_).bind fun r3 =>
 ((ZdO N r3 a1_).bind fun r4 =>
 ((ZeQ N a2_.x0 a2_.x1 a2_.x2).bind fun r5 =>
 ((ZiX N r3 r5 r4).bind fun r6 =>
 (if (r6.2 != 0) then (some ((r6.2==6)||((r6.2==7)||((r6.2==341)||(r6.2==342))))) else ((ZdH N r6.1).bind fun r14 =>
 (if (r14 != 0) then (some false) else ((Z2 (fun x:Int × Int × Int=>ZaV N r3 r4 r5 r6 x.1 x.2.1 x.2.2) N (0,0,0)).bind fun o2571=>match o2571 with
 | (.inl p2572)=>(some ((p2572.1==((List.length r6.1.Uses:Nat):Int))&&(p2572.2==((List.length r6.1.Periods:Nat):Int))))
 | (.inr p2575)=>(some p2575)))))))))))
end Go.Sh

