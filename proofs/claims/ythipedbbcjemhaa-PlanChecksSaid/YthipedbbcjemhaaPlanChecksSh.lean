/- Part of the proof; written by a program out of the texts in wip/. -/
import Derived.Test.YthipedbbcjemhaaPlanChecksE33
namespace Go.Sh
open Go Go.Eng
set_option linter.unusedVariables false
set_option linter.unusedSimpArgs false
set_option maxRecDepth 100000
structure Zit where
 x0:Int
 x1:Int
 x2:Int
 x3:Int
def Zd7 (v:Zit):List PC:=[.int .u8 v.x0,.int .u8 v.x1,.int .u8 v.x2,.int .u8 v.x3]
structure Zam where
 Periods:(List Int)
 Uses:(List Zit)
def ZjH (v:Zam):List PC:=[.sl 1 false (List.map (eI .u8) v.Periods),.sl 4 false (List.map Zd7 v.Uses)]
structure Zz where
 Stream:Int
 Port:Int
 From:Int
 Long:Int
def Zf (v:Zz):List PC:=[.int .i64 v.Stream,.int .i64 v.Port,.int .i64 v.From,.int .i64 v.Long]
structure Ze where
 Periods:(List Int)
 Uses:(List Zz)
def ZjI (v:Ze):List PC:=[.sl 1 false (List.map eI64 v.Periods),.sl 4 false (List.map Zf v.Uses)]
structure Zb8 where
 x0:Ze
 x1:Ze
 x2:Ze
structure Zt where
 Period:Int
 From:Int
 Long:Int
def Zad (v:Zt):List PC:=[.int .i64 v.Period,.int .i64 v.From,.int .i64 v.Long]
structure ZdE where
 A:Int
 B:Int
 Per:Int
 Delay:Int
def ZO (v:ZdE):List PC:=[.int .i64 v.A,.int .i64 v.B,.int .i64 v.Per,.int .i64 v.Delay]
structure Zw where
 Nodes:Int
 Station:(List Bool)
 Links:(List ZdE)
structure Z5 where
 Grid:Int
 Slack:Int
 Proc:Int
 Cap:Int
structure Zd8 where
 Burst:Int
 Rate:Int
structure Zx where
 Id:Int
 Talker:Int
 Listener:Int
 Class:Int
 Size:Int
 Period:Int
 Bucket:Zd8
 Deadline:Int
 Routes:(List (List Int))
def Zay (v:Zx):List PC:=[.int .i64 v.Id,.int .i64 v.Talker,.int .i64 v.Listener,.int .i64 v.Class,.int .i64 v.Size,.int .i64 v.Period,.int .i64 v.Bucket.Burst,.int .i64 v.Bucket.Rate,.int .i64 v.Deadline,.sl 1 false (List.map (eSl 1 eI64) v.Routes)]
structure Zaa where
 Problem:Ze
 late:Bool
structure Z7 where
 Port:Int
 Early:Int
 Late:Int
 Open:Int
 Long:Int
def Z0 (v:Z7):List PC:=[.int .i64 v.Port,.int .i64 v.Early,.int .i64 v.Late,.int .i64 v.Open,.int .i64 v.Long]
structure Za8 where
 x0:Bool
 x1:Bool
 x2:Bool
 x3:Bool
 x4:Bool
 x5:Bool
 x6:Bool
 x7:Bool
 x8:Bool
 x9:Bool
 x10:Bool
 x11:Bool
 x12:Bool
 x13:Bool
 x14:Bool
 x15:Bool
 x16:Bool
 x17:Bool
 x18:Bool
 x19:Bool
 x20:Bool
 x21:Bool
 x22:Bool
 x23:Bool
structure ZN where
 Topo:Zw
structure Zo where
 x0:Bool
 x1:Bool
 x2:Bool
 x3:Bool
 x4:Bool
 x5:Bool
 x6:Bool
 x7:Bool
 x8:Bool
 x9:Bool
 x10:Bool
 x11:Bool
structure Zax where
 port:Int
 from_:Int
 to_:Int
abbrev Zg (f:Bool) (l:List Int):AV:=.p (.sl 1 f (List.map eI64 l))
abbrev ZkH (f:Bool) (l:List Int):AV:=.p (.sl 1 f (List.map (eI .u8) l))
abbrev Zh (f:Bool) (l:List Zz):AV:=.p (.sl 4 f (List.map Zf l))
abbrev ZfJ (f:Bool) (l:List Zit):AV:=.p (.sl 4 f (List.map Zd7 l))
abbrev ZX (f:Bool) (l:List Zx):AV:=.p (.sl 10 f (List.map Zay l))
abbrev s_eB (f:Bool) (l:List Bool):AV:=.p (.sl 1 f (List.map eB l))
abbrev Zm (f:Bool) (l:List ZdE):AV:=.p (.sl 4 f (List.map ZO l))
abbrev ZI (f:Bool) (l:List (List Int)):AV:=.p (.sl 1 f (List.map (eSl 1 eI64) l))
abbrev Zab (f:Bool) (l:List Zt):AV:=.p (.sl 3 f (List.map Zad l))
abbrev ZaN (f:Bool) (l:List Z7):AV:=.p (.sl 5 f (List.map Z0 l))
abbrev Zgb (v:Zit):List AV:=[.p (.int .u8 v.x0),.p (.int .u8 v.x1),.p (.int .u8 v.x2),.p (.int .u8 v.x3)]
abbrev ZZ (v:Zam):List AV:=[ZkH false v.Periods,ZfJ false v.Uses]
abbrev ZK (v:Zz):List AV:=[iv v.Stream,iv v.Port,iv v.From,iv v.Long]
abbrev Zd (v:Ze):List AV:=[Zg false v.Periods,Zh false v.Uses]
abbrev ZW (v:Zb8):List AV:=[Zg false v.x0.Periods,Zh false v.x0.Uses,Zg false v.x1.Periods,Zh false v.x1.Uses,Zg false v.x2.Periods,Zh false v.x2.Uses]
abbrev Za6 (v:Zt):List AV:=[iv v.Period,iv v.From,iv v.Long]
abbrev ZaC (v:ZdE):List AV:=[iv v.A,iv v.B,iv v.Per,iv v.Delay]
abbrev Zc (v:Zw):List AV:=[iv v.Nodes,s_eB false v.Station,Zm false v.Links]
abbrev Zk (v:Z5):List AV:=[iv v.Grid,iv v.Slack,iv v.Proc,iv v.Cap]
abbrev ZcN (v:Zd8):List AV:=[iv v.Burst,iv v.Rate]
abbrev Zi (v:Zx):List AV:=[iv v.Id,iv v.Talker,iv v.Listener,iv v.Class,iv v.Size,iv v.Period,iv v.Bucket.Burst,iv v.Bucket.Rate,iv v.Deadline,ZI false v.Routes]
abbrev Za7 (v:Z7):List AV:=[iv v.Port,iv v.Early,iv v.Late,iv v.Open,iv v.Long]
abbrev Z4 (v:Za8):List AV:=[bv v.x0,bv v.x1,bv v.x2,bv v.x3,bv v.x4,bv v.x5,bv v.x6,bv v.x7,bv v.x8,bv v.x9,bv v.x10,bv v.x11,bv v.x12,bv v.x13,bv v.x14,bv v.x15,bv v.x16,bv v.x17,bv v.x18,bv v.x19,bv v.x20,bv v.x21,bv v.x22,bv v.x23]
def Za8.l (v:Za8):List Bool:=[v.x0,v.x1,v.x2,v.x3,v.x4,v.x5,v.x6,v.x7,v.x8,v.x9,v.x10,v.x11,v.x12,v.x13,v.x14,v.x15,v.x16,v.x17,v.x18,v.x19,v.x20,v.x21,v.x22,v.x23]
def Za8.get (v:Za8) (i:Int):Option Bool:=idx v.l i
abbrev Zs (v:Zo):List AV:=[bv v.x0,bv v.x1,bv v.x2,bv v.x3,bv v.x4,bv v.x5,bv v.x6,bv v.x7,bv v.x8,bv v.x9,bv v.x10,bv v.x11]
def Zo.l (v:Zo):List Bool:=[v.x0,v.x1,v.x2,v.x3,v.x4,v.x5,v.x6,v.x7,v.x8,v.x9,v.x10,v.x11]
def Zo.ofL (l:List Bool):Zo:=⟨l.getD 0 false,l.getD 1 false,l.getD 2 false,l.getD 3 false,l.getD 4 false,l.getD 5 false,l.getD 6 false,l.getD 7 false,l.getD 8 false,l.getD 9 false,l.getD 10 false,l.getD 11 false⟩
def Zo.get (v:Zo) (i:Int):Option Bool:=idx v.l i
def Zo.set (v:Zo) (i:Int) (x:Bool):Zo:=Zo.ofL (v.l.set i.toNat x)
theorem Zo.l_ofL (l:List Bool) (h:l.length=12):(Zo.ofL l).l=l:=ofL_all 12 false l h rfl
theorem Zo.l_set (v:Zo) (i:Int) (x:Bool):(v.set i x).l=v.l.set i.toNat x:=Zo.l_ofL _ (by rw [List.length_set];rfl)
theorem Zo.c_set (v:Zo) (i:Int) (x:Bool):Zs (v.set i x)=(v.l.set i.toNat x).map (fun x=>bv x):=by rw [← Zo.l_set];rfl
abbrev ZU (v:Zax):List AV:=[iv v.port,iv v.from_,iv v.to_]
def Zag (N:Nat) (a0_:Zam) (i3:Int) (l4:(List Int)):Option ((Int × (List Int)) ⊕ (((List Int)))) :=
 (if ((decide (i3<((List.length a0_.Periods:Nat):Int)))&&(decide (i3<5))) then ((idx a0_.Periods i3).bind fun e510 =>
 ((idx [4,6,8,12,3,5,10,24] (Int.tmod e510 8)).bind fun e511 =>
 ((appI 8 l4 [e511]).bind fun l514 =>
 (some (.inl ((w64 (i3+1)),l514)))))) else (some (.inr l4)))
def Zaf (N:Nat) (a0_:Zam) (o515:(List Int)) (i519:Int) (l520:(List Zz)):Option ((Int × (List Zz)) ⊕ (((List Zz)))) :=
 (((if (decide (i519<((List.length a0_.Uses:Nat):Int))) then (if (decide (i519<12)) then (some (decide (((List.length o515:Nat):Int) > 0))) else (some false)) else (some false))).bind fun (j1029:Bool) =>
 (if j1029 then ((idx a0_.Uses i519).bind fun e1031 =>
 ((remI (w64 (e1031.x0)) ((List.length o515:Nat):Int)).bind fun m1033 =>
 ((idx o515 m1033).bind fun e1034 =>
 ((remI (w64 (e1031.x2)) e1034).bind fun m1037 =>
 ((remI (w64 (e1031.x3)) e1034).bind fun m1038 =>
 ((remI (Int.tmod m1038 4) e1034).bind fun m1039 =>
 ((appI 32 l520 [(Zz.mk m1033 (w64 ((Int.tmod e1031.x1 4))) m1037 (w64 (1+m1039)))]).bind fun l1042 =>
 (some (.inl ((w64 (i519+1)),l1042)))))))))) else (some (.inr l520))))
def Zat (N:Nat) (a0_:Zam):Option (Ze) :=
 ((Zai (fun x:Int × (List Int)=>Zag N a0_ x.1 x.2) N (0,[])).bind fun o515 =>
 ((Zai (fun x:Int × (List Zz)=>Zaf N a0_ o515 x.1 x.2) N (0,[])).bind fun o1043 =>
 (some (Ze.mk o515 o1043))))
def ZgG (N:Nat):Option (Zw) :=
 (some (Zw.mk 3 ([true,false,true]) ([(ZdE.mk 0 1 8 5),(ZdE.mk 1 2 8 5)])))
def Zao (N:Nat) (a0_:Int) (a1_:Int) (a2_:Int):Option (Zx) :=
 (some (Zx.mk a0_ 0 2 7 100 a1_ (Zd8.mk 0 0) a2_ ([[0,2]])))
def ZbG (N:Nat) (a0_:Ze) (a1_:Int) (a2_:Int):Option (Bool) :=
 (((if (decide (a2_ ≥ 0)) then ((idx a0_.Periods a1_).bind fun e2=>(some (decide (a2_<e2)))) else (some false))).bind fun (j4:Bool) =>
 (some j4))
def Zj7 (N:Nat) (a0_:Ze) (a1_:Int) (a2_:Int):Option (Bool) :=
 (((if (decide (a1_ ≥ 0)) then (if (decide (a1_<((List.length a0_.Periods:Nat):Int))) then (if (decide (a2_ ≥ 0)) then ((idx a0_.Periods a1_).bind fun e4=>(some (decide (a2_<e4)))) else (some false)) else (some false)) else (some false))).bind fun (j8:Bool) =>
 (some j8))
def Zhl (N:Nat) (a0_:Ze) (a1_:(List Int)) (i2:Int):Option ((Int) ⊕ ((Unit) ⊕ (Bool))) :=
 (if (decide (i2<((List.length a1_:Nat):Int))) then ((idx a1_ i2).bind fun e504 =>
 ((Zj7 N a0_ i2 e504).bind fun r505 =>
 (if (!r505) then (some (.inr (.inr false))) else (some (.inl (w64 (i2+1))))))) else (some (.inr (.inl ()))))
def ZmL (N:Nat) (a0_:Ze) (a1_:(List Int)):Option (Bool) :=
 (if (((List.length a1_:Nat):Int) != ((List.length a0_.Periods:Nat):Int)) then (some false) else ((Zai (fun x:Int=>Zhl N a0_ a1_ x) N 0).bind fun o507=>match o507 with
 | (.inl p508)=>(some true)
 | (.inr p509)=>(some p509)))
def Zdf (N:Nat) (a0_:Ze) (a1_:Ze) (i4:Int):Option ((Int) ⊕ ((Unit) ⊕ (Bool))) :=
 (if (decide (i4<((List.length a0_.Periods:Nat):Int))) then ((idx a0_.Periods i4).bind fun e506 =>
 ((idx a1_.Periods i4).bind fun e507 =>
 (if (e506 != e507) then (some (.inr (.inr false))) else (some (.inl (w64 (i4+1))))))) else (some (.inr (.inl ()))))
def Zde (N:Nat) (a0_:Ze) (a1_:Ze) (i511:Int):Option ((Int) ⊕ ((Unit) ⊕ (Bool))) :=
 (if (decide (i511<((List.length a0_.Uses:Nat):Int))) then ((idx a0_.Uses i511).bind fun e1013 =>
 ((idx a1_.Uses i511).bind fun e1014 =>
 (if (!((e1013.Stream==e1014.Stream)&&((e1013.Port==e1014.Port)&&((e1013.From==e1014.From)&&((e1013.Long==e1014.Long)&&true))))) then (some (.inr (.inr false))) else (some (.inl (w64 (i511+1))))))) else (some (.inr (.inl ()))))
def Zgv (N:Nat) (a0_:Ze) (a1_:Ze):Option (Bool) :=
 (if ((((List.length a0_.Periods:Nat):Int) != ((List.length a1_.Periods:Nat):Int))||(((List.length a0_.Uses:Nat):Int) != ((List.length a1_.Uses:Nat):Int))) then (some false) else ((Zai (fun x:Int=>Zdf N a0_ a1_ x) N 0).bind fun o509=>match o509 with
 | (.inl p510)=>((Zai (fun x:Int=>Zde N a0_ a1_ x) N 0).bind fun o1016=>match o1016 with
 | (.inl p1017)=>(some true)
 | (.inr p1018)=>(some p1018))
 | (.inr p1019)=>(some p1019)))
def ZbF (N:Nat) (a0_:(List Int)) (i1:Int) (b503:Bool) (i504:Int):Option ((Bool × Int) ⊕ ((Bool))) :=
 (if (decide (i504<((List.length a0_:Nat):Int))) then (((if b503 then ((idx a0_ i504).bind fun e1007=>((remI i1 e1007).bind fun m1008=>(if (m1008==0) then (some true) else (some false)))) else (some false))).bind fun (j1012:Bool) =>
 (some (.inl (j1012,(w64 (i504+1)))))) else (some (.inr b503)))
def Za9 (N:Nat) (a0_:(List Int)) (i1:Int):Option ((Int) ⊕ ((Unit) ⊕ (Int))) :=
 (if (decide (i1≤960)) then ((Zai (fun x:Bool × Int=>ZbF N a0_ i1 x.1 x.2) N (true,0)).bind fun o1013 =>
 (if o1013 then (some (.inr (.inr i1))) else (some (.inl (w64 (i1+1)))))) else (some (.inr (.inl ()))))
def Zd2 (N:Nat) (a0_:(List Int)):Option (Int) :=
 ((Zai (fun x:Int=>Za9 N a0_ x) N 1).bind fun o1015=>match o1015 with
 | (.inl p1016)=>(some 0)
 | (.inr p1017)=>(some p1017))
def Zbh (N:Nat) (a0_:Ze) (a1_:Zz) (a2_:Int):Option (Zt) :=
 ((idx a0_.Periods a1_.Stream).bind fun e1 =>
 ((remI (w64 (a1_.From+a2_)) e1).bind fun m2 =>
 (some (Zt.mk e1 m2 a1_.Long))))
def Zf0 (N:Nat) (a0_:Ze) (a1_:Int) (a2_:Int):Option (Zt) :=
 ((idx a0_.Uses a1_).bind fun e1 =>
 ((idx a0_.Periods e1.Stream).bind fun e2 =>
 ((idx a0_.Uses a1_).bind fun e3 =>
 ((remI (w64 (e3.From+a2_)) e2).bind fun m4 =>
 ((idx a0_.Uses a1_).bind fun e5 =>
 (some (Zt.mk e2 m4 e5.Long)))))))
def Zgx (N:Nat) (a0_:Ze) (a1_:Int) (a2_:Int):Option (Ze × Int × Int) :=
 (some (a0_,a1_,a2_))
def Z9 (N:Nat) (a0_:Int) (a1_:Int) (a2_:Int):Option (Bool) :=
 (some ((decide (a0_ ≥ a1_))&&(decide (a0_≤a2_))))
def Zd3 (N:Nat) (a0_:Int) (a1_:Int):Option (Int) :=
 ((quoI .i64 a0_ a1_).bind fun q1 =>
 ((((remI a0_ a1_).bind fun m503 =>
 (if (decide (m503<0)) then (some (w64 (q1 - 1))) else (some q1)))).bind fun (j502:Int) =>
 (some j502)))
def Zcm {σ:Type} (N:Nat) (y_:σ→Zz→Zz→Option (σ × Bool)) (c0_:Ze) (c2_:Int) (i4:Int) (e509:Zz) (i515:Int) (g516:σ):Option ((Int × σ) ⊕ ((σ) ⊕ (σ))) :=
 (if (decide (i515<((List.length c0_.Uses:Nat):Int))) then ((idx c0_.Uses i515).bind fun e1020 =>
 (((if (i515==i4) then (some true) else (if (e1020.Stream != c2_) then (some true) else (some (e1020.Port != e509.Port))))).bind fun (j1026:Bool) =>
 (if j1026 then (some (.inl ((w64 (i515+1)),g516))) else ((y_ g516 e509 e1020).bind fun r1028 =>
 (if (!r1028.2) then (some (.inr (.inr r1028.1))) else (some (.inl ((w64 (i515+1)),r1028.1)))))))) else (some (.inr (.inl g516))))
def Zcn {σ:Type} (N:Nat) (y_:σ→Zz→Zz→Option (σ × Bool)) (c0_:Ze) (c1_:Int) (c2_:Int) (i4:Int) (g5:σ):Option ((Int × σ) ⊕ ((σ) ⊕ (σ))) :=
 (if (decide (i4<((List.length c0_.Uses:Nat):Int))) then ((idx c0_.Uses i4).bind fun e509 =>
 (if (e509.Stream != c1_) then (some (.inl ((w64 (i4+1)),g5))) else ((Zai (fun x:Int × σ=>Zcm N y_ c0_ c2_ i4 e509 x.1 x.2) N (0,g5)).bind fun o1032=>match o1032 with
 | (.inl p1033)=>(some (.inl ((w64 (i4+1)),p1033)))
 | (.inr p1034)=>(some (.inr (.inr p1034)))))) else (some (.inr (.inl g5))))
def ZeU {σ:Type} (N:Nat) (y_:σ→Zz→Zz→Option (σ × Bool)) (c0_:Ze) (c1_:Int) (c2_:Int) (s_:σ):Option (σ) :=
 ((Zai (fun x:Int × σ=>Zcn N y_ c0_ c1_ c2_ x.1 x.2) N (0,s_)).bind fun o1035=>match o1035 with
 | (.inl p1036)=>(some p1036)
 | (.inr p1037)=>(some p1037))
def Zbg (N:Nat) (a0_:Zt):Option (Int) :=
 (if ((decide (a0_.Period<1))||((decide (a0_.Period > 960))||((decide (a0_.From<0))||(decide (a0_.From ≥ a0_.Period))))) then (some 330) else (if ((decide (a0_.Long<1))||(decide (a0_.Long > a0_.Period))) then (some 330) else (some 0)))
def Zah (N:Nat) (a0_:(List Zt)) (i2:Int):Option ((Int) ⊕ ((Unit) ⊕ (Int))) :=
 (if (decide (i2<((List.length a0_:Nat):Int))) then ((idx a0_ i2).bind fun e504 =>
 ((Zbg N e504).bind fun r505 =>
 (if (r505 != 0) then (some (.inr (.inr r505))) else (some (.inl (w64 (i2+1))))))) else (some (.inr (.inl ()))))
def Zbp (N:Nat) (a0_:(List Zt)):Option (Int) :=
 (if (decide (((List.length a0_:Nat):Int) > 32)) then (some 3) else ((Zai (fun x:Int=>Zah N a0_ x) N 0).bind fun o507=>match o507 with
 | (.inl p508)=>(some 0)
 | (.inr p509)=>(some p509)))
def Zc5 (N:Nat) (a0_:Zw) (a2_:Za8) (i517:Int) (l518:(List Bool)):Option ((Int × (List Bool)) ⊕ (((List Bool)))) :=
 (if (decide (i517<((List.length a0_.Links:Nat):Int))) then ((((idx a0_.Links i517).bind fun e1525 =>
 ((((a2_.get i517).bind fun e1526=>(if (!e1526) then ((idx l518 e1525.A).bind fun e1528=>((idx l518 e1525.B).bind fun e1531=>(some (e1528 != e1531)))) else (some false)))).bind fun (j1535:Bool) =>
 (if j1535 then ((idx l518 e1525.A).bind fun e1537 =>
 ((idx (List.set l518 (Int.toNat e1525.A) true) e1525.B).bind fun e1541 =>
 (some (List.set (List.set l518 (Int.toNat e1525.A) true) (Int.toNat e1525.B) true)))) else (some l518))))).bind fun (j1524:(List Bool)) =>
 (some (.inl ((w64 (i517+1)),j1524)))) else (some (.inr l518)))
def Zc6 (N:Nat) (a0_:Zw) (a2_:Za8) (i10:Int) (l11:(List Bool)):Option ((Int × (List Bool)) ⊕ (((List Bool)))) :=
 (if (decide (i10<a0_.Nodes)) then ((Zai (fun x:Int × (List Bool)=>Zc5 N a0_ a2_ x.1 x.2) N (0,l11)).bind fun o1545 =>
 (some (.inl ((w64 (i10+1)),o1545)))) else (some (.inr l11)))
def Zgg (N:Nat) (a0_:Zw) (a1_:Int) (a2_:Za8):Option ((List Bool)) :=
 ((Zh6 1 a0_.Nodes a0_.Nodes false).bind fun l3 =>
 ((idx l3 a1_).bind fun e4 =>
 ((Zai (fun x:Int × (List Bool)=>Zc6 N a0_ a2_ x.1 x.2) N (0,(List.set l3 (Int.toNat a1_) true))).bind fun o1546 =>
 (some o1546))))
def ZdN (N:Nat) (c0_:Zx):Option (Bool) :=
 ((Z9 N c0_.Id 1 4095).bind fun r2 =>
 (some r2))
def ZcC (N:Nat) (a0_:Zw) (a1_:Int):Option (Bool) :=
 ((((Z9 N a1_ 0 (w64 (a0_.Nodes - 1))).bind fun r1=>(if r1 then ((idx a0_.Station a1_).bind fun e3=>(some e3)) else (some false)))).bind fun (j5:Bool) =>
 (some j5))
def ZdL (N:Nat) (c0_:Zx):Option (Bool) :=
 ((Z9 N c0_.Size 84 1542).bind fun r2 =>
 (some r2))
def ZdK (N:Nat) (c0_:Zx):Option (Bool) :=
 ((Z9 N c0_.Deadline 1 1099511627776).bind fun r2 =>
 (some r2))
def ZdI (N:Nat) (c0_:Zx):Option (Bool) :=
 ((Z9 N ((List.length c0_.Routes:Nat):Int) 1 2).bind fun r2 =>
 (some r2))
def Zed (N:Nat) (a0_:Zw) (a1_:Z5) (a2_:Zx) (a3_:Int):Option (Zx × Int × Zw × Z5) :=
 (some (a2_,a3_,a0_,a1_))
def ZfM (N:Nat) (a0_:Int) (a1_:Int):Option (Int) :=
 ((remI a0_ a1_).bind fun m1 =>
 ((remI (w64 (m1+a1_)) a1_).bind fun m2 =>
 (some m2)))
def ZaV (N:Nat) (i1:Int) (i2:Int):Option ((Int × Int) ⊕ ((Int))) :=
 (if (i2 != 0) then ((remI i1 i2).bind fun m504 =>
 (some (.inl (i2,m504)))) else (some (.inr i1)))
def Zcx (N:Nat) (a0_:Int) (a1_:Int):Option (Int) :=
 ((Zai (fun x:Int × Int=>ZaV N x.1 x.2) N (a0_,a1_)).bind fun o505 =>
 (some o505))
def ZfX (N:Nat) (a0_:Zw) (a1_:Int):Option (Bool) :=
 (some ((decide (a1_ ≥ 0))&&(decide (a1_<a0_.Nodes))))
def ZeG (N:Nat) (a0_:Int) (c0_:Zw):Option (Bool) :=
 ((idx c0_.Links a0_).bind fun e2 =>
 ((((idx c0_.Station e2.A).bind fun e4=>(if (!e4) then (some true) else ((idx c0_.Station e2.B).bind fun e8=>(some (!e8)))))).bind fun (j9:Bool) =>
 (some j9)))
def Zcg (N:Nat) (e2:ZdE) (l4:List ZdE) (i5:Int):Option ((Int) ⊕ ((Unit) ⊕ (Bool))) :=
 (if (decide (i5<((List.length l4:Nat):Int))) then ((idx l4 i5).bind fun e507 =>
 (if (if (e2.A==e507.A) then ((e2.B==e507.B)||((e2.A==e507.B)&&(e2.B==e507.A))) else ((e2.A==e507.B)&&(e2.B==e507.A))) then (some (.inr (.inr false))) else (some (.inl (w64 (i5+1)))))) else (some (.inr (.inl ()))))
def ZeF (N:Nat) (a0_:Int) (c0_:Zw):Option (Bool) :=
 ((idx c0_.Links a0_).bind fun e2 =>
 ((subI c0_.Links 0 a0_).bind fun l4 =>
 ((Zai (fun x:Int=>Zcg N e2 l4 x) N 0).bind fun o517=>match o517 with
 | (.inl p518)=>(some true)
 | (.inr p519)=>(some p519))))
def ZeE (N:Nat) (a0_:Int) (c0_:Zw):Option (Bool) :=
 ((idx c0_.Links a0_).bind fun e2 =>
 (some ((decide (e2.Per ≥ 1))&&((decide (e2.Per≤1000))&&((decide (e2.Delay ≥ 0))&&(decide (e2.Delay≤10000)))))))
def Zas (N:Nat) (a0_:(List Bool)) (a1_:Bool) (i1:Int):Option ((Int) ⊕ ((Unit) ⊕ (Int))) :=
 (if (decide (i1<((List.length a0_:Nat):Int))) then ((idx a0_ i1).bind fun e503 =>
 (if (a1_==e503) then (some (.inr (.inr i1))) else (some (.inl (w64 (i1+1)))))) else (some (.inr (.inl ()))))
def Zbe (N:Nat) (a0_:(List Bool)) (a1_:Bool):Option (Int) :=
 ((Zai (fun x:Int=>Zas N a0_ a1_ x) N 0).bind fun o505=>match o505 with
 | (.inl p506)=>(some (-1))
 | (.inr p507)=>(some p507))
def ZbU (N:Nat) (a0_:Int) (a1_:Int) (a2_:Int):Option (Bool) :=
 (some ((decide (a1_≤a0_))&&(decide (a0_≤a2_))))
def Zcj (N:Nat) (a1_:(List Int)) (e503:Int) (i504:Int):Option ((Int) ⊕ ((Unit) ⊕ (Bool))) :=
 (if (decide (i504<((List.length a1_:Nat):Int))) then ((idx a1_ i504).bind fun e1006 =>
 (if ((w64 (Int.tdiv e503 2))==(w64 (Int.tdiv e1006 2))) then (some (.inr (.inr true))) else (some (.inl (w64 (i504+1)))))) else (some (.inr (.inl ()))))
def Zck (N:Nat) (a0_:(List Int)) (a1_:(List Int)) (i1:Int):Option ((Int) ⊕ ((Unit) ⊕ (Bool))) :=
 (if (decide (i1<((List.length a0_:Nat):Int))) then ((idx a0_ i1).bind fun e503 =>
 ((Zai (fun x:Int=>Zcj N a1_ e503 x) N 0).bind fun o1008=>match o1008 with
 | (.inl p1009)=>(some (.inl (w64 (i1+1))))
 | (.inr p1010)=>(some (.inr (.inr p1010))))) else (some (.inr (.inl ()))))
def ZeP (N:Nat) (a0_:(List Int)) (a1_:(List Int)):Option (Bool) :=
 ((Zai (fun x:Int=>Zck N a0_ a1_ x) N 0).bind fun o1011=>match o1011 with
 | (.inl p1012)=>(some false)
 | (.inr p1013)=>(some p1013))
def Zb2 {σ:Type} (N:Nat) (y_:σ→Z7→Option (σ × Bool)) (c0_:Zx) (c2_:Zw) (c3_:Z5) (e3:(List Int)) (i6:Int) (i7:Int) (i10:Int) (i11:Int) (i12:Int) (i8:Int) (g9:σ):Option ((Int × Int × Int × Int × Int × Int × σ) ⊕ ((σ) ⊕ (σ))) :=
 (if (decide (i6<((List.length e3:Nat):Int))) then ((idx e3 i6).bind fun e516 =>
 (((if (decide (i6 > 0)) then ((idx c2_.Links (w64 (Int.tdiv i7 2))).bind fun e1020 =>
 ((quoI .i64 (w64 ((w64 ((w64 ((w64 ((w64 ((w64 (i12+i8))+e1020.Delay))+c3_.Proc))+(w64 (2 * c3_.Slack))))+c3_.Grid)) - 1)) c3_.Grid).bind fun q1026 =>
 (some ((w64 ((w64 ((w64 ((w64 (i12+i8))+e1020.Delay))+c3_.Proc)) - (w64 (2 * c3_.Slack)))),(w64 ((w64 ((w64 ((w64 (i12+i8))+e1020.Delay))+c3_.Proc))+(w64 (2 * c3_.Slack)))),(w64 (q1026 * c3_.Grid)))))) else (some (i10,i11,i12)))).bind fun (j1017:Int × Int × Int) =>
 ((idx c2_.Links (w64 (Int.tdiv e516 2))).bind fun e1030 =>
 ((y_ g9 (Z7.mk e516 j1017.1 j1017.2.1 j1017.2.2 (w64 (c0_.Size * e1030.Per)))).bind fun r1031 =>
 (if (!r1031.2) then (some (.inr (.inr r1031.1))) else (some (.inl ((w64 (i6+1)),e516,j1017.1,j1017.2.1,j1017.2.2,(w64 (c0_.Size * e1030.Per)),r1031.1)))))))) else (some (.inr (.inl g9))))
def Zc9 {σ:Type} (N:Nat) (y_:σ→Z7→Option (σ × Bool)) (c0_:Zx) (c1_:Int) (c2_:Zw) (c3_:Z5) (s_:σ):Option (σ) :=
 ((idx c0_.Routes c1_).bind fun e3 =>
 ((Zai (fun x:Int × Int × Int × Int × Int × Int × σ=>Zb2 N y_ c0_ c2_ c3_ e3 x.1 x.2.1 x.2.2.1 x.2.2.2.1 x.2.2.2.2.1 x.2.2.2.2.2.1 x.2.2.2.2.2.2) N (0,0,0,0,0,0,s_)).bind fun o1035=>match o1035 with
 | (.inl p1036)=>(some p1036)
 | (.inr p1037)=>(some p1037)))
def Zci (N:Nat) (a0_:ZN) (a1_:(List Int)):Option ((List Int) × ZN) :=
 (some (a1_,a0_))
def ZaZ {σ:Type} (N:Nat) (y_:σ→Int→Zax→Option (σ × Bool)) (c0_:(List Int)) (c1_:ZN) (i4:Int) (g5:σ):Option ((Int × σ) ⊕ ((σ))) :=
 (if (decide (i4<((List.length c0_:Nat):Int))) then ((idx c0_ i4).bind fun e509 =>
 (((if (decide (e509<0)) then (some true) else (some (decide (e509 ≥ (w64 (2 * ((List.length c1_.Topo.Links:Nat):Int)))))))).bind fun (j513:Bool) =>
 (if j513 then (some (.inr g5)) else ((idx c1_.Topo.Links (w64 (Int.tdiv e509 2))).bind fun e516 =>
 (((if ((Int.tmod e509 2)==1) then (some (e516.B,e516.A)) else (some (e516.A,e516.B)))).bind fun (j1017:Int × Int) =>
 ((y_ g5 i4 (Zax.mk e509 j1017.1 j1017.2)).bind fun r1019 =>
 (if (!r1019.2) then (some (.inr r1019.1)) else (some (.inl ((w64 (i4+1)),r1019.1)))))))))) else (some (.inr g5)))
def ZbO {σ:Type} (N:Nat) (y_:σ→Int→Zax→Option (σ × Bool)) (c0_:(List Int)) (c1_:ZN) (s_:σ):Option (σ) :=
 ((Zai (fun x:Int × σ=>ZaZ N y_ c0_ c1_ x.1 x.2) N (0,s_)).bind fun o1023 =>
 (some o1023))
def ZaA (N:Nat) (a0_:(List Int)) (a1_:Int) (i1:Int):Option ((Int) ⊕ ((Unit) ⊕ (Int))) :=
 (if (decide (i1<((List.length a0_:Nat):Int))) then ((idx a0_ i1).bind fun e503 =>
 (if (a1_==e503) then (some (.inr (.inr i1))) else (some (.inl (w64 (i1+1)))))) else (some (.inr (.inl ()))))
def ZbE (N:Nat) (a0_:(List Int)) (a1_:Int):Option (Int) :=
 ((Zai (fun x:Int=>ZaA N a0_ a1_ x) N 0).bind fun o505=>match o505 with
 | (.inl p506)=>(some (-1))
 | (.inr p507)=>(some p507))
def Zb0 (N:Nat) (a0_:Zam) (a1_:Ze) (a2_:Int):Option (Zb8) :=
 ((Zat N a0_).bind fun r1 =>
 ((subI a1_.Periods 0 (if 13<((List.length a1_.Periods:Nat):Int) then 13 else ((List.length a1_.Periods:Nat):Int))).bind fun l2 =>
 ((subI a1_.Uses 0 (if 200<((List.length a1_.Uses:Nat):Int) then 200 else ((List.length a1_.Uses:Nat):Int))).bind fun l3 =>
 ((appI 8 [] r1.Periods).bind fun l6 =>
 ((appI 32 [] r1.Uses).bind fun l9 =>
 (((((if (decide (((List.length l9:Nat):Int) > 0)) then (if (decide (((List.length l3:Nat):Int) > 0)) then (some ((Int.tmod a2_ 2)==0)) else (some false)) else (some false))).bind fun (j519:Bool) =>
 (if j519 then ((remI (w64 (a2_)) ((List.length l9:Nat):Int)).bind fun m522 =>
 ((idx l3 0).bind fun e523 =>
 ((idx l9 m522).bind fun e524 =>
 (some (l6,(List.set l9 (Int.toNat m522) e523)))))) else (((if (decide (((List.length l6:Nat):Int) > 0)) then (some (decide (((List.length l2:Nat):Int) > 0))) else (some false))).bind fun (j531:Bool) =>
 (if j531 then ((remI (w64 (a2_)) ((List.length l6:Nat):Int)).bind fun m534 =>
 ((idx l2 0).bind fun e535 =>
 ((idx l6 m534).bind fun e536 =>
 (some ((List.set l6 (Int.toNat m534) e535),l9))))) else (some (l6,l9))))))).bind fun (j513:(List Int) × (List Zz)) =>
 (some (Zb8.mk r1 (Ze.mk l2 l3) (Ze.mk j513.1 j513.2)))))))))
def Zbt (N:Nat) (a0_:Ze) (i4:Int):Option ((Int) ⊕ ((Unit) ⊕ (Bool))) :=
 (if (decide (i4<((List.length a0_.Periods:Nat):Int))) then ((((idx a0_.Periods i4).bind fun e506=>(if (decide (e506<1)) then (some true) else ((idx a0_.Periods i4).bind fun e509=>(some (decide (e509 > 240))))))).bind fun (j510:Bool) =>
 (if j510 then (some (.inr (.inr false))) else (some (.inl (w64 (i4+1)))))) else (some (.inr (.inl ()))))
def Zbs (N:Nat) (a0_:Ze) (i514:Int):Option ((Int) ⊕ ((Unit) ⊕ (Bool))) :=
 (if (decide (i514<((List.length a0_.Uses:Nat):Int))) then ((idx a0_.Uses i514).bind fun e1016 =>
 (if ((decide (e1016.Stream<0))||((decide (e1016.Stream ≥ ((List.length a0_.Periods:Nat):Int)))||((decide (e1016.Port<0))||(decide (e1016.Port ≥ 48))))) then (some (.inr (.inr false))) else (((if (decide (e1016.From<0)) then (some true) else ((idx a0_.Periods e1016.Stream).bind fun e1026=>(if (decide (e1016.From ≥ e1026)) then (some true) else (if (decide (e1016.Long<1)) then (some true) else ((idx a0_.Periods e1016.Stream).bind fun e1031=>(some (decide (e1016.Long > e1031))))))))).bind fun (j1032:Bool) =>
 (if j1032 then (some (.inr (.inr false))) else (some (.inl (w64 (i514+1)))))))) else (some (.inr (.inl ()))))
def Zca (N:Nat) (a0_:Ze):Option (Bool) :=
 (if ((decide (((List.length a0_.Periods:Nat):Int) > 12))||(decide (((List.length a0_.Uses:Nat):Int) > 192))) then (some false) else ((Zai (fun x:Int=>Zbt N a0_ x) N 0).bind fun o512=>match o512 with
 | (.inl p513)=>((Zai (fun x:Int=>Zbs N a0_ x) N 0).bind fun o1034=>match o1034 with
 | (.inl p1035)=>((Zd2 N a0_.Periods).bind fun r1036 =>
 (some (decide (r1036 > 0))))
 | (.inr p1037)=>(some p1037))
 | (.inr p1038)=>(some p1038)))
def ZbN (N:Nat) (a0_:Z5):Option (Int) :=
 ((((Z9 N a0_.Grid 1 10000).bind fun r1=>(if (!r1) then (some true) else ((Z9 N a0_.Slack 0 1000).bind fun r4=>(some (!r4)))))).bind fun (j5:Bool) =>
 (if j5 then (some 320) else ((((Z9 N a0_.Proc 0 10000).bind fun r7=>(if (!r7) then (some true) else ((Z9 N a0_.Cap 1542 65536).bind fun r10=>(some (!r10)))))).bind fun (j11:Bool) =>
 (if j11 then (some 320) else (some 0)))))
def Zal (N:Nat) (a0_:Int) (a1_:(List Int)) (i1:Int) (i2:Int):Option ((Int × Int) ⊕ ((Int))) :=
 (if (decide (i2<((List.length a1_:Nat):Int))) then ((idx a1_ i2).bind fun e504 =>
 ((Zcx N i1 e504).bind fun r505 =>
 ((quoI .i64 i1 r505).bind fun q506 =>
 (if (decide ((w64 (q506 * e504)) > a0_)) then (some (.inr (w64 (q506 * e504)))) else (some (.inl ((w64 (q506 * e504)),(w64 (i2+1))))))))) else (some (.inr i1)))
def ZcK (N:Nat) (a0_:Int) (a1_:(List Int)):Option (Int) :=
 ((Zai (fun x:Int × Int=>Zal N a0_ a1_ x.1 x.2) N (1,0)).bind fun o508 =>
 (some o508))
def ZaR (N:Nat) (a0_:(List Bool)) (a1_:Bool):Option (Bool) :=
 ((Zbe N a0_ a1_).bind fun r1 =>
 (some (decide (r1 ≥ 0))))
def ZdM (N:Nat) (c0_:Zw) (c1_:Zx):Option (Bool) :=
 ((((ZcC N c0_ c1_.Talker).bind fun r3=>(if r3 then ((ZcC N c0_ c1_.Listener).bind fun r7=>(if r7 then (some (c1_.Talker != c1_.Listener)) else (some false))) else (some false)))).bind fun (j13:Bool) =>
 (some j13))
def Ze9 (N:Nat) (a0_:Zd8):Option (Int) :=
 ((((ZbU N a0_.Burst 1 1048576).bind fun r1=>(if (!r1) then (some true) else ((ZbU N a0_.Rate 1 2097152).bind fun r4=>(some (!r4)))))).bind fun (j5:Bool) =>
 (if j5 then (some 130) else (some 0)))
def ZeR (N:Nat) (a0_:Zt) (a1_:Zt):Option (Int × Int × Int) :=
 ((Zcx N a0_.Period a1_.Period).bind fun r1 =>
 (some (a0_.Long,(w64 (r1 - a1_.Long)),r1)))
def ZeH (N:Nat) (a0_:Int) (c0_:Zw):Option (Bool) :=
 ((idx c0_.Links a0_).bind fun e2 =>
 ((((ZfX N c0_ e2.A).bind fun r4=>(if r4 then ((ZfX N c0_ e2.B).bind fun r7=>(if r7 then (some (e2.A != e2.B)) else (some false))) else (some false)))).bind fun (j11:Bool) =>
 (some j11)))
def ZaO (N:Nat) (a0_:ZN) (i524:Int) (i525:Int) (l526:Zo) (x522:Int) (x523:Zax):Option ((Int × Int × Zo) × Nat) :=
 (if (x522==0) then ((l526.get x523.from_).bind fun e1026 =>
 (((Zo.set l526 x523.from_ true).get x523.to_).bind fun e1028 =>
 (if e1028 then (some ((i524,i525,(Zo.set l526 x523.from_ true)),1)) else (((Zo.set l526 x523.from_ true).get x523.to_).bind fun e1031 =>
 (some (((w64 (i524+1)),x523.to_,(Zo.set (Zo.set l526 x523.from_ true) x523.to_ true)),0)))))) else (((if (x523.from_ != i525) then (some true) else ((idx a0_.Topo.Station i525).bind fun e1041=>(some e1041)))).bind fun (j1042:Bool) =>
 (if j1042 then (some ((i524,i525,l526),1)) else ((l526.get x523.to_).bind fun e1044 =>
 (if e1044 then (some ((i524,i525,l526),1)) else ((l526.get x523.to_).bind fun e1047 =>
 (some (((w64 (i524+1)),x523.to_,(Zo.set l526 x523.to_ true)),0))))))))
def Zb4 (N:Nat) (a0_:ZN) (a1_:(List Int)):Option (Bool) :=
 (if ((decide (((List.length a1_:Nat):Int)<1))||(decide (((List.length a1_:Nat):Int) > 8))) then (some false) else ((((Zci N a0_ a1_).bind fun r517 =>
 ((ZbO N (fun (s:(Int × Int × Zo) × Nat) (x522:Int) (x523:Zax)=>ZgU (fun v:Int × Int × Zo=>ZaO N a0_ v.1 v.2.1 v.2.2 x522 x523) s) r517.1 r517.2 ((0,0,(Zo.mk false false false false false false false false false false false false)),0)).bind fun o1052 =>
 (if (o1052.2==0) then (some o1052.1.1) else (if (o1052.2==1) then (some o1052.1.1) else none))))).bind fun (j515:Int) =>
 (some (j515==((List.length a1_:Nat):Int)))))
def ZaP (N:Nat) (l15:(List Int)) (x13:Int) (x14:Zax):Option ((List Int)) :=
 (((if (x13==0) then ((appI 8 l15 [x14.from_]).bind fun l1023 =>
 (some l1023)) else (some l15))).bind fun (j1018:(List Int)) =>
 ((appI 8 j1018 [x14.to_]).bind fun l1028 =>
 (some l1028)))
def Zbo (N:Nat) (a0_:ZN) (a1_:(List Int)):Option ((List Int)) :=
 ((Zh6 8 0 (w64 (((List.length a1_:Nat):Int)+1)) 0).bind fun l3 =>
 ((Zci N a0_ a1_).bind fun r7 =>
 ((ZbO N (fun (s:(List Int)) (x13:Int) (x14:Zax)=>ZeC (fun v:(List Int)=>ZaP N v x13 x14) s) r7.1 r7.2 l3).bind fun o1030 =>
 (some o1030))))
def Za2 (N:Nat) (a0_:(List Int)) (a1_:Int):Option (Bool) :=
 ((ZbE N a0_ a1_).bind fun r1 =>
 (some (decide (r1 ≥ 0))))
def Zdb (N:Nat) (a0_:ZN) (c0_:(List Int)):Option ((List Int) × Int) :=
 ((Zbo N a0_ c0_).bind fun r2 =>
 (some (r2,0)))
def Zcb (N:Nat) (a0_:Ze):Option (Int × Int) :=
 ((Zca N a0_).bind fun r1 =>
 (if (!r1) then (some (0,340)) else ((Zd2 N a0_.Periods).bind fun r3 =>
 (some (r3,0)))))
def Zcc (N:Nat) (a0_:Ze):Option (Int) :=
 ((Zca N a0_).bind fun r1 =>
 (if r1 then (some 0) else (some 340)))
def ZaM (N:Nat) (a0_:Ze) (a1_:Int) (a2_:Int):Option (Zt × Int) :=
 ((Zca N a0_).bind fun r1 =>
 (if (!r1) then (some ((Zt.mk 0 0 0),340)) else (((if (decide (a1_<0)) then (some true) else (if (decide (a1_ ≥ ((List.length a0_.Uses:Nat):Int))) then (some true) else (if (decide (a2_<0)) then (some true) else ((idx a0_.Uses a1_).bind fun e9=>((idx a0_.Periods e9.Stream).bind fun e10=>(some (decide (a2_ ≥ e10))))))))).bind fun (j11:Bool) =>
 (if j11 then (some ((Zt.mk 0 0 0),2)) else ((Zf0 N a0_ a1_ a2_).bind fun r13 =>
 (some (r13,0)))))))
def ZaE (N:Nat) (a0_:(List Zt)) (i8:Int) (l9:(List Int)):Option ((Int × (List Int)) ⊕ (((List Int)))) :=
 (if (decide (i8<((List.length a0_:Nat):Int))) then ((idx a0_ i8).bind fun e513 =>
 ((idx l9 i8).bind fun e514 =>
 (some (.inl ((w64 (i8+1)),(List.set l9 (Int.toNat i8) e513.Period)))))) else (some (.inr l9)))
def Zcl (N:Nat) (a0_:(List Zt)):Option (Int × Int) :=
 ((Zbp N a0_).bind fun r1 =>
 (if (r1 != 0) then (some (0,r1)) else ((Zh6 8 ((List.length a0_:Nat):Int) ((List.length a0_:Nat):Int) 0).bind fun l5 =>
 ((Zai (fun x:Int × (List Int)=>ZaE N a0_ x.1 x.2) N (0,l5)).bind fun o518 =>
 ((ZcK N 960 o518).bind fun r519 =>
 (if (decide (r519 > 960)) then (some (0,6)) else (some (r519,0))))))))
def Zei (N:Nat) (a0_:Zt) (a1_:Zt):Option (Bool) :=
 (if ((a0_.Period==a1_.Period)&&((a0_.From==a1_.From)&&((a0_.Long==a1_.Long)&&true))) then (some false) else ((ZeR N a0_ a1_).bind fun r2 =>
 ((ZfM N (w64 (a1_.From - a0_.From)) r2.2.2).bind fun r3 =>
 (some ((decide (r2.1≤r3))&&(decide (r3≤r2.2.1)))))))
def Zc4 (N:Nat) (a0_:Zw) (i4:Int):Option ((Int) ⊕ ((Unit) ⊕ (Bool))) :=
 (if (decide (i4<((List.length a0_.Links:Nat):Int))) then ((ZeH N i4 a0_).bind fun r506 =>
 (if (!r506) then (some (.inr (.inr false))) else ((ZeG N i4 a0_).bind fun r508 =>
 (if (!r508) then (some (.inr (.inr false))) else ((ZeF N i4 a0_).bind fun r510 =>
 (if (!r510) then (some (.inr (.inr false))) else ((ZeE N i4 a0_).bind fun r512 =>
 (if (!r512) then (some (.inr (.inr false))) else (some (.inl (w64 (i4+1)))))))))))) else (some (.inr (.inl ()))))
def Zgf (N:Nat) (a0_:Zw):Option (Bool) :=
 ((Zai (fun x:Int=>Zc4 N a0_ x) N 0).bind fun o514=>match o514 with
 | (.inl p515)=>(some true)
 | (.inr p516)=>(some p516))
def ZdJ (N:Nat) (c0_:Zx):Option (Bool) :=
 (if (c0_.Class==7) then ((((Z9 N c0_.Period 1 240).bind fun r4=>(if r4 then (some ((c0_.Bucket.Burst==0)&&((c0_.Bucket.Rate==0)&&true))) else (some false)))).bind fun (j8:Bool) =>
 (some j8)) else (if (c0_.Class==6) then (((if (c0_.Period==0) then ((Ze9 N c0_.Bucket).bind fun r13=>(if (r13==0) then (some (decide (c0_.Bucket.Burst ≥ c0_.Size))) else (some false))) else (some false))).bind fun (j19:Bool) =>
 (some j19)) else (some false)))
def Zbf (N:Nat) (r2:(List Int)) (l3:List Int) (i4:Int):Option ((Int) ⊕ ((Unit) ⊕ (Bool))) :=
 (if (decide (i4<((List.length l3:Nat):Int))) then ((idx l3 i4).bind fun e506 =>
 ((Za2 N r2 e506).bind fun r507 =>
 (if r507 then (some (.inr (.inr true))) else (some (.inl (w64 (i4+1))))))) else (some (.inr (.inl ()))))
def Zb5 (N:Nat) (a0_:ZN) (a1_:(List Int)) (a2_:(List Int)):Option (Bool) :=
 ((Zbo N a0_ a1_).bind fun r1 =>
 ((Zbo N a0_ a2_).bind fun r2 =>
 ((subI r1 1 (w64 (((List.length r1:Nat):Int) - 1))).bind fun l3 =>
 ((Zai (fun x:Int=>Zbf N r2 l3 x) N 0).bind fun o509=>match o509 with
 | (.inl p510)=>(some false)
 | (.inr p511)=>(some p511)))))
def Zbl (N:Nat) (a0_:(List Int)) (i6:Int) (l7:(List Zt)):Option ((Int × (List Zt)) ⊕ (((List Zt)))) :=
 (if (decide (i6<((List.length a0_:Nat):Int))) then ((idx a0_ i6).bind fun e511 =>
 ((idx l7 i6).bind fun e512 =>
 (some (.inl ((w64 (i6+1)),(List.set l7 (Int.toNat i6) (Zt.mk e511 0 1))))))) else (some (.inr l7)))
def Zce (N:Nat) (a0_:(List Int)):Option (Int × Int) :=
 ((Zh6 24 ((List.length a0_:Nat):Int) ((List.length a0_:Nat):Int) (Zt.mk 0 0 0)).bind fun l3 =>
 ((Zai (fun x:Int × (List Zt)=>Zbl N a0_ x.1 x.2) N (0,l3)).bind fun o516 =>
 ((Zcl N o516).bind fun r517 =>
 (some (r517.1,r517.2)))))
def Zbk (N:Nat) (a0_:Zaa) (i5:Int) (m5:(List (Int × (List Zz)))):Option ((Int × (List (Int × (List Zz)))) ⊕ ((List (Int × (List Zz))))) :=
 (if (decide (i5<((List.length a0_.Problem.Uses:Nat):Int))) then ((idx a0_.Problem.Uses i5).bind fun e507 =>
 ((appI 32 (ZiF m5 e507.Port []) [e507]).bind fun l508 =>
 (some (.inl ((w64 (i5+1)),(Zdh m5 e507.Port l508)))))) else (some (.inr m5)))
def Zbj (N:Nat) (a0_:Zaa) (r2:Int × Int) (us_:(List Zz)) (i510:Int) (i511:Int):Option ((Int × Int) ⊕ ((Int))) :=
 (if (decide (i511<((List.length us_:Nat):Int))) then ((idx us_ i511).bind fun e1013 =>
 ((idx a0_.Problem.Periods e1013.Stream).bind fun e1017 =>
 ((quoI .i64 r2.1 e1017).bind fun q1018 =>
 (some (.inl ((w64 (i510+q1018)),(w64 (i511+1)))))))) else (some (.inr i510)))
def ZbB (N:Nat) (a0_:Zaa) (r2:Int × Int) (us_:(List Zz)):Option Bool :=
 ((Zai (fun x:Int × Int=>Zbj N a0_ r2 us_ x.1 x.2) N (0,0)).bind fun o1019 =>
 (some (decide (o1019 > 63))))
def Zbi (N:Nat) (a0_:Zaa) (i1022:Int):Option ((Int) ⊕ ((Unit) ⊕ (Int))) :=
 (if (decide (i1022<((List.length a0_.Problem.Uses:Nat):Int))) then ((idx a0_.Problem.Uses i1022).bind fun e1524 =>
 ((idx a0_.Problem.Periods e1524.Stream).bind fun e1526 =>
 (if (decide (e1524.Long > e1526)) then (some (.inr (.inr 341))) else (some (.inl (w64 (i1022+1))))))) else (some (.inr (.inl ()))))
def ZcU (N:Nat) (a0_:Zaa):Option (Int) :=
 ((Zce N a0_.Problem.Periods).bind fun r2 =>
 (if (r2.2 != 0) then (some r2.2) else ((Zai (fun x:Int × (List (Int × (List Zz)))=>Zbk N a0_ x.1 x.2) N (0,[])).bind fun o508 =>
 ((rgF (ZbB N a0_ r2) o508).bind fun b1020 =>
 (if b1020 then (some 7) else ((Zai (fun x:Int=>Zbi N a0_ x) N 0).bind fun o1528=>match o1528 with
 | (.inl p1529)=>(if a0_.late then (some 342) else (some 0))
 | (.inr p1532)=>(some p1532)))))))
def Zej (N:Nat) (a0_:Zt) (a1_:Zt):Option (Bool × Int) :=
 ((Zbg N a0_).bind fun r1 =>
 (if (r1 != 0) then (some (false,r1)) else ((Zbg N a1_).bind fun r3 =>
 (if (r3 != 0) then (some (false,r3)) else ((Zei N a0_ a1_).bind fun r5 =>
 (some (r5,0)))))))
def Zc8 (N:Nat) (a0_:Zw) (i16:Int) (l17:(List Int)):Option ((Int × (List Int)) ⊕ (((List Int)))) :=
 (if (decide (i16<((List.length a0_.Links:Nat):Int))) then ((idx a0_.Links i16).bind fun e521 =>
 ((idx l17 e521.A).bind fun e522 =>
 ((idx l17 e521.A).bind fun e525 =>
 ((idx (List.set l17 (Int.toNat e521.A) (w64 (e522+1))) e521.B).bind fun e529 =>
 ((idx (List.set l17 (Int.toNat e521.A) (w64 (e522+1))) e521.B).bind fun e532 =>
 (some (.inl ((w64 (i16+1)),(List.set (List.set l17 (Int.toNat e521.A) (w64 (e522+1))) (Int.toNat e521.B) (w64 (e529+1))))))))))) else (some (.inr l17)))
def Zc7 (N:Nat) (a0_:Zw) (o536:(List Int)) (i537:Int):Option ((Int) ⊕ ((Unit) ⊕ (Int))) :=
 (if (decide (i537<((List.length a0_.Station:Nat):Int))) then ((idx a0_.Station i537).bind fun e1039 =>
 (((if e1039 then ((idx o536 i537).bind fun e1041=>(if (decide (e1041<1)) then (some true) else ((idx o536 i537).bind fun e1046=>(some (decide (e1046 > 2)))))) else (some false))).bind fun (j1050:Bool) =>
 (if j1050 then (some (.inr (.inr 260))) else (some (.inl (w64 (i537+1))))))) else (some (.inr (.inl ()))))
def ZdW (N:Nat) (a0_:Zw):Option (Int) :=
 (if ((decide (a0_.Nodes<2))||((decide (a0_.Nodes > 12))||(((List.length a0_.Station:Nat):Int) != a0_.Nodes))) then (some 260) else (((if (decide (((List.length a0_.Links:Nat):Int) > 24)) then (some true) else ((Zgf N a0_).bind fun r8=>(some (!r8))))).bind fun (j9:Bool) =>
 (if j9 then (some 260) else ((Zh6 8 a0_.Nodes a0_.Nodes 0).bind fun l13 =>
 ((Zai (fun x:Int × (List Int)=>Zc8 N a0_ x.1 x.2) N (0,l13)).bind fun o536 =>
 ((Zai (fun x:Int=>Zc7 N a0_ o536 x) N 0).bind fun o1052=>match o1052 with
 | (.inl p1053)=>((Zgg N a0_ 0 (Za8.mk false false false false false false false false false false false false false false false false false false false false false false false false)).bind fun r1054 =>
 ((ZaR N r1054 false).bind fun r1055 =>
 (if r1055 then (some 260) else (some 0))))
 | (.inr p1057)=>(some p1057)))))))
def Zdc (N:Nat) (a0_:ZN) (c0_:(List Int)) (c1_:(List Int)):Option (Bool × Int) :=
 ((Zb4 N a0_ c0_).bind fun r2 =>
 (if (!r2) then (some (false,310)) else ((((ZeP N c1_ c0_).bind fun r6=>(if (!r6) then ((Zb5 N a0_ c1_ c0_).bind fun r10=>(if (!r10) then ((Zb5 N a0_ c0_ c1_).bind fun r14=>(some (!r14))) else (some false))) else (some false)))).bind fun (j17:Bool) =>
 (some (j17,0)))))
def Zeh (N:Nat) (a0_:Zw) (a1_:(List Int)):Option (Int) :=
 ((ZdW N a0_).bind fun r1 =>
 (if (r1 != 0) then (some r1) else ((Zb4 N (ZN.mk a0_) a1_).bind fun r3 =>
 (if (!r3) then (some 310) else (some 0)))))
def ZdP (N:Nat) (a0_:Zw) (a1_:(List Int)) (a2_:ZN→Option ((List Int) × Int)):Option ((List Int) × Int) :=
 ((Zeh N a0_ a1_).bind fun r1 =>
 (if (r1 != 0) then (some ([],r1)) else ((a2_ (ZN.mk a0_)).bind fun r3 =>
 (some (r3.1,r3.2)))))
def ZbT (N:Nat) (a0_:Ze) (i4:Int):Option ((Int) ⊕ ((Unit) ⊕ (Int))) :=
 (if (decide (i4<((List.length a0_.Periods:Nat):Int))) then ((idx a0_.Periods i4).bind fun e506 =>
 (if ((decide (e506<1))||(decide (e506 > 240))) then (some (.inr (.inr 340))) else (some (.inl (w64 (i4+1)))))) else (some (.inr (.inl ()))))
def ZbS (N:Nat) (a0_:Ze) (i514:Int):Option ((Int) ⊕ ((Unit) ⊕ (Int))) :=
 (if (decide (i514<((List.length a0_.Uses:Nat):Int))) then ((idx a0_.Uses i514).bind fun e1016 =>
 (if ((decide (e1016.Stream<0))||((decide (e1016.Stream ≥ ((List.length a0_.Periods:Nat):Int)))||((decide (e1016.Port<0))||(decide (e1016.Port ≥ 48))))) then (some (.inr (.inr 340))) else ((idx a0_.Periods e1016.Stream).bind fun e1024 =>
 (if ((decide (e1016.From<0))||((decide (e1016.From ≥ e1024))||((decide (e1016.Long<1))||(decide (e1016.Long > e1024))))) then (some (.inr (.inr 340))) else (some (.inl (w64 (i514+1)))))))) else (some (.inr (.inl ()))))
def Za5 (N:Nat) (a0_:Ze):Option (Int) :=
 (if ((decide (((List.length a0_.Periods:Nat):Int) > 12))||(decide (((List.length a0_.Uses:Nat):Int) > 192))) then (some 340) else ((Zai (fun x:Int=>ZbT N a0_ x) N 0).bind fun o510=>match o510 with
 | (.inl p511)=>((Zce N a0_.Periods).bind fun r512 =>
 (if (r512.2 != 0) then (some 340) else ((Zai (fun x:Int=>ZbS N a0_ x) N 0).bind fun o1032=>match o1032 with
 | (.inl p1033)=>(some 0)
 | (.inr p1034)=>(some p1034))))
 | (.inr p1035)=>(some p1035)))
def Za4 (N:Nat) (a0_:Ze) (a1_:Int) (a2_:Int):Option (Zt × Int) :=
 ((Za5 N a0_).bind fun r1 =>
 (if (r1 != 0) then (some ((Zt.mk 0 0 0),r1)) else (((if (decide (a1_<0)) then (some true) else (if (decide (a1_ ≥ ((List.length a0_.Uses:Nat):Int))) then (some true) else ((idx a0_.Uses a1_).bind fun e7=>((ZbG N a0_ e7.Stream a2_).bind fun r8=>(some (!r8))))))).bind fun (j9:Bool) =>
 (if j9 then (some ((Zt.mk 0 0 0),2)) else ((idx a0_.Uses a1_).bind fun e11 =>
 ((Zbh N a0_ e11 a2_).bind fun r12 =>
 (some (r12,0))))))))
def Zbr (N:Nat) (a0_:Ze) (a2_:Int) (a4_:Int) (b18:Bool) (x16:Zz) (x17:Zz):Option ((Bool) × Nat) :=
 (if ((x16.Stream==x17.Stream)&&((x16.Port==x17.Port)&&((x16.From==x17.From)&&((x16.Long==x17.Long)&&true)))) then (some (true,1)) else ((Zbh N a0_ x16 a2_).bind fun r523 =>
 ((Zbh N a0_ x17 a4_).bind fun r526 =>
 ((Zej N r523 r526).bind fun r527 =>
 (if (!r527.1) then (some (true,1)) else (some (b18,0)))))))
def Zdg (N:Nat) (a0_:Ze) (a1_:Int) (a2_:Int) (a3_:Int) (a4_:Int):Option (Bool) :=
 ((Zgx N a0_ a1_ a3_).bind fun r10 =>
 ((ZeU N (fun (s:(Bool) × Nat) (x16:Zz) (x17:Zz)=>ZgU (fun v:Bool=>Zbr N a0_ a2_ a4_ v x16 x17) s) r10.1 r10.2.1 r10.2.2 (false,0)).bind fun o530 =>
 (if (o530.2==0) then (some false) else (if (o530.2==1) then (some o530.1) else none))))
def ZdO (N:Nat) (a0_:Zw) (a1_:(List Int)) (a2_:ZN→Option (Bool × Int)):Option (Bool × Int) :=
 ((Zeh N a0_ a1_).bind fun r1 =>
 (if (r1 != 0) then (some (false,r1)) else ((a2_ (ZN.mk a0_)).bind fun r3 =>
 (some (r3.1,r3.2)))))
def ZfK (N:Nat) (a0_:Zw) (a1_:(List Int)):Option ((List Int) × Int) :=
 ((ZdP N a0_ a1_ (fun x0=>Zdb N x0 a1_)).bind fun r4 =>
 (some (r4.1,r4.2)))
def Zem (N:Nat) (a0_:Ze) (a1_:Int) (a2_:Int) (a3_:Int) (a4_:Int):Option (Bool × Int) :=
 ((Za5 N a0_).bind fun r1 =>
 (if (r1 != 0) then (some (false,r1)) else (if ((decide (a1_<0))||((decide (a1_ ≥ ((List.length a0_.Periods:Nat):Int)))||((decide (a3_<0))||(decide (a3_ ≥ ((List.length a0_.Periods:Nat):Int)))))) then (some (false,2)) else ((((ZbG N a0_ a1_ a2_).bind fun r10=>(if (!r10) then (some true) else ((ZbG N a0_ a3_ a4_).bind fun r13=>(if (!r13) then (some true) else (if (a1_==a3_) then (some (a2_ != a4_)) else (some false))))))).bind fun (j18:Bool) =>
 (if j18 then (some (false,2)) else ((Zdg N a0_ a1_ a2_ a3_ a4_).bind fun r20 =>
 (some (r20,0))))))))
def Zdy (N:Nat) (a0_:Ze) (a1_:(List Int)) (i4:Int):Option ((Int) ⊕ ((Unit) ⊕ (Bool × Int))) :=
 (if (decide (i4<((List.length a1_:Nat):Int))) then ((idx a1_ i4).bind fun e506 =>
 ((ZbG N a0_ i4 e506).bind fun r507 =>
 (if (!r507) then (some (.inr (.inr (false,2)))) else (some (.inl (w64 (i4+1))))))) else (some (.inr (.inl ()))))
def Zdw (N:Nat) (a0_:Ze) (i511:Int) (e1013:Int) (l1014:List Int) (i1015:Int):Option ((Int) ⊕ ((Unit) ⊕ (Bool × Int))) :=
 (if (decide (i1015<((List.length l1014:Nat):Int))) then ((idx l1014 i1015).bind fun e1517 =>
 ((Zdg N a0_ i1015 e1517 i511 e1013).bind fun r1518 =>
 (if r1518 then (some (.inr (.inr (false,0)))) else (some (.inl (w64 (i1015+1))))))) else (some (.inr (.inl ()))))
def Zdx (N:Nat) (a0_:Ze) (a1_:(List Int)) (i511:Int):Option ((Int) ⊕ ((Unit) ⊕ (Bool × Int))) :=
 (if (decide (i511<((List.length a1_:Nat):Int))) then ((idx a1_ i511).bind fun e1013 =>
 ((subI a1_ 0 (w64 (i511+1))).bind fun l1014 =>
 ((Zai (fun x:Int=>Zdw N a0_ i511 e1013 l1014 x) N 0).bind fun o1520=>match o1520 with
 | (.inl p1521)=>(some (.inl (w64 (i511+1))))
 | (.inr p1522)=>(some (.inr (.inr p1522)))))) else (some (.inr (.inl ()))))
def ZhV (N:Nat) (a0_:Ze) (a1_:(List Int)):Option (Bool × Int) :=
 ((Za5 N a0_).bind fun r1 =>
 (if (r1 != 0) then (some (false,r1)) else (if (((List.length a1_:Nat):Int) != ((List.length a0_.Periods:Nat):Int)) then (some (false,2)) else ((Zai (fun x:Int=>Zdy N a0_ a1_ x) N 0).bind fun o509=>match o509 with
 | (.inl p510)=>((Zai (fun x:Int=>Zdx N a0_ a1_ x) N 0).bind fun o1523=>match o1523 with
 | (.inl p1524)=>(some (true,0))
 | (.inr p1525)=>(some p1525))
 | (.inr p1526)=>(some p1526)))))
def ZbR (N:Nat) (a0_:Ze):Option (Int × Int) :=
 ((Za5 N a0_).bind fun r1 =>
 (if (r1 != 0) then (some (0,r1)) else ((Zce N a0_.Periods).bind fun r3 =>
 (some (r3.1,r3.2)))))
def Zd6 (N:Nat) (a0_:Ze) (a1_:(List Int)):Option (Bool) :=
 ((ZhV N a0_ a1_).bind fun r1 =>
 (some (r1.1&&(r1.2==0))))
def Zbv (N:Nat) (a0_:Ze) (a1_:Int) (a2_:Int):Option (Bool) :=
 ((Zem N a0_ 0 a1_ 1 a2_).bind fun r1 =>
 (some (r1.1&&(r1.2==0))))
def ZfL (N:Nat) (a0_:Zw) (a1_:(List Int)) (a2_:(List Int)):Option (Bool × Int) :=
 ((ZdO N a0_ a1_ (fun x0=>Zdc N x0 a2_ a1_)).bind fun r6 =>
 (some (r6.1,r6.2)))
def Zgs (N:Nat) (a0_:Zw) (a1_:(List Int)):Option (Int × Int × Int) :=
 ((ZfK N a0_ a1_).bind fun r1 =>
 (if (r1.2 != 0) then (some (0,0,r1.2)) else ((idx r1.1 0).bind fun e3 =>
 ((idx r1.1 (w64 (((List.length r1.1:Nat):Int) - 1))).bind fun e4 =>
 (some (e3,e4,0))))))
def ZeJ (N:Nat) (a0_:Zw) (a1_:(List Int)) (a2_:Int) (a3_:Int):Option (Bool) :=
 ((Zgs N a0_ a1_).bind fun r1 =>
 (some ((r1.2.2==0)&&((r1.1==a2_)&&(r1.2.1==a3_)))))
def ZdG (N:Nat) (c0_:Zx) (c1_:Zw):Option (Bool) :=
 (if (decide (((List.length c0_.Routes:Nat):Int)<2)) then (some true) else ((idx c0_.Routes 0).bind fun e5 =>
 ((idx c0_.Routes 1).bind fun e7 =>
 ((ZfL N c1_ e5 e7).bind fun r8 =>
 (some ((r8.2==0)&&r8.1))))))
def ZbL (N:Nat) (c0_:Zx) (c1_:Zw) (i2:Int):Option ((Int) ⊕ ((Unit) ⊕ (Bool))) :=
 (if (decide (i2<((List.length c0_.Routes:Nat):Int))) then ((idx c0_.Routes i2).bind fun e504 =>
 ((ZeJ N c1_ e504 c0_.Talker c0_.Listener).bind fun r508 =>
 (if (!r508) then (some (.inr (.inr false))) else (some (.inl (w64 (i2+1))))))) else (some (.inr (.inl ()))))
def ZdH (N:Nat) (c0_:Zx) (c1_:Zw):Option (Bool) :=
 ((Zai (fun x:Int=>ZbL N c0_ c1_ x) N 0).bind fun o510=>match o510 with
 | (.inl p511)=>(some true)
 | (.inr p512)=>(some p512))
def Zdt (N:Nat) (a0_:Zw) (a1_:Zx):Option (Bool) :=
 ((ZdN N  a1_).bind fun r8 =>
 (if (!r8) then (some false) else ((ZdM N  a0_ a1_).bind fun r11 =>
 (if (!r11) then (some false) else ((ZdL N  a1_).bind fun r14 =>
 (if (!r14) then (some false) else ((ZdK N  a1_).bind fun r17 =>
 (if (!r17) then (some false) else ((ZdJ N  a1_).bind fun r20 =>
 (if (!r20) then (some false) else ((ZdI N  a1_).bind fun r23 =>
 (if (!r23) then (some false) else ((ZdH N  a1_ a0_).bind fun r26 =>
 (if (!r26) then (some false) else ((ZdG N  a1_ a0_).bind fun r29 =>
 (if (!r29) then (some false) else (some true)))))))))))))))))
def Zfe (N:Nat) (a0_:Zw) (a1_:Z5) (a2_:Zx) (a3_:Int):Option (Int) :=
 ((ZdW N a0_).bind fun r1 =>
 (if (r1 != 0) then (some r1) else ((ZbN N a1_).bind fun r3 =>
 (if (r3 != 0) then (some r3) else ((Zdt N a0_ a2_).bind fun r5 =>
 (if (!r5) then (some 321) else (((if (a2_.Class != 7) then (some true) else ((Z9 N a3_ 0 (w64 (((List.length a2_.Routes:Nat):Int) - 1))).bind fun r9=>(some (!r9))))).bind fun (j10:Bool) =>
 (if j10 then (some 2) else (some 0)))))))))
def Zby (N:Nat) (a0_:Zw) (a1_:(List Zx)) (i4:Int):Option ((Int) ⊕ ((Unit) ⊕ (Int))) :=
 (if (decide (i4<((List.length a1_:Nat):Int))) then ((idx a1_ i4).bind fun e506 =>
 ((Zdt N a0_ e506).bind fun r507 =>
 (if (!r507) then (some (.inr (.inr 321))) else (some (.inl (w64 (i4+1))))))) else (some (.inr (.inl ()))))
def Zbx (N:Nat) (a1_:(List Zx)) (i514:Int) (l515:(List (Int × Bool))):Option ((Int × (List (Int × Bool))) ⊕ ((Unit) ⊕ (Int))) :=
 (if (decide (i514<((List.length a1_:Nat):Int))) then ((idx a1_ i514).bind fun e1018 =>
 (if (ZiF l515 e1018.Id false) then (some (.inr (.inr 322))) else (some (.inl ((w64 (i514+1)),(Zdh l515 e1018.Id true)))))) else (some (.inr (.inl ()))))
def Zch (N:Nat) (a0_:Zw) (a1_:(List Zx)):Option (Int) :=
 ((ZdW N a0_).bind fun r1 =>
 (if (r1 != 0) then (some r1) else (if (decide (((List.length a1_:Nat):Int) > 12)) then (some 3) else ((Zai (fun x:Int=>Zby N a0_ a1_ x) N 0).bind fun o509=>match o509 with
 | (.inl p510)=>((Zai (fun x:Int × (List (Int × Bool))=>Zbx N a1_ x.1 x.2) N (0,[])).bind fun o1023=>match o1023 with
 | (.inl p1024)=>(some 0)
 | (.inr p1025)=>(some p1025))
 | (.inr p1026)=>(some p1026)))))
def ZbX (N:Nat) (l14:(List Z7)) (x12:Z7):Option ((List Z7)) :=
 ((appI 40 l14 [x12]).bind fun l518 =>
 (some l518))
def ZfI (N:Nat) (a0_:Zw) (a1_:Z5) (a2_:Zx) (a3_:Int):Option ((List Z7) × Int) :=
 ((Zfe N a0_ a1_ a2_ a3_).bind fun r1 =>
 (if (r1 != 0) then (some ([],r1)) else ((Zed N a0_ a1_ a2_ a3_).bind fun r5 =>
 ((Zc9 N (fun (s:(List Z7)) (x12:Z7)=>ZeC (fun v:(List Z7)=>ZbX N v x12) s) r5.1 r5.2.1 r5.2.2.1 r5.2.2.2 []).bind fun o520 =>
 (some (o520,0))))))
def ZbW (N:Nat) (a0_:Zw) (a1_:Z5) (i22:Int) (x21:Z7):Option (Int) :=
 ((idx a0_.Links (w64 (Int.tdiv x21.Port 2))).bind fun e524 =>
 (some (w64 ((w64 ((w64 (x21.Open+x21.Long))+e524.Delay))+a1_.Proc))))
def ZfH (N:Nat) (a0_:Zw) (a1_:Z5) (a2_:Zx) (a3_:Int):Option (Int × Int) :=
 ((Zfe N a0_ a1_ a2_ a3_).bind fun r7 =>
 (if (r7 != 0) then (some (0,r7)) else ((Zed N a0_ a1_ a2_ a3_).bind fun r14 =>
 ((Zc9 N (fun (s:Int) (x21:Z7)=>ZeC (fun v:Int=>ZbW N a0_ a1_ v x21) s) r14.1 r14.2.1 r14.2.2.1 r14.2.2.2 0).bind fun o527 =>
 (some (o527,0))))))
def ZbP (N:Nat) (a0_:Zaa) (a2_:Z5) (a3_:Zx) (r518:(List Z7) × Int) (i523:Int) (l524:(List Zz)):Option ((Int × (List Zz)) ⊕ (((List Zz)))) :=
 (if (decide (i523<((List.length r518.1:Nat):Int))) then ((idx r518.1 i523).bind fun e1029 =>
 ((Zd3 N e1029.Early a2_.Grid).bind fun r1030 =>
 ((Zd3 N (w64 ((w64 ((w64 (e1029.Open+e1029.Long))+a2_.Grid)) - 1)) a2_.Grid).bind fun r1031 =>
 ((Zd3 N r1030 a3_.Period).bind fun r1032 =>
 ((appI 32 l524 [(Zz.mk ((List.length a0_.Problem.Periods:Nat):Int) e1029.Port (w64 (r1030 - (w64 (r1032 * a3_.Period)))) (w64 (r1031 - r1030)))]).bind fun l1036 =>
 (some (.inl ((w64 (i523+1)),l1036)))))))) else (some (.inr l524)))
def ZbQ (N:Nat) (a0_:Zaa) (a1_:Zw) (a2_:Z5) (a3_:Zx) (l6:List Int) (i11:Int) (b12:Bool) (l13:(List Zz)):Option ((Int × Bool × (List Zz)) ⊕ ((Bool × (List Zz)) ⊕ (Int × Zaa))) :=
 (if (decide (i11<((List.length a3_.Routes:Nat):Int))) then ((ZfI N a1_ a2_ a3_ i11).bind fun r518 =>
 (if (r518.2 != 0) then (some (.inr (.inr (r518.2,(Zaa.mk (Ze.mk l6 l13) b12))))) else ((Zai (fun x:Int × (List Zz)=>ZbP N a0_ a2_ a3_ r518 x.1 x.2) N (0,l13)).bind fun o1038 =>
 ((ZfH N a1_ a2_ a3_ i11).bind fun r1039 =>
 (if (r1039.2 != 0) then (some (.inr (.inr (r1039.2,(Zaa.mk (Ze.mk l6 o1038) b12))))) else (((if b12 then (some true) else (some (decide ((w64 (r1039.1+(w64 (2 * a2_.Slack)))) > a3_.Deadline))))).bind fun (j1049:Bool) =>
 (some (.inl ((w64 (i11+1)),j1049,o1038))))))))) else (some (.inr (.inl (b12,l13)))))
def ZdU (N:Nat) (a0_:Zaa) (a1_:Zw) (a2_:Z5) (a3_:Zx):Option (Int × Zaa) :=
 ((appI 8 a0_.Problem.Periods [a3_.Period]).bind fun l6 =>
 ((Zai (fun x:Int × Bool × (List Zz)=>ZbQ N a0_ a1_ a2_ a3_ l6 x.1 x.2.1 x.2.2) N (0,a0_.late,a0_.Problem.Uses)).bind fun o1050=>match o1050 with
 | (.inl p1051)=>(some (0,(Zaa.mk (Ze.mk l6 p1051.2) p1051.1)))
 | (.inr p1052)=>(some p1052)))
def Zfg (N:Nat) (a0_:Zw) (a1_:Z5) (a2_:(List Zx)) (i12:Int) (b13:Bool) (l14:(List Int)) (l15:(List Zz)):Option ((Int × Bool × (List Int) × (List Zz)) ⊕ ((Bool × (List Int) × (List Zz)) ⊕ (Ze × Int))) :=
 (if (decide (i12<((List.length a2_:Nat):Int))) then ((idx a2_ i12).bind fun e520 =>
 (if (e520.Class != 7) then (some (.inl ((w64 (i12+1)),b13,l14,l15))) else ((ZdU N (Zaa.mk (Ze.mk l14 l15) b13) a0_ a1_ e520).bind fun r522 =>
 (if (r522.1 != 0) then (some (.inr (.inr ((Ze.mk ([]) ([])),r522.1)))) else (some (.inl ((w64 (i12+1)),r522.2.late,r522.2.Problem.Periods,r522.2.Problem.Uses))))))) else (some (.inr (.inl (b13,l14,l15)))))
def ZkO (N:Nat) (a0_:Zw) (a1_:Z5) (a2_:(List Zx)):Option (Ze × Int) :=
 ((Zch N a0_ ([])).bind fun r1 =>
 (if (r1 != 0) then (some ((Ze.mk ([]) ([])),r1)) else ((ZbN N a1_).bind fun r3 =>
 (if (r3 != 0) then (some ((Ze.mk ([]) ([])),r3)) else ((Zch N a0_ a2_).bind fun r5 =>
 (if (r5 != 0) then (some ((Ze.mk ([]) ([])),r5)) else ((Zai (fun x:Int × Bool × (List Int) × (List Zz)=>Zfg N a0_ a1_ a2_ x.1 x.2.1 x.2.2.1 x.2.2.2) N (0,false,[],[])).bind fun o527=>match o527 with
 | (.inl p528)=>((ZcU N (Zaa.mk (Ze.mk p528.2.1 p528.2.2) p528.1)).bind fun r529 =>
 (if (r529 != 0) then (some ((Ze.mk ([]) ([])),r529)) else (some ((Ze.mk p528.2.1 p528.2.2),0))))
 | (.inr p533)=>(some p533))))))))
def Zdz (N:Nat) (a0_:(List Zx)):Option (Ze × Int) :=
 ((ZgG N).bind fun r1 =>
 ((ZkO N r1 (Z5.mk 100 2 10 8000) a0_).bind fun r2 =>
 (some (r2.1,r2.2))))
def Zdn (N:Nat):Option (Bool) :=
 ((Zao N 1 20 10000).bind fun r1 =>
 ((Zdz N ([r1])).bind fun r2 =>
 ((Zao N 1 8 10000).bind fun r3 =>
 ((Zdz N ([r3])).bind fun r4 =>
 ((Zao N 1 20 1718).bind fun r5 =>
 ((Zdz N ([r5])).bind fun r6 =>
 ((Zao N 1 20 10000).bind fun r7 =>
 ((Zao N 2 30 10000).bind fun r8 =>
 ((Zdz N ([r7,r8])).bind fun r9 =>
 ((Zao N 1 40 10000).bind fun r10 =>
 ((Zao N 2 40 10000).bind fun r11 =>
 ((Zdz N ([r10,r11])).bind fun r12 =>
 ((Zdz N ([])).bind fun r13 =>
 ((ZbR N r9.1).bind fun r14 =>
 ((ZbR N r13.1).bind fun r15 =>
 (((if (r2.2 != 0) then (some true) else (if (r9.2 != 0) then (some true) else (if (r12.2 != 0) then (some true) else (if (r13.2 != 0) then (some true) else (if (r14.2 != 0) then (some true) else (if (r15.2 != 0) then (some true) else ((Zgv N r2.1 (Ze.mk ([20]) ([(Zz.mk 0 0 0 8),(Zz.mk 0 2 8 9)]))).bind fun r28=>(some (!r28)))))))))).bind fun (j29:Bool) =>
 (if j29 then (some false) else ((((Zbv N r9.1 0 8).bind fun r31=>(if r31 then ((Zbv N r9.1 0 9).bind fun r33=>(if r33 then ((Zbv N r9.1 0 10).bind fun r35=>(if r35 then ((Zbv N r9.1 0 2).bind fun r37=>(some r37)) else (some false))) else (some false))) else (some false)))).bind fun (j41:Bool) =>
 (((if (r4.2==341) then (if (r6.2==342) then (if j41 then ((Zd6 N r12.1 ([0,9])).bind fun r45=>(if r45 then ((Zd6 N r12.1 ([0,8])).bind fun r47=>(if (!r47) then ((Zd6 N r12.1 ([35,4])).bind fun r49=>(if r49 then (if (r14.1==60) then (some (r15.1==1)) else (some false)) else (some false))) else (some false))) else (some false))) else (some false)) else (some false)) else (some false))).bind fun (j59:Bool) =>
 (some j59))))))))))))))))))))
def Zb7 (N:Nat) (a0_:Zam) (a1_:Ze) (a2_:Int) (a3_:Int) (a4_:Int):Option (Bool) :=
 ((Zb0 N a0_ a1_ a2_).bind fun r1 =>
 ((ZbR N r1.x0).bind fun r2 =>
 ((Zcb N r1.x0).bind fun r3 =>
 (((if (r2.1 != r3.1) then (some true) else (if (r2.2 != r3.2) then (some true) else ((Za5 N r1.x0).bind fun r8=>((Zcc N r1.x0).bind fun r9=>(some (r8 != r9))))))).bind fun (j10:Bool) =>
 (if j10 then (some false) else ((Za4 N r1.x0 a3_ a4_).bind fun r12 =>
 ((ZaM N r1.x0 a3_ a4_).bind fun r13 =>
 (if ((!((r12.1.Period==r13.1.Period)&&((r12.1.From==r13.1.From)&&((r12.1.Long==r13.1.Long)&&true))))||(r12.2 != r13.2)) then (some false) else ((Za4 N r1.x0 (Int.tmod (w64 (a2_)) 13) (Int.tmod (w64 (a2_)) 5)).bind fun r17 =>
 ((ZaM N r1.x0 (Int.tmod (w64 (a2_)) 13) (Int.tmod (w64 (a2_)) 5)).bind fun r18 =>
 (if ((!((r17.1.Period==r18.1.Period)&&((r17.1.From==r18.1.From)&&((r17.1.Long==r18.1.Long)&&true))))||(r17.2 != r18.2)) then (some false) else ((Za4 N r1.x0 0 0).bind fun r22 =>
 ((ZaM N r1.x0 0 0).bind fun r23 =>
 (if ((!((r22.1.Period==r23.1.Period)&&((r22.1.From==r23.1.From)&&((r22.1.Long==r23.1.Long)&&true))))||(r22.2 != r23.2)) then (some false) else ((ZbR N r1.x1).bind fun r27 =>
 ((Zcb N r1.x1).bind fun r28 =>
 (((if (r27.1 != r28.1) then (some true) else (if (r27.2 != r28.2) then (some true) else ((Za5 N r1.x1).bind fun r33=>((Zcc N r1.x1).bind fun r34=>(some (r33 != r34))))))).bind fun (j35:Bool) =>
 (if j35 then (some false) else ((Za4 N r1.x1 a3_ a4_).bind fun r37 =>
 ((ZaM N r1.x1 a3_ a4_).bind fun r38 =>
 (if ((!((r37.1.Period==r38.1.Period)&&((r37.1.From==r38.1.From)&&((r37.1.Long==r38.1.Long)&&true))))||(r37.2 != r38.2)) then (some false) else ((Za4 N r1.x1 (Int.tmod (w64 (a2_)) 13) (Int.tmod (w64 (a2_)) 5)).bind fun r42 =>
 ((ZaM N r1.x1 (Int.tmod (w64 (a2_)) 13) (Int.tmod (w64 (a2_)) 5)).bind fun r43 =>
 (if ((!((r42.1.Period==r43.1.Period)&&((r42.1.From==r43.1.From)&&((r42.1.Long==r43.1.Long)&&true))))||(r42.2 != r43.2)) then (some false) else ((Za4 N r1.x1 0 0).bind fun r47 =>
 ((ZaM N r1.x1 0 0).bind fun r48 =>
 (if ((!((r47.1.Period==r48.1.Period)&&((r47.1.From==r48.1.From)&&((r47.1.Long==r48.1.Long)&&true))))||(r47.2 != r48.2)) then (some false) else ((ZbR N r1.x2).bind fun r52 =>
 ((Zcb N r1.x2).bind fun r53 =>
 (((if (r52.1 != r53.1) then (some true) else (if (r52.2 != r53.2) then (some true) else ((Za5 N r1.x2).bind fun r58=>((Zcc N r1.x2).bind fun r59=>(some (r58 != r59))))))).bind fun (j60:Bool) =>
 (if j60 then (some false) else ((Za4 N r1.x2 a3_ a4_).bind fun r62 =>
 ((ZaM N r1.x2 a3_ a4_).bind fun r63 =>
 (if ((!((r62.1.Period==r63.1.Period)&&((r62.1.From==r63.1.From)&&((r62.1.Long==r63.1.Long)&&true))))||(r62.2 != r63.2)) then (some false) else ((Za4 N r1.x2 (Int.tmod (w64 (a2_)) 13) (Int.tmod (w64 (a2_)) 5)).bind fun r67 =>
 ((ZaM N r1.x2 (Int.tmod (w64 (a2_)) 13) (Int.tmod (w64 (a2_)) 5)).bind fun r68 =>
 (if ((!((r67.1.Period==r68.1.Period)&&((r67.1.From==r68.1.From)&&((r67.1.Long==r68.1.Long)&&true))))||(r67.2 != r68.2)) then (some false) else ((Za4 N r1.x2 0 0).bind fun r72 =>
 ((ZaM N r1.x2 0 0).bind fun r73 =>
 (if ((!((r72.1.Period==r73.1.Period)&&((r72.1.From==r73.1.From)&&((r72.1.Long==r73.1.Long)&&true))))||(r72.2 != r73.2)) then (some false) else ((Zdn N).bind fun r77 =>
 (some r77))))))))))))))))))))))))))))))))))))))))))
end Go.Sh

