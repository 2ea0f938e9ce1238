/- Part of the proof; written by a program out of the texts in wip/. -/
import Derived.Test.YthipedbbcjemhaaPlanMovesE33
namespace Go.Sh
open Go Go.Eng
set_option linter.unusedVariables false
set_option linter.unusedSimpArgs false
set_option maxRecDepth 100000
structure Zis where
 x0:Int
 x1:Int
 x2:Int
 x3:Int
def Zd2 (v:Zis):List PC:=[.int .u8 v.x0,.int .u8 v.x1,.int .u8 v.x2,.int .u8 v.x3]
structure ZaM where
 Periods:(List Int)
 Uses:(List Zis)
def Zjv (v:ZaM):List PC:=[.sl 1 false (List.map (eI .u8) v.Periods),.sl 4 false (List.map Zd2 v.Uses)]
structure Zy where
 Stream:Int
 Port:Int
 From:Int
 Long:Int
def Zi (v:Zy):List PC:=[.int .i64 v.Stream,.int .i64 v.Port,.int .i64 v.From,.int .i64 v.Long]
structure Ze where
 Periods:(List Int)
 Uses:(List Zy)
structure Zs where
 Period:Int
 From:Int
 Long:Int
def Zaa (v:Zs):List PC:=[.int .i64 v.Period,.int .i64 v.From,.int .i64 v.Long]
structure ZdA where
 A:Int
 B:Int
 Per:Int
 Delay:Int
def ZN (v:ZdA):List PC:=[.int .i64 v.A,.int .i64 v.B,.int .i64 v.Per,.int .i64 v.Delay]
structure Zv where
 Nodes:Int
 Station:(List Bool)
 Links:(List ZdA)
structure Z2 where
 Grid:Int
 Slack:Int
 Proc:Int
 Cap:Int
structure Zd3 where
 Burst:Int
 Rate:Int
structure Zw where
 Id:Int
 Talker:Int
 Listener:Int
 Class:Int
 Size:Int
 Period:Int
 Bucket:Zd3
 Deadline:Int
 Routes:(List (List Int))
def Zav (v:Zw):List PC:=[.int .i64 v.Id,.int .i64 v.Talker,.int .i64 v.Listener,.int .i64 v.Class,.int .i64 v.Size,.int .i64 v.Period,.int .i64 v.Bucket.Burst,.int .i64 v.Bucket.Rate,.int .i64 v.Deadline,.sl 1 false (List.map (eSl 1 eI64) v.Routes)]
structure Z6 where
 Problem:Ze
 late:Bool
structure Z4 where
 Port:Int
 Early:Int
 Late:Int
 Open:Int
 Long:Int
def ZY (v:Z4):List PC:=[.int .i64 v.Port,.int .i64 v.Early,.int .i64 v.Late,.int .i64 v.Open,.int .i64 v.Long]
structure Za4 where
 x0:Bool
 x1:Bool
 x2:Bool
 x3:Bool
 x4:Bool
 x5:Bool
 x6:Bool
 x7:Bool
 x8:Bool
 x9:Bool
 x10:Bool
 x11:Bool
 x12:Bool
 x13:Bool
 x14:Bool
 x15:Bool
 x16:Bool
 x17:Bool
 x18:Bool
 x19:Bool
 x20:Bool
 x21:Bool
 x22:Bool
 x23:Bool
structure ZM where
 Topo:Zv
structure Zl where
 x0:Bool
 x1:Bool
 x2:Bool
 x3:Bool
 x4:Bool
 x5:Bool
 x6:Bool
 x7:Bool
 x8:Bool
 x9:Bool
 x10:Bool
 x11:Bool
structure Zau where
 port:Int
 from_:Int
 to_:Int
abbrev Zg (f:Bool) (l:List Int):AV:=.p (.sl 1 f (List.map eI64 l))
abbrev ZbZ (f:Bool) (l:List Int):AV:=.p (.sl 1 f (List.map (eI .u8) l))
abbrev Zp (f:Bool) (l:List Zy):AV:=.p (.sl 4 f (List.map Zi l))
abbrev ZfD (f:Bool) (l:List Zis):AV:=.p (.sl 4 f (List.map Zd2 l))
abbrev ZW (f:Bool) (l:List Zw):AV:=.p (.sl 10 f (List.map Zav l))
abbrev s_eB (f:Bool) (l:List Bool):AV:=.p (.sl 1 f (List.map eB l))
abbrev Zk (f:Bool) (l:List ZdA):AV:=.p (.sl 4 f (List.map ZN l))
abbrev ZI (f:Bool) (l:List (List Int)):AV:=.p (.sl 1 f (List.map (eSl 1 eI64) l))
abbrev Z7 (f:Bool) (l:List Zs):AV:=.p (.sl 3 f (List.map Zaa l))
abbrev ZaI (f:Bool) (l:List Z4):AV:=.p (.sl 5 f (List.map ZY l))
abbrev Zf8 (v:Zis):List AV:=[.p (.int .u8 v.x0),.p (.int .u8 v.x1),.p (.int .u8 v.x2),.p (.int .u8 v.x3)]
abbrev Z3 (v:ZaM):List AV:=[ZbZ false v.Periods,ZfD false v.Uses]
abbrev ZP (v:Zy):List AV:=[iv v.Stream,iv v.Port,iv v.From,iv v.Long]
abbrev Zd (v:Ze):List AV:=[Zg false v.Periods,Zp false v.Uses]
abbrev Za2 (v:Zs):List AV:=[iv v.Period,iv v.From,iv v.Long]
abbrev ZaA (v:ZdA):List AV:=[iv v.A,iv v.B,iv v.Per,iv v.Delay]
abbrev Zc (v:Zv):List AV:=[iv v.Nodes,s_eB false v.Station,Zk false v.Links]
abbrev Zh (v:Z2):List AV:=[iv v.Grid,iv v.Slack,iv v.Proc,iv v.Cap]
abbrev ZcI (v:Zd3):List AV:=[iv v.Burst,iv v.Rate]
abbrev Zf (v:Zw):List AV:=[iv v.Id,iv v.Talker,iv v.Listener,iv v.Class,iv v.Size,iv v.Period,iv v.Bucket.Burst,iv v.Bucket.Rate,iv v.Deadline,ZI false v.Routes]
abbrev Za3 (v:Z4):List AV:=[iv v.Port,iv v.Early,iv v.Late,iv v.Open,iv v.Long]
abbrev Z1 (v:Za4):List AV:=[bv v.x0,bv v.x1,bv v.x2,bv v.x3,bv v.x4,bv v.x5,bv v.x6,bv v.x7,bv v.x8,bv v.x9,bv v.x10,bv v.x11,bv v.x12,bv v.x13,bv v.x14,bv v.x15,bv v.x16,bv v.x17,bv v.x18,bv v.x19,bv v.x20,bv v.x21,bv v.x22,bv v.x23]
def Za4.l (v:Za4):List Bool:=[v.x0,v.x1,v.x2,v.x3,v.x4,v.x5,v.x6,v.x7,v.x8,v.x9,v.x10,v.x11,v.x12,v.x13,v.x14,v.x15,v.x16,v.x17,v.x18,v.x19,v.x20,v.x21,v.x22,v.x23]
def Za4.get (v:Za4) (i:Int):Option Bool:=idx v.l i
abbrev Zq (v:Zl):List AV:=[bv v.x0,bv v.x1,bv v.x2,bv v.x3,bv v.x4,bv v.x5,bv v.x6,bv v.x7,bv v.x8,bv v.x9,bv v.x10,bv v.x11]
def Zl.l (v:Zl):List Bool:=[v.x0,v.x1,v.x2,v.x3,v.x4,v.x5,v.x6,v.x7,v.x8,v.x9,v.x10,v.x11]
def Zl.ofL (l:List Bool):Zl:=⟨l.getD 0 false,l.getD 1 false,l.getD 2 false,l.getD 3 false,l.getD 4 false,l.getD 5 false,l.getD 6 false,l.getD 7 false,l.getD 8 false,l.getD 9 false,l.getD 10 false,l.getD 11 false⟩
def Zl.get (v:Zl) (i:Int):Option Bool:=idx v.l i
def Zl.set (v:Zl) (i:Int) (x:Bool):Zl:=Zl.ofL (v.l.set i.toNat x)
theorem Zl.l_ofL (l:List Bool) (h:l.length=12):(Zl.ofL l).l=l:=ofL_all 12 false l h rfl
theorem Zl.l_set (v:Zl) (i:Int) (x:Bool):(v.set i x).l=v.l.set i.toNat x:=Zl.l_ofL _ (by rw [List.length_set];rfl)
theorem Zl.c_set (v:Zl) (i:Int) (x:Bool):Zq (v.set i x)=(v.l.set i.toNat x).map (fun x=>bv x):=by rw [← Zl.l_set];rfl
abbrev ZT (v:Zau):List AV:=[iv v.port,iv v.from_,iv v.to_]
def ZbF (N:Nat) (a0_:Ze) (a1_:(List Int)) (i3:Int) (l4:(List Int)):Option ((Int × (List Int)) ⊕ (((List Int)))) :=
 (if (decide (i3<((List.length a0_.Periods:Nat):Int))) then (((if (decide (i3<((List.length a1_:Nat):Int))) then ((idx a1_ i3).bind fun e1010 =>
 ((idx a0_.Periods i3).bind fun e1011 =>
 ((remI (w64 (e1010)) e1011).bind fun m1012 =>
 (some m1012)))) else (some 0))).bind fun (j1008:Int) =>
 ((appI 8 l4 [j1008]).bind fun l1015 =>
 (some (.inl ((w64 (i3+1)),l1015))))) else (some (.inr l4)))
def ZdX (N:Nat) (a0_:Ze) (a1_:(List Int)):Option ((List Int)) :=
 ((Zaf (fun x:Int × (List Int)=>ZbF N a0_ a1_ x.1 x.2) N (0,[])).bind fun o1016 =>
 (some o1016))
def Zae (N:Nat) (a0_:ZaM) (i3:Int) (l4:(List Int)):Option ((Int × (List Int)) ⊕ (((List Int)))) :=
 (if ((decide (i3<((List.length a0_.Periods:Nat):Int)))&&(decide (i3<5))) then ((idx a0_.Periods i3).bind fun e510 =>
 ((idx [4,6,8,12,3,5,10,24] (Int.tmod e510 8)).bind fun e511 =>
 ((appI 8 l4 [e511]).bind fun l514 =>
 (some (.inl ((w64 (i3+1)),l514)))))) else (some (.inr l4)))
def Zad (N:Nat) (a0_:ZaM) (o515:(List Int)) (i519:Int) (l520:(List Zy)):Option ((Int × (List Zy)) ⊕ (((List Zy)))) :=
 (((if (decide (i519<((List.length a0_.Uses:Nat):Int))) then (if (decide (i519<12)) then (some (decide (((List.length o515:Nat):Int) > 0))) else (some false)) else (some false))).bind fun (j1029:Bool) =>
 (if j1029 then ((idx a0_.Uses i519).bind fun e1031 =>
 ((remI (w64 (e1031.x0)) ((List.length o515:Nat):Int)).bind fun m1033 =>
 ((idx o515 m1033).bind fun e1034 =>
 ((remI (w64 (e1031.x2)) e1034).bind fun m1037 =>
 ((remI (w64 (e1031.x3)) e1034).bind fun m1038 =>
 ((remI (Int.tmod m1038 4) e1034).bind fun m1039 =>
 ((appI 32 l520 [(Zy.mk m1033 (w64 ((Int.tmod e1031.x1 4))) m1037 (w64 (1+m1039)))]).bind fun l1042 =>
 (some (.inl ((w64 (i519+1)),l1042)))))))))) else (some (.inr l520))))
def ZaL (N:Nat) (a0_:ZaM):Option (Ze) :=
 ((Zaf (fun x:Int × (List Int)=>Zae N a0_ x.1 x.2) N (0,[])).bind fun o515 =>
 ((Zaf (fun x:Int × (List Zy)=>Zad N a0_ o515 x.1 x.2) N (0,[])).bind fun o1043 =>
 (some (Ze.mk o515 o1043))))
def ZgE (N:Nat):Option (Zv) :=
 (some (Zv.mk 3 ([true,false,true]) ([(ZdA.mk 0 1 8 5),(ZdA.mk 1 2 8 5)])))
def Zal (N:Nat) (a0_:Int) (a1_:Int) (a2_:Int):Option (Zw) :=
 (some (Zw.mk a0_ 0 2 7 100 a1_ (Zd3.mk 0 0) a2_ ([[0,2]])))
def Zb1 (N:Nat) (a0_:Ze) (a1_:Int) (a2_:Int):Option (Bool) :=
 (((if (decide (a2_ ≥ 0)) then ((idx a0_.Periods a1_).bind fun e2=>(some (decide (a2_<e2)))) else (some false))).bind fun (j4:Bool) =>
 (some j4))
def ZjX (N:Nat) (a0_:Ze) (a1_:Int) (a2_:Int):Option (Bool) :=
 (((if (decide (a1_ ≥ 0)) then (if (decide (a1_<((List.length a0_.Periods:Nat):Int))) then (if (decide (a2_ ≥ 0)) then ((idx a0_.Periods a1_).bind fun e4=>(some (decide (a2_<e4)))) else (some false)) else (some false)) else (some false))).bind fun (j8:Bool) =>
 (some j8))
def Zhi (N:Nat) (a0_:Ze) (a1_:(List Int)) (i2:Int):Option ((Int) ⊕ ((Unit) ⊕ (Bool))) :=
 (if (decide (i2<((List.length a1_:Nat):Int))) then ((idx a1_ i2).bind fun e504 =>
 ((ZjX N a0_ i2 e504).bind fun r505 =>
 (if (!r505) then (some (.inr (.inr false))) else (some (.inl (w64 (i2+1))))))) else (some (.inr (.inl ()))))
def ZmU (N:Nat) (a0_:Ze) (a1_:(List Int)):Option (Bool) :=
 (if (((List.length a1_:Nat):Int) != ((List.length a0_.Periods:Nat):Int)) then (some false) else ((Zaf (fun x:Int=>Zhi N a0_ a1_ x) N 0).bind fun o507=>match o507 with
 | (.inl p508)=>(some true)
 | (.inr p509)=>(some p509)))
def Zdb (N:Nat) (a0_:Ze) (a1_:Ze) (i4:Int):Option ((Int) ⊕ ((Unit) ⊕ (Bool))) :=
 (if (decide (i4<((List.length a0_.Periods:Nat):Int))) then ((idx a0_.Periods i4).bind fun e506 =>
 ((idx a1_.Periods i4).bind fun e507 =>
 (if (e506 != e507) then (some (.inr (.inr false))) else (some (.inl (w64 (i4+1))))))) else (some (.inr (.inl ()))))
def Zda (N:Nat) (a0_:Ze) (a1_:Ze) (i511:Int):Option ((Int) ⊕ ((Unit) ⊕ (Bool))) :=
 (if (decide (i511<((List.length a0_.Uses:Nat):Int))) then ((idx a0_.Uses i511).bind fun e1013 =>
 ((idx a1_.Uses i511).bind fun e1014 =>
 (if (!((e1013.Stream==e1014.Stream)&&((e1013.Port==e1014.Port)&&((e1013.From==e1014.From)&&((e1013.Long==e1014.Long)&&true))))) then (some (.inr (.inr false))) else (some (.inl (w64 (i511+1))))))) else (some (.inr (.inl ()))))
def Zgt (N:Nat) (a0_:Ze) (a1_:Ze):Option (Bool) :=
 (if ((((List.length a0_.Periods:Nat):Int) != ((List.length a1_.Periods:Nat):Int))||(((List.length a0_.Uses:Nat):Int) != ((List.length a1_.Uses:Nat):Int))) then (some false) else ((Zaf (fun x:Int=>Zdb N a0_ a1_ x) N 0).bind fun o509=>match o509 with
 | (.inl p510)=>((Zaf (fun x:Int=>Zda N a0_ a1_ x) N 0).bind fun o1016=>match o1016 with
 | (.inl p1017)=>(some true)
 | (.inr p1018)=>(some p1018))
 | (.inr p1019)=>(some p1019)))
def ZjY (N:Nat) (a0_:(List Int)) (i1:Int) (b503:Bool) (i504:Int):Option ((Bool × Int) ⊕ ((Bool))) :=
 (if (decide (i504<((List.length a0_:Nat):Int))) then (((if b503 then ((idx a0_ i504).bind fun e1007=>((remI i1 e1007).bind fun m1008=>(if (m1008==0) then (some true) else (some false)))) else (some false))).bind fun (j1012:Bool) =>
 (some (.inl (j1012,(w64 (i504+1)))))) else (some (.inr b503)))
def ZjZ (N:Nat) (a0_:(List Int)) (i1:Int):Option ((Int) ⊕ ((Unit) ⊕ (Int))) :=
 (if (decide (i1≤960)) then ((Zaf (fun x:Bool × Int=>ZjY N a0_ i1 x.1 x.2) N (true,0)).bind fun o1013 =>
 (if o1013 then (some (.inr (.inr i1))) else (some (.inl (w64 (i1+1)))))) else (some (.inr (.inl ()))))
def ref24_Lcm (N:Nat) (a0_:(List Int)):Option (Int) :=
 ((Zaf (fun x:Int=>ZjZ N a0_ x) N 1).bind fun o1015=>match o1015 with
 | (.inl p1016)=>(some 0)
 | (.inr p1017)=>(some p1017))
def ZbG (N:Nat) (a0_:Ze) (a1_:Zy) (a2_:Int):Option (Zs) :=
 ((idx a0_.Periods a1_.Stream).bind fun e1 =>
 ((remI (w64 (a1_.From+a2_)) e1).bind fun m2 =>
 (some (Zs.mk e1 m2 a1_.Long))))
def Ze7 (N:Nat) (a0_:Ze) (a1_:Int) (a2_:Int):Option (Ze × Int × Int) :=
 (some (a0_,a1_,a2_))
def Z5 (N:Nat) (a0_:Int) (a1_:Int) (a2_:Int):Option (Bool) :=
 (some ((decide (a0_ ≥ a1_))&&(decide (a0_≤a2_))))
def ZdY (N:Nat) (a0_:Int) (a1_:Int):Option (Int) :=
 ((quoI .i64 a0_ a1_).bind fun q1 =>
 ((((remI a0_ a1_).bind fun m503 =>
 (if (decide (m503<0)) then (some (w64 (q1 - 1))) else (some q1)))).bind fun (j502:Int) =>
 (some j502)))
def Za0 {σ:Type} (N:Nat) (y_:σ→Zy→Zy→Option (σ × Bool)) (c0_:Ze) (c2_:Int) (i4:Int) (e509:Zy) (i515:Int) (g516:σ):Option ((Int × σ) ⊕ ((σ) ⊕ (σ))) :=
 (if (decide (i515<((List.length c0_.Uses:Nat):Int))) then ((idx c0_.Uses i515).bind fun e1020 =>
 (((if (i515==i4) then (some true) else (if (e1020.Stream != c2_) then (some true) else (some (e1020.Port != e509.Port))))).bind fun (j1026:Bool) =>
 (if j1026 then (some (.inl ((w64 (i515+1)),g516))) else ((y_ g516 e509 e1020).bind fun r1028 =>
 (if (!r1028.2) then (some (.inr (.inr r1028.1))) else (some (.inl ((w64 (i515+1)),r1028.1)))))))) else (some (.inr (.inl g516))))
def Za1 {σ:Type} (N:Nat) (y_:σ→Zy→Zy→Option (σ × Bool)) (c0_:Ze) (c1_:Int) (c2_:Int) (i4:Int) (g5:σ):Option ((Int × σ) ⊕ ((σ) ⊕ (σ))) :=
 (if (decide (i4<((List.length c0_.Uses:Nat):Int))) then ((idx c0_.Uses i4).bind fun e509 =>
 (if (e509.Stream != c1_) then (some (.inl ((w64 (i4+1)),g5))) else ((Zaf (fun x:Int × σ=>Za0 N y_ c0_ c2_ i4 e509 x.1 x.2) N (0,g5)).bind fun o1032=>match o1032 with
 | (.inl p1033)=>(some (.inl ((w64 (i4+1)),p1033)))
 | (.inr p1034)=>(some (.inr (.inr p1034)))))) else (some (.inr (.inl g5))))
def ZcF {σ:Type} (N:Nat) (y_:σ→Zy→Zy→Option (σ × Bool)) (c0_:Ze) (c1_:Int) (c2_:Int) (s_:σ):Option (σ) :=
 ((Zaf (fun x:Int × σ=>Za1 N y_ c0_ c1_ c2_ x.1 x.2) N (0,s_)).bind fun o1035=>match o1035 with
 | (.inl p1036)=>(some p1036)
 | (.inr p1037)=>(some p1037))
def Zbb (N:Nat) (a0_:Zs):Option (Int) :=
 (if ((decide (a0_.Period<1))||((decide (a0_.Period > 960))||((decide (a0_.From<0))||(decide (a0_.From ≥ a0_.Period))))) then (some 330) else (if ((decide (a0_.Long<1))||(decide (a0_.Long > a0_.Period))) then (some 330) else (some 0)))
def Zag (N:Nat) (a0_:(List Zs)) (i2:Int):Option ((Int) ⊕ ((Unit) ⊕ (Int))) :=
 (if (decide (i2<((List.length a0_:Nat):Int))) then ((idx a0_ i2).bind fun e504 =>
 ((Zbb N e504).bind fun r505 =>
 (if (r505 != 0) then (some (.inr (.inr r505))) else (some (.inl (w64 (i2+1))))))) else (some (.inr (.inl ()))))
def Zbi (N:Nat) (a0_:(List Zs)):Option (Int) :=
 (if (decide (((List.length a0_:Nat):Int) > 32)) then (some 3) else ((Zaf (fun x:Int=>Zag N a0_ x) N 0).bind fun o507=>match o507 with
 | (.inl p508)=>(some 0)
 | (.inr p509)=>(some p509)))
def Zc3 (N:Nat) (a0_:Zv) (a2_:Za4) (i517:Int) (l518:(List Bool)):Option ((Int × (List Bool)) ⊕ (((List Bool)))) :=
 (if (decide (i517<((List.length a0_.Links:Nat):Int))) then ((((idx a0_.Links i517).bind fun e1525 =>
 ((((a2_.get i517).bind fun e1526=>(if (!e1526) then ((idx l518 e1525.A).bind fun e1528=>((idx l518 e1525.B).bind fun e1531=>(some (e1528 != e1531)))) else (some false)))).bind fun (j1535:Bool) =>
 (if j1535 then ((idx l518 e1525.A).bind fun e1537 =>
 ((idx (List.set l518 (Int.toNat e1525.A) true) e1525.B).bind fun e1541 =>
 (some (List.set (List.set l518 (Int.toNat e1525.A) true) (Int.toNat e1525.B) true)))) else (some l518))))).bind fun (j1524:(List Bool)) =>
 (some (.inl ((w64 (i517+1)),j1524)))) else (some (.inr l518)))
def Zc4 (N:Nat) (a0_:Zv) (a2_:Za4) (i10:Int) (l11:(List Bool)):Option ((Int × (List Bool)) ⊕ (((List Bool)))) :=
 (if (decide (i10<a0_.Nodes)) then ((Zaf (fun x:Int × (List Bool)=>Zc3 N a0_ a2_ x.1 x.2) N (0,l11)).bind fun o1545 =>
 (some (.inl ((w64 (i10+1)),o1545)))) else (some (.inr l11)))
def Zge (N:Nat) (a0_:Zv) (a1_:Int) (a2_:Za4):Option ((List Bool)) :=
 ((Zh6 1 a0_.Nodes a0_.Nodes false).bind fun l3 =>
 ((idx l3 a1_).bind fun e4 =>
 ((Zaf (fun x:Int × (List Bool)=>Zc4 N a0_ a2_ x.1 x.2) N (0,(List.set l3 (Int.toNat a1_) true))).bind fun o1546 =>
 (some o1546))))
def ZdK (N:Nat) (c0_:Zw):Option (Bool) :=
 ((Z5 N c0_.Id 1 4095).bind fun r2 =>
 (some r2))
def Zcw (N:Nat) (a0_:Zv) (a1_:Int):Option (Bool) :=
 ((((Z5 N a1_ 0 (w64 (a0_.Nodes - 1))).bind fun r1=>(if r1 then ((idx a0_.Station a1_).bind fun e3=>(some e3)) else (some false)))).bind fun (j5:Bool) =>
 (some j5))
def ZdI (N:Nat) (c0_:Zw):Option (Bool) :=
 ((Z5 N c0_.Size 84 1542).bind fun r2 =>
 (some r2))
def ZdH (N:Nat) (c0_:Zw):Option (Bool) :=
 ((Z5 N c0_.Deadline 1 1099511627776).bind fun r2 =>
 (some r2))
def ZdF (N:Nat) (c0_:Zw):Option (Bool) :=
 ((Z5 N ((List.length c0_.Routes:Nat):Int) 1 2).bind fun r2 =>
 (some r2))
def Zd8 (N:Nat) (a0_:Zv) (a1_:Z2) (a2_:Zw) (a3_:Int):Option (Zw × Int × Zv × Z2) :=
 (some (a2_,a3_,a0_,a1_))
def Zdk (N:Nat) (a0_:Int) (a1_:Int):Option (Int) :=
 ((remI a0_ a1_).bind fun m1 =>
 ((remI (w64 (m1+a1_)) a1_).bind fun m2 =>
 (some m2)))
def ZaR (N:Nat) (i1:Int) (i2:Int):Option ((Int × Int) ⊕ ((Int))) :=
 (if (i2 != 0) then ((remI i1 i2).bind fun m504 =>
 (some (.inl (i2,m504)))) else (some (.inr i1)))
def Zcp (N:Nat) (a0_:Int) (a1_:Int):Option (Int) :=
 ((Zaf (fun x:Int × Int=>ZaR N x.1 x.2) N (a0_,a1_)).bind fun o505 =>
 (some o505))
def ZfU (N:Nat) (a0_:Zv) (a1_:Int):Option (Bool) :=
 (some ((decide (a1_ ≥ 0))&&(decide (a1_<a0_.Nodes))))
def ZeC (N:Nat) (a0_:Int) (c0_:Zv):Option (Bool) :=
 ((idx c0_.Links a0_).bind fun e2 =>
 ((((idx c0_.Station e2.A).bind fun e4=>(if (!e4) then (some true) else ((idx c0_.Station e2.B).bind fun e8=>(some (!e8)))))).bind fun (j9:Bool) =>
 (some j9)))
def Zb8 (N:Nat) (e2:ZdA) (l4:List ZdA) (i5:Int):Option ((Int) ⊕ ((Unit) ⊕ (Bool))) :=
 (if (decide (i5<((List.length l4:Nat):Int))) then ((idx l4 i5).bind fun e507 =>
 (if (if (e2.A==e507.A) then ((e2.B==e507.B)||((e2.A==e507.B)&&(e2.B==e507.A))) else ((e2.A==e507.B)&&(e2.B==e507.A))) then (some (.inr (.inr false))) else (some (.inl (w64 (i5+1)))))) else (some (.inr (.inl ()))))
def ZeB (N:Nat) (a0_:Int) (c0_:Zv):Option (Bool) :=
 ((idx c0_.Links a0_).bind fun e2 =>
 ((subI c0_.Links 0 a0_).bind fun l4 =>
 ((Zaf (fun x:Int=>Zb8 N e2 l4 x) N 0).bind fun o517=>match o517 with
 | (.inl p518)=>(some true)
 | (.inr p519)=>(some p519))))
def ZeA (N:Nat) (a0_:Int) (c0_:Zv):Option (Bool) :=
 ((idx c0_.Links a0_).bind fun e2 =>
 (some ((decide (e2.Per ≥ 1))&&((decide (e2.Per≤1000))&&((decide (e2.Delay ≥ 0))&&(decide (e2.Delay≤10000)))))))
def Zaq (N:Nat) (a0_:(List Bool)) (a1_:Bool) (i1:Int):Option ((Int) ⊕ ((Unit) ⊕ (Int))) :=
 (if (decide (i1<((List.length a0_:Nat):Int))) then ((idx a0_ i1).bind fun e503 =>
 (if (a1_==e503) then (some (.inr (.inr i1))) else (some (.inl (w64 (i1+1)))))) else (some (.inr (.inl ()))))
def Za9 (N:Nat) (a0_:(List Bool)) (a1_:Bool):Option (Int) :=
 ((Zaf (fun x:Int=>Zaq N a0_ a1_ x) N 0).bind fun o505=>match o505 with
 | (.inl p506)=>(some (-1))
 | (.inr p507)=>(some p507))
def ZbM (N:Nat) (a0_:Int) (a1_:Int) (a2_:Int):Option (Bool) :=
 (some ((decide (a1_≤a0_))&&(decide (a0_≤a2_))))
def Zcb (N:Nat) (a1_:(List Int)) (e503:Int) (i504:Int):Option ((Int) ⊕ ((Unit) ⊕ (Bool))) :=
 (if (decide (i504<((List.length a1_:Nat):Int))) then ((idx a1_ i504).bind fun e1006 =>
 (if ((w64 (Int.tdiv e503 2))==(w64 (Int.tdiv e1006 2))) then (some (.inr (.inr true))) else (some (.inl (w64 (i504+1)))))) else (some (.inr (.inl ()))))
def Zcc (N:Nat) (a0_:(List Int)) (a1_:(List Int)) (i1:Int):Option ((Int) ⊕ ((Unit) ⊕ (Bool))) :=
 (if (decide (i1<((List.length a0_:Nat):Int))) then ((idx a0_ i1).bind fun e503 =>
 ((Zaf (fun x:Int=>Zcb N a1_ e503 x) N 0).bind fun o1008=>match o1008 with
 | (.inl p1009)=>(some (.inl (w64 (i1+1))))
 | (.inr p1010)=>(some (.inr (.inr p1010))))) else (some (.inr (.inl ()))))
def ZeL (N:Nat) (a0_:(List Int)) (a1_:(List Int)):Option (Bool) :=
 ((Zaf (fun x:Int=>Zcc N a0_ a1_ x) N 0).bind fun o1011=>match o1011 with
 | (.inl p1012)=>(some false)
 | (.inr p1013)=>(some p1013))
def ZbU {σ:Type} (N:Nat) (y_:σ→Z4→Option (σ × Bool)) (c0_:Zw) (c2_:Zv) (c3_:Z2) (e3:(List Int)) (i6:Int) (i7:Int) (i10:Int) (i11:Int) (i12:Int) (i8:Int) (g9:σ):Option ((Int × Int × Int × Int × Int × Int × σ) ⊕ ((σ) ⊕ (σ))) :=
 (if (decide (i6<((List.length e3:Nat):Int))) then ((idx e3 i6).bind fun e516 =>
 (((if (decide (i6 > 0)) then ((idx c2_.Links (w64 (Int.tdiv i7 2))).bind fun e1020 =>
 ((quoI .i64 (w64 ((w64 ((w64 ((w64 ((w64 ((w64 (i12+i8))+e1020.Delay))+c3_.Proc))+(w64 (2 * c3_.Slack))))+c3_.Grid)) - 1)) c3_.Grid).bind fun q1026 =>
 (some ((w64 ((w64 ((w64 ((w64 (i12+i8))+e1020.Delay))+c3_.Proc)) - (w64 (2 * c3_.Slack)))),(w64 ((w64 ((w64 ((w64 (i12+i8))+e1020.Delay))+c3_.Proc))+(w64 (2 * c3_.Slack)))),(w64 (q1026 * c3_.Grid)))))) else (some (i10,i11,i12)))).bind fun (j1017:Int × Int × Int) =>
 ((idx c2_.Links (w64 (Int.tdiv e516 2))).bind fun e1030 =>
 ((y_ g9 (Z4.mk e516 j1017.1 j1017.2.1 j1017.2.2 (w64 (c0_.Size * e1030.Per)))).bind fun r1031 =>
 (if (!r1031.2) then (some (.inr (.inr r1031.1))) else (some (.inl ((w64 (i6+1)),e516,j1017.1,j1017.2.1,j1017.2.2,(w64 (c0_.Size * e1030.Per)),r1031.1)))))))) else (some (.inr (.inl g9))))
def Zc7 {σ:Type} (N:Nat) (y_:σ→Z4→Option (σ × Bool)) (c0_:Zw) (c1_:Int) (c2_:Zv) (c3_:Z2) (s_:σ):Option (σ) :=
 ((idx c0_.Routes c1_).bind fun e3 =>
 ((Zaf (fun x:Int × Int × Int × Int × Int × Int × σ=>ZbU N y_ c0_ c2_ c3_ e3 x.1 x.2.1 x.2.2.1 x.2.2.2.1 x.2.2.2.2.1 x.2.2.2.2.2.1 x.2.2.2.2.2.2) N (0,0,0,0,0,0,s_)).bind fun o1035=>match o1035 with
 | (.inl p1036)=>(some p1036)
 | (.inr p1037)=>(some p1037)))
def Zca (N:Nat) (a0_:ZM) (a1_:(List Int)):Option ((List Int) × ZM) :=
 (some (a1_,a0_))
def ZaW {σ:Type} (N:Nat) (y_:σ→Int→Zau→Option (σ × Bool)) (c0_:(List Int)) (c1_:ZM) (i4:Int) (g5:σ):Option ((Int × σ) ⊕ ((σ))) :=
 (if (decide (i4<((List.length c0_:Nat):Int))) then ((idx c0_ i4).bind fun e509 =>
 (((if (decide (e509<0)) then (some true) else (some (decide (e509 ≥ (w64 (2 * ((List.length c1_.Topo.Links:Nat):Int)))))))).bind fun (j513:Bool) =>
 (if j513 then (some (.inr g5)) else ((idx c1_.Topo.Links (w64 (Int.tdiv e509 2))).bind fun e516 =>
 (((if ((Int.tmod e509 2)==1) then (some (e516.B,e516.A)) else (some (e516.A,e516.B)))).bind fun (j1017:Int × Int) =>
 ((y_ g5 i4 (Zau.mk e509 j1017.1 j1017.2)).bind fun r1019 =>
 (if (!r1019.2) then (some (.inr r1019.1)) else (some (.inl ((w64 (i4+1)),r1019.1)))))))))) else (some (.inr g5)))
def ZbE {σ:Type} (N:Nat) (y_:σ→Int→Zau→Option (σ × Bool)) (c0_:(List Int)) (c1_:ZM) (s_:σ):Option (σ) :=
 ((Zaf (fun x:Int × σ=>ZaW N y_ c0_ c1_ x.1 x.2) N (0,s_)).bind fun o1023 =>
 (some o1023))
def Zax (N:Nat) (a0_:(List Int)) (a1_:Int) (i1:Int):Option ((Int) ⊕ ((Unit) ⊕ (Int))) :=
 (if (decide (i1<((List.length a0_:Nat):Int))) then ((idx a0_ i1).bind fun e503 =>
 (if (a1_==e503) then (some (.inr (.inr i1))) else (some (.inl (w64 (i1+1)))))) else (some (.inr (.inl ()))))
def Zbx (N:Nat) (a0_:(List Int)) (a1_:Int):Option (Int) :=
 ((Zaf (fun x:Int=>Zax N a0_ a1_ x) N 0).bind fun o505=>match o505 with
 | (.inl p506)=>(some (-1))
 | (.inr p507)=>(some p507))
def ZbD (N:Nat) (a0_:Z2):Option (Int) :=
 ((((Z5 N a0_.Grid 1 10000).bind fun r1=>(if (!r1) then (some true) else ((Z5 N a0_.Slack 0 1000).bind fun r4=>(some (!r4)))))).bind fun (j5:Bool) =>
 (if j5 then (some 320) else ((((Z5 N a0_.Proc 0 10000).bind fun r7=>(if (!r7) then (some true) else ((Z5 N a0_.Cap 1542 65536).bind fun r10=>(some (!r10)))))).bind fun (j11:Bool) =>
 (if j11 then (some 320) else (some 0)))))
def Zaj (N:Nat) (a0_:Int) (a1_:(List Int)) (i1:Int) (i2:Int):Option ((Int × Int) ⊕ ((Int))) :=
 (if (decide (i2<((List.length a1_:Nat):Int))) then ((idx a1_ i2).bind fun e504 =>
 ((Zcp N i1 e504).bind fun r505 =>
 ((quoI .i64 i1 r505).bind fun q506 =>
 (if (decide ((w64 (q506 * e504)) > a0_)) then (some (.inr (w64 (q506 * e504)))) else (some (.inl ((w64 (q506 * e504)),(w64 (i2+1))))))))) else (some (.inr i1)))
def ZcE (N:Nat) (a0_:Int) (a1_:(List Int)):Option (Int) :=
 ((Zaf (fun x:Int × Int=>Zaj N a0_ a1_ x.1 x.2) N (1,0)).bind fun o508 =>
 (some o508))
def ZaO (N:Nat) (a0_:(List Bool)) (a1_:Bool):Option (Bool) :=
 ((Za9 N a0_ a1_).bind fun r1 =>
 (some (decide (r1 ≥ 0))))
def ZdJ (N:Nat) (c0_:Zv) (c1_:Zw):Option (Bool) :=
 ((((Zcw N c0_ c1_.Talker).bind fun r3=>(if r3 then ((Zcw N c0_ c1_.Listener).bind fun r7=>(if r7 then (some (c1_.Talker != c1_.Listener)) else (some false))) else (some false)))).bind fun (j13:Bool) =>
 (some j13))
def Ze1 (N:Nat) (a0_:Zd3):Option (Int) :=
 ((((ZbM N a0_.Burst 1 1048576).bind fun r1=>(if (!r1) then (some true) else ((ZbM N a0_.Rate 1 2097152).bind fun r4=>(some (!r4)))))).bind fun (j5:Bool) =>
 (if j5 then (some 130) else (some 0)))
def ZcD (N:Nat) (a0_:Zs) (a1_:Zs):Option (Int × Int × Int) :=
 ((Zcp N a0_.Period a1_.Period).bind fun r1 =>
 (some (a0_.Long,(w64 (r1 - a1_.Long)),r1)))
def ZeD (N:Nat) (a0_:Int) (c0_:Zv):Option (Bool) :=
 ((idx c0_.Links a0_).bind fun e2 =>
 ((((ZfU N c0_ e2.A).bind fun r4=>(if r4 then ((ZfU N c0_ e2.B).bind fun r7=>(if r7 then (some (e2.A != e2.B)) else (some false))) else (some false)))).bind fun (j11:Bool) =>
 (some j11)))
def ZaJ (N:Nat) (a0_:ZM) (i524:Int) (i525:Int) (l526:Zl) (x522:Int) (x523:Zau):Option ((Int × Int × Zl) × Nat) :=
 (if (x522==0) then ((l526.get x523.from_).bind fun e1026 =>
 (((Zl.set l526 x523.from_ true).get x523.to_).bind fun e1028 =>
 (if e1028 then (some ((i524,i525,(Zl.set l526 x523.from_ true)),1)) else (((Zl.set l526 x523.from_ true).get x523.to_).bind fun e1031 =>
 (some (((w64 (i524+1)),x523.to_,(Zl.set (Zl.set l526 x523.from_ true) x523.to_ true)),0)))))) else (((if (x523.from_ != i525) then (some true) else ((idx a0_.Topo.Station i525).bind fun e1041=>(some e1041)))).bind fun (j1042:Bool) =>
 (if j1042 then (some ((i524,i525,l526),1)) else ((l526.get x523.to_).bind fun e1044 =>
 (if e1044 then (some ((i524,i525,l526),1)) else ((l526.get x523.to_).bind fun e1047 =>
 (some (((w64 (i524+1)),x523.to_,(Zl.set l526 x523.to_ true)),0))))))))
def ZbW (N:Nat) (a0_:ZM) (a1_:(List Int)):Option (Bool) :=
 (if ((decide (((List.length a1_:Nat):Int)<1))||(decide (((List.length a1_:Nat):Int) > 8))) then (some false) else ((((Zca N a0_ a1_).bind fun r517 =>
 ((ZbE N (fun (s:(Int × Int × Zl) × Nat) (x522:Int) (x523:Zau)=>Zfo (fun v:Int × Int × Zl=>ZaJ N a0_ v.1 v.2.1 v.2.2 x522 x523) s) r517.1 r517.2 ((0,0,(Zl.mk false false false false false false false false false false false false)),0)).bind fun o1052 =>
 (if (o1052.2==0) then (some o1052.1.1) else (if (o1052.2==1) then (some o1052.1.1) else none))))).bind fun (j515:Int) =>
 (some (j515==((List.length a1_:Nat):Int)))))
def ZaK (N:Nat) (l15:(List Int)) (x13:Int) (x14:Zau):Option ((List Int)) :=
 (((if (x13==0) then ((appI 8 l15 [x14.from_]).bind fun l1023 =>
 (some l1023)) else (some l15))).bind fun (j1018:(List Int)) =>
 ((appI 8 j1018 [x14.to_]).bind fun l1028 =>
 (some l1028)))
def Zbh (N:Nat) (a0_:ZM) (a1_:(List Int)):Option ((List Int)) :=
 ((Zh6 8 0 (w64 (((List.length a1_:Nat):Int)+1)) 0).bind fun l3 =>
 ((Zca N a0_ a1_).bind fun r7 =>
 ((ZbE N (fun (s:(List Int)) (x13:Int) (x14:Zau)=>Zey (fun v:(List Int)=>ZaK N v x13 x14) s) r7.1 r7.2 l3).bind fun o1030 =>
 (some o1030))))
def ZaY (N:Nat) (a0_:(List Int)) (a1_:Int):Option (Bool) :=
 ((Zbx N a0_ a1_).bind fun r1 =>
 (some (decide (r1 ≥ 0))))
def Zc8 (N:Nat) (a0_:ZM) (c0_:(List Int)):Option ((List Int) × Int) :=
 ((Zbh N a0_ c0_).bind fun r2 =>
 (some (r2,0)))
def ZaB (N:Nat) (a0_:(List Zs)) (i8:Int) (l9:(List Int)):Option ((Int × (List Int)) ⊕ (((List Int)))) :=
 (if (decide (i8<((List.length a0_:Nat):Int))) then ((idx a0_ i8).bind fun e513 =>
 ((idx l9 i8).bind fun e514 =>
 (some (.inl ((w64 (i8+1)),(List.set l9 (Int.toNat i8) e513.Period)))))) else (some (.inr l9)))
def Zce (N:Nat) (a0_:(List Zs)):Option (Int × Int) :=
 ((Zbi N a0_).bind fun r1 =>
 (if (r1 != 0) then (some (0,r1)) else ((Zh6 8 ((List.length a0_:Nat):Int) ((List.length a0_:Nat):Int) 0).bind fun l5 =>
 ((Zaf (fun x:Int × (List Int)=>ZaB N a0_ x.1 x.2) N (0,l5)).bind fun o518 =>
 ((ZcE N 960 o518).bind fun r519 =>
 (if (decide (r519 > 960)) then (some (0,6)) else (some (r519,0))))))))
def Zcd (N:Nat) (a0_:Zs) (a1_:Zs):Option (Bool) :=
 (if ((a0_.Period==a1_.Period)&&((a0_.From==a1_.From)&&((a0_.Long==a1_.Long)&&true))) then (some false) else ((ZcD N a0_ a1_).bind fun r2 =>
 ((Zdk N (w64 (a1_.From - a0_.From)) r2.2.2).bind fun r3 =>
 (some ((decide (r2.1≤r3))&&(decide (r3≤r2.2.1)))))))
def Zc2 (N:Nat) (a0_:Zv) (i4:Int):Option ((Int) ⊕ ((Unit) ⊕ (Bool))) :=
 (if (decide (i4<((List.length a0_.Links:Nat):Int))) then ((ZeD N i4 a0_).bind fun r506 =>
 (if (!r506) then (some (.inr (.inr false))) else ((ZeC N i4 a0_).bind fun r508 =>
 (if (!r508) then (some (.inr (.inr false))) else ((ZeB N i4 a0_).bind fun r510 =>
 (if (!r510) then (some (.inr (.inr false))) else ((ZeA N i4 a0_).bind fun r512 =>
 (if (!r512) then (some (.inr (.inr false))) else (some (.inl (w64 (i4+1)))))))))))) else (some (.inr (.inl ()))))
def Zgd (N:Nat) (a0_:Zv):Option (Bool) :=
 ((Zaf (fun x:Int=>Zc2 N a0_ x) N 0).bind fun o514=>match o514 with
 | (.inl p515)=>(some true)
 | (.inr p516)=>(some p516))
def ZdG (N:Nat) (c0_:Zw):Option (Bool) :=
 (if (c0_.Class==7) then ((((Z5 N c0_.Period 1 240).bind fun r4=>(if r4 then (some ((c0_.Bucket.Burst==0)&&((c0_.Bucket.Rate==0)&&true))) else (some false)))).bind fun (j8:Bool) =>
 (some j8)) else (if (c0_.Class==6) then (((if (c0_.Period==0) then ((Ze1 N c0_.Bucket).bind fun r13=>(if (r13==0) then (some (decide (c0_.Bucket.Burst ≥ c0_.Size))) else (some false))) else (some false))).bind fun (j19:Bool) =>
 (some j19)) else (some false)))
def Zba (N:Nat) (r2:(List Int)) (l3:List Int) (i4:Int):Option ((Int) ⊕ ((Unit) ⊕ (Bool))) :=
 (if (decide (i4<((List.length l3:Nat):Int))) then ((idx l3 i4).bind fun e506 =>
 ((ZaY N r2 e506).bind fun r507 =>
 (if r507 then (some (.inr (.inr true))) else (some (.inl (w64 (i4+1))))))) else (some (.inr (.inl ()))))
def ZbX (N:Nat) (a0_:ZM) (a1_:(List Int)) (a2_:(List Int)):Option (Bool) :=
 ((Zbh N a0_ a1_).bind fun r1 =>
 ((Zbh N a0_ a2_).bind fun r2 =>
 ((subI r1 1 (w64 (((List.length r1:Nat):Int) - 1))).bind fun l3 =>
 ((Zaf (fun x:Int=>Zba N r2 l3 x) N 0).bind fun o509=>match o509 with
 | (.inl p510)=>(some false)
 | (.inr p511)=>(some p511)))))
def Zbf (N:Nat) (a0_:(List Int)) (i6:Int) (l7:(List Zs)):Option ((Int × (List Zs)) ⊕ (((List Zs)))) :=
 (if (decide (i6<((List.length a0_:Nat):Int))) then ((idx a0_ i6).bind fun e511 =>
 ((idx l7 i6).bind fun e512 =>
 (some (.inl ((w64 (i6+1)),(List.set l7 (Int.toNat i6) (Zs.mk e511 0 1))))))) else (some (.inr l7)))
def Zb3 (N:Nat) (a0_:(List Int)):Option (Int × Int) :=
 ((Zh6 24 ((List.length a0_:Nat):Int) ((List.length a0_:Nat):Int) (Zs.mk 0 0 0)).bind fun l3 =>
 ((Zaf (fun x:Int × (List Zs)=>Zbf N a0_ x.1 x.2) N (0,l3)).bind fun o516 =>
 ((Zce N o516).bind fun r517 =>
 (some (r517.1,r517.2)))))
def Zbe (N:Nat) (a0_:Z6) (i5:Int) (m5:(List (Int × (List Zy)))):Option ((Int × (List (Int × (List Zy)))) ⊕ ((List (Int × (List Zy))))) :=
 (if (decide (i5<((List.length a0_.Problem.Uses:Nat):Int))) then ((idx a0_.Problem.Uses i5).bind fun e507 =>
 ((appI 32 (ZiB m5 e507.Port []) [e507]).bind fun l508 =>
 (some (.inl ((w64 (i5+1)),(Zdc m5 e507.Port l508)))))) else (some (.inr m5)))
def Zbd (N:Nat) (a0_:Z6) (r2:Int × Int) (us_:(List Zy)) (i510:Int) (i511:Int):Option ((Int × Int) ⊕ ((Int))) :=
 (if (decide (i511<((List.length us_:Nat):Int))) then ((idx us_ i511).bind fun e1013 =>
 ((idx a0_.Problem.Periods e1013.Stream).bind fun e1017 =>
 ((quoI .i64 r2.1 e1017).bind fun q1018 =>
 (some (.inl ((w64 (i510+q1018)),(w64 (i511+1)))))))) else (some (.inr i510)))
def Zbs (N:Nat) (a0_:Z6) (r2:Int × Int) (us_:(List Zy)):Option Bool :=
 ((Zaf (fun x:Int × Int=>Zbd N a0_ r2 us_ x.1 x.2) N (0,0)).bind fun o1019 =>
 (some (decide (o1019 > 63))))
def Zbc (N:Nat) (a0_:Z6) (i1022:Int):Option ((Int) ⊕ ((Unit) ⊕ (Int))) :=
 (if (decide (i1022<((List.length a0_.Problem.Uses:Nat):Int))) then ((idx a0_.Problem.Uses i1022).bind fun e1524 =>
 ((idx a0_.Problem.Periods e1524.Stream).bind fun e1526 =>
 (if (decide (e1524.Long > e1526)) then (some (.inr (.inr 341))) else (some (.inl (w64 (i1022+1))))))) else (some (.inr (.inl ()))))
def ZcQ (N:Nat) (a0_:Z6):Option (Int) :=
 ((Zb3 N a0_.Problem.Periods).bind fun r2 =>
 (if (r2.2 != 0) then (some r2.2) else ((Zaf (fun x:Int × (List (Int × (List Zy)))=>Zbe N a0_ x.1 x.2) N (0,[])).bind fun o508 =>
 ((rgF (Zbs N a0_ r2) o508).bind fun b1020 =>
 (if b1020 then (some 7) else ((Zaf (fun x:Int=>Zbc N a0_ x) N 0).bind fun o1528=>match o1528 with
 | (.inl p1529)=>(if a0_.late then (some 342) else (some 0))
 | (.inr p1532)=>(some p1532)))))))
def Zcf (N:Nat) (a0_:Zs) (a1_:Zs):Option (Bool × Int) :=
 ((Zbb N a0_).bind fun r1 =>
 (if (r1 != 0) then (some (false,r1)) else ((Zbb N a1_).bind fun r3 =>
 (if (r3 != 0) then (some (false,r3)) else ((Zcd N a0_ a1_).bind fun r5 =>
 (some (r5,0)))))))
def Zc6 (N:Nat) (a0_:Zv) (i16:Int) (l17:(List Int)):Option ((Int × (List Int)) ⊕ (((List Int)))) :=
 (if (decide (i16<((List.length a0_.Links:Nat):Int))) then ((idx a0_.Links i16).bind fun e521 =>
 ((idx l17 e521.A).bind fun e522 =>
 ((idx l17 e521.A).bind fun e525 =>
 ((idx (List.set l17 (Int.toNat e521.A) (w64 (e522+1))) e521.B).bind fun e529 =>
 ((idx (List.set l17 (Int.toNat e521.A) (w64 (e522+1))) e521.B).bind fun e532 =>
 (some (.inl ((w64 (i16+1)),(List.set (List.set l17 (Int.toNat e521.A) (w64 (e522+1))) (Int.toNat e521.B) (w64 (e529+1))))))))))) else (some (.inr l17)))
def Zc5 (N:Nat) (a0_:Zv) (o536:(List Int)) (i537:Int):Option ((Int) ⊕ ((Unit) ⊕ (Int))) :=
 (if (decide (i537<((List.length a0_.Station:Nat):Int))) then ((idx a0_.Station i537).bind fun e1039 =>
 (((if e1039 then ((idx o536 i537).bind fun e1041=>(if (decide (e1041<1)) then (some true) else ((idx o536 i537).bind fun e1046=>(some (decide (e1046 > 2)))))) else (some false))).bind fun (j1050:Bool) =>
 (if j1050 then (some (.inr (.inr 260))) else (some (.inl (w64 (i537+1))))))) else (some (.inr (.inl ()))))
def ZdR (N:Nat) (a0_:Zv):Option (Int) :=
 (if ((decide (a0_.Nodes<2))||((decide (a0_.Nodes > 12))||(((List.length a0_.Station:Nat):Int) != a0_.Nodes))) then (some 260) else (((if (decide (((List.length a0_.Links:Nat):Int) > 24)) then (some true) else ((Zgd N a0_).bind fun r8=>(some (!r8))))).bind fun (j9:Bool) =>
 (if j9 then (some 260) else ((Zh6 8 a0_.Nodes a0_.Nodes 0).bind fun l13 =>
 ((Zaf (fun x:Int × (List Int)=>Zc6 N a0_ x.1 x.2) N (0,l13)).bind fun o536 =>
 ((Zaf (fun x:Int=>Zc5 N a0_ o536 x) N 0).bind fun o1052=>match o1052 with
 | (.inl p1053)=>((Zge N a0_ 0 (Za4.mk false false false false false false false false false false false false false false false false false false false false false false false false)).bind fun r1054 =>
 ((ZaO N r1054 false).bind fun r1055 =>
 (if r1055 then (some 260) else (some 0))))
 | (.inr p1057)=>(some p1057)))))))
def Zc9 (N:Nat) (a0_:ZM) (c0_:(List Int)) (c1_:(List Int)):Option (Bool × Int) :=
 ((ZbW N a0_ c0_).bind fun r2 =>
 (if (!r2) then (some (false,310)) else ((((ZeL N c1_ c0_).bind fun r6=>(if (!r6) then ((ZbX N a0_ c1_ c0_).bind fun r10=>(if (!r10) then ((ZbX N a0_ c0_ c1_).bind fun r14=>(some (!r14))) else (some false))) else (some false)))).bind fun (j17:Bool) =>
 (some (j17,0)))))
def Zec (N:Nat) (a0_:Zv) (a1_:(List Int)):Option (Int) :=
 ((ZdR N a0_).bind fun r1 =>
 (if (r1 != 0) then (some r1) else ((ZbW N (ZM.mk a0_) a1_).bind fun r3 =>
 (if (!r3) then (some 310) else (some 0)))))
def ZdM (N:Nat) (a0_:Zv) (a1_:(List Int)) (a2_:ZM→Option ((List Int) × Int)):Option ((List Int) × Int) :=
 ((Zec N a0_ a1_).bind fun r1 =>
 (if (r1 != 0) then (some ([],r1)) else ((a2_ (ZM.mk a0_)).bind fun r3 =>
 (some (r3.1,r3.2)))))
def ZbL (N:Nat) (a0_:Ze) (i4:Int):Option ((Int) ⊕ ((Unit) ⊕ (Int))) :=
 (if (decide (i4<((List.length a0_.Periods:Nat):Int))) then ((idx a0_.Periods i4).bind fun e506 =>
 (if ((decide (e506<1))||(decide (e506 > 240))) then (some (.inr (.inr 340))) else (some (.inl (w64 (i4+1)))))) else (some (.inr (.inl ()))))
def ZbK (N:Nat) (a0_:Ze) (i514:Int):Option ((Int) ⊕ ((Unit) ⊕ (Int))) :=
 (if (decide (i514<((List.length a0_.Uses:Nat):Int))) then ((idx a0_.Uses i514).bind fun e1016 =>
 (if ((decide (e1016.Stream<0))||((decide (e1016.Stream ≥ ((List.length a0_.Periods:Nat):Int)))||((decide (e1016.Port<0))||(decide (e1016.Port ≥ 48))))) then (some (.inr (.inr 340))) else ((idx a0_.Periods e1016.Stream).bind fun e1024 =>
 (if ((decide (e1016.From<0))||((decide (e1016.From ≥ e1024))||((decide (e1016.Long<1))||(decide (e1016.Long > e1024))))) then (some (.inr (.inr 340))) else (some (.inl (w64 (i514+1)))))))) else (some (.inr (.inl ()))))
def Zcr (N:Nat) (a0_:Ze):Option (Int) :=
 (if ((decide (((List.length a0_.Periods:Nat):Int) > 12))||(decide (((List.length a0_.Uses:Nat):Int) > 192))) then (some 340) else ((Zaf (fun x:Int=>ZbL N a0_ x) N 0).bind fun o510=>match o510 with
 | (.inl p511)=>((Zb3 N a0_.Periods).bind fun r512 =>
 (if (r512.2 != 0) then (some 340) else ((Zaf (fun x:Int=>ZbK N a0_ x) N 0).bind fun o1032=>match o1032 with
 | (.inl p1033)=>(some 0)
 | (.inr p1034)=>(some p1034))))
 | (.inr p1035)=>(some p1035)))
def Zan (N:Nat) (a0_:Ze) (a2_:Int) (a4_:Int) (b18:Bool) (x16:Zy) (x17:Zy):Option ((Bool) × Nat) :=
 (if ((x16.Stream==x17.Stream)&&((x16.Port==x17.Port)&&((x16.From==x17.From)&&((x16.Long==x17.Long)&&true)))) then (some (true,1)) else ((ZbG N a0_ x16 a2_).bind fun r523 =>
 ((ZbG N a0_ x17 a4_).bind fun r526 =>
 ((Zcf N r523 r526).bind fun r527 =>
 (if (!r527.1) then (some (true,1)) else (some (b18,0)))))))
def ZbJ (N:Nat) (a0_:Ze) (a1_:Int) (a2_:Int) (a3_:Int) (a4_:Int):Option (Bool) :=
 ((Ze7 N a0_ a1_ a3_).bind fun r10 =>
 ((ZcF N (fun (s:(Bool) × Nat) (x16:Zy) (x17:Zy)=>Zfo (fun v:Bool=>Zan N a0_ a2_ a4_ v x16 x17) s) r10.1 r10.2.1 r10.2.2 (false,0)).bind fun o530 =>
 (if (o530.2==0) then (some false) else (if (o530.2==1) then (some o530.1) else none))))
def ZdL (N:Nat) (a0_:Zv) (a1_:(List Int)) (a2_:ZM→Option (Bool × Int)):Option (Bool × Int) :=
 ((Zec N a0_ a1_).bind fun r1 =>
 (if (r1 != 0) then (some (false,r1)) else ((a2_ (ZM.mk a0_)).bind fun r3 =>
 (some (r3.1,r3.2)))))
def ZfE (N:Nat) (a0_:Zv) (a1_:(List Int)):Option ((List Int) × Int) :=
 ((ZdM N a0_ a1_ (fun x0=>Zc8 N x0 a1_)).bind fun r4 =>
 (some (r4.1,r4.2)))
def Zbg (N:Nat) (a0_:Ze) (a1_:Int) (a2_:Int) (a3_:Int) (a4_:Int):Option (Bool × Int) :=
 ((Zcr N a0_).bind fun r1 =>
 (if (r1 != 0) then (some (false,r1)) else (if ((decide (a1_<0))||((decide (a1_ ≥ ((List.length a0_.Periods:Nat):Int)))||((decide (a3_<0))||(decide (a3_ ≥ ((List.length a0_.Periods:Nat):Int)))))) then (some (false,2)) else ((((Zb1 N a0_ a1_ a2_).bind fun r10=>(if (!r10) then (some true) else ((Zb1 N a0_ a3_ a4_).bind fun r13=>(if (!r13) then (some true) else (if (a1_==a3_) then (some (a2_ != a4_)) else (some false))))))).bind fun (j18:Bool) =>
 (if j18 then (some (false,2)) else ((ZbJ N a0_ a1_ a2_ a3_ a4_).bind fun r20 =>
 (some (r20,0))))))))
def Zb6 (N:Nat) (a0_:Ze) (a1_:(List Int)) (i4:Int):Option ((Int) ⊕ ((Unit) ⊕ (Bool × Int))) :=
 (if (decide (i4<((List.length a1_:Nat):Int))) then ((idx a1_ i4).bind fun e506 =>
 ((Zb1 N a0_ i4 e506).bind fun r507 =>
 (if (!r507) then (some (.inr (.inr (false,2)))) else (some (.inl (w64 (i4+1))))))) else (some (.inr (.inl ()))))
def Zb4 (N:Nat) (a0_:Ze) (i511:Int) (e1013:Int) (l1014:List Int) (i1015:Int):Option ((Int) ⊕ ((Unit) ⊕ (Bool × Int))) :=
 (if (decide (i1015<((List.length l1014:Nat):Int))) then ((idx l1014 i1015).bind fun e1517 =>
 ((ZbJ N a0_ i1015 e1517 i511 e1013).bind fun r1518 =>
 (if r1518 then (some (.inr (.inr (false,0)))) else (some (.inl (w64 (i1015+1))))))) else (some (.inr (.inl ()))))
def Zb5 (N:Nat) (a0_:Ze) (a1_:(List Int)) (i511:Int):Option ((Int) ⊕ ((Unit) ⊕ (Bool × Int))) :=
 (if (decide (i511<((List.length a1_:Nat):Int))) then ((idx a1_ i511).bind fun e1013 =>
 ((subI a1_ 0 (w64 (i511+1))).bind fun l1014 =>
 ((Zaf (fun x:Int=>Zb4 N a0_ i511 e1013 l1014 x) N 0).bind fun o1520=>match o1520 with
 | (.inl p1521)=>(some (.inl (w64 (i511+1))))
 | (.inr p1522)=>(some (.inr (.inr p1522)))))) else (some (.inr (.inl ()))))
def Zdl (N:Nat) (a0_:Ze) (a1_:(List Int)):Option (Bool × Int) :=
 ((Zcr N a0_).bind fun r1 =>
 (if (r1 != 0) then (some (false,r1)) else (if (((List.length a1_:Nat):Int) != ((List.length a0_.Periods:Nat):Int)) then (some (false,2)) else ((Zaf (fun x:Int=>Zb6 N a0_ a1_ x) N 0).bind fun o509=>match o509 with
 | (.inl p510)=>((Zaf (fun x:Int=>Zb5 N a0_ a1_ x) N 0).bind fun o1523=>match o1523 with
 | (.inl p1524)=>(some (true,0))
 | (.inr p1525)=>(some p1525))
 | (.inr p1526)=>(some p1526)))))
def Ze9 (N:Nat) (a0_:Ze):Option (Int × Int) :=
 ((Zcr N a0_).bind fun r1 =>
 (if (r1 != 0) then (some (0,r1)) else ((Zb3 N a0_.Periods).bind fun r3 =>
 (some (r3.1,r3.2)))))
def Zd0 (N:Nat) (a0_:Ze) (a1_:(List Int)):Option (Bool) :=
 ((Zdl N a0_ a1_).bind fun r1 =>
 (some (r1.1&&(r1.2==0))))
def Zbl (N:Nat) (a0_:Ze) (a1_:Int) (a2_:Int):Option (Bool) :=
 ((Zbg N a0_ 0 a1_ 1 a2_).bind fun r1 =>
 (some (r1.1&&(r1.2==0))))
def ZfF (N:Nat) (a0_:Zv) (a1_:(List Int)) (a2_:(List Int)):Option (Bool × Int) :=
 ((ZdL N a0_ a1_ (fun x0=>Zc9 N x0 a2_ a1_)).bind fun r6 =>
 (some (r6.1,r6.2)))
def Zgq (N:Nat) (a0_:Zv) (a1_:(List Int)):Option (Int × Int × Int) :=
 ((ZfE N a0_ a1_).bind fun r1 =>
 (if (r1.2 != 0) then (some (0,0,r1.2)) else ((idx r1.1 0).bind fun e3 =>
 ((idx r1.1 (w64 (((List.length r1.1:Nat):Int) - 1))).bind fun e4 =>
 (some (e3,e4,0))))))
def ZeF (N:Nat) (a0_:Zv) (a1_:(List Int)) (a2_:Int) (a3_:Int):Option (Bool) :=
 ((Zgq N a0_ a1_).bind fun r1 =>
 (some ((r1.2.2==0)&&((r1.1==a2_)&&(r1.2.1==a3_)))))
def ZdD (N:Nat) (c0_:Zw) (c1_:Zv):Option (Bool) :=
 (if (decide (((List.length c0_.Routes:Nat):Int)<2)) then (some true) else ((idx c0_.Routes 0).bind fun e5 =>
 ((idx c0_.Routes 1).bind fun e7 =>
 ((ZfF N c1_ e5 e7).bind fun r8 =>
 (some ((r8.2==0)&&r8.1))))))
def ZbB (N:Nat) (c0_:Zw) (c1_:Zv) (i2:Int):Option ((Int) ⊕ ((Unit) ⊕ (Bool))) :=
 (if (decide (i2<((List.length c0_.Routes:Nat):Int))) then ((idx c0_.Routes i2).bind fun e504 =>
 ((ZeF N c1_ e504 c0_.Talker c0_.Listener).bind fun r508 =>
 (if (!r508) then (some (.inr (.inr false))) else (some (.inl (w64 (i2+1))))))) else (some (.inr (.inl ()))))
def ZdE (N:Nat) (c0_:Zw) (c1_:Zv):Option (Bool) :=
 ((Zaf (fun x:Int=>ZbB N c0_ c1_ x) N 0).bind fun o510=>match o510 with
 | (.inl p511)=>(some true)
 | (.inr p512)=>(some p512))
def Zds (N:Nat) (a0_:Zv) (a1_:Zw):Option (Bool) :=
 ((ZdK N  a1_).bind fun r8 =>
 (if (!r8) then (some false) else ((ZdJ N  a0_ a1_).bind fun r11 =>
 (if (!r11) then (some false) else ((ZdI N  a1_).bind fun r14 =>
 (if (!r14) then (some false) else ((ZdH N  a1_).bind fun r17 =>
 (if (!r17) then (some false) else ((ZdG N  a1_).bind fun r20 =>
 (if (!r20) then (some false) else ((ZdF N  a1_).bind fun r23 =>
 (if (!r23) then (some false) else ((ZdE N  a1_ a0_).bind fun r26 =>
 (if (!r26) then (some false) else ((ZdD N  a1_ a0_).bind fun r29 =>
 (if (!r29) then (some false) else (some true)))))))))))))))))
def Ze4 (N:Nat) (a0_:Zv) (a1_:Z2) (a2_:Zw) (a3_:Int):Option (Int) :=
 ((ZdR N a0_).bind fun r1 =>
 (if (r1 != 0) then (some r1) else ((ZbD N a1_).bind fun r3 =>
 (if (r3 != 0) then (some r3) else ((Zds N a0_ a2_).bind fun r5 =>
 (if (!r5) then (some 321) else (((if (a2_.Class != 7) then (some true) else ((Z5 N a3_ 0 (w64 (((List.length a2_.Routes:Nat):Int) - 1))).bind fun r9=>(some (!r9))))).bind fun (j10:Bool) =>
 (if j10 then (some 2) else (some 0)))))))))
def Zbp (N:Nat) (a0_:Zv) (a1_:(List Zw)) (i4:Int):Option ((Int) ⊕ ((Unit) ⊕ (Int))) :=
 (if (decide (i4<((List.length a1_:Nat):Int))) then ((idx a1_ i4).bind fun e506 =>
 ((Zds N a0_ e506).bind fun r507 =>
 (if (!r507) then (some (.inr (.inr 321))) else (some (.inl (w64 (i4+1))))))) else (some (.inr (.inl ()))))
def Zbo (N:Nat) (a1_:(List Zw)) (i514:Int) (l515:(List (Int × Bool))):Option ((Int × (List (Int × Bool))) ⊕ ((Unit) ⊕ (Int))) :=
 (if (decide (i514<((List.length a1_:Nat):Int))) then ((idx a1_ i514).bind fun e1018 =>
 (if (ZiB l515 e1018.Id false) then (some (.inr (.inr 322))) else (some (.inl ((w64 (i514+1)),(Zdc l515 e1018.Id true)))))) else (some (.inr (.inl ()))))
def Zb9 (N:Nat) (a0_:Zv) (a1_:(List Zw)):Option (Int) :=
 ((ZdR N a0_).bind fun r1 =>
 (if (r1 != 0) then (some r1) else (if (decide (((List.length a1_:Nat):Int) > 12)) then (some 3) else ((Zaf (fun x:Int=>Zbp N a0_ a1_ x) N 0).bind fun o509=>match o509 with
 | (.inl p510)=>((Zaf (fun x:Int × (List (Int × Bool))=>Zbo N a1_ x.1 x.2) N (0,[])).bind fun o1023=>match o1023 with
 | (.inl p1024)=>(some 0)
 | (.inr p1025)=>(some p1025))
 | (.inr p1026)=>(some p1026)))))
def ZbP (N:Nat) (l14:(List Z4)) (x12:Z4):Option ((List Z4)) :=
 ((appI 40 l14 [x12]).bind fun l518 =>
 (some l518))
def ZfC (N:Nat) (a0_:Zv) (a1_:Z2) (a2_:Zw) (a3_:Int):Option ((List Z4) × Int) :=
 ((Ze4 N a0_ a1_ a2_ a3_).bind fun r1 =>
 (if (r1 != 0) then (some ([],r1)) else ((Zd8 N a0_ a1_ a2_ a3_).bind fun r5 =>
 ((Zc7 N (fun (s:(List Z4)) (x12:Z4)=>Zey (fun v:(List Z4)=>ZbP N v x12) s) r5.1 r5.2.1 r5.2.2.1 r5.2.2.2 []).bind fun o520 =>
 (some (o520,0))))))
def ZbO (N:Nat) (a0_:Zv) (a1_:Z2) (i22:Int) (x21:Z4):Option (Int) :=
 ((idx a0_.Links (w64 (Int.tdiv x21.Port 2))).bind fun e524 =>
 (some (w64 ((w64 ((w64 (x21.Open+x21.Long))+e524.Delay))+a1_.Proc))))
def ZfB (N:Nat) (a0_:Zv) (a1_:Z2) (a2_:Zw) (a3_:Int):Option (Int × Int) :=
 ((Ze4 N a0_ a1_ a2_ a3_).bind fun r7 =>
 (if (r7 != 0) then (some (0,r7)) else ((Zd8 N a0_ a1_ a2_ a3_).bind fun r14 =>
 ((Zc7 N (fun (s:Int) (x21:Z4)=>Zey (fun v:Int=>ZbO N a0_ a1_ v x21) s) r14.1 r14.2.1 r14.2.2.1 r14.2.2.2 0).bind fun o527 =>
 (some (o527,0))))))
def ZbH (N:Nat) (a0_:Z6) (a2_:Z2) (a3_:Zw) (r518:(List Z4) × Int) (i523:Int) (l524:(List Zy)):Option ((Int × (List Zy)) ⊕ (((List Zy)))) :=
 (if (decide (i523<((List.length r518.1:Nat):Int))) then ((idx r518.1 i523).bind fun e1029 =>
 ((ZdY N e1029.Early a2_.Grid).bind fun r1030 =>
 ((ZdY N (w64 ((w64 ((w64 (e1029.Open+e1029.Long))+a2_.Grid)) - 1)) a2_.Grid).bind fun r1031 =>
 ((ZdY N r1030 a3_.Period).bind fun r1032 =>
 ((appI 32 l524 [(Zy.mk ((List.length a0_.Problem.Periods:Nat):Int) e1029.Port (w64 (r1030 - (w64 (r1032 * a3_.Period)))) (w64 (r1031 - r1030)))]).bind fun l1036 =>
 (some (.inl ((w64 (i523+1)),l1036)))))))) else (some (.inr l524)))
def ZbI (N:Nat) (a0_:Z6) (a1_:Zv) (a2_:Z2) (a3_:Zw) (l6:List Int) (i11:Int) (b12:Bool) (l13:(List Zy)):Option ((Int × Bool × (List Zy)) ⊕ ((Bool × (List Zy)) ⊕ (Int × Z6))) :=
 (if (decide (i11<((List.length a3_.Routes:Nat):Int))) then ((ZfC N a1_ a2_ a3_ i11).bind fun r518 =>
 (if (r518.2 != 0) then (some (.inr (.inr (r518.2,(Z6.mk (Ze.mk l6 l13) b12))))) else ((Zaf (fun x:Int × (List Zy)=>ZbH N a0_ a2_ a3_ r518 x.1 x.2) N (0,l13)).bind fun o1038 =>
 ((ZfB N a1_ a2_ a3_ i11).bind fun r1039 =>
 (if (r1039.2 != 0) then (some (.inr (.inr (r1039.2,(Z6.mk (Ze.mk l6 o1038) b12))))) else (((if b12 then (some true) else (some (decide ((w64 (r1039.1+(w64 (2 * a2_.Slack)))) > a3_.Deadline))))).bind fun (j1049:Bool) =>
 (some (.inl ((w64 (i11+1)),j1049,o1038))))))))) else (some (.inr (.inl (b12,l13)))))
def ZdP (N:Nat) (a0_:Z6) (a1_:Zv) (a2_:Z2) (a3_:Zw):Option (Int × Z6) :=
 ((appI 8 a0_.Problem.Periods [a3_.Period]).bind fun l6 =>
 ((Zaf (fun x:Int × Bool × (List Zy)=>ZbI N a0_ a1_ a2_ a3_ l6 x.1 x.2.1 x.2.2) N (0,a0_.late,a0_.Problem.Uses)).bind fun o1050=>match o1050 with
 | (.inl p1051)=>(some (0,(Z6.mk (Ze.mk l6 p1051.2) p1051.1)))
 | (.inr p1052)=>(some p1052)))
def Ze8 (N:Nat) (a0_:Zv) (a1_:Z2) (a2_:(List Zw)) (i12:Int) (b13:Bool) (l14:(List Int)) (l15:(List Zy)):Option ((Int × Bool × (List Int) × (List Zy)) ⊕ ((Bool × (List Int) × (List Zy)) ⊕ (Ze × Int))) :=
 (if (decide (i12<((List.length a2_:Nat):Int))) then ((idx a2_ i12).bind fun e520 =>
 (if (e520.Class != 7) then (some (.inl ((w64 (i12+1)),b13,l14,l15))) else ((ZdP N (Z6.mk (Ze.mk l14 l15) b13) a0_ a1_ e520).bind fun r522 =>
 (if (r522.1 != 0) then (some (.inr (.inr ((Ze.mk ([]) ([])),r522.1)))) else (some (.inl ((w64 (i12+1)),r522.2.late,r522.2.Problem.Periods,r522.2.Problem.Uses))))))) else (some (.inr (.inl (b13,l14,l15)))))
def ZkJ (N:Nat) (a0_:Zv) (a1_:Z2) (a2_:(List Zw)):Option (Ze × Int) :=
 ((Zb9 N a0_ ([])).bind fun r1 =>
 (if (r1 != 0) then (some ((Ze.mk ([]) ([])),r1)) else ((ZbD N a1_).bind fun r3 =>
 (if (r3 != 0) then (some ((Ze.mk ([]) ([])),r3)) else ((Zb9 N a0_ a2_).bind fun r5 =>
 (if (r5 != 0) then (some ((Ze.mk ([]) ([])),r5)) else ((Zaf (fun x:Int × Bool × (List Int) × (List Zy)=>Ze8 N a0_ a1_ a2_ x.1 x.2.1 x.2.2.1 x.2.2.2) N (0,false,[],[])).bind fun o527=>match o527 with
 | (.inl p528)=>((ZcQ N (Z6.mk (Ze.mk p528.2.1 p528.2.2) p528.1)).bind fun r529 =>
 (if (r529 != 0) then (some ((Ze.mk ([]) ([])),r529)) else (some ((Ze.mk p528.2.1 p528.2.2),0))))
 | (.inr p533)=>(some p533))))))))
def Zdv (N:Nat) (a0_:(List Zw)):Option (Ze × Int) :=
 ((ZgE N).bind fun r1 =>
 ((ZkJ N r1 (Z2.mk 100 2 10 8000) a0_).bind fun r2 =>
 (some (r2.1,r2.2))))
def Zdm (N:Nat):Option (Bool) :=
 ((Zal N 1 20 10000).bind fun r1 =>
 ((Zdv N ([r1])).bind fun r2 =>
 ((Zal N 1 8 10000).bind fun r3 =>
 ((Zdv N ([r3])).bind fun r4 =>
 ((Zal N 1 20 1718).bind fun r5 =>
 ((Zdv N ([r5])).bind fun r6 =>
 ((Zal N 1 20 10000).bind fun r7 =>
 ((Zal N 2 30 10000).bind fun r8 =>
 ((Zdv N ([r7,r8])).bind fun r9 =>
 ((Zal N 1 40 10000).bind fun r10 =>
 ((Zal N 2 40 10000).bind fun r11 =>
 ((Zdv N ([r10,r11])).bind fun r12 =>
 ((Zdv N ([])).bind fun r13 =>
 ((Ze9 N r9.1).bind fun r14 =>
 ((Ze9 N r13.1).bind fun r15 =>
 (((if (r2.2 != 0) then (some true) else (if (r9.2 != 0) then (some true) else (if (r12.2 != 0) then (some true) else (if (r13.2 != 0) then (some true) else (if (r14.2 != 0) then (some true) else (if (r15.2 != 0) then (some true) else ((Zgt N r2.1 (Ze.mk ([20]) ([(Zy.mk 0 0 0 8),(Zy.mk 0 2 8 9)]))).bind fun r28=>(some (!r28)))))))))).bind fun (j29:Bool) =>
 (if j29 then (some false) else ((((Zbl N r9.1 0 8).bind fun r31=>(if r31 then ((Zbl N r9.1 0 9).bind fun r33=>(if r33 then ((Zbl N r9.1 0 10).bind fun r35=>(if r35 then ((Zbl N r9.1 0 2).bind fun r37=>(some r37)) else (some false))) else (some false))) else (some false)))).bind fun (j41:Bool) =>
 (((if (r4.2==341) then (if (r6.2==342) then (if j41 then ((Zd0 N r12.1 ([0,9])).bind fun r45=>(if r45 then ((Zd0 N r12.1 ([0,8])).bind fun r47=>(if (!r47) then ((Zd0 N r12.1 ([35,4])).bind fun r49=>(if r49 then (if (r14.1==60) then (some (r15.1==1)) else (some false)) else (some false))) else (some false))) else (some false))) else (some false)) else (some false)) else (some false))).bind fun (j59:Bool) =>
 (some j59))))))))))))))))))))
def Zay (N:Nat) (r3:Ze) (r4:(List Int)) (i8:Int) (b519:Bool) (i520:Int):Option ((Bool × Int) ⊕ ((Bool) ⊕ (Bool))) :=
 (if (decide (i520<((List.length r4:Nat):Int))) then ((idx r4 i8).bind fun e1022 =>
 ((idx r4 i520).bind fun e1023 =>
 ((Zbg N r3 i8 e1022 i520 e1023).bind fun r1024 =>
 ((idx r4 i520).bind fun e1025 =>
 ((idx r4 i8).bind fun e1026 =>
 ((Zbg N r3 i520 e1025 i8 e1026).bind fun r1027 =>
 (if ((r1024.2 != 0)||((r1027.2 != 0)||(r1024.1 != r1027.1))) then (some (.inr (.inr false))) else (some (.inl ((b519&&((!r1024.1)||false)),(w64 (i520+1)))))))))))) else (some (.inr (.inl b519))))
def Zaz (N:Nat) (a2_:Int) (r3:Ze) (r4:(List Int)) (b7:Bool) (i8:Int) (l9:(List Int)):Option ((Bool × Int × (List Int)) ⊕ ((Bool × (List Int)) ⊕ (Bool))) :=
 (if (decide (i8<((List.length r4:Nat):Int))) then ((idx r4 i8).bind fun e513 =>
 ((idx r3.Periods i8).bind fun e514 =>
 ((remI (w64 (e513+(w64 (a2_)))) e514).bind fun m515 =>
 ((appI 8 l9 [m515]).bind fun l518 =>
 ((Zaf (fun x:Bool × Int=>Zay N r3 r4 i8 x.1 x.2) N (b7,0)).bind fun o1037=>match o1037 with
 | (.inl p1038)=>(some (.inl (p1038,(w64 (i8+1)),l518)))
 | (.inr p1039)=>(some (.inr (.inr p1039)))))))) else (some (.inr (.inl (b7,l9)))))
def Zci (N:Nat) (a0_:ZaM) (a1_:(List Int)) (a2_:Int):Option (Bool) :=
 ((Zdm N).bind fun r1 =>
 (if (!r1) then (some false) else ((ZaL N a0_).bind fun r3 =>
 ((ZdX N r3 a1_).bind fun r4 =>
 ((Zaf (fun x:Bool × Int × (List Int)=>Zaz N a2_ r3 r4 x.1 x.2.1 x.2.2) N (true,0,[])).bind fun o1040=>match o1040 with
 | (.inl p1041)=>((Zdl N r3 r4).bind fun r1042 =>
 ((Zdl N r3 p1041.2).bind fun r1043 =>
 (some ((r1042.2==0)&&((r1043.2==0)&&((r1042.1==r1043.1)&&(r1042.1==p1041.1)))))))
 | (.inr p1051)=>(some p1051))))))
end Go.Sh

