/- Part of the proof; written by a program out of the texts in wip/. -/
import Derived.Test.YthipedbbcjemhaaPlanFitsE33
namespace Go.Sh
open Go Go.Eng
set_option linter.unusedVariables false
set_option linter.unusedSimpArgs false
set_option maxRecDepth 100000
structure Zjj where
 x0:Int
 x1:Int
 x2:Int
 x3:Int
def ZeI (v:Zjj):List PC:=[.int .u8 v.x0,.int .u8 v.x1,.int .u8 v.x2,.int .u8 v.x3]
structure Zav where
 Periods:(List Int)
 Uses:(List Zjj)
def Zkv (v:Zav):List PC:=[.sl 1 false (List.map (eI .u8) v.Periods),.sl 4 false (List.map ZeI v.Uses)]
structure ZA where
 Stream:Int
 Port:Int
 From:Int
 Long:Int
def Zg (v:ZA):List PC:=[.int .i64 v.Stream,.int .i64 v.Port,.int .i64 v.From,.int .i64 v.Long]
structure Zf where
 Periods:(List Int)
 Uses:(List ZA)
def Zkw (v:Zf):List PC:=[.sl 1 false (List.map eI64 v.Periods),.sl 4 false (List.map Zg v.Uses)]
structure ZaE where
 x0:Int
 x1:Int
 x2:Int
 x3:Int
def Zt (v:ZaE):List PC:=[.int .i64 v.x0,.int .i64 v.x1,.int .i64 v.x2,.int .i64 v.x3]
structure ZaR where
 x0:Zf
 x1:Zf
 x2:Zf
structure Zw where
 Period:Int
 From:Int
 Long:Int
def Zai (v:Zw):List PC:=[.int .i64 v.Period,.int .i64 v.From,.int .i64 v.Long]
structure Zej where
 A:Int
 B:Int
 Per:Int
 Delay:Int
def ZV (v:Zej):List PC:=[.int .i64 v.A,.int .i64 v.B,.int .i64 v.Per,.int .i64 v.Delay]
structure ZC where
 Nodes:Int
 Station:(List Bool)
 Links:(List Zej)
structure Zaa where
 Grid:Int
 Slack:Int
 Proc:Int
 Cap:Int
structure ZeJ where
 Burst:Int
 Rate:Int
structure ZD where
 Id:Int
 Talker:Int
 Listener:Int
 Class:Int
 Size:Int
 Period:Int
 Bucket:ZeJ
 Deadline:Int
 Routes:(List (List Int))
def ZaK (v:ZD):List PC:=[.int .i64 v.Id,.int .i64 v.Talker,.int .i64 v.Listener,.int .i64 v.Class,.int .i64 v.Size,.int .i64 v.Period,.int .i64 v.Bucket.Burst,.int .i64 v.Bucket.Rate,.int .i64 v.Deadline,.sl 1 false (List.map (eSl 1 eI64) v.Routes)]
structure Zaf where
 Problem:Zf
 late:Bool
structure Zad where
 Port:Int
 Early:Int
 Late:Int
 Open:Int
 Long:Int
def Z5 (v:Zad):List PC:=[.int .i64 v.Port,.int .i64 v.Early,.int .i64 v.Late,.int .i64 v.Open,.int .i64 v.Long]
structure Zbr where
 x0:Bool
 x1:Bool
 x2:Bool
 x3:Bool
 x4:Bool
 x5:Bool
 x6:Bool
 x7:Bool
 x8:Bool
 x9:Bool
 x10:Bool
 x11:Bool
 x12:Bool
 x13:Bool
 x14:Bool
 x15:Bool
 x16:Bool
 x17:Bool
 x18:Bool
 x19:Bool
 x20:Bool
 x21:Bool
 x22:Bool
 x23:Bool
structure ZU where
 Topo:ZC
structure Zq where
 x0:Bool
 x1:Bool
 x2:Bool
 x3:Bool
 x4:Bool
 x5:Bool
 x6:Bool
 x7:Bool
 x8:Bool
 x9:Bool
 x10:Bool
 x11:Bool
structure ZaJ where
 port:Int
 from_:Int
 to_:Int
abbrev Ze (f:Bool) (l:List Int):AV:=.p (.sl 1 f (List.map eI64 l))
abbrev ZQ (f:Bool) (l:List Int):AV:=.p (.sl 1 f (List.map (eI .u8) l))
abbrev Zh (f:Bool) (l:List ZA):AV:=.p (.sl 4 f (List.map Zg l))
abbrev Zgp (f:Bool) (l:List Zjj):AV:=.p (.sl 4 f (List.map ZeI l))
abbrev Z3 (f:Bool) (l:List ZD):AV:=.p (.sl 10 f (List.map ZaK l))
abbrev s_eB (f:Bool) (l:List Bool):AV:=.p (.sl 1 f (List.map eB l))
abbrev Zp (f:Bool) (l:List Zej):AV:=.p (.sl 4 f (List.map ZV l))
abbrev ZO (f:Bool) (l:List (List Int)):AV:=.p (.sl 1 f (List.map (eSl 1 eI64) l))
abbrev Zag (f:Bool) (l:List Zw):AV:=.p (.sl 3 f (List.map Zai l))
abbrev Zfm (f:Bool) (l:List ZaE):AV:=.p (.sl 4 f (List.map Zt l))
abbrev Za1 (f:Bool) (l:List Zad):AV:=.p (.sl 5 f (List.map Z5 l))
abbrev ZgU (v:Zjj):List AV:=[.p (.int .u8 v.x0),.p (.int .u8 v.x1),.p (.int .u8 v.x2),.p (.int .u8 v.x3)]
abbrev Zo (v:Zav):List AV:=[ZQ false v.Periods,Zgp false v.Uses]
abbrev ZS (v:ZA):List AV:=[iv v.Stream,iv v.Port,iv v.From,iv v.Long]
abbrev Zc (v:Zf):List AV:=[Ze false v.Periods,Zh false v.Uses]
abbrev ZH (v:ZaE):List AV:=[iv v.x0,iv v.x1,iv v.x2,iv v.x3]
abbrev Zn (v:ZaR):List AV:=[Ze false v.x0.Periods,Zh false v.x0.Uses,Ze false v.x1.Periods,Zh false v.x1.Uses,Ze false v.x2.Periods,Zh false v.x2.Uses]
abbrev ZaG (v:Zw):List AV:=[iv v.Period,iv v.From,iv v.Long]
abbrev ZaO (v:Zej):List AV:=[iv v.A,iv v.B,iv v.Per,iv v.Delay]
abbrev Zd (v:ZC):List AV:=[iv v.Nodes,s_eB false v.Station,Zp false v.Links]
abbrev Zm (v:Zaa):List AV:=[iv v.Grid,iv v.Slack,iv v.Proc,iv v.Cap]
abbrev Zdo (v:ZeJ):List AV:=[iv v.Burst,iv v.Rate]
abbrev Zi (v:ZD):List AV:=[iv v.Id,iv v.Talker,iv v.Listener,iv v.Class,iv v.Size,iv v.Period,iv v.Bucket.Burst,iv v.Bucket.Rate,iv v.Deadline,ZO false v.Routes]
abbrev Zbq (v:Zad):List AV:=[iv v.Port,iv v.Early,iv v.Late,iv v.Open,iv v.Long]
abbrev Z9 (v:Zbr):List AV:=[bv v.x0,bv v.x1,bv v.x2,bv v.x3,bv v.x4,bv v.x5,bv v.x6,bv v.x7,bv v.x8,bv v.x9,bv v.x10,bv v.x11,bv v.x12,bv v.x13,bv v.x14,bv v.x15,bv v.x16,bv v.x17,bv v.x18,bv v.x19,bv v.x20,bv v.x21,bv v.x22,bv v.x23]
def Zbr.l (v:Zbr):List Bool:=[v.x0,v.x1,v.x2,v.x3,v.x4,v.x5,v.x6,v.x7,v.x8,v.x9,v.x10,v.x11,v.x12,v.x13,v.x14,v.x15,v.x16,v.x17,v.x18,v.x19,v.x20,v.x21,v.x22,v.x23]
def Zbr.get (v:Zbr) (i:Int):Option Bool:=idx v.l i
abbrev Zx (v:Zq):List AV:=[bv v.x0,bv v.x1,bv v.x2,bv v.x3,bv v.x4,bv v.x5,bv v.x6,bv v.x7,bv v.x8,bv v.x9,bv v.x10,bv v.x11]
def Zq.l (v:Zq):List Bool:=[v.x0,v.x1,v.x2,v.x3,v.x4,v.x5,v.x6,v.x7,v.x8,v.x9,v.x10,v.x11]
def Zq.ofL (l:List Bool):Zq:=⟨l.getD 0 false,l.getD 1 false,l.getD 2 false,l.getD 3 false,l.getD 4 false,l.getD 5 false,l.getD 6 false,l.getD 7 false,l.getD 8 false,l.getD 9 false,l.getD 10 false,l.getD 11 false⟩
def Zq.get (v:Zq) (i:Int):Option Bool:=idx v.l i
def Zq.set (v:Zq) (i:Int) (x:Bool):Zq:=Zq.ofL (v.l.set i.toNat x)
theorem Zq.l_ofL (l:List Bool) (h:l.length=12):(Zq.ofL l).l=l:=ofL_all 12 false l h rfl
theorem Zq.l_set (v:Zq) (i:Int) (x:Bool):(v.set i x).l=v.l.set i.toNat x:=Zq.l_ofL _ (by rw [List.length_set];rfl)
theorem Zq.c_set (v:Zq) (i:Int) (x:Bool):Zx (v.set i x)=(v.l.set i.toNat x).map (fun x=>bv x):=by rw [← Zq.l_set];rfl
abbrev Z0 (v:ZaJ):List AV:=[iv v.port,iv v.from_,iv v.to_]
def Zcd (N:Nat) (a0_:Zf) (a1_:(List Int)) (i3:Int) (l4:(List Int)):Option ((Int × (List Int)) ⊕ (((List Int)))) :=
 (if (decide (i3<((List.length a0_.Periods:Nat):Int))) then (((if (decide (i3<((List.length a1_:Nat):Int))) then ((idx a1_ i3).bind fun e1010 =>
 ((idx a0_.Periods i3).bind fun e1011 =>
 ((remI (w64 (e1010)) e1011).bind fun m1012 =>
 (some m1012)))) else (some 0))).bind fun (j1008:Int) =>
 ((appI 8 l4 [j1008]).bind fun l1015 =>
 (some (.inl ((w64 (i3+1)),l1015))))) else (some (.inr l4)))
def ZcZ (N:Nat) (a0_:Zf) (a1_:(List Int)):Option ((List Int)) :=
 ((Zac (fun x:Int × (List Int)=>Zcd N a0_ a1_ x.1 x.2) N (0,[])).bind fun o1016 =>
 (some o1016))
def Zao (N:Nat) (a0_:Zav) (i3:Int) (l4:(List Int)):Option ((Int × (List Int)) ⊕ (((List Int)))) :=
 (if ((decide (i3<((List.length a0_.Periods:Nat):Int)))&&(decide (i3<5))) then ((idx a0_.Periods i3).bind fun e510 =>
 ((idx [4,6,8,12,3,5,10,24] (Int.tmod e510 8)).bind fun e511 =>
 ((appI 8 l4 [e511]).bind fun l514 =>
 (some (.inl ((w64 (i3+1)),l514)))))) else (some (.inr l4)))
def Zan (N:Nat) (a0_:Zav) (o515:(List Int)) (i519:Int) (l520:(List ZA)):Option ((Int × (List ZA)) ⊕ (((List ZA)))) :=
 (((if (decide (i519<((List.length a0_.Uses:Nat):Int))) then (if (decide (i519<12)) then (some (decide (((List.length o515:Nat):Int) > 0))) else (some false)) else (some false))).bind fun (j1029:Bool) =>
 (if j1029 then ((idx a0_.Uses i519).bind fun e1031 =>
 ((remI (w64 (e1031.x0)) ((List.length o515:Nat):Int)).bind fun m1033 =>
 ((idx o515 m1033).bind fun e1034 =>
 ((remI (w64 (e1031.x2)) e1034).bind fun m1037 =>
 ((remI (w64 (e1031.x3)) e1034).bind fun m1038 =>
 ((remI (Int.tmod m1038 4) e1034).bind fun m1039 =>
 ((appI 32 l520 [(ZA.mk m1033 (w64 ((Int.tmod e1031.x1 4))) m1037 (w64 (1+m1039)))]).bind fun l1042 =>
 (some (.inl ((w64 (i519+1)),l1042)))))))))) else (some (.inr l520))))
def Zab (N:Nat) (a0_:Zav):Option (Zf) :=
 ((Zac (fun x:Int × (List Int)=>Zao N a0_ x.1 x.2) N (0,[])).bind fun o515 =>
 ((Zac (fun x:Int × (List ZA)=>Zan N a0_ o515 x.1 x.2) N (0,[])).bind fun o1043 =>
 (some (Zf.mk o515 o1043))))
def Zhs (N:Nat):Option (ZC) :=
 (some (ZC.mk 3 ([true,false,true]) ([(Zej.mk 0 1 8 5),(Zej.mk 1 2 8 5)])))
def Zax (N:Nat) (a0_:Int) (a1_:Int) (a2_:Int):Option (ZD) :=
 (some (ZD.mk a0_ 0 2 7 100 a1_ (ZeJ.mk 0 0) a2_ ([[0,2]])))
def ZcA (N:Nat) (a0_:Zf) (a1_:Int) (a2_:Int):Option (Bool) :=
 (((if (decide (a2_ ≥ 0)) then ((idx a0_.Periods a1_).bind fun e2=>(some (decide (a2_<e2)))) else (some false))).bind fun (j4:Bool) =>
 (some j4))
def Zb2 (N:Nat) (a0_:Zf) (a1_:Int) (a2_:Int):Option (Bool) :=
 (((if (decide (a1_ ≥ 0)) then (if (decide (a1_<((List.length a0_.Periods:Nat):Int))) then (if (decide (a2_ ≥ 0)) then ((idx a0_.Periods a1_).bind fun e4=>(some (decide (a2_<e4)))) else (some false)) else (some false)) else (some false))).bind fun (j8:Bool) =>
 (some j8))
def Za8 (N:Nat) (a0_:Zf) (a1_:(List Int)) (i2:Int):Option ((Int) ⊕ ((Unit) ⊕ (Bool))) :=
 (if (decide (i2<((List.length a1_:Nat):Int))) then ((idx a1_ i2).bind fun e504 =>
 ((Zb2 N a0_ i2 e504).bind fun r505 =>
 (if (!r505) then (some (.inr (.inr false))) else (some (.inl (w64 (i2+1))))))) else (some (.inr (.inl ()))))
def ZcP (N:Nat) (a0_:Zf) (a1_:(List Int)):Option (Bool) :=
 (if (((List.length a1_:Nat):Int) != ((List.length a0_.Periods:Nat):Int)) then (some false) else ((Zac (fun x:Int=>Za8 N a0_ a1_ x) N 0).bind fun o507=>match o507 with
 | (.inl p508)=>(some true)
 | (.inr p509)=>(some p509)))
def ZdR (N:Nat) (a0_:Zf) (a1_:Zf) (i4:Int):Option ((Int) ⊕ ((Unit) ⊕ (Bool))) :=
 (if (decide (i4<((List.length a0_.Periods:Nat):Int))) then ((idx a0_.Periods i4).bind fun e506 =>
 ((idx a1_.Periods i4).bind fun e507 =>
 (if (e506 != e507) then (some (.inr (.inr false))) else (some (.inl (w64 (i4+1))))))) else (some (.inr (.inl ()))))
def ZdQ (N:Nat) (a0_:Zf) (a1_:Zf) (i511:Int):Option ((Int) ⊕ ((Unit) ⊕ (Bool))) :=
 (if (decide (i511<((List.length a0_.Uses:Nat):Int))) then ((idx a0_.Uses i511).bind fun e1013 =>
 ((idx a1_.Uses i511).bind fun e1014 =>
 (if (!((e1013.Stream==e1014.Stream)&&((e1013.Port==e1014.Port)&&((e1013.From==e1014.From)&&((e1013.Long==e1014.Long)&&true))))) then (some (.inr (.inr false))) else (some (.inl (w64 (i511+1))))))) else (some (.inr (.inl ()))))
def Zhf (N:Nat) (a0_:Zf) (a1_:Zf):Option (Bool) :=
 (if ((((List.length a0_.Periods:Nat):Int) != ((List.length a1_.Periods:Nat):Int))||(((List.length a0_.Uses:Nat):Int) != ((List.length a1_.Uses:Nat):Int))) then (some false) else ((Zac (fun x:Int=>ZdR N a0_ a1_ x) N 0).bind fun o509=>match o509 with
 | (.inl p510)=>((Zac (fun x:Int=>ZdQ N a0_ a1_ x) N 0).bind fun o1016=>match o1016 with
 | (.inl p1017)=>(some true)
 | (.inr p1018)=>(some p1018))
 | (.inr p1019)=>(some p1019)))
def Zb3 (N:Nat) (a0_:(List Int)) (i1:Int) (b503:Bool) (i504:Int):Option ((Bool × Int) ⊕ ((Bool))) :=
 (if (decide (i504<((List.length a0_:Nat):Int))) then (((if b503 then ((idx a0_ i504).bind fun e1007=>((remI i1 e1007).bind fun m1008=>(if (m1008==0) then (some true) else (some false)))) else (some false))).bind fun (j1012:Bool) =>
 (some (.inl (j1012,(w64 (i504+1)))))) else (some (.inr b503)))
def Zbt (N:Nat) (a0_:(List Int)) (i1:Int):Option ((Int) ⊕ ((Unit) ⊕ (Int))) :=
 (if (decide (i1≤960)) then ((Zac (fun x:Bool × Int=>Zb3 N a0_ i1 x.1 x.2) N (true,0)).bind fun o1013 =>
 (if o1013 then (some (.inr (.inr i1))) else (some (.inl (w64 (i1+1)))))) else (some (.inr (.inl ()))))
def Zfr (N:Nat) (a0_:(List Int)):Option (Int) :=
 ((Zac (fun x:Int=>Zbt N a0_ x) N 1).bind fun o1015=>match o1015 with
 | (.inl p1016)=>(some 0)
 | (.inr p1017)=>(some p1017))
def Zcg (N:Nat) (a0_:Zf) (a1_:ZA) (a2_:Int):Option (Zw) :=
 ((idx a0_.Periods a1_.Stream).bind fun e1 =>
 ((remI (w64 (a1_.From+a2_)) e1).bind fun m2 =>
 (some (Zw.mk e1 m2 a1_.Long))))
def ZfO (N:Nat) (a0_:Zf) (a1_:Int) (a2_:Int):Option (Zw) :=
 ((idx a0_.Uses a1_).bind fun e1 =>
 ((idx a0_.Periods e1.Stream).bind fun e2 =>
 ((idx a0_.Uses a1_).bind fun e3 =>
 ((remI (w64 (e3.From+a2_)) e2).bind fun m4 =>
 ((idx a0_.Uses a1_).bind fun e5 =>
 (some (Zw.mk e2 m4 e5.Long)))))))
def ZfP (N:Nat) (a0_:Zf) (a1_:Int) (a2_:Int):Option (Zf × Int × Int) :=
 (some (a0_,a1_,a2_))
def Zae (N:Nat) (a0_:Int) (a1_:Int) (a2_:Int):Option (Bool) :=
 (some ((decide (a0_ ≥ a1_))&&(decide (a0_≤a2_))))
def ZeF (N:Nat) (a0_:Int) (a1_:Int):Option (Int) :=
 ((quoI .i64 a0_ a1_).bind fun q1 =>
 ((((remI a0_ a1_).bind fun m503 =>
 (if (decide (m503<0)) then (some (w64 (q1 - 1))) else (some q1)))).bind fun (j502:Int) =>
 (some j502)))
def Zbn {σ:Type} (N:Nat) (y_:σ→ZA→ZA→Option (σ × Bool)) (c0_:Zf) (c2_:Int) (i4:Int) (e509:ZA) (i515:Int) (g516:σ):Option ((Int × σ) ⊕ ((σ) ⊕ (σ))) :=
 (if (decide (i515<((List.length c0_.Uses:Nat):Int))) then ((idx c0_.Uses i515).bind fun e1020 =>
 (((if (i515==i4) then (some true) else (if (e1020.Stream != c2_) then (some true) else (some (e1020.Port != e509.Port))))).bind fun (j1026:Bool) =>
 (if j1026 then (some (.inl ((w64 (i515+1)),g516))) else ((y_ g516 e509 e1020).bind fun r1028 =>
 (if (!r1028.2) then (some (.inr (.inr r1028.1))) else (some (.inl ((w64 (i515+1)),r1028.1)))))))) else (some (.inr (.inl g516))))
def Zbo {σ:Type} (N:Nat) (y_:σ→ZA→ZA→Option (σ × Bool)) (c0_:Zf) (c1_:Int) (c2_:Int) (i4:Int) (g5:σ):Option ((Int × σ) ⊕ ((σ) ⊕ (σ))) :=
 (if (decide (i4<((List.length c0_.Uses:Nat):Int))) then ((idx c0_.Uses i4).bind fun e509 =>
 (if (e509.Stream != c1_) then (some (.inl ((w64 (i4+1)),g5))) else ((Zac (fun x:Int × σ=>Zbn N y_ c0_ c2_ i4 e509 x.1 x.2) N (0,g5)).bind fun o1032=>match o1032 with
 | (.inl p1033)=>(some (.inl ((w64 (i4+1)),p1033)))
 | (.inr p1034)=>(some (.inr (.inr p1034)))))) else (some (.inr (.inl g5))))
def Zdm {σ:Type} (N:Nat) (y_:σ→ZA→ZA→Option (σ × Bool)) (c0_:Zf) (c1_:Int) (c2_:Int) (s_:σ):Option (σ) :=
 ((Zac (fun x:Int × σ=>Zbo N y_ c0_ c1_ c2_ x.1 x.2) N (0,s_)).bind fun o1035=>match o1035 with
 | (.inl p1036)=>(some p1036)
 | (.inr p1037)=>(some p1037))
def ZbC (N:Nat) (a0_:Zw):Option (Int) :=
 (if ((decide (a0_.Period<1))||((decide (a0_.Period > 960))||((decide (a0_.From<0))||(decide (a0_.From ≥ a0_.Period))))) then (some 330) else (if ((decide (a0_.Long<1))||(decide (a0_.Long > a0_.Period))) then (some 330) else (some 0)))
def Zbu (N:Nat) (a0_:Int) (a1_:Int) (i1:Int):Option ((Int) ⊕ ((Unit) ⊕ (Int))) :=
 (if (decide (i1 > 1)) then ((((remI a0_ i1).bind fun m503=>(if (m503==0) then ((remI a1_ i1).bind fun m505=>(some (m505==0))) else (some false)))).bind fun (j507:Bool) =>
 (if j507 then (some (.inr (.inr i1))) else (some (.inl (w64 (i1 - 1)))))) else (some (.inr (.inl ()))))
def Zft (N:Nat) (a0_:Int) (a1_:Int):Option (Int) :=
 ((Zac (fun x:Int=>Zbu N a0_ a1_ x) N a0_).bind fun o509=>match o509 with
 | (.inl p510)=>(some 1)
 | (.inr p511)=>(some p511))
def Zfs (N:Nat) (a0_:Int) (a1_:Int):Option (Int) :=
 ((remI a0_ a1_).bind fun m1 =>
 (((if (decide (m1<0)) then (some (w64 (m1+a1_))) else (some m1))).bind fun (j502:Int) =>
 (some j502)))
def Zaq (N:Nat) (a0_:(List Zw)) (i2:Int):Option ((Int) ⊕ ((Unit) ⊕ (Int))) :=
 (if (decide (i2<((List.length a0_:Nat):Int))) then ((idx a0_ i2).bind fun e504 =>
 ((ZbC N e504).bind fun r505 =>
 (if (r505 != 0) then (some (.inr (.inr r505))) else (some (.inl (w64 (i2+1))))))) else (some (.inr (.inl ()))))
def ZbI (N:Nat) (a0_:(List Zw)):Option (Int) :=
 (if (decide (((List.length a0_:Nat):Int) > 32)) then (some 3) else ((Zac (fun x:Int=>Zaq N a0_ x) N 0).bind fun o507=>match o507 with
 | (.inl p508)=>(some 0)
 | (.inr p509)=>(some p509)))
def ZdJ (N:Nat) (a0_:ZC) (a2_:Zbr) (i517:Int) (l518:(List Bool)):Option ((Int × (List Bool)) ⊕ (((List Bool)))) :=
 (if (decide (i517<((List.length a0_.Links:Nat):Int))) then ((((idx a0_.Links i517).bind fun e1525 =>
 ((((a2_.get i517).bind fun e1526=>(if (!e1526) then ((idx l518 e1525.A).bind fun e1528=>((idx l518 e1525.B).bind fun e1531=>(some (e1528 != e1531)))) else (some false)))).bind fun (j1535:Bool) =>
 (if j1535 then ((idx l518 e1525.A).bind fun e1537 =>
 ((idx (List.set l518 (Int.toNat e1525.A) true) e1525.B).bind fun e1541 =>
 (some (List.set (List.set l518 (Int.toNat e1525.A) true) (Int.toNat e1525.B) true)))) else (some l518))))).bind fun (j1524:(List Bool)) =>
 (some (.inl ((w64 (i517+1)),j1524)))) else (some (.inr l518)))
def ZdK (N:Nat) (a0_:ZC) (a2_:Zbr) (i10:Int) (l11:(List Bool)):Option ((Int × (List Bool)) ⊕ (((List Bool)))) :=
 (if (decide (i10<a0_.Nodes)) then ((Zac (fun x:Int × (List Bool)=>ZdJ N a0_ a2_ x.1 x.2) N (0,l11)).bind fun o1545 =>
 (some (.inl ((w64 (i10+1)),o1545)))) else (some (.inr l11)))
def Zg0 (N:Nat) (a0_:ZC) (a1_:Int) (a2_:Zbr):Option ((List Bool)) :=
 ((ZiW 1 a0_.Nodes a0_.Nodes false).bind fun l3 =>
 ((idx l3 a1_).bind fun e4 =>
 ((Zac (fun x:Int × (List Bool)=>ZdK N a0_ a2_ x.1 x.2) N (0,(List.set l3 (Int.toNat a1_) true))).bind fun o1546 =>
 (some o1546))))
def Zes (N:Nat) (c0_:ZD):Option (Bool) :=
 ((Zae N c0_.Id 1 4095).bind fun r2 =>
 (some r2))
def Zda (N:Nat) (a0_:ZC) (a1_:Int):Option (Bool) :=
 ((((Zae N a1_ 0 (w64 (a0_.Nodes - 1))).bind fun r1=>(if r1 then ((idx a0_.Station a1_).bind fun e3=>(some e3)) else (some false)))).bind fun (j5:Bool) =>
 (some j5))
def Zeq (N:Nat) (c0_:ZD):Option (Bool) :=
 ((Zae N c0_.Size 84 1542).bind fun r2 =>
 (some r2))
def Zep (N:Nat) (c0_:ZD):Option (Bool) :=
 ((Zae N c0_.Deadline 1 1099511627776).bind fun r2 =>
 (some r2))
def Zen (N:Nat) (c0_:ZD):Option (Bool) :=
 ((Zae N ((List.length c0_.Routes:Nat):Int) 1 2).bind fun r2 =>
 (some r2))
def ZeN (N:Nat) (a0_:ZC) (a1_:Zaa) (a2_:ZD) (a3_:Int):Option (ZD × Int × ZC × Zaa) :=
 (some (a2_,a3_,a0_,a1_))
def ZdY (N:Nat) (a0_:Int) (a1_:Int):Option (Int) :=
 ((remI a0_ a1_).bind fun m1 =>
 ((remI (w64 (m1+a1_)) a1_).bind fun m2 =>
 (some m2)))
def Zbd (N:Nat) (i1:Int) (i2:Int):Option ((Int × Int) ⊕ ((Int))) :=
 (if (i2 != 0) then ((remI i1 i2).bind fun m504 =>
 (some (.inl (i2,m504)))) else (some (.inr i1)))
def ZcY (N:Nat) (a0_:Int) (a1_:Int):Option (Int) :=
 ((Zac (fun x:Int × Int=>Zbd N x.1 x.2) N (a0_,a1_)).bind fun o505 =>
 (some o505))
def ZgC (N:Nat) (a0_:ZC) (a1_:Int):Option (Bool) :=
 (some ((decide (a1_ ≥ 0))&&(decide (a1_<a0_.Nodes))))
def Zfg (N:Nat) (a0_:Int) (c0_:ZC):Option (Bool) :=
 ((idx c0_.Links a0_).bind fun e2 =>
 ((((idx c0_.Station e2.A).bind fun e4=>(if (!e4) then (some true) else ((idx c0_.Station e2.B).bind fun e8=>(some (!e8)))))).bind fun (j9:Bool) =>
 (some j9)))
def ZcG (N:Nat) (e2:Zej) (l4:List Zej) (i5:Int):Option ((Int) ⊕ ((Unit) ⊕ (Bool))) :=
 (if (decide (i5<((List.length l4:Nat):Int))) then ((idx l4 i5).bind fun e507 =>
 (if (if (e2.A==e507.A) then ((e2.B==e507.B)||((e2.A==e507.B)&&(e2.B==e507.A))) else ((e2.A==e507.B)&&(e2.B==e507.A))) then (some (.inr (.inr false))) else (some (.inl (w64 (i5+1)))))) else (some (.inr (.inl ()))))
def Zff (N:Nat) (a0_:Int) (c0_:ZC):Option (Bool) :=
 ((idx c0_.Links a0_).bind fun e2 =>
 ((subI c0_.Links 0 a0_).bind fun l4 =>
 ((Zac (fun x:Int=>ZcG N e2 l4 x) N 0).bind fun o517=>match o517 with
 | (.inl p518)=>(some true)
 | (.inr p519)=>(some p519))))
def Zfe (N:Nat) (a0_:Int) (c0_:ZC):Option (Bool) :=
 ((idx c0_.Links a0_).bind fun e2 =>
 (some ((decide (e2.Per ≥ 1))&&((decide (e2.Per≤1000))&&((decide (e2.Delay ≥ 0))&&(decide (e2.Delay≤10000)))))))
def ZaD (N:Nat) (a0_:(List Bool)) (a1_:Bool) (i1:Int):Option ((Int) ⊕ ((Unit) ⊕ (Int))) :=
 (if (decide (i1<((List.length a0_:Nat):Int))) then ((idx a0_ i1).bind fun e503 =>
 (if (a1_==e503) then (some (.inr (.inr i1))) else (some (.inl (w64 (i1+1)))))) else (some (.inr (.inl ()))))
def ZbA (N:Nat) (a0_:(List Bool)) (a1_:Bool):Option (Int) :=
 ((Zac (fun x:Int=>ZaD N a0_ a1_ x) N 0).bind fun o505=>match o505 with
 | (.inl p506)=>(some (-1))
 | (.inr p507)=>(some p507))
def Zcm (N:Nat) (a0_:Int) (a1_:Int) (a2_:Int):Option (Bool) :=
 (some ((decide (a1_≤a0_))&&(decide (a0_≤a2_))))
def ZcK (N:Nat) (a1_:(List Int)) (e503:Int) (i504:Int):Option ((Int) ⊕ ((Unit) ⊕ (Bool))) :=
 (if (decide (i504<((List.length a1_:Nat):Int))) then ((idx a1_ i504).bind fun e1006 =>
 (if ((w64 (Int.tdiv e503 2))==(w64 (Int.tdiv e1006 2))) then (some (.inr (.inr true))) else (some (.inl (w64 (i504+1)))))) else (some (.inr (.inl ()))))
def ZcL (N:Nat) (a0_:(List Int)) (a1_:(List Int)) (i1:Int):Option ((Int) ⊕ ((Unit) ⊕ (Bool))) :=
 (if (decide (i1<((List.length a0_:Nat):Int))) then ((idx a0_ i1).bind fun e503 =>
 ((Zac (fun x:Int=>ZcK N a1_ e503 x) N 0).bind fun o1008=>match o1008 with
 | (.inl p1009)=>(some (.inl (w64 (i1+1))))
 | (.inr p1010)=>(some (.inr (.inr p1010))))) else (some (.inr (.inl ()))))
def Zfq (N:Nat) (a0_:(List Int)) (a1_:(List Int)):Option (Bool) :=
 ((Zac (fun x:Int=>ZcL N a0_ a1_ x) N 0).bind fun o1011=>match o1011 with
 | (.inl p1012)=>(some false)
 | (.inr p1013)=>(some p1013))
def Zcu {σ:Type} (N:Nat) (y_:σ→Zad→Option (σ × Bool)) (c0_:ZD) (c2_:ZC) (c3_:Zaa) (e3:(List Int)) (i6:Int) (i7:Int) (i10:Int) (i11:Int) (i12:Int) (i8:Int) (g9:σ):Option ((Int × Int × Int × Int × Int × Int × σ) ⊕ ((σ) ⊕ (σ))) :=
 (if (decide (i6<((List.length e3:Nat):Int))) then ((idx e3 i6).bind fun e516 =>
 (((if (decide (i6 > 0)) then ((idx c2_.Links (w64 (Int.tdiv i7 2))).bind fun e1020 =>
 ((quoI .i64 (w64 ((w64 ((w64 ((w64 ((w64 ((w64 (i12+i8))+e1020.Delay))+c3_.Proc))+(w64 (2 * c3_.Slack))))+c3_.Grid)) - 1)) c3_.Grid).bind fun q1026 =>
 (some ((w64 ((w64 ((w64 ((w64 (i12+i8))+e1020.Delay))+c3_.Proc)) - (w64 (2 * c3_.Slack)))),(w64 ((w64 ((w64 ((w64 (i12+i8))+e1020.Delay))+c3_.Proc))+(w64 (2 * c3_.Slack)))),(w64 (q1026 * c3_.Grid)))))) else (some (i10,i11,i12)))).bind fun (j1017:Int × Int × Int) =>
 ((idx c2_.Links (w64 (Int.tdiv e516 2))).bind fun e1030 =>
 ((y_ g9 (Zad.mk e516 j1017.1 j1017.2.1 j1017.2.2 (w64 (c0_.Size * e1030.Per)))).bind fun r1031 =>
 (if (!r1031.2) then (some (.inr (.inr r1031.1))) else (some (.inl ((w64 (i6+1)),e516,j1017.1,j1017.2.1,j1017.2.2,(w64 (c0_.Size * e1030.Per)),r1031.1)))))))) else (some (.inr (.inl g9))))
def ZdN {σ:Type} (N:Nat) (y_:σ→Zad→Option (σ × Bool)) (c0_:ZD) (c1_:Int) (c2_:ZC) (c3_:Zaa) (s_:σ):Option (σ) :=
 ((idx c0_.Routes c1_).bind fun e3 =>
 ((Zac (fun x:Int × Int × Int × Int × Int × Int × σ=>Zcu N y_ c0_ c2_ c3_ e3 x.1 x.2.1 x.2.2.1 x.2.2.2.1 x.2.2.2.2.1 x.2.2.2.2.2.1 x.2.2.2.2.2.2) N (0,0,0,0,0,0,s_)).bind fun o1035=>match o1035 with
 | (.inl p1036)=>(some p1036)
 | (.inr p1037)=>(some p1037)))
def ZcJ (N:Nat) (a0_:ZU) (a1_:(List Int)):Option ((List Int) × ZU) :=
 (some (a1_,a0_))
def Zbh {σ:Type} (N:Nat) (y_:σ→Int→ZaJ→Option (σ × Bool)) (c0_:(List Int)) (c1_:ZU) (i4:Int) (g5:σ):Option ((Int × σ) ⊕ ((σ))) :=
 (if (decide (i4<((List.length c0_:Nat):Int))) then ((idx c0_ i4).bind fun e509 =>
 (((if (decide (e509<0)) then (some true) else (some (decide (e509 ≥ (w64 (2 * ((List.length c1_.Topo.Links:Nat):Int)))))))).bind fun (j513:Bool) =>
 (if j513 then (some (.inr g5)) else ((idx c1_.Topo.Links (w64 (Int.tdiv e509 2))).bind fun e516 =>
 (((if ((Int.tmod e509 2)==1) then (some (e516.B,e516.A)) else (some (e516.A,e516.B)))).bind fun (j1017:Int × Int) =>
 ((y_ g5 i4 (ZaJ.mk e509 j1017.1 j1017.2)).bind fun r1019 =>
 (if (!r1019.2) then (some (.inr r1019.1)) else (some (.inl ((w64 (i4+1)),r1019.1)))))))))) else (some (.inr g5)))
def Zcc {σ:Type} (N:Nat) (y_:σ→Int→ZaJ→Option (σ × Bool)) (c0_:(List Int)) (c1_:ZU) (s_:σ):Option (σ) :=
 ((Zac (fun x:Int × σ=>Zbh N y_ c0_ c1_ x.1 x.2) N (0,s_)).bind fun o1023 =>
 (some o1023))
def ZaN (N:Nat) (a0_:(List Int)) (a1_:Int) (i1:Int):Option ((Int) ⊕ ((Unit) ⊕ (Int))) :=
 (if (decide (i1<((List.length a0_:Nat):Int))) then ((idx a0_ i1).bind fun e503 =>
 (if (a1_==e503) then (some (.inr (.inr i1))) else (some (.inl (w64 (i1+1)))))) else (some (.inr (.inl ()))))
def Zb1 (N:Nat) (a0_:(List Int)) (a1_:Int):Option (Int) :=
 ((Zac (fun x:Int=>ZaN N a0_ a1_ x) N 0).bind fun o505=>match o505 with
 | (.inl p506)=>(some (-1))
 | (.inr p507)=>(some p507))
def Zcs (N:Nat) (a0_:Zav) (a1_:Zf) (a2_:Int):Option (ZaR) :=
 ((Zab N a0_).bind fun r1 =>
 ((subI a1_.Periods 0 (if 13<((List.length a1_.Periods:Nat):Int) then 13 else ((List.length a1_.Periods:Nat):Int))).bind fun l2 =>
 ((subI a1_.Uses 0 (if 200<((List.length a1_.Uses:Nat):Int) then 200 else ((List.length a1_.Uses:Nat):Int))).bind fun l3 =>
 ((appI 8 [] r1.Periods).bind fun l6 =>
 ((appI 32 [] r1.Uses).bind fun l9 =>
 (((((if (decide (((List.length l9:Nat):Int) > 0)) then (if (decide (((List.length l3:Nat):Int) > 0)) then (some ((Int.tmod a2_ 2)==0)) else (some false)) else (some false))).bind fun (j519:Bool) =>
 (if j519 then ((remI (w64 (a2_)) ((List.length l9:Nat):Int)).bind fun m522 =>
 ((idx l3 0).bind fun e523 =>
 ((idx l9 m522).bind fun e524 =>
 (some (l6,(List.set l9 (Int.toNat m522) e523)))))) else (((if (decide (((List.length l6:Nat):Int) > 0)) then (some (decide (((List.length l2:Nat):Int) > 0))) else (some false))).bind fun (j531:Bool) =>
 (if j531 then ((remI (w64 (a2_)) ((List.length l6:Nat):Int)).bind fun m534 =>
 ((idx l2 0).bind fun e535 =>
 ((idx l6 m534).bind fun e536 =>
 (some ((List.set l6 (Int.toNat m534) e535),l9))))) else (some (l6,l9))))))).bind fun (j513:(List Int) × (List ZA)) =>
 (some (ZaR.mk r1 (Zf.mk l2 l3) (Zf.mk j513.1 j513.2)))))))))
def ZbM (N:Nat) (a0_:Zf) (i4:Int):Option ((Int) ⊕ ((Unit) ⊕ (Bool))) :=
 (if (decide (i4<((List.length a0_.Periods:Nat):Int))) then ((((idx a0_.Periods i4).bind fun e506=>(if (decide (e506<1)) then (some true) else ((idx a0_.Periods i4).bind fun e509=>(some (decide (e509 > 240))))))).bind fun (j510:Bool) =>
 (if j510 then (some (.inr (.inr false))) else (some (.inl (w64 (i4+1)))))) else (some (.inr (.inl ()))))
def ZbL (N:Nat) (a0_:Zf) (i514:Int):Option ((Int) ⊕ ((Unit) ⊕ (Bool))) :=
 (if (decide (i514<((List.length a0_.Uses:Nat):Int))) then ((idx a0_.Uses i514).bind fun e1016 =>
 (if ((decide (e1016.Stream<0))||((decide (e1016.Stream ≥ ((List.length a0_.Periods:Nat):Int)))||((decide (e1016.Port<0))||(decide (e1016.Port ≥ 48))))) then (some (.inr (.inr false))) else (((if (decide (e1016.From<0)) then (some true) else ((idx a0_.Periods e1016.Stream).bind fun e1026=>(if (decide (e1016.From ≥ e1026)) then (some true) else (if (decide (e1016.Long<1)) then (some true) else ((idx a0_.Periods e1016.Stream).bind fun e1031=>(some (decide (e1016.Long > e1031))))))))).bind fun (j1032:Bool) =>
 (if j1032 then (some (.inr (.inr false))) else (some (.inl (w64 (i514+1)))))))) else (some (.inr (.inl ()))))
def Zc0 (N:Nat) (a0_:Zf):Option (Bool) :=
 (if ((decide (((List.length a0_.Periods:Nat):Int) > 12))||(decide (((List.length a0_.Uses:Nat):Int) > 192))) then (some false) else ((Zac (fun x:Int=>ZbM N a0_ x) N 0).bind fun o512=>match o512 with
 | (.inl p513)=>((Zac (fun x:Int=>ZbL N a0_ x) N 0).bind fun o1034=>match o1034 with
 | (.inl p1035)=>((Zfr N a0_.Periods).bind fun r1036 =>
 (some (decide (r1036 > 0))))
 | (.inr p1037)=>(some p1037))
 | (.inr p1038)=>(some p1038)))
def Zcb (N:Nat) (a0_:Zaa):Option (Int) :=
 ((((Zae N a0_.Grid 1 10000).bind fun r1=>(if (!r1) then (some true) else ((Zae N a0_.Slack 0 1000).bind fun r4=>(some (!r4)))))).bind fun (j5:Bool) =>
 (if j5 then (some 320) else ((((Zae N a0_.Proc 0 10000).bind fun r7=>(if (!r7) then (some true) else ((Zae N a0_.Cap 1542 65536).bind fun r10=>(some (!r10)))))).bind fun (j11:Bool) =>
 (if j11 then (some 320) else (some 0)))))
def Zam (N:Nat) (a0_:Zw) (a1_:Zw) (r1:Int) (i2:Int):Option ((Int) ⊕ ((Unit) ⊕ (Bool))) :=
 (if (decide (i2<a0_.Long)) then ((Zfs N (w64 ((w64 (a1_.From - a0_.From)) - i2)) r1).bind fun r504 =>
 (if (r504==0) then (some (.inr (.inr false))) else (some (.inl (w64 (i2+1)))))) else (some (.inr (.inl ()))))
def ZbQ (N:Nat) (a0_:Zw) (a1_:Zw):Option (Bool) :=
 ((Zft N a0_.Period a1_.Period).bind fun r1 =>
 ((Zac (fun x:Int=>Zam N a0_ a1_ r1 x) N (w64 (1 - a1_.Long))).bind fun o506=>match o506 with
 | (.inl p507)=>(some true)
 | (.inr p508)=>(some p508)))
def Zau (N:Nat) (a0_:Int) (a1_:(List Int)) (i1:Int) (i2:Int):Option ((Int × Int) ⊕ ((Int))) :=
 (if (decide (i2<((List.length a1_:Nat):Int))) then ((idx a1_ i2).bind fun e504 =>
 ((ZcY N i1 e504).bind fun r505 =>
 ((quoI .i64 i1 r505).bind fun q506 =>
 (if (decide ((w64 (q506 * e504)) > a0_)) then (some (.inr (w64 (q506 * e504)))) else (some (.inl ((w64 (q506 * e504)),(w64 (i2+1))))))))) else (some (.inr i1)))
def Zdk (N:Nat) (a0_:Int) (a1_:(List Int)):Option (Int) :=
 ((Zac (fun x:Int × Int=>Zau N a0_ a1_ x.1 x.2) N (1,0)).bind fun o508 =>
 (some o508))
def Za7 (N:Nat) (a0_:(List Bool)) (a1_:Bool):Option (Bool) :=
 ((ZbA N a0_ a1_).bind fun r1 =>
 (some (decide (r1 ≥ 0))))
def Zer (N:Nat) (c0_:ZC) (c1_:ZD):Option (Bool) :=
 ((((Zda N c0_ c1_.Talker).bind fun r3=>(if r3 then ((Zda N c0_ c1_.Listener).bind fun r7=>(if r7 then (some (c1_.Talker != c1_.Listener)) else (some false))) else (some false)))).bind fun (j13:Bool) =>
 (some j13))
def ZfI (N:Nat) (a0_:ZeJ):Option (Int) :=
 ((((Zcm N a0_.Burst 1 1048576).bind fun r1=>(if (!r1) then (some true) else ((Zcm N a0_.Rate 1 2097152).bind fun r4=>(some (!r4)))))).bind fun (j5:Bool) =>
 (if j5 then (some 130) else (some 0)))
def Zdj (N:Nat) (a0_:Zw) (a1_:Zw):Option (Int × Int × Int) :=
 ((ZcY N a0_.Period a1_.Period).bind fun r1 =>
 (some (a0_.Long,(w64 (r1 - a1_.Long)),r1)))
def Zfh (N:Nat) (a0_:Int) (c0_:ZC):Option (Bool) :=
 ((idx c0_.Links a0_).bind fun e2 =>
 ((((ZgC N c0_ e2.A).bind fun r4=>(if r4 then ((ZgC N c0_ e2.B).bind fun r7=>(if r7 then (some (e2.A != e2.B)) else (some false))) else (some false)))).bind fun (j11:Bool) =>
 (some j11)))
def Za2 (N:Nat) (a0_:ZU) (i524:Int) (i525:Int) (l526:Zq) (x522:Int) (x523:ZaJ):Option ((Int × Int × Zq) × Nat) :=
 (if (x522==0) then ((l526.get x523.from_).bind fun e1026 =>
 (((Zq.set l526 x523.from_ true).get x523.to_).bind fun e1028 =>
 (if e1028 then (some ((i524,i525,(Zq.set l526 x523.from_ true)),1)) else (((Zq.set l526 x523.from_ true).get x523.to_).bind fun e1031 =>
 (some (((w64 (i524+1)),x523.to_,(Zq.set (Zq.set l526 x523.from_ true) x523.to_ true)),0)))))) else (((if (x523.from_ != i525) then (some true) else ((idx a0_.Topo.Station i525).bind fun e1041=>(some e1041)))).bind fun (j1042:Bool) =>
 (if j1042 then (some ((i524,i525,l526),1)) else ((l526.get x523.to_).bind fun e1044 =>
 (if e1044 then (some ((i524,i525,l526),1)) else ((l526.get x523.to_).bind fun e1047 =>
 (some (((w64 (i524+1)),x523.to_,(Zq.set l526 x523.to_ true)),0))))))))
def Zcv (N:Nat) (a0_:ZU) (a1_:(List Int)):Option (Bool) :=
 (if ((decide (((List.length a1_:Nat):Int)<1))||(decide (((List.length a1_:Nat):Int) > 8))) then (some false) else ((((ZcJ N a0_ a1_).bind fun r517 =>
 ((Zcc N (fun (s:(Int × Int × Zq) × Nat) (x522:Int) (x523:ZaJ)=>Zf6 (fun v:Int × Int × Zq=>Za2 N a0_ v.1 v.2.1 v.2.2 x522 x523) s) r517.1 r517.2 ((0,0,(Zq.mk false false false false false false false false false false false false)),0)).bind fun o1052 =>
 (if (o1052.2==0) then (some o1052.1.1) else (if (o1052.2==1) then (some o1052.1.1) else none))))).bind fun (j515:Int) =>
 (some (j515==((List.length a1_:Nat):Int)))))
def Za3 (N:Nat) (l15:(List Int)) (x13:Int) (x14:ZaJ):Option ((List Int)) :=
 (((if (x13==0) then ((appI 8 l15 [x14.from_]).bind fun l1023 =>
 (some l1023)) else (some l15))).bind fun (j1018:(List Int)) =>
 ((appI 8 j1018 [x14.to_]).bind fun l1028 =>
 (some l1028)))
def ZbH (N:Nat) (a0_:ZU) (a1_:(List Int)):Option ((List Int)) :=
 ((ZiW 8 0 (w64 (((List.length a1_:Nat):Int)+1)) 0).bind fun l3 =>
 ((ZcJ N a0_ a1_).bind fun r7 =>
 ((Zcc N (fun (s:(List Int)) (x13:Int) (x14:ZaJ)=>Zfc (fun v:(List Int)=>Za3 N v x13 x14) s) r7.1 r7.2 l3).bind fun o1030 =>
 (some o1030))))
def Zbj (N:Nat) (a0_:(List Int)) (a1_:Int):Option (Bool) :=
 ((Zb1 N a0_ a1_).bind fun r1 =>
 (some (decide (r1 ≥ 0))))
def ZdO (N:Nat) (a0_:ZU) (c0_:(List Int)):Option ((List Int) × Int) :=
 ((ZbH N a0_ c0_).bind fun r2 =>
 (some (r2,0)))
def ZbN (N:Nat) (a0_:Zf) (a1_:Int) (a2_:Int) (a3_:Int) (a4_:Int) (i1:Int) (i503:Int):Option ((Int) ⊕ ((Unit) ⊕ (Bool))) :=
 (if (decide (i503<((List.length a0_.Uses:Nat):Int))) then (((if (i1 != i503) then ((idx a0_.Uses i1).bind fun e1006=>(if (e1006.Stream==a1_) then ((idx a0_.Uses i503).bind fun e1008=>(if (e1008.Stream==a3_) then ((idx a0_.Uses i1).bind fun e1010=>((idx a0_.Uses i503).bind fun e1011=>(if (e1010.Port==e1011.Port) then ((ZfO N a0_ i1 a2_).bind fun r1013=>((ZfO N a0_ i503 a4_).bind fun r1014=>((ZbQ N r1013 r1014).bind fun r1015=>(some (!r1015))))) else (some false)))) else (some false))) else (some false))) else (some false))).bind fun (j1020:Bool) =>
 (if j1020 then (some (.inr (.inr true))) else (some (.inl (w64 (i503+1)))))) else (some (.inr (.inl ()))))
def ZbO (N:Nat) (a0_:Zf) (a1_:Int) (a2_:Int) (a3_:Int) (a4_:Int) (i1:Int):Option ((Int) ⊕ ((Unit) ⊕ (Bool))) :=
 (if (decide (i1<((List.length a0_.Uses:Nat):Int))) then ((Zac (fun x:Int=>ZbN N a0_ a1_ a2_ a3_ a4_ i1 x) N 0).bind fun o1022=>match o1022 with
 | (.inl p1023)=>(some (.inl (w64 (i1+1))))
 | (.inr p1024)=>(some (.inr (.inr p1024)))) else (some (.inr (.inl ()))))
def Zc1 (N:Nat) (a0_:Zf) (a1_:Int) (a2_:Int) (a3_:Int) (a4_:Int):Option (Bool) :=
 ((Zac (fun x:Int=>ZbO N a0_ a1_ a2_ a3_ a4_ x) N 0).bind fun o1025=>match o1025 with
 | (.inl p1026)=>(some false)
 | (.inr p1027)=>(some p1027))
def Zbl (N:Nat) (a0_:Zf) (a1_:(List Int)) (i1:Int) (i503:Int):Option ((Int) ⊕ ((Unit) ⊕ (Bool))) :=
 (if (decide (i503≤i1)) then ((idx a1_ i1).bind fun e1005 =>
 ((idx a1_ i503).bind fun e1006 =>
 ((Zc1 N a0_ i1 e1005 i503 e1006).bind fun r1007 =>
 (if r1007 then (some (.inr (.inr false))) else (some (.inl (w64 (i503+1)))))))) else (some (.inr (.inl ()))))
def Zbm (N:Nat) (a0_:Zf) (a1_:(List Int)) (i1:Int):Option ((Int) ⊕ ((Unit) ⊕ (Bool))) :=
 (if (decide (i1<((List.length a1_:Nat):Int))) then ((Zac (fun x:Int=>Zbl N a0_ a1_ i1 x) N 0).bind fun o1009=>match o1009 with
 | (.inl p1010)=>(some (.inl (w64 (i1+1))))
 | (.inr p1011)=>(some (.inr (.inr p1011)))) else (some (.inr (.inl ()))))
def Zdl (N:Nat) (a0_:Zf) (a1_:(List Int)):Option (Bool) :=
 ((Zac (fun x:Int=>Zbm N a0_ a1_ x) N 0).bind fun o1012=>match o1012 with
 | (.inl p1013)=>(some true)
 | (.inr p1014)=>(some p1014))
def ZaP (N:Nat) (a0_:(List Zw)) (i8:Int) (l9:(List Int)):Option ((Int × (List Int)) ⊕ (((List Int)))) :=
 (if (decide (i8<((List.length a0_:Nat):Int))) then ((idx a0_ i8).bind fun e513 =>
 ((idx l9 i8).bind fun e514 =>
 (some (.inl ((w64 (i8+1)),(List.set l9 (Int.toNat i8) e513.Period)))))) else (some (.inr l9)))
def ZcN (N:Nat) (a0_:(List Zw)):Option (Int × Int) :=
 ((ZbI N a0_).bind fun r1 =>
 (if (r1 != 0) then (some (0,r1)) else ((ZiW 8 ((List.length a0_:Nat):Int) ((List.length a0_:Nat):Int) 0).bind fun l5 =>
 ((Zac (fun x:Int × (List Int)=>ZaP N a0_ x.1 x.2) N (0,l5)).bind fun o518 =>
 ((Zdk N 960 o518).bind fun r519 =>
 (if (decide (r519 > 960)) then (some (0,6)) else (some (r519,0))))))))
def ZcM (N:Nat) (a0_:Zw) (a1_:Zw):Option (Bool) :=
 (if ((a0_.Period==a1_.Period)&&((a0_.From==a1_.From)&&((a0_.Long==a1_.Long)&&true))) then (some false) else ((Zdj N a0_ a1_).bind fun r2 =>
 ((ZdY N (w64 (a1_.From - a0_.From)) r2.2.2).bind fun r3 =>
 (some ((decide (r2.1≤r3))&&(decide (r3≤r2.2.1)))))))
def ZdI (N:Nat) (a0_:ZC) (i4:Int):Option ((Int) ⊕ ((Unit) ⊕ (Bool))) :=
 (if (decide (i4<((List.length a0_.Links:Nat):Int))) then ((Zfh N i4 a0_).bind fun r506 =>
 (if (!r506) then (some (.inr (.inr false))) else ((Zfg N i4 a0_).bind fun r508 =>
 (if (!r508) then (some (.inr (.inr false))) else ((Zff N i4 a0_).bind fun r510 =>
 (if (!r510) then (some (.inr (.inr false))) else ((Zfe N i4 a0_).bind fun r512 =>
 (if (!r512) then (some (.inr (.inr false))) else (some (.inl (w64 (i4+1)))))))))))) else (some (.inr (.inl ()))))
def ZgZ (N:Nat) (a0_:ZC):Option (Bool) :=
 ((Zac (fun x:Int=>ZdI N a0_ x) N 0).bind fun o514=>match o514 with
 | (.inl p515)=>(some true)
 | (.inr p516)=>(some p516))
def Zeo (N:Nat) (c0_:ZD):Option (Bool) :=
 (if (c0_.Class==7) then ((((Zae N c0_.Period 1 240).bind fun r4=>(if r4 then (some ((c0_.Bucket.Burst==0)&&((c0_.Bucket.Rate==0)&&true))) else (some false)))).bind fun (j8:Bool) =>
 (some j8)) else (if (c0_.Class==6) then (((if (c0_.Period==0) then ((ZfI N c0_.Bucket).bind fun r13=>(if (r13==0) then (some (decide (c0_.Bucket.Burst ≥ c0_.Size))) else (some false))) else (some false))).bind fun (j19:Bool) =>
 (some j19)) else (some false)))
def ZbB (N:Nat) (r2:(List Int)) (l3:List Int) (i4:Int):Option ((Int) ⊕ ((Unit) ⊕ (Bool))) :=
 (if (decide (i4<((List.length l3:Nat):Int))) then ((idx l3 i4).bind fun e506 =>
 ((Zbj N r2 e506).bind fun r507 =>
 (if r507 then (some (.inr (.inr true))) else (some (.inl (w64 (i4+1))))))) else (some (.inr (.inl ()))))
def Zcw (N:Nat) (a0_:ZU) (a1_:(List Int)) (a2_:(List Int)):Option (Bool) :=
 ((ZbH N a0_ a1_).bind fun r1 =>
 ((ZbH N a0_ a2_).bind fun r2 =>
 ((subI r1 1 (w64 (((List.length r1:Nat):Int) - 1))).bind fun l3 =>
 ((Zac (fun x:Int=>ZbB N r2 l3 x) N 0).bind fun o509=>match o509 with
 | (.inl p510)=>(some false)
 | (.inr p511)=>(some p511)))))
def Zbe (N:Nat) (a0_:Zf) (a1_:Int) (a2_:Int) (a3_:Int) (a4_:Int):Option (Bool × Int) :=
 ((Zc0 N a0_).bind fun r1 =>
 (if (!r1) then (some (false,340)) else ((((Zb2 N a0_ a1_ a2_).bind fun r3=>(if (!r3) then (some true) else ((Zb2 N a0_ a3_ a4_).bind fun r6=>(if (!r6) then (some true) else (if (a1_==a3_) then (some (a2_ != a4_)) else (some false))))))).bind fun (j11:Bool) =>
 (if j11 then (some (false,2)) else ((Zc1 N a0_ a1_ a2_ a3_ a4_).bind fun r13 =>
 (some (r13,0)))))))
def ZbP (N:Nat) (a0_:Zf) (a1_:(List Int)):Option (Bool × Int) :=
 ((Zc0 N a0_).bind fun r1 =>
 (if (!r1) then (some (false,340)) else ((ZcP N a0_ a1_).bind fun r3 =>
 (if (!r3) then (some (false,2)) else ((Zdl N a0_ a1_).bind fun r5 =>
 (some (r5,0)))))))
def ZbG (N:Nat) (a0_:(List Int)) (i6:Int) (l7:(List Zw)):Option ((Int × (List Zw)) ⊕ (((List Zw)))) :=
 (if (decide (i6<((List.length a0_:Nat):Int))) then ((idx a0_ i6).bind fun e511 =>
 ((idx l7 i6).bind fun e512 =>
 (some (.inl ((w64 (i6+1)),(List.set l7 (Int.toNat i6) (Zw.mk e511 0 1))))))) else (some (.inr l7)))
def ZcB (N:Nat) (a0_:(List Int)):Option (Int × Int) :=
 ((ZiW 24 ((List.length a0_:Nat):Int) ((List.length a0_:Nat):Int) (Zw.mk 0 0 0)).bind fun l3 =>
 ((Zac (fun x:Int × (List Zw)=>ZbG N a0_ x.1 x.2) N (0,l3)).bind fun o516 =>
 ((ZcN N o516).bind fun r517 =>
 (some (r517.1,r517.2)))))
def ZbF (N:Nat) (a0_:Zaf) (i5:Int) (m5:(List (Int × (List ZA)))):Option ((Int × (List (Int × (List ZA)))) ⊕ ((List (Int × (List ZA))))) :=
 (if (decide (i5<((List.length a0_.Problem.Uses:Nat):Int))) then ((idx a0_.Problem.Uses i5).bind fun e507 =>
 ((appI 32 (Zjt m5 e507.Port []) [e507]).bind fun l508 =>
 (some (.inl ((w64 (i5+1)),(ZdS m5 e507.Port l508)))))) else (some (.inr m5)))
def ZbE (N:Nat) (a0_:Zaf) (r2:Int × Int) (us_:(List ZA)) (i510:Int) (i511:Int):Option ((Int × Int) ⊕ ((Int))) :=
 (if (decide (i511<((List.length us_:Nat):Int))) then ((idx us_ i511).bind fun e1013 =>
 ((idx a0_.Problem.Periods e1013.Stream).bind fun e1017 =>
 ((quoI .i64 r2.1 e1017).bind fun q1018 =>
 (some (.inl ((w64 (i510+q1018)),(w64 (i511+1)))))))) else (some (.inr i510)))
def ZbY (N:Nat) (a0_:Zaf) (r2:Int × Int) (us_:(List ZA)):Option Bool :=
 ((Zac (fun x:Int × Int=>ZbE N a0_ r2 us_ x.1 x.2) N (0,0)).bind fun o1019 =>
 (some (decide (o1019 > 63))))
def ZbD (N:Nat) (a0_:Zaf) (i1022:Int):Option ((Int) ⊕ ((Unit) ⊕ (Int))) :=
 (if (decide (i1022<((List.length a0_.Problem.Uses:Nat):Int))) then ((idx a0_.Problem.Uses i1022).bind fun e1524 =>
 ((idx a0_.Problem.Periods e1524.Stream).bind fun e1526 =>
 (if (decide (e1524.Long > e1526)) then (some (.inr (.inr 341))) else (some (.inl (w64 (i1022+1))))))) else (some (.inr (.inl ()))))
def Zdw (N:Nat) (a0_:Zaf):Option (Int) :=
 ((ZcB N a0_.Problem.Periods).bind fun r2 =>
 (if (r2.2 != 0) then (some r2.2) else ((Zac (fun x:Int × (List (Int × (List ZA)))=>ZbF N a0_ x.1 x.2) N (0,[])).bind fun o508 =>
 ((rgF (ZbY N a0_ r2) o508).bind fun b1020 =>
 (if b1020 then (some 7) else ((Zac (fun x:Int=>ZbD N a0_ x) N 0).bind fun o1528=>match o1528 with
 | (.inl p1529)=>(if a0_.late then (some 342) else (some 0))
 | (.inr p1532)=>(some p1532)))))))
def ZcO (N:Nat) (a0_:Zw) (a1_:Zw):Option (Bool × Int) :=
 ((ZbC N a0_).bind fun r1 =>
 (if (r1 != 0) then (some (false,r1)) else ((ZbC N a1_).bind fun r3 =>
 (if (r3 != 0) then (some (false,r3)) else ((ZcM N a0_ a1_).bind fun r5 =>
 (some (r5,0)))))))
def ZdM (N:Nat) (a0_:ZC) (i16:Int) (l17:(List Int)):Option ((Int × (List Int)) ⊕ (((List Int)))) :=
 (if (decide (i16<((List.length a0_.Links:Nat):Int))) then ((idx a0_.Links i16).bind fun e521 =>
 ((idx l17 e521.A).bind fun e522 =>
 ((idx l17 e521.A).bind fun e525 =>
 ((idx (List.set l17 (Int.toNat e521.A) (w64 (e522+1))) e521.B).bind fun e529 =>
 ((idx (List.set l17 (Int.toNat e521.A) (w64 (e522+1))) e521.B).bind fun e532 =>
 (some (.inl ((w64 (i16+1)),(List.set (List.set l17 (Int.toNat e521.A) (w64 (e522+1))) (Int.toNat e521.B) (w64 (e529+1))))))))))) else (some (.inr l17)))
def ZdL (N:Nat) (a0_:ZC) (o536:(List Int)) (i537:Int):Option ((Int) ⊕ ((Unit) ⊕ (Int))) :=
 (if (decide (i537<((List.length a0_.Station:Nat):Int))) then ((idx a0_.Station i537).bind fun e1039 =>
 (((if e1039 then ((idx o536 i537).bind fun e1041=>(if (decide (e1041<1)) then (some true) else ((idx o536 i537).bind fun e1046=>(some (decide (e1046 > 2)))))) else (some false))).bind fun (j1050:Bool) =>
 (if j1050 then (some (.inr (.inr 260))) else (some (.inl (w64 (i537+1))))))) else (some (.inr (.inl ()))))
def ZeA (N:Nat) (a0_:ZC):Option (Int) :=
 (if ((decide (a0_.Nodes<2))||((decide (a0_.Nodes > 12))||(((List.length a0_.Station:Nat):Int) != a0_.Nodes))) then (some 260) else (((if (decide (((List.length a0_.Links:Nat):Int) > 24)) then (some true) else ((ZgZ N a0_).bind fun r8=>(some (!r8))))).bind fun (j9:Bool) =>
 (if j9 then (some 260) else ((ZiW 8 a0_.Nodes a0_.Nodes 0).bind fun l13 =>
 ((Zac (fun x:Int × (List Int)=>ZdM N a0_ x.1 x.2) N (0,l13)).bind fun o536 =>
 ((Zac (fun x:Int=>ZdL N a0_ o536 x) N 0).bind fun o1052=>match o1052 with
 | (.inl p1053)=>((Zg0 N a0_ 0 (Zbr.mk false false false false false false false false false false false false false false false false false false false false false false false false)).bind fun r1054 =>
 ((Za7 N r1054 false).bind fun r1055 =>
 (if r1055 then (some 260) else (some 0))))
 | (.inr p1057)=>(some p1057)))))))
def ZdP (N:Nat) (a0_:ZU) (c0_:(List Int)) (c1_:(List Int)):Option (Bool × Int) :=
 ((Zcv N a0_ c0_).bind fun r2 =>
 (if (!r2) then (some (false,310)) else ((((Zfq N c1_ c0_).bind fun r6=>(if (!r6) then ((Zcw N a0_ c1_ c0_).bind fun r10=>(if (!r10) then ((Zcw N a0_ c0_ c1_).bind fun r14=>(some (!r14))) else (some false))) else (some false)))).bind fun (j17:Bool) =>
 (some (j17,0)))))
def ZeR (N:Nat) (a0_:ZC) (a1_:(List Int)):Option (Int) :=
 ((ZeA N a0_).bind fun r1 =>
 (if (r1 != 0) then (some r1) else ((Zcv N (ZU.mk a0_) a1_).bind fun r3 =>
 (if (!r3) then (some 310) else (some 0)))))
def Zeu (N:Nat) (a0_:ZC) (a1_:(List Int)) (a2_:ZU→Option ((List Int) × Int)):Option ((List Int) × Int) :=
 ((ZeR N a0_ a1_).bind fun r1 =>
 (if (r1 != 0) then (some ([],r1)) else ((a2_ (ZU.mk a0_)).bind fun r3 =>
 (some (r3.1,r3.2)))))
def Zcl (N:Nat) (a0_:Zf) (i4:Int):Option ((Int) ⊕ ((Unit) ⊕ (Int))) :=
 (if (decide (i4<((List.length a0_.Periods:Nat):Int))) then ((idx a0_.Periods i4).bind fun e506 =>
 (if ((decide (e506<1))||(decide (e506 > 240))) then (some (.inr (.inr 340))) else (some (.inl (w64 (i4+1)))))) else (some (.inr (.inl ()))))
def Zck (N:Nat) (a0_:Zf) (i514:Int):Option ((Int) ⊕ ((Unit) ⊕ (Int))) :=
 (if (decide (i514<((List.length a0_.Uses:Nat):Int))) then ((idx a0_.Uses i514).bind fun e1016 =>
 (if ((decide (e1016.Stream<0))||((decide (e1016.Stream ≥ ((List.length a0_.Periods:Nat):Int)))||((decide (e1016.Port<0))||(decide (e1016.Port ≥ 48))))) then (some (.inr (.inr 340))) else ((idx a0_.Periods e1016.Stream).bind fun e1024 =>
 (if ((decide (e1016.From<0))||((decide (e1016.From ≥ e1024))||((decide (e1016.Long<1))||(decide (e1016.Long > e1024))))) then (some (.inr (.inr 340))) else (some (.inl (w64 (i514+1)))))))) else (some (.inr (.inl ()))))
def Zc5 (N:Nat) (a0_:Zf):Option (Int) :=
 (if ((decide (((List.length a0_.Periods:Nat):Int) > 12))||(decide (((List.length a0_.Uses:Nat):Int) > 192))) then (some 340) else ((Zac (fun x:Int=>Zcl N a0_ x) N 0).bind fun o510=>match o510 with
 | (.inl p511)=>((ZcB N a0_.Periods).bind fun r512 =>
 (if (r512.2 != 0) then (some 340) else ((Zac (fun x:Int=>Zck N a0_ x) N 0).bind fun o1032=>match o1032 with
 | (.inl p1033)=>(some 0)
 | (.inr p1034)=>(some p1034))))
 | (.inr p1035)=>(some p1035)))
def ZaA (N:Nat) (a0_:Zf) (a2_:Int) (a4_:Int) (b18:Bool) (x16:ZA) (x17:ZA):Option ((Bool) × Nat) :=
 (if ((x16.Stream==x17.Stream)&&((x16.Port==x17.Port)&&((x16.From==x17.From)&&((x16.Long==x17.Long)&&true)))) then (some (true,1)) else ((Zcg N a0_ x16 a2_).bind fun r523 =>
 ((Zcg N a0_ x17 a4_).bind fun r526 =>
 ((ZcO N r523 r526).bind fun r527 =>
 (if (!r527.1) then (some (true,1)) else (some (b18,0)))))))
def Zcj (N:Nat) (a0_:Zf) (a1_:Int) (a2_:Int) (a3_:Int) (a4_:Int):Option (Bool) :=
 ((ZfP N a0_ a1_ a3_).bind fun r10 =>
 ((Zdm N (fun (s:(Bool) × Nat) (x16:ZA) (x17:ZA)=>Zf6 (fun v:Bool=>ZaA N a0_ a2_ a4_ v x16 x17) s) r10.1 r10.2.1 r10.2.2 (false,0)).bind fun o530 =>
 (if (o530.2==0) then (some false) else (if (o530.2==1) then (some o530.1) else none))))
def Zet (N:Nat) (a0_:ZC) (a1_:(List Int)) (a2_:ZU→Option (Bool × Int)):Option (Bool × Int) :=
 ((ZeR N a0_ a1_).bind fun r1 =>
 (if (r1 != 0) then (some (false,r1)) else ((a2_ (ZU.mk a0_)).bind fun r3 =>
 (some (r3.1,r3.2)))))
def Zgq (N:Nat) (a0_:ZC) (a1_:(List Int)):Option ((List Int) × Int) :=
 ((Zeu N a0_ a1_ (fun x0=>ZdO N x0 a1_)).bind fun r4 =>
 (some (r4.1,r4.2)))
def Za9 (N:Nat) (a0_:Zf) (a1_:Int) (a2_:Int) (a3_:Int) (a4_:Int):Option (Bool × Int) :=
 ((Zc5 N a0_).bind fun r1 =>
 (if (r1 != 0) then (some (false,r1)) else (if ((decide (a1_<0))||((decide (a1_ ≥ ((List.length a0_.Periods:Nat):Int)))||((decide (a3_<0))||(decide (a3_ ≥ ((List.length a0_.Periods:Nat):Int)))))) then (some (false,2)) else ((((ZcA N a0_ a1_ a2_).bind fun r10=>(if (!r10) then (some true) else ((ZcA N a0_ a3_ a4_).bind fun r13=>(if (!r13) then (some true) else (if (a1_==a3_) then (some (a2_ != a4_)) else (some false))))))).bind fun (j18:Bool) =>
 (if j18 then (some (false,2)) else ((Zcj N a0_ a1_ a2_ a3_ a4_).bind fun r20 =>
 (some (r20,0))))))))
def ZcE (N:Nat) (a0_:Zf) (a1_:(List Int)) (i4:Int):Option ((Int) ⊕ ((Unit) ⊕ (Bool × Int))) :=
 (if (decide (i4<((List.length a1_:Nat):Int))) then ((idx a1_ i4).bind fun e506 =>
 ((ZcA N a0_ i4 e506).bind fun r507 =>
 (if (!r507) then (some (.inr (.inr (false,2)))) else (some (.inl (w64 (i4+1))))))) else (some (.inr (.inl ()))))
def ZcC (N:Nat) (a0_:Zf) (i511:Int) (e1013:Int) (l1014:List Int) (i1015:Int):Option ((Int) ⊕ ((Unit) ⊕ (Bool × Int))) :=
 (if (decide (i1015<((List.length l1014:Nat):Int))) then ((idx l1014 i1015).bind fun e1517 =>
 ((Zcj N a0_ i1015 e1517 i511 e1013).bind fun r1518 =>
 (if r1518 then (some (.inr (.inr (false,0)))) else (some (.inl (w64 (i1015+1))))))) else (some (.inr (.inl ()))))
def ZcD (N:Nat) (a0_:Zf) (a1_:(List Int)) (i511:Int):Option ((Int) ⊕ ((Unit) ⊕ (Bool × Int))) :=
 (if (decide (i511<((List.length a1_:Nat):Int))) then ((idx a1_ i511).bind fun e1013 =>
 ((subI a1_ 0 (w64 (i511+1))).bind fun l1014 =>
 ((Zac (fun x:Int=>ZcC N a0_ i511 e1013 l1014 x) N 0).bind fun o1520=>match o1520 with
 | (.inl p1521)=>(some (.inl (w64 (i511+1))))
 | (.inr p1522)=>(some (.inr (.inr p1522)))))) else (some (.inr (.inl ()))))
def Zb5 (N:Nat) (a0_:Zf) (a1_:(List Int)):Option (Bool × Int) :=
 ((Zc5 N a0_).bind fun r1 =>
 (if (r1 != 0) then (some (false,r1)) else (if (((List.length a1_:Nat):Int) != ((List.length a0_.Periods:Nat):Int)) then (some (false,2)) else ((Zac (fun x:Int=>ZcE N a0_ a1_ x) N 0).bind fun o509=>match o509 with
 | (.inl p510)=>((Zac (fun x:Int=>ZcD N a0_ a1_ x) N 0).bind fun o1523=>match o1523 with
 | (.inl p1524)=>(some (true,0))
 | (.inr p1525)=>(some p1525))
 | (.inr p1526)=>(some p1526)))))
def ZfR (N:Nat) (a0_:Zf):Option (Int × Int) :=
 ((Zc5 N a0_).bind fun r1 =>
 (if (r1 != 0) then (some (0,r1)) else ((ZcB N a0_.Periods).bind fun r3 =>
 (some (r3.1,r3.2)))))
def ZeH (N:Nat) (a0_:Zf) (a1_:(List Int)):Option (Bool) :=
 ((Zb5 N a0_ a1_).bind fun r1 =>
 (some (r1.1&&(r1.2==0))))
def ZbS (N:Nat) (a0_:Zf) (a1_:Int) (a2_:Int):Option (Bool) :=
 ((Za9 N a0_ 0 a1_ 1 a2_).bind fun r1 =>
 (some (r1.1&&(r1.2==0))))
def Zgr (N:Nat) (a0_:ZC) (a1_:(List Int)) (a2_:(List Int)):Option (Bool × Int) :=
 ((Zet N a0_ a1_ (fun x0=>ZdP N x0 a2_ a1_)).bind fun r6 =>
 (some (r6.1,r6.2)))
def Zhc (N:Nat) (a0_:ZC) (a1_:(List Int)):Option (Int × Int × Int) :=
 ((Zgq N a0_ a1_).bind fun r1 =>
 (if (r1.2 != 0) then (some (0,0,r1.2)) else ((idx r1.1 0).bind fun e3 =>
 ((idx r1.1 (w64 (((List.length r1.1:Nat):Int) - 1))).bind fun e4 =>
 (some (e3,e4,0))))))
def Zfj (N:Nat) (a0_:ZC) (a1_:(List Int)) (a2_:Int) (a3_:Int):Option (Bool) :=
 ((Zhc N a0_ a1_).bind fun r1 =>
 (some ((r1.2.2==0)&&((r1.1==a2_)&&(r1.2.1==a3_)))))
def Zel (N:Nat) (c0_:ZD) (c1_:ZC):Option (Bool) :=
 (if (decide (((List.length c0_.Routes:Nat):Int)<2)) then (some true) else ((idx c0_.Routes 0).bind fun e5 =>
 ((idx c0_.Routes 1).bind fun e7 =>
 ((Zgr N c1_ e5 e7).bind fun r8 =>
 (some ((r8.2==0)&&r8.1))))))
def Zb9 (N:Nat) (c0_:ZD) (c1_:ZC) (i2:Int):Option ((Int) ⊕ ((Unit) ⊕ (Bool))) :=
 (if (decide (i2<((List.length c0_.Routes:Nat):Int))) then ((idx c0_.Routes i2).bind fun e504 =>
 ((Zfj N c1_ e504 c0_.Talker c0_.Listener).bind fun r508 =>
 (if (!r508) then (some (.inr (.inr false))) else (some (.inl (w64 (i2+1))))))) else (some (.inr (.inl ()))))
def Zem (N:Nat) (c0_:ZD) (c1_:ZC):Option (Bool) :=
 ((Zac (fun x:Int=>Zb9 N c0_ c1_ x) N 0).bind fun o510=>match o510 with
 | (.inl p511)=>(some true)
 | (.inr p512)=>(some p512))
def Zd9 (N:Nat) (a0_:ZC) (a1_:ZD):Option (Bool) :=
 ((Zes N  a1_).bind fun r8 =>
 (if (!r8) then (some false) else ((Zer N  a0_ a1_).bind fun r11 =>
 (if (!r11) then (some false) else ((Zeq N  a1_).bind fun r14 =>
 (if (!r14) then (some false) else ((Zep N  a1_).bind fun r17 =>
 (if (!r17) then (some false) else ((Zeo N  a1_).bind fun r20 =>
 (if (!r20) then (some false) else ((Zen N  a1_).bind fun r23 =>
 (if (!r23) then (some false) else ((Zem N  a1_ a0_).bind fun r26 =>
 (if (!r26) then (some false) else ((Zel N  a1_ a0_).bind fun r29 =>
 (if (!r29) then (some false) else (some true)))))))))))))))))
def ZfM (N:Nat) (a0_:ZC) (a1_:Zaa) (a2_:ZD) (a3_:Int):Option (Int) :=
 ((ZeA N a0_).bind fun r1 =>
 (if (r1 != 0) then (some r1) else ((Zcb N a1_).bind fun r3 =>
 (if (r3 != 0) then (some r3) else ((Zd9 N a0_ a2_).bind fun r5 =>
 (if (!r5) then (some 321) else (((if (a2_.Class != 7) then (some true) else ((Zae N a3_ 0 (w64 (((List.length a2_.Routes:Nat):Int) - 1))).bind fun r9=>(some (!r9))))).bind fun (j10:Bool) =>
 (if j10 then (some 2) else (some 0)))))))))
def ZbV (N:Nat) (a0_:ZC) (a1_:(List ZD)) (i4:Int):Option ((Int) ⊕ ((Unit) ⊕ (Int))) :=
 (if (decide (i4<((List.length a1_:Nat):Int))) then ((idx a1_ i4).bind fun e506 =>
 ((Zd9 N a0_ e506).bind fun r507 =>
 (if (!r507) then (some (.inr (.inr 321))) else (some (.inl (w64 (i4+1))))))) else (some (.inr (.inl ()))))
def ZbU (N:Nat) (a1_:(List ZD)) (i514:Int) (l515:(List (Int × Bool))):Option ((Int × (List (Int × Bool))) ⊕ ((Unit) ⊕ (Int))) :=
 (if (decide (i514<((List.length a1_:Nat):Int))) then ((idx a1_ i514).bind fun e1018 =>
 (if (Zjt l515 e1018.Id false) then (some (.inr (.inr 322))) else (some (.inl ((w64 (i514+1)),(ZdS l515 e1018.Id true)))))) else (some (.inr (.inl ()))))
def ZcI (N:Nat) (a0_:ZC) (a1_:(List ZD)):Option (Int) :=
 ((ZeA N a0_).bind fun r1 =>
 (if (r1 != 0) then (some r1) else (if (decide (((List.length a1_:Nat):Int) > 12)) then (some 3) else ((Zac (fun x:Int=>ZbV N a0_ a1_ x) N 0).bind fun o509=>match o509 with
 | (.inl p510)=>((Zac (fun x:Int × (List (Int × Bool))=>ZbU N a1_ x.1 x.2) N (0,[])).bind fun o1023=>match o1023 with
 | (.inl p1024)=>(some 0)
 | (.inr p1025)=>(some p1025))
 | (.inr p1026)=>(some p1026)))))
def Zcp (N:Nat) (l14:(List Zad)) (x12:Zad):Option ((List Zad)) :=
 ((appI 40 l14 [x12]).bind fun l518 =>
 (some l518))
def Zgo (N:Nat) (a0_:ZC) (a1_:Zaa) (a2_:ZD) (a3_:Int):Option ((List Zad) × Int) :=
 ((ZfM N a0_ a1_ a2_ a3_).bind fun r1 =>
 (if (r1 != 0) then (some ([],r1)) else ((ZeN N a0_ a1_ a2_ a3_).bind fun r5 =>
 ((ZdN N (fun (s:(List Zad)) (x12:Zad)=>Zfc (fun v:(List Zad)=>Zcp N v x12) s) r5.1 r5.2.1 r5.2.2.1 r5.2.2.2 []).bind fun o520 =>
 (some (o520,0))))))
def Zco (N:Nat) (a0_:ZC) (a1_:Zaa) (i22:Int) (x21:Zad):Option (Int) :=
 ((idx a0_.Links (w64 (Int.tdiv x21.Port 2))).bind fun e524 =>
 (some (w64 ((w64 ((w64 (x21.Open+x21.Long))+e524.Delay))+a1_.Proc))))
def Zgn (N:Nat) (a0_:ZC) (a1_:Zaa) (a2_:ZD) (a3_:Int):Option (Int × Int) :=
 ((ZfM N a0_ a1_ a2_ a3_).bind fun r7 =>
 (if (r7 != 0) then (some (0,r7)) else ((ZeN N a0_ a1_ a2_ a3_).bind fun r14 =>
 ((ZdN N (fun (s:Int) (x21:Zad)=>Zfc (fun v:Int=>Zco N a0_ a1_ v x21) s) r14.1 r14.2.1 r14.2.2.1 r14.2.2.2 0).bind fun o527 =>
 (some (o527,0))))))
def Zch (N:Nat) (a0_:Zaf) (a2_:Zaa) (a3_:ZD) (r518:(List Zad) × Int) (i523:Int) (l524:(List ZA)):Option ((Int × (List ZA)) ⊕ (((List ZA)))) :=
 (if (decide (i523<((List.length r518.1:Nat):Int))) then ((idx r518.1 i523).bind fun e1029 =>
 ((ZeF N e1029.Early a2_.Grid).bind fun r1030 =>
 ((ZeF N (w64 ((w64 ((w64 (e1029.Open+e1029.Long))+a2_.Grid)) - 1)) a2_.Grid).bind fun r1031 =>
 ((ZeF N r1030 a3_.Period).bind fun r1032 =>
 ((appI 32 l524 [(ZA.mk ((List.length a0_.Problem.Periods:Nat):Int) e1029.Port (w64 (r1030 - (w64 (r1032 * a3_.Period)))) (w64 (r1031 - r1030)))]).bind fun l1036 =>
 (some (.inl ((w64 (i523+1)),l1036)))))))) else (some (.inr l524)))
def Zci (N:Nat) (a0_:Zaf) (a1_:ZC) (a2_:Zaa) (a3_:ZD) (l6:List Int) (i11:Int) (b12:Bool) (l13:(List ZA)):Option ((Int × Bool × (List ZA)) ⊕ ((Bool × (List ZA)) ⊕ (Int × Zaf))) :=
 (if (decide (i11<((List.length a3_.Routes:Nat):Int))) then ((Zgo N a1_ a2_ a3_ i11).bind fun r518 =>
 (if (r518.2 != 0) then (some (.inr (.inr (r518.2,(Zaf.mk (Zf.mk l6 l13) b12))))) else ((Zac (fun x:Int × (List ZA)=>Zch N a0_ a2_ a3_ r518 x.1 x.2) N (0,l13)).bind fun o1038 =>
 ((Zgn N a1_ a2_ a3_ i11).bind fun r1039 =>
 (if (r1039.2 != 0) then (some (.inr (.inr (r1039.2,(Zaf.mk (Zf.mk l6 o1038) b12))))) else (((if b12 then (some true) else (some (decide ((w64 (r1039.1+(w64 (2 * a2_.Slack)))) > a3_.Deadline))))).bind fun (j1049:Bool) =>
 (some (.inl ((w64 (i11+1)),j1049,o1038))))))))) else (some (.inr (.inl (b12,l13)))))
def Zex (N:Nat) (a0_:Zaf) (a1_:ZC) (a2_:Zaa) (a3_:ZD):Option (Int × Zaf) :=
 ((appI 8 a0_.Problem.Periods [a3_.Period]).bind fun l6 =>
 ((Zac (fun x:Int × Bool × (List ZA)=>Zci N a0_ a1_ a2_ a3_ l6 x.1 x.2.1 x.2.2) N (0,a0_.late,a0_.Problem.Uses)).bind fun o1050=>match o1050 with
 | (.inl p1051)=>(some (0,(Zaf.mk (Zf.mk l6 p1051.2) p1051.1)))
 | (.inr p1052)=>(some p1052)))
def ZfQ (N:Nat) (a0_:ZC) (a1_:Zaa) (a2_:(List ZD)) (i12:Int) (b13:Bool) (l14:(List Int)) (l15:(List ZA)):Option ((Int × Bool × (List Int) × (List ZA)) ⊕ ((Bool × (List Int) × (List ZA)) ⊕ (Zf × Int))) :=
 (if (decide (i12<((List.length a2_:Nat):Int))) then ((idx a2_ i12).bind fun e520 =>
 (if (e520.Class != 7) then (some (.inl ((w64 (i12+1)),b13,l14,l15))) else ((Zex N (Zaf.mk (Zf.mk l14 l15) b13) a0_ a1_ e520).bind fun r522 =>
 (if (r522.1 != 0) then (some (.inr (.inr ((Zf.mk ([]) ([])),r522.1)))) else (some (.inl ((w64 (i12+1)),r522.2.late,r522.2.Problem.Periods,r522.2.Problem.Uses))))))) else (some (.inr (.inl (b13,l14,l15)))))
def ZlD (N:Nat) (a0_:ZC) (a1_:Zaa) (a2_:(List ZD)):Option (Zf × Int) :=
 ((ZcI N a0_ ([])).bind fun r1 =>
 (if (r1 != 0) then (some ((Zf.mk ([]) ([])),r1)) else ((Zcb N a1_).bind fun r3 =>
 (if (r3 != 0) then (some ((Zf.mk ([]) ([])),r3)) else ((ZcI N a0_ a2_).bind fun r5 =>
 (if (r5 != 0) then (some ((Zf.mk ([]) ([])),r5)) else ((Zac (fun x:Int × Bool × (List Int) × (List ZA)=>ZfQ N a0_ a1_ a2_ x.1 x.2.1 x.2.2.1 x.2.2.2) N (0,false,[],[])).bind fun o527=>match o527 with
 | (.inl p528)=>((Zdw N (Zaf.mk (Zf.mk p528.2.1 p528.2.2) p528.1)).bind fun r529 =>
 (if (r529 != 0) then (some ((Zf.mk ([]) ([])),r529)) else (some ((Zf.mk p528.2.1 p528.2.2),0))))
 | (.inr p533)=>(some p533))))))))
def Zee (N:Nat) (a0_:(List ZD)):Option (Zf × Int) :=
 ((Zhs N).bind fun r1 =>
 ((ZlD N r1 (Zaa.mk 100 2 10 8000) a0_).bind fun r2 =>
 (some (r2.1,r2.2))))
def Zd2 (N:Nat):Option (Bool) :=
 ((Zax N 1 20 10000).bind fun r1 =>
 ((Zee N ([r1])).bind fun r2 =>
 ((Zax N 1 8 10000).bind fun r3 =>
 ((Zee N ([r3])).bind fun r4 =>
 ((Zax N 1 20 1718).bind fun r5 =>
 ((Zee N ([r5])).bind fun r6 =>
 ((Zax N 1 20 10000).bind fun r7 =>
 ((Zax N 2 30 10000).bind fun r8 =>
 ((Zee N ([r7,r8])).bind fun r9 =>
 ((Zax N 1 40 10000).bind fun r10 =>
 ((Zax N 2 40 10000).bind fun r11 =>
 ((Zee N ([r10,r11])).bind fun r12 =>
 ((Zee N ([])).bind fun r13 =>
 ((ZfR N r9.1).bind fun r14 =>
 ((ZfR N r13.1).bind fun r15 =>
 (((if (r2.2 != 0) then (some true) else (if (r9.2 != 0) then (some true) else (if (r12.2 != 0) then (some true) else (if (r13.2 != 0) then (some true) else (if (r14.2 != 0) then (some true) else (if (r15.2 != 0) then (some true) else ((Zhf N r2.1 (Zf.mk ([20]) ([(ZA.mk 0 0 0 8),(ZA.mk 0 2 8 9)]))).bind fun r28=>(some (!r28)))))))))).bind fun (j29:Bool) =>
 (if j29 then (some false) else ((((ZbS N r9.1 0 8).bind fun r31=>(if r31 then ((ZbS N r9.1 0 9).bind fun r33=>(if r33 then ((ZbS N r9.1 0 10).bind fun r35=>(if r35 then ((ZbS N r9.1 0 2).bind fun r37=>(some r37)) else (some false))) else (some false))) else (some false)))).bind fun (j41:Bool) =>
 (((if (r4.2==341) then (if (r6.2==342) then (if j41 then ((ZeH N r12.1 ([0,9])).bind fun r45=>(if r45 then ((ZeH N r12.1 ([0,8])).bind fun r47=>(if (!r47) then ((ZeH N r12.1 ([35,4])).bind fun r49=>(if r49 then (if (r14.1==60) then (some (r15.1==1)) else (some false)) else (some false))) else (some false))) else (some false))) else (some false)) else (some false)) else (some false))).bind fun (j59:Bool) =>
 (some j59))))))))))))))))))))
def Za0 (N:Nat) (r1:ZaR) (j1012:(List ZaE)) (i1019:Int):Option ((Int) ⊕ ((Unit) ⊕ (Bool))) :=
 (if (decide (i1019<((List.length j1012:Nat):Int))) then ((idx j1012 i1019).bind fun e1522 =>
 ((idx j1012 i1019).bind fun e1525 =>
 ((idx j1012 i1019).bind fun e1528 =>
 ((idx j1012 i1019).bind fun e1531 =>
 ((Za9 N r1.x0 e1522.x0 e1525.x1 e1528.x2 e1531.x3).bind fun r1534 =>
 ((idx j1012 i1019).bind fun e1535 =>
 ((idx j1012 i1019).bind fun e1538 =>
 ((idx j1012 i1019).bind fun e1541 =>
 ((idx j1012 i1019).bind fun e1544 =>
 ((Zbe N r1.x0 e1535.x0 e1538.x1 e1541.x2 e1544.x3).bind fun r1547 =>
 (if ((r1534.1 != r1547.1)||(r1534.2 != r1547.2)) then (some (.inr (.inr false))) else (some (.inl (w64 (i1019+1))))))))))))))) else (some (.inr (.inl ()))))
def ZaZ (N:Nat) (r1:ZaR) (j2573:(List ZaE)) (i2580:Int):Option ((Int) ⊕ ((Unit) ⊕ (Bool))) :=
 (if (decide (i2580<((List.length j2573:Nat):Int))) then ((idx j2573 i2580).bind fun e3083 =>
 ((idx j2573 i2580).bind fun e3086 =>
 ((idx j2573 i2580).bind fun e3089 =>
 ((idx j2573 i2580).bind fun e3092 =>
 ((Za9 N r1.x1 e3083.x0 e3086.x1 e3089.x2 e3092.x3).bind fun r3095 =>
 ((idx j2573 i2580).bind fun e3096 =>
 ((idx j2573 i2580).bind fun e3099 =>
 ((idx j2573 i2580).bind fun e3102 =>
 ((idx j2573 i2580).bind fun e3105 =>
 ((Zbe N r1.x1 e3096.x0 e3099.x1 e3102.x2 e3105.x3).bind fun r3108 =>
 (if ((r3095.1 != r3108.1)||(r3095.2 != r3108.2)) then (some (.inr (.inr false))) else (some (.inl (w64 (i2580+1))))))))))))))) else (some (.inr (.inl ()))))
def ZaY (N:Nat) (r1:ZaR) (j4134:(List ZaE)) (i4141:Int):Option ((Int) ⊕ ((Unit) ⊕ (Bool))) :=
 (if (decide (i4141<((List.length j4134:Nat):Int))) then ((idx j4134 i4141).bind fun e4644 =>
 ((idx j4134 i4141).bind fun e4647 =>
 ((idx j4134 i4141).bind fun e4650 =>
 ((idx j4134 i4141).bind fun e4653 =>
 ((Za9 N r1.x2 e4644.x0 e4647.x1 e4650.x2 e4653.x3).bind fun r4656 =>
 ((idx j4134 i4141).bind fun e4657 =>
 ((idx j4134 i4141).bind fun e4660 =>
 ((idx j4134 i4141).bind fun e4663 =>
 ((idx j4134 i4141).bind fun e4666 =>
 ((Zbe N r1.x2 e4657.x0 e4660.x1 e4663.x2 e4666.x3).bind fun r4669 =>
 (if ((r4656.1 != r4669.1)||(r4656.2 != r4669.2)) then (some (.inr (.inr false))) else (some (.inl (w64 (i4141+1))))))))))))))) else (some (.inr (.inl ()))))
def Zde (N:Nat) (a0_:Zav) (a1_:Zf) (a2_:Int) (a3_:ZaE) (a4_:(List Int)) (a5_:(List Int)):Option (Bool) :=
 ((Zcs N a0_ a1_ a2_).bind fun r1 =>
 ((Zab N a0_).bind fun r2 =>
 ((ZcZ N r2 a5_).bind fun r3 =>
 (((if (decide (((List.length r3:Nat):Int) > 0)) then ((remI (w64 (a2_)) ((List.length r3:Nat):Int)).bind fun m506 =>
 ((remI (w64 (Int.tdiv (w64 (a2_)) 5)) ((List.length r3:Nat):Int)).bind fun m507 =>
 (some (m506,m507)))) else (some (0,0)))).bind fun (j504:Int × Int) =>
 (((if (decide (((List.length r3:Nat):Int) > 0)) then ((idx r3 j504.1).bind fun e1014 =>
 ((idx r3 j504.2).bind fun e1015 =>
 ((appI 32 [a3_] [(ZaE.mk j504.1 e1014 j504.2 e1015)]).bind fun l1018 =>
 (some l1018)))) else (some [a3_]))).bind fun (j1012:(List ZaE)) =>
 ((Zac (fun x:Int=>Za0 N r1 j1012 x) N 0).bind fun o1551=>match o1551 with
 | (.inl p1552)=>((Zb5 N r1.x0 a4_).bind fun r1553 =>
 ((ZbP N r1.x0 a4_).bind fun r1554 =>
 (if ((r1553.1 != r1554.1)||(r1553.2 != r1554.2)) then (some false) else ((Zb5 N r1.x0 r3).bind fun r1558 =>
 ((ZbP N r1.x0 r3).bind fun r1559 =>
 (if ((r1558.1 != r1559.1)||(r1558.2 != r1559.2)) then (some false) else ((Zab N a0_).bind fun r1563 =>
 ((ZcZ N r1563 a5_).bind fun r1564 =>
 (((if (decide (((List.length r1564:Nat):Int) > 0)) then ((remI (w64 (a2_)) ((List.length r1564:Nat):Int)).bind fun m2067 =>
 ((remI (w64 (Int.tdiv (w64 (a2_)) 5)) ((List.length r1564:Nat):Int)).bind fun m2068 =>
 (some (m2067,m2068)))) else (some (0,0)))).bind fun (j2065:Int × Int) =>
 (((if (decide (((List.length r1564:Nat):Int) > 0)) then ((idx r1564 j2065.1).bind fun e2575 =>
 ((idx r1564 j2065.2).bind fun e2576 =>
 ((appI 32 [a3_] [(ZaE.mk j2065.1 e2575 j2065.2 e2576)]).bind fun l2579 =>
 (some l2579)))) else (some [a3_]))).bind fun (j2573:(List ZaE)) =>
 ((Zac (fun x:Int=>ZaZ N r1 j2573 x) N 0).bind fun o3112=>match o3112 with
 | (.inl p3113)=>((Zb5 N r1.x1 a4_).bind fun r3114 =>
 ((ZbP N r1.x1 a4_).bind fun r3115 =>
 (if ((r3114.1 != r3115.1)||(r3114.2 != r3115.2)) then (some false) else ((Zb5 N r1.x1 r1564).bind fun r3119 =>
 ((ZbP N r1.x1 r1564).bind fun r3120 =>
 (if ((r3119.1 != r3120.1)||(r3119.2 != r3120.2)) then (some false) else ((Zab N a0_).bind fun r3124 =>
 ((ZcZ N r3124 a5_).bind fun r3125 =>
 (((if (decide (((List.length r3125:Nat):Int) > 0)) then ((remI (w64 (a2_)) ((List.length r3125:Nat):Int)).bind fun m3628 =>
 ((remI (w64 (Int.tdiv (w64 (a2_)) 5)) ((List.length r3125:Nat):Int)).bind fun m3629 =>
 (some (m3628,m3629)))) else (some (0,0)))).bind fun (j3626:Int × Int) =>
 (((if (decide (((List.length r3125:Nat):Int) > 0)) then ((idx r3125 j3626.1).bind fun e4136 =>
 ((idx r3125 j3626.2).bind fun e4137 =>
 ((appI 32 [a3_] [(ZaE.mk j3626.1 e4136 j3626.2 e4137)]).bind fun l4140 =>
 (some l4140)))) else (some [a3_]))).bind fun (j4134:(List ZaE)) =>
 ((Zac (fun x:Int=>ZaY N r1 j4134 x) N 0).bind fun o4673=>match o4673 with
 | (.inl p4674)=>((Zb5 N r1.x2 a4_).bind fun r4675 =>
 ((ZbP N r1.x2 a4_).bind fun r4676 =>
 (if ((r4675.1 != r4676.1)||(r4675.2 != r4676.2)) then (some false) else ((Zb5 N r1.x2 r3125).bind fun r4680 =>
 ((ZbP N r1.x2 r3125).bind fun r4681 =>
 (if ((r4680.1 != r4681.1)||(r4680.2 != r4681.2)) then (some false) else ((Zd2 N).bind fun r4685 =>
 (some r4685))))))))
 | (.inr p4686)=>(some p4686))))))))))))
 | (.inr p4687)=>(some p4687))))))))))))
 | (.inr p4688)=>(some p4688)))))))
end Go.Sh

