/- Part of the proof. -/
import Derived.Test.YtlajapegdomhfaaSynthKnownE26
set_option linter.all false
namespace Go.Sh
open Go Go.Eng
set_option maxRecDepth 100000
structure Zen where
 A:Int
 B:Int
 Per:Int
 Delay:Int
def ZaB (v:Zen):List PC:=[.int .i64 v.A,.int .i64 v.B,.int .i64 v.Per,.int .i64 v.Delay]
structure Z8 where
 Nodes:Int
 Station:(List Bool)
 Links:(List Zen)
structure Zan where
 Grid:Int
 Slack:Int
 Proc:Int
 Cap:Int
structure ZeO where
 Burst:Int
 Rate:Int
structure Z9 where
 Id:Int
 Talker:Int
 Listener:Int
 Class:Int
 Size:Int
 Period:Int
 Bucket:ZeO
 Deadline:Int
 Routes:(List (List Int))
def Za1 (v:Z9):List PC:=[.int .i64 v.Id,.int .i64 v.Talker,.int .i64 v.Listener,.int .i64 v.Class,.int .i64 v.Size,.int .i64 v.Period,.int .i64 v.Bucket.Burst,.int .i64 v.Bucket.Rate,.int .i64 v.Deadline,.sl 1 false (List.map (eSl 1 eI64) v.Routes)]
structure ZaS where
 Mask:Int
 Long:Int
def Z4 (v:ZaS):List PC:=[.int .i64 v.Mask,.int .i64 v.Long]
structure Zah where
 Entries:(List ZaS)
 Cycle:Int
def Zad (v:Zah):List PC:=[.sl 2 false (List.map Z4 v.Entries),.int .i64 v.Cycle]
structure Zax where
 Stream:Int
 Port:Int
 From:Int
 Long:Int
def Z2 (v:Zax):List PC:=[.int .i64 v.Stream,.int .i64 v.Port,.int .i64 v.From,.int .i64 v.Long]
structure Zaf where
 Periods:(List Int)
 Uses:(List Zax)
structure ZaV where
 Problem:Zaf
 late:Bool
structure ZaM where
 Period:Int
 From:Int
 Long:Int
def ZaY (v:ZaM):List PC:=[.int .i64 v.Period,.int .i64 v.From,.int .i64 v.Long]
structure ZaI where
 port:Int
 from_:Int
 long:Int
 period:Int
structure ZaT where
 Port:Int
 Early:Int
 Late:Int
 Open:Int
 Long:Int
def ZaQ (v:ZaT):List PC:=[.int .i64 v.Port,.int .i64 v.Early,.int .i64 v.Late,.int .i64 v.Open,.int .i64 v.Long]
structure ZbK where
 x0:Bool
 x1:Bool
 x2:Bool
 x3:Bool
 x4:Bool
 x5:Bool
 x6:Bool
 x7:Bool
 x8:Bool
 x9:Bool
 x10:Bool
 x11:Bool
 x12:Bool
 x13:Bool
 x14:Bool
 x15:Bool
 x16:Bool
 x17:Bool
 x18:Bool
 x19:Bool
 x20:Bool
 x21:Bool
 x22:Bool
 x23:Bool
structure ZaD where
 Topo:Z8
structure Z1 where
 x0:Bool
 x1:Bool
 x2:Bool
 x3:Bool
 x4:Bool
 x5:Bool
 x6:Bool
 x7:Bool
 x8:Bool
 x9:Bool
 x10:Bool
 x11:Bool
structure Zbk where
 port:Int
 from_:Int
 to_:Int
abbrev s_eB (f:Bool) (l:List Bool):AV:=.p (.sl 1 f (List.map eB l))
abbrev ZZ (f:Bool) (l:List Zen):AV:=.p (.sl 4 f (List.map ZaB l))
abbrev ZR (f:Bool) (l:List Z9):AV:=.p (.sl 10 f (List.map Za1 l))
abbrev ZU (f:Bool) (l:List Int):AV:=.p (.sl 1 f (List.map eI64 l))
abbrev Z3 (f:Bool) (l:List ZaS):AV:=.p (.sl 2 f (List.map Z4 l))
abbrev Zar (f:Bool) (l:List (List Int)):AV:=.p (.sl 1 f (List.map (eSl 1 eI64) l))
abbrev ZT (f:Bool) (l:List Zah):AV:=.p (.sl 2 f (List.map Zad l))
abbrev Zhf (f:Bool) (l:List (List Bool)):AV:=.p (.sl 1 f (List.map (eSl 1 eB) l))
abbrev Zas (f:Bool) (l:List Zax):AV:=.p (.sl 4 f (List.map Z2 l))
abbrev ZaW (f:Bool) (l:List ZaM):AV:=.p (.sl 3 f (List.map ZaY l))
abbrev Za6 (f:Bool) (l:List ZaT):AV:=.p (.sl 5 f (List.map ZaQ l))
abbrev Zbn (v:Zen):List AV:=[iv v.A,iv v.B,iv v.Per,iv v.Delay]
abbrev ZP (v:Z8):List AV:=[iv v.Nodes,s_eB false v.Station,ZZ false v.Links]
abbrev ZQ (v:Zan):List AV:=[iv v.Grid,iv v.Slack,iv v.Proc,iv v.Cap]
abbrev Zdi (v:ZeO):List AV:=[iv v.Burst,iv v.Rate]
abbrev ZV (v:Z9):List AV:=[iv v.Id,iv v.Talker,iv v.Listener,iv v.Class,iv v.Size,iv v.Period,iv v.Bucket.Burst,iv v.Bucket.Rate,iv v.Deadline,Zar false v.Routes]
abbrev Zff (v:ZaS):List AV:=[iv v.Mask,iv v.Long]
abbrev ZaN (v:Zah):List AV:=[Z3 false v.Entries,iv v.Cycle]
abbrev ZaJ (v:Zax):List AV:=[iv v.Stream,iv v.Port,iv v.From,iv v.Long]
abbrev ZS (v:Zaf):List AV:=[ZU false v.Periods,Zas false v.Uses]
abbrev ZbJ (v:ZaM):List AV:=[iv v.Period,iv v.From,iv v.Long]
abbrev Zaq (v:ZaI):List AV:=[iv v.port,iv v.from_,iv v.long,iv v.period]
abbrev ZbD (v:ZaT):List AV:=[iv v.Port,iv v.Early,iv v.Late,iv v.Open,iv v.Long]
abbrev ZaR (v:ZbK):List AV:=[bv v.x0,bv v.x1,bv v.x2,bv v.x3,bv v.x4,bv v.x5,bv v.x6,bv v.x7,bv v.x8,bv v.x9,bv v.x10,bv v.x11,bv v.x12,bv v.x13,bv v.x14,bv v.x15,bv v.x16,bv v.x17,bv v.x18,bv v.x19,bv v.x20,bv v.x21,bv v.x22,bv v.x23]
def ZbK.l (v:ZbK):List Bool:=[v.x0,v.x1,v.x2,v.x3,v.x4,v.x5,v.x6,v.x7,v.x8,v.x9,v.x10,v.x11,v.x12,v.x13,v.x14,v.x15,v.x16,v.x17,v.x18,v.x19,v.x20,v.x21,v.x22,v.x23]
def ZbK.get (v:ZbK)(i:Int):Option Bool:=idx v.l i
abbrev Zac (v:Z1):List AV:=[bv v.x0,bv v.x1,bv v.x2,bv v.x3,bv v.x4,bv v.x5,bv v.x6,bv v.x7,bv v.x8,bv v.x9,bv v.x10,bv v.x11]
def Z1.l (v:Z1):List Bool:=[v.x0,v.x1,v.x2,v.x3,v.x4,v.x5,v.x6,v.x7,v.x8,v.x9,v.x10,v.x11]
def Z1.ofL (l:List Bool):Z1:=⟨l.getD 0 false,l.getD 1 false,l.getD 2 false,l.getD 3 false,l.getD 4 false,l.getD 5 false,l.getD 6 false,l.getD 7 false,l.getD 8 false,l.getD 9 false,l.getD 10 false,l.getD 11 false⟩
def Z1.get (v:Z1)(i:Int):Option Bool:=idx v.l i
def Z1.set (v:Z1)(i:Int)(x:Bool):Z1:=Z1.ofL (v.l.set i.toNat x)
theorem Z1.l_ofL (l:List Bool)(h:l.length=12):(Z1.ofL l).l=l:=ZmU 12 false l h rfl
theorem Z1.l_set (v:Z1)(i:Int)(x:Bool):(v.set i x).l=v.l.set i.toNat x:=Z1.l_ofL _ (by rw [List.length_set];rfl)
theorem Z1.c_set (v:Z1)(i:Int)(x:Bool):Zac (v.set i x)=(v.l.set i.toNat x).map (λx=>bv x):=by rw [← Z1.l_set];rfl
abbrev ZaH (v:Zbk):List AV:=[iv v.port,iv v.from_,iv v.to_]
def Zf5 (N:Nat):Option (Z8):=
 (some (Z8.mk 3 ([true,false,true]) ([(Zen.mk 0 1 8 5),(Zen.mk 1 2 8 5)])))
def Ze9 (N:Nat):Option (Zan):=
 (some (Zan.mk 100 2 10 8000))
def ZdP (N:Nat)(a0_:(List Int))(i3:Int)(i4:Int)(l5:(List ZaS)):Option ((Int×Int×(List ZaS))⊕((Int×(List ZaS)))):=
 (if (decide ((w64 (i3+1))<((List.length a0_:Nat):Int))) then ((idx a0_ i3).bind λa3 =>
 ((idx a0_ (w64 (i3+1))).bind λa2 =>
 ((appI 16 l5 [(ZaS.mk a3 a2)]).bind λa0 =>
 ((idx a0_ (w64 (i3+1))).bind λa1 =>
 (some (.inl ((w64 (i3+2)),(w64 (i4+a1)),a0))))))) else (some (.inr (i4,l5))))
def ZbC (N:Nat)(a0_:(List Int)):Option (Zah):=
 ((Za7 (λx:Int×Int×(List ZaS)=>ZdP N a0_ x.1 x.2.1 x.2.2) N (0,0,[])).bind λa0 =>
 (some (Zah.mk a0.2 a0.1)))
def ZaL (N:Nat)(a0_:Int)(a1_:Int):Option (Z9):=
 (some (Z9.mk a0_ 0 2 7 100 a1_ (ZeO.mk 0 0) 10000 ([[0,2]])))
def ZdI (N:Nat)(a0_:(List Zah))(a1_:(List Zah))(i2:Int)(a0:Int):Option ((Int)⊕((Unit)⊕(Bool))):=
 ((idx a0_ i2).bind λa5 =>
 (if (decide (a0<((List.length a5.Entries:Nat):Int))) then ((idx a0_ i2).bind λa4 =>
 ((idx a4.Entries a0).bind λa2 =>
 ((idx a1_ i2).bind λa3 =>
 ((idx a3.Entries a0).bind λa1 =>
 (if (!((a2.Mask==a1.Mask)&&((a2.Long==a1.Long)&&true))) then (some (.inr (.inr false))) else (some (.inl (w64 (a0+1))))))))) else (some (.inr (.inl ())))))
def ZdJ (N:Nat)(a0_:(List Zah))(a1_:(List Zah))(i2:Int):Option ((Int)⊕((Unit)⊕(Bool))):=
 (if (decide (i2<((List.length a0_:Nat):Int))) then ((((idx a0_ i2).bind λa6=>((idx a1_ i2).bind λa5=>(if (a6.Cycle != a5.Cycle) then (some true) else ((idx a0_ i2).bind λa4=>((idx a1_ i2).bind λa3=>(some (((List.length a4.Entries:Nat):Int)!=((List.length a3.Entries:Nat):Int))))))))).bind λ(a2:Bool) =>
 (if a2 then (some (.inr (.inr false))) else ((Za7 (λx:Int=>ZdI N a0_ a1_ i2 x) N 0).bind λa1=>match a1 with
 | (.inl a7)=>(some (.inl (w64 (i2+1))))
 | (.inr a0)=>(some (.inr (.inr a0)))))) else (some (.inr (.inl ()))))
def ZdR (N:Nat)(a0_:(List Zah))(a1_:(List Zah)):Option (Bool):=
 (if (((List.length a0_:Nat):Int)!=((List.length a1_:Nat):Int)) then (some false) else ((Za7 (λx:Int=>ZdJ N a0_ a1_ x) N 0).bind λa1=>match a1 with
 | (.inl a2)=>(some true)
 | (.inr a0)=>(some a0)))
def ZdC (N:Nat)(a0_:Z8)(a1_:Zan)(a2_:(List Z9))(a3_:(List Int)):Option ((List Z9)×(List Int)×Z8×Zan):=
 (some (a2_,a3_,a0_,a1_))
def ZdD (N:Nat)(a0_:(List Bool))(a1_:Int)(i3:Int)(i4:Int)(i5:Int)(l6:(List ZaS)):Option ((Int×Int×Int×(List ZaS))⊕(((List ZaS)))):=
 (if (decide (i3<((List.length a0_:Nat):Int))) then ((idx a0_ i3).bind λa5 =>
 (((if a5 then (some 128) else (some 127))).bind λ(a0:Int) =>
 (((if ((a0==i4)&&((a1_==i5)&&true)) then ((idx l6 (w64 (((List.length l6:Nat):Int)-1))).bind λa4 =>
 ((idx l6 (w64 (((List.length l6:Nat):Int)-1))).bind λa3 =>
 (some (List.set l6 (Int.toNat (w64 (((List.length l6:Nat):Int)-1))) (ZaS.mk a3.Mask (w64 (a4.Long+a1_))))))) else ((appI 16 l6 [(ZaS.mk a0 a1_)]).bind λa1 =>
 (some a1)))).bind λ(a2:(List ZaS)) =>
 (some (.inl ((w64 (i3+1)),a0,a1_,a2)))))) else (some (.inr l6)))
def Zg5 (N:Nat)(a0_:(List Bool))(a1_:Int):Option (Zah):=
 ((Za7 (λx:Int×Int×Int×(List ZaS)=>ZdD N a0_ a1_ x.1 x.2.1 x.2.2.1 x.2.2.2) N (0,0,0,[])).bind λa0 =>
 (some (Zah.mk a0 (w64 (((List.length a0_:Nat):Int)*a1_)))))
def Zdc (N:Nat)(a0_:Zah)(i4:Int)(i5:Int):Option ((Int×Int)⊕((Int)⊕(Int))):=
 (if (decide (i5<((List.length a0_.Entries:Nat):Int))) then ((idx a0_.Entries i5).bind λa0 =>
 (if ((decide (a0.Mask<0))||((decide (a0.Mask>255))||((decide (a0.Long<1))||(decide (a0.Long>9600000))))) then (some (.inr (.inr 370))) else (some (.inl ((w64 (i4+a0.Long)),(w64 (i5+1))))))) else (some (.inr (.inl i4))))
def Zfd (N:Nat)(a0_:Zah):Option (Int):=
 (if ((decide (((List.length a0_.Entries:Nat):Int)<1))||(decide (((List.length a0_.Entries:Nat):Int)>128))) then (some 370) else ((Za7 (λx:Int×Int=>Zdc N a0_ x.1 x.2) N (0,0)).bind λa2=>match a2 with
 | (.inl a0)=>(if ((a0 != a0_.Cycle)||(decide (a0>9600000))) then (some 370) else (some 0))
 | (.inr a1)=>(some a1)))
def ZgC (N:Nat)(a0_:Zaf)(a1_:Int)(a2_:Int):Option (Bool):=
 (((if (decide (a2_≥0)) then ((idx a0_.Periods a1_).bind λe2=>(some (decide (a2_<e2)))) else (some false))).bind λ(j4:Bool) =>
 (some j4))
def ZaU (N:Nat)(a0_:Int)(a1_:Int)(a2_:Int):Option (Bool):=
 (some ((decide (a0_≥a1_))&&(decide (a0_<=a2_))))
def ZeJ (N:Nat)(a0_:Int)(a1_:Int):Option (Int):=
 ((quoI .i64 a0_ a1_).bind λq1 =>
 ((((remI a0_ a1_).bind λa0 =>
 (if (decide (a0<0)) then (some (w64 (q1-1))) else (some q1)))).bind λ(a1:Int) =>
 (some a1)))
def Zhl (N:Nat)(a0_:Zaf)(a1_:Int)(a2_:Int):Option (Zaf×Int×Int):=
 (some (a0_,a1_,a2_))
def ZdK (N:Nat)(a0_:Zaf)(a1_:Zax)(a2_:Int):Option (ZaM):=
 ((idx a0_.Periods a1_.Stream).bind λe1 =>
 ((remI (w64 (a1_.From+a2_)) e1).bind λm2 =>
 (some (ZaM.mk e1 m2 a1_.Long))))
def ZeU (N:Nat)(a0_:Z8)(a1_:Zan)(a2_:Z9)(a3_:Int):Option (Z9×Int×Z8×Zan):=
 (some (a2_,a3_,a0_,a1_))
def Zfc (N:Nat)(a0_:Zah)(a1_:Int)(a2_:Int)(a3_:Int):Option (Int):=
 ((Zfd N a0_).bind λr1 =>
 (if (r1 != 0) then (some r1) else (if ((decide (a1_<0))||((decide (a1_≥8))||((decide (a2_<(-1099511627776)))||((decide (a2_>1099511627776))||((decide (a3_<0))||(decide (a3_>1099511627776))))))) then (some 2) else (some 0))))
def ZdQ (N:Nat)(a0_:Zah)(i3:Int)(i4:Int):Option ((Int×Int)⊕((Int×Int))):=
 ((idx a0_.Entries i4).bind λa2 =>
 (if (decide (i3≥a2.Long)) then ((idx a0_.Entries i4).bind λa1 =>
 (some (.inl ((w64 (i3-a1.Long)),(w64 (i4+1)))))) else ((idx a0_.Entries i4).bind λa0 =>
 (some (.inr (i4,(w64 (a0.Long-i3))))))))
def ZeM (N:Nat)(a0_:Zah)(a1_:Int):Option (Int×Int):=
 ((remI a1_ a0_.Cycle).bind λm1 =>
 ((remI (w64 (m1+a0_.Cycle)) a0_.Cycle).bind λm2 =>
 ((Za7 (λx:Int×Int=>ZdQ N a0_ x.1 x.2) N (m2,0)).bind λa0 =>
 (some a0))))
def Zcy (N:Nat)(a0_:Zah)(a2_:Int->Option (Bool))(i2:Int)(i3:Int)(i4:Int)(i5:Int):Option ((Int×Int×Int×Int)⊕((Unit)⊕(Int))):=
 (if (decide (i5<(w64 (((List.length a0_.Entries:Nat):Int)+1)))) then ((idx a0_.Entries i2).bind λa3 =>
 ((a2_ a3.Mask).bind λa1 =>
 (if (!a1) then (some (.inr (.inr i4))) else ((remI (w64 (i2+1)) ((List.length a0_.Entries:Nat):Int)).bind λa0 =>
 ((idx a0_.Entries a0).bind λa2 =>
 (some (.inl (a0,a2.Long,(w64 (i4+i3)),(w64 (i5+1)))))))))) else (some (.inr (.inl ()))))
def Zfa (N:Nat)(a0_:Zah)(a1_:Int)(a2_:Int->Option (Bool)):Option (Int):=
 ((ZeM N a0_ a1_).bind λr1 =>
 ((Za7 (λx:Int×Int×Int×Int=>Zcy N a0_ a2_ x.1 x.2.1 x.2.2.1 x.2.2.2) N (r1.1,r1.2,0,0)).bind λa1=>match a1 with
 | (.inl a2)=>(some a0_.Cycle)
 | (.inr a0)=>(some a0)))
def Zej (N:Nat)(a0_:Int)(c0_:Int):Option (Bool):=
 (some (a0_==c0_))
def Zdy (N:Nat)(a0_:Z8)(a2_:ZbK)(a2:Int)(a1:(List Bool)):Option ((Int×(List Bool))⊕(((List Bool)))):=
 (if (decide (a2<((List.length a0_.Links:Nat):Int))) then ((((idx a0_.Links a2).bind λa0 =>
 ((((a2_.get a2).bind λa7=>(if (!a7) then ((idx a1 a0.A).bind λa6=>((idx a1 a0.B).bind λa5=>(some (a6 != a5)))) else (some false)))).bind λ(a3:Bool) =>
 (if a3 then ((idx a1 a0.A).bind λa9 =>
 ((idx (List.set a1 (Int.toNat a0.A) true) a0.B).bind λa8 =>
 (some (List.set (List.set a1 (Int.toNat a0.A) true) (Int.toNat a0.B) true)))) else (some a1))))).bind λ(a4:(List Bool)) =>
 (some (.inl ((w64 (a2+1)),a4)))) else (some (.inr a1)))
def Zdz (N:Nat)(a0_:Z8)(a2_:ZbK)(i10:Int)(a1:(List Bool)):Option ((Int×(List Bool))⊕(((List Bool)))):=
 (if (decide (i10<a0_.Nodes)) then ((Za7 (λx:Int×(List Bool)=>Zdy N a0_ a2_ x.1 x.2) N (0,a1)).bind λa0 =>
 (some (.inl ((w64 (i10+1)),a0)))) else (some (.inr a1)))
def Zg4 (N:Nat)(a0_:Z8)(a1_:Int)(a2_:ZbK):Option ((List Bool)):=
 ((ZjI 1 a0_.Nodes a0_.Nodes false).bind λl3 =>
 ((idx l3 a1_).bind λe4 =>
 ((Za7 (λx:Int×(List Bool)=>Zdz N a0_ a2_ x.1 x.2) N (0,(List.set l3 (Int.toNat a1_) true))).bind λa0 =>
 (some a0))))
def Zev (N:Nat)(c0_:Z9):Option (Bool):=
 ((ZaU N c0_.Id 1 4095).bind λr2 =>
 (some r2))
def Zc6 (N:Nat)(a0_:Z8)(a1_:Int):Option (Bool):=
 ((((ZaU N a1_ 0 (w64 (a0_.Nodes-1))).bind λr1=>(if r1 then ((idx a0_.Station a1_).bind λe3=>(some e3)) else (some false)))).bind λ(j5:Bool) =>
 (some j5))
def Zet (N:Nat)(c0_:Z9):Option (Bool):=
 ((ZaU N c0_.Size 84 1542).bind λr2 =>
 (some r2))
def Zes (N:Nat)(c0_:Z9):Option (Bool):=
 ((ZaU N c0_.Deadline 1 1099511627776).bind λr2 =>
 (some r2))
def Zeq (N:Nat)(c0_:Z9):Option (Bool):=
 ((ZaU N ((List.length c0_.Routes:Nat):Int) 1 2).bind λr2 =>
 (some r2))
def ZcR {σ:Type}(N:Nat)(y_:σ->Zax->Zax->Option (σ×Bool))(c0_:Zaf)(c2_:Int)(i4:Int)(a5:Zax)(a1:Int)(a3:σ):Option ((Int×σ)⊕((σ)⊕(σ))):=
 (if (decide (a1<((List.length c0_.Uses:Nat):Int))) then ((idx c0_.Uses a1).bind λa2 =>
 (((if (a1==i4) then (some true) else (if (a2.Stream != c2_) then (some true) else (some (a2.Port != a5.Port))))).bind λ(a4:Bool) =>
 (if a4 then (some (.inl ((w64 (a1+1)),a3))) else ((y_ a3 a5 a2).bind λa0 =>
 (if (!a0.2) then (some (.inr (.inr a0.1))) else (some (.inl ((w64 (a1+1)),a0.1)))))))) else (some (.inr (.inl a3))))
def ZcS {σ:Type}(N:Nat)(y_:σ->Zax->Zax->Option (σ×Bool))(c0_:Zaf)(c1_:Int)(c2_:Int)(i4:Int)(g5:σ):Option ((Int×σ)⊕((σ)⊕(σ))):=
 (if (decide (i4<((List.length c0_.Uses:Nat):Int))) then ((idx c0_.Uses i4).bind λa3 =>
 (if (a3.Stream != c1_) then (some (.inl ((w64 (i4+1)),g5))) else ((Za7 (λx:Int×σ=>ZcR N y_ c0_ c2_ i4 a3 x.1 x.2) N (0,g5)).bind λa2=>match a2 with
 | (.inl a1)=>(some (.inl ((w64 (i4+1)),a1)))
 | (.inr a0)=>(some (.inr (.inr a0)))))) else (some (.inr (.inl g5))))
def ZfI {σ:Type}(N:Nat)(y_:σ->Zax->Zax->Option (σ×Bool))(c0_:Zaf)(c1_:Int)(c2_:Int)(s_:σ):Option (σ):=
 ((Za7 (λx:Int×σ=>ZcS N y_ c0_ c1_ c2_ x.1 x.2) N (0,s_)).bind λa2=>match a2 with
 | (.inl a1)=>(some a1)
 | (.inr a0)=>(some a0))
def ZcM (N:Nat)(a0_:ZaM):Option (Int):=
 (if ((decide (a0_.Period<1))||((decide (a0_.Period>960))||((decide (a0_.From<0))||(decide (a0_.From≥a0_.Period))))) then (some 330) else (if ((decide (a0_.Long<1))||(decide (a0_.Long>a0_.Period))) then (some 330) else (some 0)))
def ZbP (N:Nat)(a0_:(List ZaM))(i2:Int):Option ((Int)⊕((Unit)⊕(Int))):=
 (if (decide (i2<((List.length a0_:Nat):Int))) then ((idx a0_ i2).bind λa1 =>
 ((ZcM N a1).bind λa0 =>
 (if (a0 != 0) then (some (.inr (.inr a0))) else (some (.inl (w64 (i2+1))))))) else (some (.inr (.inl ()))))
def Zdn (N:Nat)(a0_:(List ZaM)):Option (Int):=
 (if (decide (((List.length a0_:Nat):Int)>32)) then (some 3) else ((Za7 (λx:Int=>ZbP N a0_ x) N 0).bind λa1=>match a1 with
 | (.inl a2)=>(some 0)
 | (.inr a0)=>(some a0)))
def Zcs {σ:Type}(N:Nat)(y_:σ->ZaT->Option (σ×Bool))(c0_:Z9)(c2_:Z8)(c3_:Zan)(e3:(List Int))(i6:Int)(i7:Int)(i10:Int)(i11:Int)(i12:Int)(i8:Int)(g9:σ):Option ((Int×Int×Int×Int×Int×Int×σ)⊕((σ)⊕(σ))):=
 (if (decide (i6<((List.length e3:Nat):Int))) then ((idx e3 i6).bind λa4 =>
 (((if (decide (i6>0)) then ((idx c2_.Links (w64 (Int.tdiv i7 2))).bind λa2 =>
 ((quoI .i64 (w64 ((w64 ((w64 ((w64 ((w64 ((w64 (i12+i8))+a2.Delay))+c3_.Proc))+(w64 (2*c3_.Slack))))+c3_.Grid))-1)) c3_.Grid).bind λa5 =>
 (some ((w64 ((w64 ((w64 ((w64 (i12+i8))+a2.Delay))+c3_.Proc))-(w64 (2*c3_.Slack)))),(w64 ((w64 ((w64 ((w64 (i12+i8))+a2.Delay))+c3_.Proc))+(w64 (2*c3_.Slack)))),(w64 (a5*c3_.Grid)))))) else (some (i10,i11,i12)))).bind λ(a0:Int×Int×Int) =>
 ((idx c2_.Links (w64 (Int.tdiv a4 2))).bind λa3 =>
 ((y_ g9 (ZaT.mk a4 a0.1 a0.2.1 a0.2.2 (w64 (c0_.Size*a3.Per)))).bind λa1 =>
 (if (!a1.2) then (some (.inr (.inr a1.1))) else (some (.inl ((w64 (i6+1)),a4,a0.1,a0.2.1,a0.2.2,(w64 (c0_.Size*a3.Per)),a1.1)))))))) else (some (.inr (.inl g9))))
def ZdE {σ:Type}(N:Nat)(y_:σ->ZaT->Option (σ×Bool))(c0_:Z9)(c1_:Int)(c2_:Z8)(c3_:Zan)(s_:σ):Option (σ):=
 ((idx c0_.Routes c1_).bind λe3 =>
 ((Za7 (λx:Int×Int×Int×Int×Int×Int×σ=>Zcs N y_ c0_ c2_ c3_ e3 x.1 x.2.1 x.2.2.1 x.2.2.2.1 x.2.2.2.2.1 x.2.2.2.2.2.1 x.2.2.2.2.2.2) N (0,0,0,0,0,0,s_)).bind λa2=>match a2 with
 | (.inl a1)=>(some a1)
 | (.inr a0)=>(some a0)))
def ZgL (N:Nat)(a0_:Z8)(a1_:Int):Option (Bool):=
 (some ((decide (a1_≥0))&&(decide (a1_<a0_.Nodes))))
def Zfs (N:Nat)(a0_:Int)(c0_:Z8):Option (Bool):=
 ((idx c0_.Links a0_).bind λe2 =>
 ((((idx c0_.Station e2.A).bind λe4=>(if (!e4) then (some true) else ((idx c0_.Station e2.B).bind λe8=>(some (!e8)))))).bind λ(j9:Bool) =>
 (some j9)))
def ZcF (N:Nat)(e2:Zen)(l4:List Zen)(i5:Int):Option ((Int)⊕((Unit)⊕(Bool))):=
 (if (decide (i5<((List.length l4:Nat):Int))) then ((idx l4 i5).bind λa0 =>
 (if (if (e2.A==a0.A) then ((e2.B==a0.B)||((e2.A==a0.B)&&(e2.B==a0.A))) else ((e2.A==a0.B)&&(e2.B==a0.A))) then (some (.inr (.inr false))) else (some (.inl (w64 (i5+1)))))) else (some (.inr (.inl ()))))
def Zfr (N:Nat)(a0_:Int)(c0_:Z8):Option (Bool):=
 ((idx c0_.Links a0_).bind λe2 =>
 ((subI c0_.Links 0 a0_).bind λl4 =>
 ((Za7 (λx:Int=>ZcF N e2 l4 x) N 0).bind λa1=>match a1 with
 | (.inl a2)=>(some true)
 | (.inr a0)=>(some a0))))
def Zfq (N:Nat)(a0_:Int)(c0_:Z8):Option (Bool):=
 ((idx c0_.Links a0_).bind λe2 =>
 (some ((decide (e2.Per≥1))&&((decide (e2.Per<=1000))&&((decide (e2.Delay≥0))&&(decide (e2.Delay<=10000)))))))
def Zbc (N:Nat)(a0_:(List Bool))(a1_:Bool)(i1:Int):Option ((Int)⊕((Unit)⊕(Int))):=
 (if (decide (i1<((List.length a0_:Nat):Int))) then ((idx a0_ i1).bind λa0 =>
 (if (a1_==a0) then (some (.inr (.inr i1))) else (some (.inl (w64 (i1+1)))))) else (some (.inr (.inl ()))))
def ZbN (N:Nat)(a0_:(List Bool))(a1_:Bool):Option (Int):=
 ((Za7 (λx:Int=>Zbc N a0_ a1_ x) N 0).bind λa1=>match a1 with
 | (.inl a2)=>(some (-1))
 | (.inr a0)=>(some a0))
def Zci (N:Nat)(a0_:Int)(a1_:Int)(a2_:Int):Option (Bool):=
 (some ((decide (a1_<=a0_))&&(decide (a0_<=a2_))))
def ZcJ (N:Nat)(a1_:(List Int))(a2:Int)(a0:Int):Option ((Int)⊕((Unit)⊕(Bool))):=
 (if (decide (a0<((List.length a1_:Nat):Int))) then ((idx a1_ a0).bind λa1 =>
 (if ((w64 (Int.tdiv a2 2))==(w64 (Int.tdiv a1 2))) then (some (.inr (.inr true))) else (some (.inl (w64 (a0+1)))))) else (some (.inr (.inl ()))))
def ZcK (N:Nat)(a0_:(List Int))(a1_:(List Int))(i1:Int):Option ((Int)⊕((Unit)⊕(Bool))):=
 (if (decide (i1<((List.length a0_:Nat):Int))) then ((idx a0_ i1).bind λa2 =>
 ((Za7 (λx:Int=>ZcJ N a1_ a2 x) N 0).bind λa1=>match a1 with
 | (.inl a3)=>(some (.inl (w64 (i1+1))))
 | (.inr a0)=>(some (.inr (.inr a0))))) else (some (.inr (.inl ()))))
def ZfC (N:Nat)(a0_:(List Int))(a1_:(List Int)):Option (Bool):=
 ((Za7 (λx:Int=>ZcK N a0_ a1_ x) N 0).bind λa1=>match a1 with
 | (.inl a2)=>(some false)
 | (.inr a0)=>(some a0))
def Zgz (N:Nat)(a0_:Int)(a1_:Int):Option (Int):=
 ((remI a0_ a1_).bind λm1 =>
 ((remI (w64 (m1+a1_)) a1_).bind λm2 =>
 (some m2)))
def Zc9 (N:Nat)(i1:Int)(i2:Int):Option ((Int×Int)⊕((Int))):=
 (if (i2 != 0) then ((remI i1 i2).bind λa0 =>
 (some (.inl (i2,a0)))) else (some (.inr i1)))
def Ze1 (N:Nat)(a0_:Int)(a1_:Int):Option (Int):=
 ((Za7 (λx:Int×Int=>Zc9 N x.1 x.2) N (a0_,a1_)).bind λa0 =>
 (some a0))
def ZcI (N:Nat)(a0_:ZaD)(a1_:(List Int)):Option ((List Int)×ZaD):=
 (some (a1_,a0_))
def ZbG {σ:Type}(N:Nat)(y_:σ->Int->Zbk->Option (σ×Bool))(c0_:(List Int))(c1_:ZaD)(i4:Int)(g5:σ):Option ((Int×σ)⊕((σ))):=
 (if (decide (i4<((List.length c0_:Nat):Int))) then ((idx c0_ i4).bind λa1 =>
 (((if (decide (a1<0)) then (some true) else (some (decide (a1≥(w64 (2*((List.length c1_.Topo.Links:Nat):Int)))))))).bind λ(a4:Bool) =>
 (if a4 then (some (.inr g5)) else ((idx c1_.Topo.Links (w64 (Int.tdiv a1 2))).bind λa2 =>
 (((if ((Int.tmod a1 2)==1) then (some (a2.B,a2.A)) else (some (a2.A,a2.B)))).bind λ(a3:Int×Int) =>
 ((y_ g5 i4 (Zbk.mk a1 a3.1 a3.2)).bind λa0 =>
 (if (!a0.2) then (some (.inr a0.1)) else (some (.inl ((w64 (i4+1)),a0.1)))))))))) else (some (.inr g5)))
def Zcf {σ:Type}(N:Nat)(y_:σ->Int->Zbk->Option (σ×Bool))(c0_:(List Int))(c1_:ZaD)(s_:σ):Option (σ):=
 ((Za7 (λx:Int×σ=>ZbG N y_ c0_ c1_ x.1 x.2) N (0,s_)).bind λa0 =>
 (some a0))
def Zbm (N:Nat)(a0_:(List Int))(a1_:Int)(i1:Int):Option ((Int)⊕((Unit)⊕(Int))):=
 (if (decide (i1<((List.length a0_:Nat):Int))) then ((idx a0_ i1).bind λa0 =>
 (if (a1_==a0) then (some (.inr (.inr i1))) else (some (.inl (w64 (i1+1)))))) else (some (.inr (.inl ()))))
def Zb7 (N:Nat)(a0_:(List Int))(a1_:Int):Option (Int):=
 ((Za7 (λx:Int=>Zbm N a0_ a1_ x) N 0).bind λa1=>match a1 with
 | (.inl a2)=>(some (-1))
 | (.inr a0)=>(some a0))
def Zce (N:Nat)(a0_:Zan):Option (Int):=
 ((((ZaU N a0_.Grid 1 10000).bind λr1=>(if (!r1) then (some true) else ((ZaU N a0_.Slack 0 1000).bind λr4=>(some (!r4)))))).bind λ(j5:Bool) =>
 (if j5 then (some 320) else ((((ZaU N a0_.Proc 0 10000).bind λr7=>(if (!r7) then (some true) else ((ZaU N a0_.Cap 1542 65536).bind λa0=>(some (!a0)))))).bind λ(a1:Bool) =>
 (if a1 then (some 320) else (some 0)))))
def Zht (N:Nat)(a0_:Zah)(a1_:Int):Option (Int×Int):=
 ((Zfc N a0_ 0 a1_ 0).bind λr1 =>
 (if (r1 != 0) then (some (0,r1)) else ((ZeM N a0_ a1_).bind λr3 =>
 ((idx a0_.Entries r3.1).bind λe4 =>
 (some (e4.Mask,0))))))
def Zhs (N:Nat)(a0_:Zah)(a1_:Int):Option (Int×Int):=
 ((Zfc N a0_ 0 a1_ 0).bind λr1 =>
 (if (r1 != 0) then (some (0,r1)) else ((ZeM N a0_ a1_).bind λr3 =>
 ((idx a0_.Entries r3.1).bind λe4 =>
 ((Zfa N a0_ a1_ (λx0=>Zej N x0 e4.Mask)).bind λr8 =>
 (if (r8==a0_.Cycle) then (some (0,4)) else (some ((w64 (a1_+r8)),0))))))))
def ZbB (N:Nat)(a0_:(List Bool))(a1_:Bool):Option (Bool):=
 ((ZbN N a0_ a1_).bind λr1 =>
 (some (decide (r1≥0))))
def Zeu (N:Nat)(c0_:Z8)(c1_:Z9):Option (Bool):=
 ((((Zc6 N c0_ c1_.Talker).bind λr3=>(if r3 then ((Zc6 N c0_ c1_.Listener).bind λr7=>(if r7 then (some (c1_.Talker != c1_.Listener)) else (some false))) else (some false)))).bind λ(a0:Bool) =>
 (some a0))
def ZfS (N:Nat)(a0_:ZeO):Option (Int):=
 ((((Zci N a0_.Burst 1 1048576).bind λr1=>(if (!r1) then (some true) else ((Zci N a0_.Rate 1 2097152).bind λr4=>(some (!r4)))))).bind λ(j5:Bool) =>
 (if j5 then (some 130) else (some 0)))
def ZcL (N:Nat)(a0_:Int)(a1_:(List Int))(i1:Int)(i2:Int):Option ((Int×Int)⊕((Int))):=
 (if (decide (i2<((List.length a1_:Nat):Int))) then ((idx a1_ i2).bind λa0 =>
 ((Ze1 N i1 a0).bind λa2 =>
 ((quoI .i64 i1 a2).bind λa1 =>
 (if (decide ((w64 (a1*a0))>a0_)) then (some (.inr (w64 (a1*a0)))) else (some (.inl ((w64 (a1*a0)),(w64 (i2+1))))))))) else (some (.inr i1)))
def ZfE (N:Nat)(a0_:Int)(a1_:(List Int)):Option (Int):=
 ((Za7 (λx:Int×Int=>ZcL N a0_ a1_ x.1 x.2) N (1,0)).bind λa0 =>
 (some a0))
def Zft (N:Nat)(a0_:Int)(c0_:Z8):Option (Bool):=
 ((idx c0_.Links a0_).bind λe2 =>
 ((((ZgL N c0_ e2.A).bind λr4=>(if r4 then ((ZgL N c0_ e2.B).bind λr7=>(if r7 then (some (e2.A != e2.B)) else (some false))) else (some false)))).bind λ(a0:Bool) =>
 (some a0)))
def Zbv (N:Nat)(a0_:ZaD)(a3:Int)(a2:Int)(a1:Z1)(a8:Int)(a0:Zbk):Option ((Int×Int×Z1)×Nat):=
 (if (a8==0) then ((a1.get a0.from_).bind λab =>
 (((Z1.set a1 a0.from_ true).get a0.to_).bind λa7 =>
 (if a7 then (some ((a3,a2,(Z1.set a1 a0.from_ true)),1)) else (((Z1.set a1 a0.from_ true).get a0.to_).bind λaa =>
 (some (((w64 (a3+1)),a0.to_,(Z1.set (Z1.set a1 a0.from_ true) a0.to_ true)),0)))))) else (((if (a0.from_ != a2) then (some true) else ((idx a0_.Topo.Station a2).bind λa6=>(some a6)))).bind λ(a4:Bool) =>
 (if a4 then (some ((a3,a2,a1),1)) else ((a1.get a0.to_).bind λa5 =>
 (if a5 then (some ((a3,a2,a1),1)) else ((a1.get a0.to_).bind λa9 =>
 (some (((w64 (a3+1)),a0.to_,(Z1.set a1 a0.to_ true)),0))))))))
def Zcu (N:Nat)(a0_:ZaD)(a1_:(List Int)):Option (Bool):=
 (if ((decide (((List.length a1_:Nat):Int)<1))||(decide (((List.length a1_:Nat):Int)>8))) then (some false) else ((((ZcI N a0_ a1_).bind λa1 =>
 ((Zcf N (λ(s:(Int×Int×Z1)×Nat) (a3:Int) (a2:Zbk)=>Zfp (λv:Int×Int×Z1=>Zbv N a0_ v.1 v.2.1 v.2.2 a3 a2) s) a1.1 a1.2 ((0,0,(Z1.mk false false false false false false false false false false false false)),0)).bind λa0 =>
 (if (a0.2==0) then (some a0.1.1) else (if (a0.2==1) then (some a0.1.1) else none))))).bind λ(a4:Int) =>
 (some (a4==((List.length a1_:Nat):Int)))))
def ZfD (N:Nat)(a0_:ZaM)(a1_:ZaM):Option (Int×Int×Int):=
 ((Ze1 N a0_.Period a1_.Period).bind λr1 =>
 (some (a0_.Long,(w64 (r1-a1_.Long)),r1)))
def Zbw (N:Nat)(a3:(List Int))(x13:Int)(x14:Zbk):Option ((List Int)):=
 (((if (x13==0) then ((appI 8 a3 [x14.from_]).bind λa1 =>
 (some a1)) else (some a3))).bind λ(a2:(List Int)) =>
 ((appI 8 a2 [x14.to_]).bind λa0 =>
 (some a0)))
def ZbT (N:Nat)(a0_:ZaD)(a1_:(List Int)):Option ((List Int)):=
 ((ZjI 8 0 (w64 (((List.length a1_:Nat):Int)+1)) 0).bind λl3 =>
 ((ZcI N a0_ a1_).bind λr7 =>
 ((Zcf N (λ(s:(List Int)) (x13:Int) (x14:Zbk)=>Zd5 (λv:(List Int)=>Zbw N v x13 x14) s) r7.1 r7.2 l3).bind λa0 =>
 (some a0))))
def ZbH (N:Nat)(a0_:(List Int))(a1_:Int):Option (Bool):=
 ((Zb7 N a0_ a1_).bind λr1 =>
 (some (decide (r1≥0))))
def ZdF (N:Nat)(a0_:ZaD)(c0_:(List Int)):Option ((List Int)×Int):=
 ((ZbT N a0_ c0_).bind λr2 =>
 (some (r2,0)))
def Zfu (N:Nat)(a0_:Zah)(a1_:Int)(a2_:Int):Option (Bool):=
 ((Zht N a0_ a1_).bind λr1 =>
 (if (r1.1 != 128) then (some false) else ((Zhs N a0_ a1_).bind λr3 =>
 (some ((r3.2 != 0)||(decide (r3.1≥(w64 (a1_+a2_)))))))))
def Zcw (N:Nat)(a0_:(List ZaM))(i8:Int)(l9:(List Int)):Option ((Int×(List Int))⊕(((List Int)))):=
 (if (decide (i8<((List.length a0_:Nat):Int))) then ((idx a0_ i8).bind λa0 =>
 ((idx l9 i8).bind λa1 =>
 (some (.inl ((w64 (i8+1)),(List.set l9 (Int.toNat i8) a0.Period)))))) else (some (.inr l9)))
def Ze3 (N:Nat)(a0_:(List ZaM)):Option (Int×Int):=
 ((Zdn N a0_).bind λr1 =>
 (if (r1 != 0) then (some (0,r1)) else ((ZjI 8 ((List.length a0_:Nat):Int) ((List.length a0_:Nat):Int) 0).bind λl5 =>
 ((Za7 (λx:Int×(List Int)=>Zcw N a0_ x.1 x.2) N (0,l5)).bind λa1 =>
 ((ZfE N 960 a1).bind λa0 =>
 (if (decide (a0>960)) then (some (0,6)) else (some (a0,0))))))))
def Zdx (N:Nat)(a0_:Z8)(i4:Int):Option ((Int)⊕((Unit)⊕(Bool))):=
 (if (decide (i4<((List.length a0_.Links:Nat):Int))) then ((Zft N i4 a0_).bind λa3 =>
 (if (!a3) then (some (.inr (.inr false))) else ((Zfs N i4 a0_).bind λa2 =>
 (if (!a2) then (some (.inr (.inr false))) else ((Zfr N i4 a0_).bind λa1 =>
 (if (!a1) then (some (.inr (.inr false))) else ((Zfq N i4 a0_).bind λa0 =>
 (if (!a0) then (some (.inr (.inr false))) else (some (.inl (w64 (i4+1)))))))))))) else (some (.inr (.inl ()))))
def Zg3 (N:Nat)(a0_:Z8):Option (Bool):=
 ((Za7 (λx:Int=>Zdx N a0_ x) N 0).bind λa1=>match a1 with
 | (.inl a2)=>(some true)
 | (.inr a0)=>(some a0))
def Zer (N:Nat)(c0_:Z9):Option (Bool):=
 (if (c0_.Class==7) then ((((ZaU N c0_.Period 1 240).bind λr4=>(if r4 then (some ((c0_.Bucket.Burst==0)&&((c0_.Bucket.Rate==0)&&true))) else (some false)))).bind λ(j8:Bool) =>
 (some j8)) else (if (c0_.Class==6) then (((if (c0_.Period==0) then ((ZfS N c0_.Bucket).bind λa0=>(if (a0==0) then (some (decide (c0_.Bucket.Burst≥c0_.Size))) else (some false))) else (some false))).bind λ(a1:Bool) =>
 (some a1)) else (some false)))
def Ze2 (N:Nat)(a0_:ZaM)(a1_:ZaM):Option (Bool):=
 (if ((a0_.Period==a1_.Period)&&((a0_.From==a1_.From)&&((a0_.Long==a1_.Long)&&true))) then (some false) else ((ZfD N a0_ a1_).bind λr2 =>
 ((Zgz N (w64 (a1_.From-a0_.From)) r2.2.2).bind λr3 =>
 (some ((decide (r2.1<=r3))&&(decide (r3<=r2.2.1)))))))
def ZbO (N:Nat)(r2:(List Int))(l3:List Int)(i4:Int):Option ((Int)⊕((Unit)⊕(Bool))):=
 (if (decide (i4<((List.length l3:Nat):Int))) then ((idx l3 i4).bind λa1 =>
 ((ZbH N r2 a1).bind λa0 =>
 (if a0 then (some (.inr (.inr true))) else (some (.inl (w64 (i4+1))))))) else (some (.inr (.inl ()))))
def Zcv (N:Nat)(a0_:ZaD)(a1_:(List Int))(a2_:(List Int)):Option (Bool):=
 ((ZbT N a0_ a1_).bind λr1 =>
 ((ZbT N a0_ a2_).bind λr2 =>
 ((subI r1 1 (w64 (((List.length r1:Nat):Int)-1))).bind λl3 =>
 ((Za7 (λx:Int=>ZbO N r2 l3 x) N 0).bind λa1=>match a1 with
 | (.inl a2)=>(some false)
 | (.inr a0)=>(some a0)))))
def ZdL (N:Nat)(a0_:(List Int))(i6:Int)(l7:(List ZaM)):Option ((Int×(List ZaM))⊕(((List ZaM)))):=
 (if (decide (i6<((List.length a0_:Nat):Int))) then ((idx a0_ i6).bind λa0 =>
 ((idx l7 i6).bind λa1 =>
 (some (.inl ((w64 (i6+1)),(List.set l7 (Int.toNat i6) (ZaM.mk a0 0 1))))))) else (some (.inr l7)))
def ZeK (N:Nat)(a0_:(List Int)):Option (Int×Int):=
 ((ZjI 24 ((List.length a0_:Nat):Int) ((List.length a0_:Nat):Int) (ZaM.mk 0 0 0)).bind λl3 =>
 ((Za7 (λx:Int×(List ZaM)=>ZdL N a0_ x.1 x.2) N (0,l3)).bind λa1 =>
 ((Ze3 N a1).bind λa0 =>
 (some (a0.1,a0.2)))))
def ZdB (N:Nat)(a0_:Z8)(i16:Int)(a2:(List Int)):Option ((Int×(List Int))⊕(((List Int)))):=
 (if (decide (i16<((List.length a0_.Links:Nat):Int))) then ((idx a0_.Links i16).bind λa0 =>
 ((idx a2 a0.A).bind λa1 =>
 ((idx a2 a0.A).bind λa5 =>
 ((idx (List.set a2 (Int.toNat a0.A) (w64 (a1+1))) a0.B).bind λa3 =>
 ((idx (List.set a2 (Int.toNat a0.A) (w64 (a1+1))) a0.B).bind λa4 =>
 (some (.inl ((w64 (i16+1)),(List.set (List.set a2 (Int.toNat a0.A) (w64 (a1+1))) (Int.toNat a0.B) (w64 (a3+1))))))))))) else (some (.inr a2)))
def ZdA (N:Nat)(a0_:Z8)(a1:(List Int))(a0:Int):Option ((Int)⊕((Unit)⊕(Int))):=
 (if (decide (a0<((List.length a0_.Station:Nat):Int))) then ((idx a0_.Station a0).bind λa5 =>
 (((if a5 then ((idx a1 a0).bind λa4=>(if (decide (a4<1)) then (some true) else ((idx a1 a0).bind λa3=>(some (decide (a3>2)))))) else (some false))).bind λ(a2:Bool) =>
 (if a2 then (some (.inr (.inr 260))) else (some (.inl (w64 (a0+1))))))) else (some (.inr (.inl ()))))
def ZeA (N:Nat)(a0_:Z8):Option (Int):=
 (if ((decide (a0_.Nodes<2))||((decide (a0_.Nodes>12))||(((List.length a0_.Station:Nat):Int)!=a0_.Nodes))) then (some 260) else (((if (decide (((List.length a0_.Links:Nat):Int)>24)) then (some true) else ((Zg3 N a0_).bind λr8=>(some (!r8))))).bind λ(j9:Bool) =>
 (if j9 then (some 260) else ((ZjI 8 a0_.Nodes a0_.Nodes 0).bind λa6 =>
 ((Za7 (λx:Int×(List Int)=>ZdB N a0_ x.1 x.2) N (0,a6)).bind λa4 =>
 ((Za7 (λx:Int=>ZdA N a0_ a4 x) N 0).bind λa3=>match a3 with
 | (.inl a5)=>((Zg4 N a0_ 0 (ZbK.mk false false false false false false false false false false false false false false false false false false false false false false false false)).bind λa1 =>
 ((ZbB N a1 false).bind λa0 =>
 (if a0 then (some 260) else (some 0))))
 | (.inr a2)=>(some a2)))))))
def Ze4 (N:Nat)(a0_:ZaM)(a1_:ZaM):Option (Bool×Int):=
 ((ZcM N a0_).bind λr1 =>
 (if (r1 != 0) then (some (false,r1)) else ((ZcM N a1_).bind λr3 =>
 (if (r3 != 0) then (some (false,r3)) else ((Ze2 N a0_ a1_).bind λr5 =>
 (some (r5,0)))))))
def ZdG (N:Nat)(a0_:ZaD)(c0_:(List Int))(c1_:(List Int)):Option (Bool×Int):=
 ((Zcu N a0_ c0_).bind λr2 =>
 (if (!r2) then (some (false,310)) else ((((ZfC N c1_ c0_).bind λr6=>(if (!r6) then ((Zcv N a0_ c1_ c0_).bind λa1=>(if (!a1) then ((Zcv N a0_ c0_ c1_).bind λa0=>(some (!a0))) else (some false))) else (some false)))).bind λ(a2:Bool) =>
 (some (a2,0)))))
def Ze0 (N:Nat)(a0_:Z8)(a1_:(List Int)):Option (Int):=
 ((ZeA N a0_).bind λr1 =>
 (if (r1 != 0) then (some r1) else ((Zcu N (ZaD.mk a0_) a1_).bind λr3 =>
 (if (!r3) then (some 310) else (some 0)))))
def Zex (N:Nat)(a0_:Z8)(a1_:(List Int))(a2_:ZaD->Option ((List Int)×Int)):Option ((List Int)×Int):=
 ((Ze0 N a0_ a1_).bind λr1 =>
 (if (r1 != 0) then (some ([],r1)) else ((a2_ (ZaD.mk a0_)).bind λr3 =>
 (some (r3.1,r3.2)))))
def ZbS (N:Nat)(a0_:ZaV)(i5:Int)(m5:(List (Int×(List Zax)))):Option ((Int×(List (Int×(List Zax))))⊕((List (Int×(List Zax))))):=
 (if (decide (i5<((List.length a0_.Problem.Uses:Nat):Int))) then ((idx a0_.Problem.Uses i5).bind λa0 =>
 ((appI 32 (Zi3 m5 a0.Port []) [a0]).bind λa1 =>
 (some (.inl ((w64 (i5+1)),(ZdO m5 a0.Port a1)))))) else (some (.inr m5)))
def ZbR (N:Nat)(a0_:ZaV)(r2:Int×Int)(us_:(List Zax))(a2:Int)(a0:Int):Option ((Int×Int)⊕((Int))):=
 (if (decide (a0<((List.length us_:Nat):Int))) then ((idx us_ a0).bind λa4 =>
 ((idx a0_.Problem.Periods a4.Stream).bind λa3 =>
 ((quoI .i64 r2.1 a3).bind λa1 =>
 (some (.inl ((w64 (a2+a1)),(w64 (a0+1)))))))) else (some (.inr a2)))
def Zb4 (N:Nat)(a0_:ZaV)(r2:Int×Int)(us_:(List Zax)):Option Bool :=
 ((Za7 (λx:Int×Int=>ZbR N a0_ r2 us_ x.1 x.2) N (0,0)).bind λa0 =>
 (some (decide (a0>63))))
def ZbQ (N:Nat)(a0_:ZaV)(a0:Int):Option ((Int)⊕((Unit)⊕(Int))):=
 (if (decide (a0<((List.length a0_.Problem.Uses:Nat):Int))) then ((idx a0_.Problem.Uses a0).bind λa1 =>
 ((idx a0_.Problem.Periods a1.Stream).bind λa2 =>
 (if (decide (a1.Long>a2)) then (some (.inr (.inr 341))) else (some (.inl (w64 (a0+1))))))) else (some (.inr (.inl ()))))
def Zdp (N:Nat)(a0_:ZaV):Option (Int):=
 ((ZeK N a0_.Problem.Periods).bind λr2 =>
 (if (r2.2 != 0) then (some r2.2) else ((Za7 (λx:Int×(List (Int×(List Zax)))=>ZbS N a0_ x.1 x.2) N (0,[])).bind λa3 =>
 ((rgF (Zb4 N a0_ r2) a3).bind λa2 =>
 (if a2 then (some 7) else ((Za7 (λx:Int=>ZbQ N a0_ x) N 0).bind λa1=>match a1 with
 | (.inl a4)=>(if a0_.late then (some 342) else (some 0))
 | (.inr a0)=>(some a0)))))))
def ZdN (N:Nat)(a0_:Zaf)(i4:Int):Option ((Int)⊕((Unit)⊕(Int))):=
 (if (decide (i4<((List.length a0_.Periods:Nat):Int))) then ((idx a0_.Periods i4).bind λa0 =>
 (if ((decide (a0<1))||(decide (a0>240))) then (some (.inr (.inr 340))) else (some (.inl (w64 (i4+1)))))) else (some (.inr (.inl ()))))
def ZdM (N:Nat)(a0_:Zaf)(a2:Int):Option ((Int)⊕((Unit)⊕(Int))):=
 (if (decide (a2<((List.length a0_.Uses:Nat):Int))) then ((idx a0_.Uses a2).bind λa0 =>
 (if ((decide (a0.Stream<0))||((decide (a0.Stream≥((List.length a0_.Periods:Nat):Int)))||((decide (a0.Port<0))||(decide (a0.Port≥48))))) then (some (.inr (.inr 340))) else ((idx a0_.Periods a0.Stream).bind λa1 =>
 (if ((decide (a0.From<0))||((decide (a0.From≥a1))||((decide (a0.Long<1))||(decide (a0.Long>a1))))) then (some (.inr (.inr 340))) else (some (.inl (w64 (a2+1)))))))) else (some (.inr (.inl ()))))
def ZfZ (N:Nat)(a0_:Zaf):Option (Int):=
 (if ((decide (((List.length a0_.Periods:Nat):Int)>12))||(decide (((List.length a0_.Uses:Nat):Int)>192))) then (some 340) else ((Za7 (λx:Int=>ZdN N a0_ x) N 0).bind λa4=>match a4 with
 | (.inl a6)=>((ZeK N a0_.Periods).bind λa3 =>
 (if (a3.2 != 0) then (some 340) else ((Za7 (λx:Int=>ZdM N a0_ x) N 0).bind λa2=>match a2 with
 | (.inl a5)=>(some 0)
 | (.inr a1)=>(some a1))))
 | (.inr a0)=>(some a0)))
def ZbV (N:Nat)(a0_:Zaf)(a2_:Int)(a4_:Int)(b18:Bool)(x16:Zax)(x17:Zax):Option ((Bool)×Nat):=
 (if ((x16.Stream==x17.Stream)&&((x16.Port==x17.Port)&&((x16.From==x17.From)&&((x16.Long==x17.Long)&&true)))) then (some (true,1)) else ((ZdK N a0_ x16 a2_).bind λa2 =>
 ((ZdK N a0_ x17 a4_).bind λa1 =>
 ((Ze4 N a2 a1).bind λa0 =>
 (if (!a0.1) then (some (true,1)) else (some (b18,0)))))))
def Ze7 (N:Nat)(a0_:Zaf)(a1_:Int)(a2_:Int)(a3_:Int)(a4_:Int):Option (Bool):=
 ((Zhl N a0_ a1_ a3_).bind λa1 =>
 ((ZfI N (λ(s:(Bool)×Nat) (x16:Zax) (x17:Zax)=>Zfp (λv:Bool=>ZbV N a0_ a2_ a4_ v x16 x17) s) a1.1 a1.2.1 a1.2.2 (false,0)).bind λa0 =>
 (if (a0.2==0) then (some false) else (if (a0.2==1) then (some a0.1) else none))))
def Zew (N:Nat)(a0_:Z8)(a1_:(List Int))(a2_:ZaD->Option (Bool×Int)):Option (Bool×Int):=
 ((Ze0 N a0_ a1_).bind λr1 =>
 (if (r1 != 0) then (some (false,r1)) else ((a2_ (ZaD.mk a0_)).bind λr3 =>
 (some (r3.1,r3.2)))))
def Zgx (N:Nat)(a0_:Z8)(a1_:(List Int)):Option ((List Int)×Int):=
 ((Zex N a0_ a1_ (λx0=>ZdF N x0 a1_)).bind λr4 =>
 (some (r4.1,r4.2)))
def Zei (N:Nat)(a0_:Zaf)(a1_:(List Int))(i4:Int):Option ((Int)⊕((Unit)⊕(Bool×Int))):=
 (if (decide (i4<((List.length a1_:Nat):Int))) then ((idx a1_ i4).bind λa1 =>
 ((ZgC N a0_ i4 a1).bind λa0 =>
 (if (!a0) then (some (.inr (.inr (false,2)))) else (some (.inl (w64 (i4+1))))))) else (some (.inr (.inl ()))))
def Zeg (N:Nat)(a0_:Zaf)(a5:Int)(a4:Int)(a1:List Int)(a0:Int):Option ((Int)⊕((Unit)⊕(Bool×Int))):=
 (if (decide (a0<((List.length a1:Nat):Int))) then ((idx a1 a0).bind λa3 =>
 ((Ze7 N a0_ a0 a3 a5 a4).bind λa2 =>
 (if a2 then (some (.inr (.inr (false,0)))) else (some (.inl (w64 (a0+1))))))) else (some (.inr (.inl ()))))
def Zeh (N:Nat)(a0_:Zaf)(a1_:(List Int))(a0:Int):Option ((Int)⊕((Unit)⊕(Bool×Int))):=
 (if (decide (a0<((List.length a1_:Nat):Int))) then ((idx a1_ a0).bind λa4 =>
 ((subI a1_ 0 (w64 (a0+1))).bind λa3 =>
 ((Za7 (λx:Int=>Zeg N a0_ a0 a4 a3 x) N 0).bind λa2=>match a2 with
 | (.inl a5)=>(some (.inl (w64 (a0+1))))
 | (.inr a1)=>(some (.inr (.inr a1)))))) else (some (.inr (.inl ()))))
def ZgO (N:Nat)(a0_:Zaf)(a1_:(List Int)):Option (Bool×Int):=
 ((ZfZ N a0_).bind λr1 =>
 (if (r1 != 0) then (some (false,r1)) else (if (((List.length a1_:Nat):Int)!=((List.length a0_.Periods:Nat):Int)) then (some (false,2)) else ((Za7 (λx:Int=>Zei N a0_ a1_ x) N 0).bind λa3=>match a3 with
 | (.inl a5)=>((Za7 (λx:Int=>Zeh N a0_ a1_ x) N 0).bind λa2=>match a2 with
 | (.inl a4)=>(some (true,0))
 | (.inr a1)=>(some a1))
 | (.inr a0)=>(some a0)))))
def ZfY (N:Nat)(a0_:Zaf):Option (Int×Int):=
 ((ZfZ N a0_).bind λr1 =>
 (if (r1 != 0) then (some (0,r1)) else ((ZeK N a0_.Periods).bind λr3 =>
 (some (r3.1,r3.2)))))
def Zgy (N:Nat)(a0_:Z8)(a1_:(List Int))(a2_:(List Int)):Option (Bool×Int):=
 ((Zew N a0_ a1_ (λx0=>ZdG N x0 a2_ a1_)).bind λr6 =>
 (some (r6.1,r6.2)))
def Zhi (N:Nat)(a0_:Z8)(a1_:(List Int)):Option (Int×Int×Int):=
 ((Zgx N a0_ a1_).bind λr1 =>
 (if (r1.2 != 0) then (some (0,0,r1.2)) else ((idx r1.1 0).bind λe3 =>
 ((idx r1.1 (w64 (((List.length r1.1:Nat):Int)-1))).bind λe4 =>
 (some (e3,e4,0))))))
def Zfw (N:Nat)(a0_:Z8)(a1_:(List Int))(a2_:Int)(a3_:Int):Option (Bool):=
 ((Zhi N a0_ a1_).bind λr1 =>
 (some ((r1.2.2==0)&&((r1.1==a2_)&&(r1.2.1==a3_)))))
def Zeo (N:Nat)(c0_:Z9)(c1_:Z8):Option (Bool):=
 (if (decide (((List.length c0_.Routes:Nat):Int)<2)) then (some true) else ((idx c0_.Routes 0).bind λe5 =>
 ((idx c0_.Routes 1).bind λe7 =>
 ((Zgy N c1_ e5 e7).bind λr8 =>
 (some ((r8.2==0)&&r8.1))))))
def Zcc (N:Nat)(c0_:Z9)(c1_:Z8)(i2:Int):Option ((Int)⊕((Unit)⊕(Bool))):=
 (if (decide (i2<((List.length c0_.Routes:Nat):Int))) then ((idx c0_.Routes i2).bind λa1 =>
 ((Zfw N c1_ a1 c0_.Talker c0_.Listener).bind λa0 =>
 (if (!a0) then (some (.inr (.inr false))) else (some (.inl (w64 (i2+1))))))) else (some (.inr (.inl ()))))
def Zep (N:Nat)(c0_:Z9)(c1_:Z8):Option (Bool):=
 ((Za7 (λx:Int=>Zcc N c0_ c1_ x) N 0).bind λa1=>match a1 with
 | (.inl a2)=>(some true)
 | (.inr a0)=>(some a0))
def Zd9 (N:Nat)(a0_:Z8)(a1_:Z9):Option (Bool):=
 ((Zev N  a1_).bind λr8 =>
 (if (!r8) then (some false) else ((Zeu N  a0_ a1_).bind λa6 =>
 (if (!a6) then (some false) else ((Zet N  a1_).bind λa5 =>
 (if (!a5) then (some false) else ((Zes N  a1_).bind λa4 =>
 (if (!a4) then (some false) else ((Zer N  a1_).bind λa3 =>
 (if (!a3) then (some false) else ((Zeq N  a1_).bind λa2 =>
 (if (!a2) then (some false) else ((Zep N  a1_ a0_).bind λa1 =>
 (if (!a1) then (some false) else ((Zeo N  a1_ a0_).bind λa0 =>
 (if (!a0) then (some false) else (some true)))))))))))))))))
def ZfV (N:Nat)(a0_:Z8)(a1_:Zan)(a2_:Z9)(a3_:Int):Option (Int):=
 ((ZeA N a0_).bind λr1 =>
 (if (r1 != 0) then (some r1) else ((Zce N a1_).bind λr3 =>
 (if (r3 != 0) then (some r3) else ((Zd9 N a0_ a2_).bind λr5 =>
 (if (!r5) then (some 321) else (((if (a2_.Class != 7) then (some true) else ((ZaU N a3_ 0 (w64 (((List.length a2_.Routes:Nat):Int)-1))).bind λr9=>(some (!r9))))).bind λ(a0:Bool) =>
 (if a0 then (some 2) else (some 0)))))))))
def Zb2 (N:Nat)(a0_:Z8)(a1_:(List Z9))(i4:Int):Option ((Int)⊕((Unit)⊕(Int))):=
 (if (decide (i4<((List.length a1_:Nat):Int))) then ((idx a1_ i4).bind λa1 =>
 ((Zd9 N a0_ a1).bind λa0 =>
 (if (!a0) then (some (.inr (.inr 321))) else (some (.inl (w64 (i4+1))))))) else (some (.inr (.inl ()))))
def Zb1 (N:Nat)(a1_:(List Z9))(a1:Int)(a2:(List (Int×Bool))):Option ((Int×(List (Int×Bool)))⊕((Unit)⊕(Int))):=
 (if (decide (a1<((List.length a1_:Nat):Int))) then ((idx a1_ a1).bind λa0 =>
 (if (Zi3 a2 a0.Id false) then (some (.inr (.inr 322))) else (some (.inl ((w64 (a1+1)),(ZdO a2 a0.Id true)))))) else (some (.inr (.inl ()))))
def ZcH (N:Nat)(a0_:Z8)(a1_:(List Z9)):Option (Int):=
 ((ZeA N a0_).bind λr1 =>
 (if (r1 != 0) then (some r1) else (if (decide (((List.length a1_:Nat):Int)>12)) then (some 3) else ((Za7 (λx:Int=>Zb2 N a0_ a1_ x) N 0).bind λa3=>match a3 with
 | (.inl a5)=>((Za7 (λx:Int×(List (Int×Bool))=>Zb1 N a1_ x.1 x.2) N (0,[])).bind λa2=>match a2 with
 | (.inl a4)=>(some 0)
 | (.inr a1)=>(some a1))
 | (.inr a0)=>(some a0)))))
def Zco (N:Nat)(a1:(List ZaT))(x12:ZaT):Option ((List ZaT)):=
 ((appI 40 a1 [x12]).bind λa0 =>
 (some a0))
def ZeV (N:Nat)(a0_:Z8)(a1_:Zan)(a2_:Z9)(a3_:Int):Option ((List ZaT)×Int):=
 ((ZfV N a0_ a1_ a2_ a3_).bind λr1 =>
 (if (r1 != 0) then (some ([],r1)) else ((ZeU N a0_ a1_ a2_ a3_).bind λr5 =>
 ((ZdE N (λ(s:(List ZaT)) (x12:ZaT)=>Zd5 (λv:(List ZaT)=>Zco N v x12) s) r5.1 r5.2.1 r5.2.2.1 r5.2.2.2 []).bind λa0 =>
 (some (a0,0))))))
def Zcn (N:Nat)(a0_:Z8)(a1_:Zan)(i22:Int)(x21:ZaT):Option (Int):=
 ((idx a0_.Links (w64 (Int.tdiv x21.Port 2))).bind λa0 =>
 (some (w64 ((w64 ((w64 (x21.Open+x21.Long))+a0.Delay))+a1_.Proc))))
def Zgv (N:Nat)(a0_:Z8)(a1_:Zan)(a2_:Z9)(a3_:Int):Option (Int×Int):=
 ((ZfV N a0_ a1_ a2_ a3_).bind λr7 =>
 (if (r7 != 0) then (some (0,r7)) else ((ZeU N a0_ a1_ a2_ a3_).bind λa0 =>
 ((ZdE N (λ(s:Int) (x21:ZaT)=>Zd5 (λv:Int=>Zcn N a0_ a1_ v x21) s) a0.1 a0.2.1 a0.2.2.1 a0.2.2.2 0).bind λa1 =>
 (some (a1,0))))))
def Zcg (N:Nat)(a0_:ZaV)(a2_:Zan)(a3_:Z9)(a3:(List ZaT)×Int)(a2:Int)(a6:(List Zax)):Option ((Int×(List Zax))⊕(((List Zax)))):=
 (if (decide (a2<((List.length a3.1:Nat):Int))) then ((idx a3.1 a2).bind λa0 =>
 ((ZeJ N a0.Early a2_.Grid).bind λa1 =>
 ((ZeJ N (w64 ((w64 ((w64 (a0.Open+a0.Long))+a2_.Grid))-1)) a2_.Grid).bind λa5 =>
 ((ZeJ N a1 a3_.Period).bind λa4 =>
 ((appI 32 a6 [(Zax.mk ((List.length a0_.Problem.Periods:Nat):Int) a0.Port (w64 (a1-(w64 (a4*a3_.Period)))) (w64 (a5-a1)))]).bind λa7 =>
 (some (.inl ((w64 (a2+1)),a7)))))))) else (some (.inr a6)))
def Zch (N:Nat)(a0_:ZaV)(a1_:Z8)(a2_:Zan)(a3_:Z9)(l6:List Int)(i11:Int)(b12:Bool)(a4:(List Zax)):Option ((Int×Bool×(List Zax))⊕((Bool×(List Zax))⊕(Int×ZaV))):=
 (if (decide (i11<((List.length a3_.Routes:Nat):Int))) then ((ZeV N a1_ a2_ a3_ i11).bind λa2 =>
 (if (a2.2 != 0) then (some (.inr (.inr (a2.2,(ZaV.mk (Zaf.mk l6 a4) b12))))) else ((Za7 (λx:Int×(List Zax)=>Zcg N a0_ a2_ a3_ a2 x.1 x.2) N (0,a4)).bind λa1 =>
 ((Zgv N a1_ a2_ a3_ i11).bind λa0 =>
 (if (a0.2 != 0) then (some (.inr (.inr (a0.2,(ZaV.mk (Zaf.mk l6 a1) b12))))) else (((if b12 then (some true) else (some (decide ((w64 (a0.1+(w64 (2*a2_.Slack))))>a3_.Deadline))))).bind λ(a3:Bool) =>
 (some (.inl ((w64 (i11+1)),a3,a1))))))))) else (some (.inr (.inl (b12,a4)))))
def Zey (N:Nat)(a0_:ZaV)(a1_:Z8)(a2_:Zan)(a3_:Z9):Option (Int×ZaV):=
 ((appI 8 a0_.Problem.Periods [a3_.Period]).bind λl6 =>
 ((Za7 (λx:Int×Bool×(List Zax)=>Zch N a0_ a1_ a2_ a3_ l6 x.1 x.2.1 x.2.2) N (0,a0_.late,a0_.Problem.Uses)).bind λa2=>match a2 with
 | (.inl a0)=>(some (0,(ZaV.mk (Zaf.mk l6 a0.2) a0.1)))
 | (.inr a1)=>(some a1)))
def ZbY {σ:Type}(N:Nat)(y_:σ->ZaI->Option (σ×Bool))(c3_:Zan)(a6:Z9)(a5:Int)(a3:(List ZaT)×Int)(a1:Int)(a4:σ):Option ((Int×σ)⊕((σ)⊕(σ))):=
 (if (decide (a1<((List.length a3.1:Nat):Int))) then ((idx a3.1 a1).bind λa2 =>
 ((y_ a4 (ZaI.mk a2.Port (w64 (a2.Open+(w64 (a5*c3_.Grid)))) a2.Long (w64 (a6.Period*c3_.Grid)))).bind λa0 =>
 (if (!a0.2) then (some (.inr (.inr a0.1))) else (some (.inl ((w64 (a1+1)),a0.1)))))) else (some (.inr (.inl a4))))
def ZbZ {σ:Type}(N:Nat)(y_:σ->ZaI->Option (σ×Bool))(c2_:Z8)(c3_:Zan)(a1:Z9)(a7:Int)(a0:Int)(a6:σ):Option ((Int×σ)⊕((σ)⊕(σ))):=
 (if (decide (a0<((List.length a1.Routes:Nat):Int))) then ((ZeV N c2_ c3_ a1 a0).bind λa2 =>
 ((Za7 (λx:Int×σ=>ZbY N y_ c3_ a1 a7 a2 x.1 x.2) N (0,a6)).bind λa5=>match a5 with
 | (.inl a4)=>(some (.inl ((w64 (a0+1)),a4)))
 | (.inr a3)=>(some (.inr (.inr a3))))) else (some (.inr (.inl a6))))
def Zb0 {σ:Type}(N:Nat)(y_:σ->ZaI->Option (σ×Bool))(c0_:(List Z9))(c1_:(List Int))(c2_:Z8)(c3_:Zan)(i4:Int)(i5:Int)(g6:σ):Option ((Int×Int×σ)⊕((σ)⊕(σ))):=
 (if (decide (i5<((List.length c0_:Nat):Int))) then ((idx c0_ i5).bind λa3 =>
 (if (a3.Class != 7) then (some (.inl (i4,(w64 (i5+1)),g6))) else ((idx c1_ i4).bind λa4 =>
 ((Za7 (λx:Int×σ=>ZbZ N y_ c2_ c3_ a3 a4 x.1 x.2) N (0,g6)).bind λa2=>match a2 with
 | (.inl a1)=>(some (.inl ((w64 (i4+1)),(w64 (i5+1)),a1)))
 | (.inr a0)=>(some (.inr (.inr a0))))))) else (some (.inr (.inl g6))))
def ZcG {σ:Type}(N:Nat)(y_:σ->ZaI->Option (σ×Bool))(c0_:(List Z9))(c1_:(List Int))(c2_:Z8)(c3_:Zan)(s_:σ):Option (σ):=
 ((Za7 (λx:Int×Int×σ=>Zb0 N y_ c0_ c1_ c2_ c3_ x.1 x.2.1 x.2.2) N (0,0,s_)).bind λa2=>match a2 with
 | (.inl a1)=>(some a1)
 | (.inr a0)=>(some a0))
def ZfX (N:Nat)(a0_:Z8)(a1_:Zan)(a2_:(List Z9))(i12:Int)(b13:Bool)(a3:(List Int))(a2:(List Zax)):Option ((Int×Bool×(List Int)×(List Zax))⊕((Bool×(List Int)×(List Zax))⊕(Zaf×Int))):=
 (if (decide (i12<((List.length a2_:Nat):Int))) then ((idx a2_ i12).bind λa1 =>
 (if (a1.Class != 7) then (some (.inl ((w64 (i12+1)),b13,a3,a2))) else ((Zey N (ZaV.mk (Zaf.mk a3 a2) b13) a0_ a1_ a1).bind λa0 =>
 (if (a0.1 != 0) then (some (.inr (.inr ((Zaf.mk ([]) ([])),a0.1)))) else (some (.inl ((w64 (i12+1)),a0.2.late,a0.2.Problem.Periods,a0.2.Problem.Uses))))))) else (some (.inr (.inl (b13,a3,a2)))))
def ZjA (N:Nat)(a0_:Z8)(a1_:Zan)(a2_:(List Z9)):Option (Zaf×Int):=
 ((ZcH N a0_ ([])).bind λr1 =>
 (if (r1 != 0) then (some ((Zaf.mk ([]) ([])),r1)) else ((Zce N a1_).bind λr3 =>
 (if (r3 != 0) then (some ((Zaf.mk ([]) ([])),r3)) else ((ZcH N a0_ a2_).bind λr5 =>
 (if (r5 != 0) then (some ((Zaf.mk ([]) ([])),r5)) else ((Za7 (λx:Int×Bool×(List Int)×(List Zax)=>ZfX N a0_ a1_ a2_ x.1 x.2.1 x.2.2.1 x.2.2.2) N (0,false,[],[])).bind λa3=>match a3 with
 | (.inl a0)=>((Zdp N (ZaV.mk (Zaf.mk a0.2.1 a0.2.2) a0.1)).bind λa1 =>
 (if (a1 != 0) then (some ((Zaf.mk ([]) ([])),a1)) else (some ((Zaf.mk a0.2.1 a0.2.2),0))))
 | (.inr a2)=>(some a2))))))))
def Zc1 (N:Nat)(r9:Int×Int)(a2:List (List Bool))(i25:Int)(a1:(List (List Bool))):Option ((Int×(List (List Bool)))⊕(((List (List Bool))))):=
 (if (decide (i25<((List.length a2:Nat):Int))) then ((ZjI 1 r9.1 r9.1 false).bind λa0 =>
 ((idx a1 i25).bind λa3 =>
 (some (.inl ((w64 (i25+1)),(List.set a1 (Int.toNat i25) a0)))))) else (some (.inr a1)))
def ZcZ (N:Nat)(r9:Int×Int)(a2:Int)(a6:Int)(a5:Int)(a1:Int)(a0:(List (List Bool))):Option ((Int×(List (List Bool)))⊕(((List (List Bool))))):=
 (if (decide (a1<a5)) then ((idx a0 a2).bind λa4 =>
 ((remI (w64 (a6+a1)) r9.1).bind λa3 =>
 ((idx a4 a3).bind λa7 =>
 (some (.inl ((w64 (a1+1)),(List.set a0 (Int.toNat a2) (List.set a4 (Int.toNat a3) true)))))))) else (some (.inr a0)))
def Zc2 (N:Nat)(r9:Int×Int)(a4:(List (List Bool)))(a2:Int)(a1:Int)(a0:Int):Option (((List (List Bool)))):=
 ((Za7 (λx:Int×(List (List Bool))=>ZcZ N r9 a2 a1 a0 x.1 x.2) N (0,a4)).bind λa3 =>
 (some a3))
def Zc0 (N:Nat)(a1_:Zan)(r9:Int×Int)(a2:ZaI)(a8:Int)(a0:Int)(a1:(List (List Bool))):Option ((Int×(List (List Bool)))⊕(((List (List Bool))))):=
 (if (decide (a0<(w64 (a2.from_+(w64 (r9.1*a1_.Grid)))))) then ((quoI .i64 a0 a1_.Grid).bind λa7 =>
 (((λ(s:(List (List Bool))) (a5:Int) (a4:Int) (a3:Int)=>Zc2 N r9 s a5 a4 a3) a1 a2.port a7 a8).bind λa6 =>
 (some (.inl ((w64 (a0+a2.period)),a6))))) else (some (.inr a1)))
def Zcl (N:Nat)(a1_:Zan)(r9:Int×Int)(a3:(List (List Bool)))(a0:ZaI):Option ((List (List Bool))):=
 ((quoI .i64 (w64 ((w64 (a0.long+a1_.Grid))-1)) a1_.Grid).bind λa1 =>
 ((Za7 (λx:Int×(List (List Bool))=>Zc0 N a1_ r9 a0 a1 x.1 x.2) N (a0.from_,a3)).bind λa2 =>
 (some a2)))
def ZcY (N:Nat)(a1_:Zan)(a3:(List (List Bool)))(a4:List Zah)(a0:Int)(a1:(List Zah)):Option ((Int×(List Zah))⊕(((List Zah)))):=
 (if (decide (a0<((List.length a4:Nat):Int))) then ((idx a3 a0).bind λa5 =>
 ((Zg5 N a5 a1_.Grid).bind λa2 =>
 ((idx a1 a0).bind λa6 =>
 (some (.inl ((w64 (a0+1)),(List.set a1 (Int.toNat a0) a2))))))) else (some (.inr a1)))
def ZbE (N:Nat)(a0_:Z8)(a1_:Zan)(a2_:(List Z9))(a3_:(List Int)):Option ((List Zah)×Int):=
 ((ZjA N a0_ a1_ a2_).bind λr4 =>
 (if (r4.2 != 0) then (some ([],r4.2)) else ((ZgO N r4.1 a3_).bind λr6 =>
 (if (r6.2 != 0) then (some ([],r6.2)) else (if (!r6.1) then (some ([],380)) else ((ZfY N r4.1).bind λr9 =>
 (if (r9.2 != 0) then (some ([],r9.2)) else ((famI 24 (w64 (2*((List.length a0_.Links:Nat):Int)))).bind λa6 =>
 ((Za7 (λx:Int×(List (List Bool))=>Zc1 N r9 a6 x.1 x.2) N (0,a6)).bind λa5 =>
 ((ZdC N a0_ a1_ a2_ a3_).bind λa1 =>
 ((ZcG N (λ(s:(List (List Bool))) (a4:ZaI)=>Zd5 (λv:(List (List Bool))=>Zcl N a1_ r9 v a4) s) a1.1 a1.2.1 a1.2.2.1 a1.2.2.2 a5).bind λa0 =>
 ((ZjI 32 ((List.length a0:Nat):Int) ((List.length a0:Nat):Int) (Zah.mk ([]) 0)).bind λa2 =>
 ((Za7 (λx:Int×(List Zah)=>ZcY N a1_ a0 a2 x.1 x.2) N (0,a2)).bind λa3 =>
 (some (a3,0)))))))))))))))
def Zc5 (N:Nat)(a4_:(List Zah))(i19:Int):Option ((Int)⊕((Unit)⊕(Bool×Int))):=
 (if (decide (i19<((List.length a4_:Nat):Int))) then ((idx a4_ i19).bind λa1 =>
 ((Zfd N a1).bind λa0 =>
 (if (a0 != 0) then (some (.inr (.inr (false,a0)))) else (some (.inl (w64 (i19+1))))))) else (some (.inr (.inl ()))))
def Zc4 (N:Nat)(a1_:Zan)(a4_:(List Zah))(a2:Int×Int)(a0:Int):Option ((Int)⊕((Unit)⊕(Bool×Int))):=
 (if (decide (a0<((List.length a4_:Nat):Int))) then ((idx a4_ a0).bind λa1 =>
 (if (a1.Cycle != (w64 (a2.1*a1_.Grid))) then (some (.inr (.inr (false,0)))) else (some (.inl (w64 (a0+1)))))) else (some (.inr (.inl ()))))
def Zc3 (N:Nat)(a1_:Zan)(a4_:(List Zah))(a4:Int×Int)(a0:ZaI)(a1:Int):Option ((Int)⊕((Unit)⊕(Unit))):=
 (if (decide (a1<(w64 (a0.from_+(w64 (a4.1*a1_.Grid)))))) then ((idx a4_ a0.port).bind λa3 =>
 ((Zfu N a3 a1 a0.long).bind λa2 =>
 (if (!a2) then (some (.inr (.inr ()))) else (some (.inl (w64 (a1+a0.period))))))) else (some (.inr (.inl ()))))
def Zcm (N:Nat)(a1_:Zan)(a4_:(List Zah))(a2:Int×Int)(a0:ZaI):Option ((Unit)×Nat):=
 ((Za7 (λx:Int=>Zc3 N a1_ a4_ a2 a0 x) N a0.from_).bind λa1=>match a1 with
 | (.inl a4)=>(some ((),0))
 | (.inr a3)=>(some ((),1)))
def Zbu (N:Nat)(a0_:Z8)(a1_:Zan)(a2_:(List Z9))(a3_:(List Int))(a4_:(List Zah)):Option (Bool×Int):=
 ((ZjA N a0_ a1_ a2_).bind λa7 =>
 (if (a7.2 != 0) then (some (false,a7.2)) else ((ZgO N a7.1 a3_).bind λa9 =>
 (if (a9.2 != 0) then (some (false,a9.2)) else ((Za7 (λx:Int=>Zc5 N a4_ x) N 0).bind λa8=>match a8 with
 | (.inl ab)=>((ZfY N a7.1).bind λa1 =>
 (if (a1.2 != 0) then (some (false,a1.2)) else (if (((List.length a4_:Nat):Int)!=(w64 (2*((List.length a0_.Links:Nat):Int)))) then (some (false,0)) else ((Za7 (λx:Int=>Zc4 N a1_ a4_ a1 x) N 0).bind λa6=>match a6 with
 | (.inl aa)=>((ZdC N a0_ a1_ a2_ a3_).bind λa0 =>
 ((ZcG N (λ(s:(Unit)×Nat) (a3:ZaI)=>Zfp (λv:Unit=>Zcm N a1_ a4_ a1 a3) s) a0.1 a0.2.1 a0.2.2.1 a0.2.2.2 ((),0)).bind λa2 =>
 (if (a2.2==0) then (some (true,0)) else (if (a2.2==1) then (some (false,0)) else none))))
 | (.inr a5)=>(some a5)))))
 | (.inr a4)=>(some a4))))))
def ZgF (N:Nat):Option (Bool):=
 ((Zf5 N).bind λr1 =>
 ((Ze9 N).bind λr2 =>
 ((ZaL N 1 20).bind λr3 =>
 ((ZbE N r1 r2 ([r3]) ([15])).bind λr4 =>
 ((ZbC N ([128,300,127,1200,128,500])).bind λr5 =>
 ((ZbC N ([127,2000])).bind λr6 =>
 ((ZbC N ([127,400,128,800,127,800])).bind λr7 =>
 ((ZbC N ([127,2000])).bind λr8 =>
 ((ZbE N r1 r2 ([r3]) ([20])).bind λr9 =>
 ((ZaL N 1 40).bind λa6 =>
 ((ZaL N 2 40).bind λa5 =>
 ((ZbE N r1 r2 ([a6,a5]) ([0,1])).bind λa4 =>
 (((if (r4.2 != 0) then (some true) else ((ZdR N r4.1 ([r5,r6,r7,r8])).bind λa3=>(some (!a3))))).bind λ(a8:Bool) =>
 (if a8 then (some false) else ((Zbu N r1 r2 ([r3]) ([15]) r4.1).bind λa2 =>
 ((Zbu N r1 r2 ([r3]) ([14]) r4.1).bind λa1 =>
 ((subI r4.1 0 3).bind λa7 =>
 ((Zbu N r1 r2 ([r3]) ([15]) a7).bind λa0 =>
 (some ((r9.2==2)&&((a4.2==380)&&(a2.1&&((a2.2==0)&&((!a1.1)&&((a1.2==0)&&((!a0.1)&&(a0.2==0)))))))))))))))))))))))))))
def law28_SynthKnown (N:Nat):Option (Bool):=
 ((Zf5 N).bind λr1 =>
 ((Ze9 N).bind λr2 =>
 ((ZbE N r1 r2 ([]) ([])).bind λr3 =>
 ((ZbC N ([127,100])).bind λr4 =>
 ((ZaL N 1 40).bind λr5 =>
 ((ZaL N 2 40).bind λr6 =>
 ((ZbE N r1 r2 ([r5,r6]) ([0,9])).bind λr7 =>
 ((ZbE N (Z8.mk 0 ([]) ([])) r2 ([]) ([1])).bind λr8 =>
 ((ZbE N r1 r2 ([]) ([1])).bind λr9 =>
 ((ZaL N 1 8).bind λao =>
 ((ZbE N r1 r2 ([ao]) ([])).bind λan =>
 ((ZaL N 1 20).bind λam =>
 ((Zbu N r1 r2 ([am]) ([]) ([(Zah.mk ([]) 0)])).bind λal =>
 ((ZaL N 1 20).bind λak =>
 ((Zbu N r1 r2 ([ak]) ([0]) ([r4,(Zah.mk ([]) 0)])).bind λaj =>
 ((ZbC N ([255,2000])).bind λa0 =>
 ((ZbC N ([128,2000])).bind λa1 =>
 ((ZaL N 1 20).bind λai =>
 ((Zbu N r1 r2 ([ai]) ([3]) ([a0,a0,a0,a0])).bind λa5 =>
 ((ZaL N 1 20).bind λag =>
 ((Zbu N r1 r2 ([ag]) ([3]) ([a1,a0,a1,a0])).bind λa4 =>
 ((ZaL N 1 20).bind λaf =>
 ((ZaL N 2 20).bind λae =>
 ((Zbu N r1 r2 ([af,ae]) ([3,3]) ([a1,a0,a1,a0])).bind λa3 =>
 ((ZaL N 1 20).bind λad =>
 ((ZbC N ([128,4000])).bind λac =>
 ((Zbu N r1 r2 ([ad]) ([3]) ([ac,a0,a1,a0])).bind λa2 =>
 (((if (r3.2 != 0) then (some true) else (if (((List.length r3.1:Nat):Int)!=4) then (some true) else (if (r7.2 != 0) then (some true) else (if (((List.length r7.1:Nat):Int)!=4) then (some true) else ((ZdR N r3.1 ([r4,r4,r4,r4])).bind λab=>(if (!ab) then (some true) else ((subI r7.1 0 1).bind λaq=>((ZbC N ([128,800,127,100,128,800,127,2300])).bind λaa=>((ZdR N aq ([aa])).bind λa9=>(if (!a9) then (some true) else ((subI r7.1 2 3).bind λap=>((ZbC N ([127,900,128,800,127,100,128,800,127,1400])).bind λa8=>((ZdR N ap ([a8])).bind λa7=>(some (!a7)))))))))))))))).bind λ(au:Bool) =>
 (if au then (some false) else ((((ZgF N).bind λa6=>(if a6 then (if ((r8.2==260)&&((r9.2==2)&&((an.2==341)&&((al.2==2)&&(aj.2==370))))) then (if (!a5.1) then (if (a5.2==0) then (if a4.1 then (if (a4.2==0) then (if a3.1 then (if (a3.2==0) then (if (!a2.1) then (some (a2.2==0)) else (some false)) else (some false)) else (some false)) else (some false)) else (some false)) else (some false)) else (some false)) else (some false)) else (some false)))).bind λ(ar:Bool) =>
 (some ar)))))))))))))))))))))))))))))))
end Go.Sh

