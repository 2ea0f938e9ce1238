/- Part of the proof. -/
import Derived.Test.YtddgnfnfojoljaaProofChecksE26
set_option linter.all false
namespace Go.Sh
open Go Go.Eng
set_option maxRecDepth 100000
structure ZiB where
 x0:Int
 x1:Int
 x2:Int
 x3:Int
def ZeA (v:ZiB):List PC:=[.int .u8 v.x0,.int .u8 v.x1,.int .u8 v.x2,.int .u8 v.x3]
structure Zbk where
 Periods:(List Int)
 Uses:(List ZiB)
def Zj5 (v:Zbk):List PC:=[.sl 1 false (List.map (eI .u8) v.Periods),.sl 4 false (List.map ZeA v.Uses)]
structure Zav where
 From:Int
 To:Int
 By:Int
 Next:Int
def Zae (v:Zav):List PC:=[.int .i64 v.From,.int .i64 v.To,.int .i64 v.By,.int .i64 v.Next]
structure Z3 where
 Stream:Int
 Arms:(List Zav)
def Z5 (v:Z3):List PC:=[.int .i64 v.Stream,.sl 4 false (List.map Zae v.Arms)]
structure ZaO where
 Choice:Int
 Arm:Int
 What:Int
 N_:Int
def Zk3 (v:ZaO):List PC:=[.int .u8 v.Choice,.int .u8 v.Arm,.int .u8 v.What,.int .i64 v.N_]
structure ZaE where
 Stream:Int
 Port:Int
 From:Int
 Long:Int
def Zaz (v:ZaE):List PC:=[.int .i64 v.Stream,.int .i64 v.Port,.int .i64 v.From,.int .i64 v.Long]
structure Z4 where
 Periods:(List Int)
 Uses:(List ZaE)
structure Zcr where
 x0:(List Z3)
 x1:(List Z3)
 x2:(List Z3)
 x3:(List Z3)
structure Za6 where
 x0:Int
 x1:Int
 x2:Int
 x3:Int
def Zcp (v:Za6):List PC:=[.int .i64 v.x0,.int .i64 v.x1,.int .i64 v.x2,.int .i64 v.x3]
structure Z6 where
 x0:Int
 x1:Int
 x2:Int
 x3:Int
 x4:Int
 x5:Int
 x6:Int
 x7:Int
 x8:Int
 x9:Int
 x10:Int
 x11:Int
def Zio (v:Z6):List PC:=[.int .i64 v.x0,.int .i64 v.x1,.int .i64 v.x2,.int .i64 v.x3,.int .i64 v.x4,.int .i64 v.x5,.int .i64 v.x6,.int .i64 v.x7,.int .i64 v.x8,.int .i64 v.x9,.int .i64 v.x10,.int .i64 v.x11]
structure Zad where
 Period:Int
 From:Int
 Long:Int
def ZaW (v:Zad):List PC:=[.int .i64 v.Period,.int .i64 v.From,.int .i64 v.Long]
structure Zai where
 i:Int
 x_:Int
 j:Int deriving DecidableEq
structure Zah where
 choice:Int
 given:Z6
def Zab (v:Zah):List PC:=[.int .i64 v.choice]++Zio v.given
abbrev Z2 (f:Bool) (l:List Z3):AV:=.p (.sl 2 f (List.map Z5 l))
abbrev Zlp (f:Bool) (l:List Int):AV:=.p (.sl 1 f (List.map (eI .u8) l))
abbrev Zag (f:Bool) (l:List Int):AV:=.p (.sl 1 f (List.map eI64 l))
abbrev Zac (f:Bool) (l:List ZaE):AV:=.p (.sl 4 f (List.map Zaz l))
abbrev ZfO (f:Bool) (l:List ZiB):AV:=.p (.sl 4 f (List.map ZeA l))
abbrev Zby (f:Bool) (l:List Za6):AV:=.p (.sl 4 f (List.map Zcp l))
abbrev Zaf (f:Bool) (l:List Zav):AV:=.p (.sl 4 f (List.map Zae l))
abbrev Zce (f:Bool) (l:List Zah):AV:=.p (.sl 13 f (List.map Zab l))
abbrev ZaU (f:Bool) (l:List Zad):AV:=.p (.sl 3 f (List.map ZaW l))
abbrev Zgl (v:ZiB):List AV:=[.p (.int .u8 v.x0),.p (.int .u8 v.x1),.p (.int .u8 v.x2),.p (.int .u8 v.x3)]
abbrev ZaI (v:Zbk):List AV:=[Zlp false v.Periods,ZfO false v.Uses]
abbrev ZaR (v:Zav):List AV:=[iv v.From,iv v.To,iv v.By,iv v.Next]
abbrev ZdF (v:Z3):List AV:=[iv v.Stream,Zaf false v.Arms]
abbrev Zat (v:ZaO):List AV:=[.p (.int .u8 v.Choice),.p (.int .u8 v.Arm),.p (.int .u8 v.What),iv v.N_]
abbrev ZaP (v:ZaE):List AV:=[iv v.Stream,iv v.Port,iv v.From,iv v.Long]
abbrev Z0 (v:Z4):List AV:=[Zag false v.Periods,Zac false v.Uses]
abbrev Zak (v:Z6):List AV:=[iv v.x0,iv v.x1,iv v.x2,iv v.x3,iv v.x4,iv v.x5,iv v.x6,iv v.x7,iv v.x8,iv v.x9,iv v.x10,iv v.x11]
def Z6.l (v:Z6):List Int:=[v.x0,v.x1,v.x2,v.x3,v.x4,v.x5,v.x6,v.x7,v.x8,v.x9,v.x10,v.x11]
def Z6.ofL (l:List Int):Z6:=⟨l.getD 0 0,l.getD 1 0,l.getD 2 0,l.getD 3 0,l.getD 4 0,l.getD 5 0,l.getD 6 0,l.getD 7 0,l.getD 8 0,l.getD 9 0,l.getD 10 0,l.getD 11 0⟩
def Z6.get (v:Z6)(i:Int):Option Int:=idx v.l i
def Z6.set (v:Z6)(i:Int)(x:Int):Z6:=Z6.ofL (v.l.set i.toNat x)
theorem Z6.l_ofL (l:List Int)(h:l.length=12):(Z6.ofL l).l=l:=ZoY 12 0 l h rfl
theorem Z6.l_set (v:Z6)(i:Int)(x:Int):(v.set i x).l=v.l.set i.toNat x:=Z6.l_ofL _ (by rw [ZF];rfl)
theorem Z6.c_set (v:Z6)(i:Int)(x:Int):Zak (v.set i x)=(v.l.set i.toNat x).map (λx=>iv x):=by rw [← Z6.l_set];rfl
abbrev Zbl (v:Zad):List AV:=[iv v.Period,iv v.From,iv v.Long]
def Z9 (v:Zai):List Int:=[v.i,v.x_,v.j]
instance:KeyE Zai 3 Z9:=⟨λ_=>rfl,λx y h=>by cases x;cases y;simpa [Z9] using h⟩
abbrev Zc0 (v:Zah):List AV:=([iv v.choice]++(Zak v.given))
def Za4 (N:Nat)(a0_:Zbk)(i3:Int)(l4:(List Int)):Option ((Int×(List Int))⊕(((List Int)))):=
 (if ((decide (i3<((List.length a0_.Periods:Nat):Int)))&&(decide (i3<5))) then ((idx a0_.Periods i3).bind λa2 =>
 ((idx [4,6,8,12,3,5,10,24] (Int.tmod a2 8)).bind λa1 =>
 ((appI 8 l4 [a1]).bind λa0 =>
 (some (.inl ((w64 (i3+1)),a0)))))) else (some (.inr l4)))
def Za3 (N:Nat)(a0_:Zbk)(a4:(List Int))(a2:Int)(a8:(List ZaE)):Option ((Int×(List ZaE))⊕(((List ZaE)))):=
 (((if (decide (a2<((List.length a0_.Uses:Nat):Int))) then (if (decide (a2<12)) then (some (decide (((List.length a4:Nat):Int)>0))) else (some false)) else (some false))).bind λ(aa:Bool) =>
 (if aa then ((idx a0_.Uses a2).bind λa0 =>
 ((remI (w64 (a0.x0)) ((List.length a4:Nat):Int)).bind λa3 =>
 ((idx a4 a3).bind λa1 =>
 ((remI (w64 (a0.x2)) a1).bind λa7 =>
 ((remI (w64 (a0.x3)) a1).bind λa6 =>
 ((remI (Int.tmod a6 4) a1).bind λa5 =>
 ((appI 32 a8 [(ZaE.mk a3 (w64 ((Int.tmod a0.x1 4))) a7 (w64 (1+a5)))]).bind λa9 =>
 (some (.inl ((w64 (a2+1)),a9)))))))))) else (some (.inr a8))))
def ZaT (N:Nat)(a0_:Zbk):Option (Z4):=
 ((ZaQ (λx:Int×(List Int)=>Za4 N a0_ x.1 x.2) N (0,[])).bind λa0 =>
 ((ZaQ (λx:Int×(List ZaE)=>Za3 N a0_ a0 x.1 x.2) N (0,[])).bind λa1 =>
 (some (Z4.mk a0 a1))))
def ZfV (N:Nat):Option (Z4):=
 (some (Z4.mk ([2,2]) ([(ZaE.mk 0 0 0 1),(ZaE.mk 1 0 0 2)])))
def Zdf (N:Nat)(a1_:(List Za6))(i3:Int)(l4:(List Zav)):Option ((Int×(List Zav))⊕(((List Zav)))):=
 (if (decide (i3<((List.length a1_:Nat):Int))) then ((idx a1_ i3).bind λa4 =>
 ((idx a1_ i3).bind λa3 =>
 ((idx a1_ i3).bind λa2 =>
 ((idx a1_ i3).bind λa1 =>
 ((appI 32 l4 [(Zav.mk a4.x0 a3.x1 a2.x2 a1.x3)]).bind λa0 =>
 (some (.inl ((w64 (i3+1)),a0)))))))) else (some (.inr l4)))
def ZbK (N:Nat)(a0_:Int)(a1_:(List Za6)):Option (Z3):=
 ((ZaQ (λx:Int×(List Zav)=>Zdf N a1_ x.1 x.2) N (0,[])).bind λa0 =>
 (some (Z3.mk a0_ a0)))
def ZcV (N:Nat)(a0_:(List Z3))(i3:Int)(l4:(List Z3)):Option ((Int×(List Z3))⊕(((List Z3)))):=
 (if ((decide (i3<((List.length a0_:Nat):Int)))&&(decide (i3<40))) then ((idx a0_ i3).bind λa4 =>
 ((idx a0_ i3).bind λa3 =>
 ((idx a0_ i3).bind λa0 =>
 ((subI a3.Arms 0 (if 30<((List.length a0.Arms:Nat):Int) then 30 else ((List.length a0.Arms:Nat):Int))).bind λa2 =>
 ((appI 32 l4 [(Z3.mk a4.Stream a2)]).bind λa1 =>
 (some (.inl ((w64 (i3+1)),a1)))))))) else (some (.inr l4)))
def Zd8 (N:Nat)(a0_:(List Z3)):Option ((List Z3)):=
 ((ZaQ (λx:Int×(List Z3)=>ZcV N a0_ x.1 x.2) N (0,[])).bind λa0 =>
 (some a0))
def Zei (N:Nat)(a0_:Z3)(a1_:Int)(i1:Int):Option ((Int)⊕((Int×Int×Int×Int))):=
 (if (decide (i1<((List.length a0_.Arms:Nat):Int))) then ((idx a0_.Arms i1).bind λa0 =>
 (if (decide (a1_<a0.To)) then (some (.inr (a0.From,a0.To,a0.By,a0.Next))) else (some (.inl (w64 (i1+1)))))) else (some (.inr (0,0,0,0))))
def ZhX (N:Nat)(a0_:Z3)(a1_:Int):Option (Zav):=
 ((ZaQ (λx:Int=>Zei N a0_ a1_ x) N 0).bind λa0 =>
 (some (Zav.mk a0.1 a0.2.1 a0.2.2.1 a0.2.2.2)))
def Zex (N:Nat)(a0_:Int)(a1_:Int):Option (Int):=
 ((remI a0_ a1_).bind λm1 =>
 ((remI (w64 (m1+a1_)) a1_).bind λm2 =>
 (some m2)))
def Zds (N:Nat)(a0_:Z4)(a1_:Int)(a2_:Int):Option (Bool):=
 (((if (decide (a2_≥0)) then ((idx a0_.Periods a1_).bind λe2=>(some (decide (a2_<e2)))) else (some false))).bind λ(j4:Bool) =>
 (some j4))
def Zc9 (N:Nat)(a0_:Z4):Option (Z4×(List (Zai×Bool))):=
 (some (a0_,[]))
def ZbH {σ:Type}(N:Nat)(y_:σ->Int->Int->Int->Int->Option (σ×Bool))(a1_:Int)(a2_:Z6)(a3_:Zav)(i8:Int)(g9:σ):Option ((Int×σ)⊕((σ)⊕(σ×Bool))):=
 (if (decide (i8<a3_.To)) then ((a2_.get a3_.By).bind λa2 =>
 (((if (a3_.By==a1_) then (some i8) else (some a2))).bind λ(a1:Int) =>
 ((y_ g9 a1_ i8 a3_.By a1).bind λa0 =>
 (if (!a0.2) then (some (.inr (.inr (a0.1,false)))) else (some (.inl ((w64 (i8+1)),a0.1))))))) else (some (.inr (.inl g9))))
def Zc8 {σ:Type}(N:Nat)(y_:σ->Int->Int->Int->Int->Option (σ×Bool))(a1_:Int)(a2_:Z6)(a3_:Zav)(s_:σ):Option (σ×Bool):=
 (((if (a3_.By != a1_) then ((a2_.get a3_.By).bind λe2=>(some (e2==(-1)))) else (some false))).bind λ(j4:Bool) =>
 (if j4 then (some (s_,false)) else ((ZaQ (λx:Int×σ=>ZbH N y_ a1_ a2_ a3_ x.1 x.2) N (a3_.From,s_)).bind λa2=>match a2 with
 | (.inl a1)=>(some (a1,true))
 | (.inr a0)=>(some a0))))
def Zcw (N:Nat)(a0_:(List Int))(i1:Int)(a4:Bool)(a0:Int):Option ((Bool×Int)⊕((Bool))):=
 (if (decide (a0<((List.length a0_:Nat):Int))) then (((if a4 then ((idx a0_ a0).bind λa3=>((remI i1 a3).bind λa1=>(if (a1==0) then (some true) else (some false)))) else (some false))).bind λ(a2:Bool) =>
 (some (.inl (a2,(w64 (a0+1)))))) else (some (.inr a4)))
def ZbZ (N:Nat)(a0_:(List Int))(i1:Int):Option ((Int)⊕((Unit)⊕(Int))):=
 (if (decide (i1<=960)) then ((ZaQ (λx:Bool×Int=>Zcw N a0_ i1 x.1 x.2) N (true,0)).bind λa0 =>
 (if a0 then (some (.inr (.inr i1))) else (some (.inl (w64 (i1+1)))))) else (some (.inr (.inl ()))))
def Ze4 (N:Nat)(a0_:(List Int)):Option (Int):=
 ((ZaQ (λx:Int=>ZbZ N a0_ x) N 1).bind λa1=>match a1 with
 | (.inl a2)=>(some 0)
 | (.inr a0)=>(some a0))
def ZcC (N:Nat)(a0_:Z4)(a1_:(List Z3))(a2_:Int)(e1:Z3)(i2:Int)(i3:Int):Option ((Int×Int)⊕((Int)⊕(Bool))):=
 (if (decide (i3<((List.length e1.Arms:Nat):Int))) then ((idx e1.Arms i3).bind λa0 =>
 (((if (a0.From != i2) then (some true) else (if (decide (a0.To<=a0.From)) then (some true) else ((idx a1_ a2_).bind λa3=>((idx a0_.Periods a3.Stream).bind λa2=>(if (decide (a0.To>a2)) then (some true) else (if (decide (a0.By<(-2))) then (some true) else (some (decide (a0.By≥((List.length a0_.Periods:Nat):Int))))))))))).bind λ(a1:Bool) =>
 (if a1 then (some (.inr (.inr false))) else (if (a0.By==(-1)) then (if ((a0.To != (w64 (a0.From+1)))||((decide (a0.Next<=a2_))||(decide (a0.Next≥((List.length a1_:Nat):Int))))) then (some (.inr (.inr false))) else (some (.inl (a0.To,(w64 (i3+1)))))) else (if (a0.By==(-2)) then (if ((a2_ != 0)||((a0.From==0)||(a0.Next != 0))) then (some (.inr (.inr false))) else (some (.inl (a0.To,(w64 (i3+1)))))) else (if (a0.Next != 0) then (some (.inr (.inr false))) else (some (.inl (a0.To,(w64 (i3+1))))))))))) else (some (.inr (.inl i2))))
def Zeu (N:Nat)(a0_:Z4)(a1_:(List Z3))(a2_:Int):Option (Bool):=
 ((idx a1_ a2_).bind λe1 =>
 ((ZaQ (λx:Int×Int=>ZcC N a0_ a1_ a2_ e1 x.1 x.2) N (0,0)).bind λa2=>match a2 with
 | (.inl a1)=>(((if (decide (((List.length e1.Arms:Nat):Int)>0)) then ((idx a1_ a2_).bind λa5=>((idx a0_.Periods a5.Stream).bind λa4=>(some (a1==a4)))) else (some false))).bind λ(a3:Bool) =>
 (some a3))
 | (.inr a0)=>(some a0)))
def Zfo (N:Nat)(a0_:Z4)(a1_:Int)(a2_:Int):Option (Z4×Int×Int):=
 (some (a0_,a1_,a2_))
def ZcF (N:Nat)(a0_:Z4)(a1_:ZaE)(a2_:Int):Option (Zad):=
 ((idx a0_.Periods a1_.Stream).bind λe1 =>
 ((remI (w64 (a1_.From+a2_)) e1).bind λm2 =>
 (some (Zad.mk e1 m2 a1_.Long))))
def ZcR (N:Nat)(a0_:Z4)(a1_:(List Z3))(a2_:Int)(a3_:Zav):Option (Bool):=
 (if (a3_.By==(-1)) then (some ((a3_.To==(w64 (a3_.From+1)))&&((decide (a3_.Next>a2_))&&(decide (a3_.Next<((List.length a1_:Nat):Int)))))) else (if (a3_.Next != 0) then (some false) else (if (a3_.By==(-2)) then (some ((a2_==0)&&(a3_.From != 0))) else (some ((decide (a3_.By≥0))&&(decide (a3_.By<((List.length a0_.Periods:Nat):Int))))))))
def Zfm (N:Nat)(a0_:Z4)(a1_:Int)(a2_:Int):Option (Zad):=
 ((idx a0_.Uses a1_).bind λe1 =>
 ((idx a0_.Periods e1.Stream).bind λe2 =>
 ((idx a0_.Uses a1_).bind λe3 =>
 ((remI (w64 (e3.From+a2_)) e2).bind λm4 =>
 ((idx a0_.Uses a1_).bind λe5 =>
 (some (Zad.mk e2 m4 e5.Long)))))))
def ZbV {σ:Type}(N:Nat)(y_:σ->ZaE->ZaE->Option (σ×Bool))(c0_:Z4)(c2_:Int)(i4:Int)(a5:ZaE)(a1:Int)(a3:σ):Option ((Int×σ)⊕((σ)⊕(σ))):=
 (if (decide (a1<((List.length c0_.Uses:Nat):Int))) then ((idx c0_.Uses a1).bind λa2 =>
 (((if (a1==i4) then (some true) else (if (a2.Stream != c2_) then (some true) else (some (a2.Port != a5.Port))))).bind λ(a4:Bool) =>
 (if a4 then (some (.inl ((w64 (a1+1)),a3))) else ((y_ a3 a5 a2).bind λa0 =>
 (if (!a0.2) then (some (.inr (.inr a0.1))) else (some (.inl ((w64 (a1+1)),a0.1)))))))) else (some (.inr (.inl a3))))
def ZbW {σ:Type}(N:Nat)(y_:σ->ZaE->ZaE->Option (σ×Bool))(c0_:Z4)(c1_:Int)(c2_:Int)(i4:Int)(g5:σ):Option ((Int×σ)⊕((σ)⊕(σ))):=
 (if (decide (i4<((List.length c0_.Uses:Nat):Int))) then ((idx c0_.Uses i4).bind λa3 =>
 (if (a3.Stream != c1_) then (some (.inl ((w64 (i4+1)),g5))) else ((ZaQ (λx:Int×σ=>ZbV N y_ c0_ c2_ i4 a3 x.1 x.2) N (0,g5)).bind λa2=>match a2 with
 | (.inl a1)=>(some (.inl ((w64 (i4+1)),a1)))
 | (.inr a0)=>(some (.inr (.inr a0)))))) else (some (.inr (.inl g5))))
def ZdD {σ:Type}(N:Nat)(y_:σ->ZaE->ZaE->Option (σ×Bool))(c0_:Z4)(c1_:Int)(c2_:Int)(s_:σ):Option (σ):=
 ((ZaQ (λx:Int×σ=>ZbW N y_ c0_ c1_ c2_ x.1 x.2) N (0,s_)).bind λa2=>match a2 with
 | (.inl a1)=>(some a1)
 | (.inr a0)=>(some a0))
def Zb2 (N:Nat)(a0_:Zad):Option (Int):=
 (if ((decide (a0_.Period<1))||((decide (a0_.Period>960))||((decide (a0_.From<0))||(decide (a0_.From≥a0_.Period))))) then (some 330) else (if ((decide (a0_.Long<1))||(decide (a0_.Long>a0_.Period))) then (some 330) else (some 0)))
def Za7 (N:Nat)(a0_:(List Zad))(i2:Int):Option ((Int)⊕((Unit)⊕(Int))):=
 (if (decide (i2<((List.length a0_:Nat):Int))) then ((idx a0_ i2).bind λa1 =>
 ((Zb2 N a1).bind λa0 =>
 (if (a0 != 0) then (some (.inr (.inr a0))) else (some (.inl (w64 (i2+1))))))) else (some (.inr (.inl ()))))
def Zcb (N:Nat)(a0_:(List Zad)):Option (Int):=
 (if (decide (((List.length a0_:Nat):Int)>32)) then (some 3) else ((ZaQ (λx:Int=>Za7 N a0_ x) N 0).bind λa1=>match a1 with
 | (.inl a2)=>(some 0)
 | (.inr a0)=>(some a0)))
def Zb0 (N:Nat)(a0_:Int)(a1_:Int)(i1:Int):Option ((Int)⊕((Unit)⊕(Int))):=
 (if (decide (i1>1)) then ((((remI a0_ i1).bind λa1=>(if (a1==0) then ((remI a1_ i1).bind λa0=>(some (a0==0))) else (some false)))).bind λ(a2:Bool) =>
 (if a2 then (some (.inr (.inr i1))) else (some (.inl (w64 (i1-1)))))) else (some (.inr (.inl ()))))
def Ze6 (N:Nat)(a0_:Int)(a1_:Int):Option (Int):=
 ((ZaQ (λx:Int=>Zb0 N a0_ a1_ x) N a0_).bind λa1=>match a1 with
 | (.inl a2)=>(some 1)
 | (.inr a0)=>(some a0))
def Ze5 (N:Nat)(a0_:Int)(a1_:Int):Option (Int):=
 ((remI a0_ a1_).bind λm1 =>
 (((if (decide (m1<0)) then (some (w64 (m1+a1_))) else (some m1))).bind λ(a0:Int) =>
 (some a0)))
def Zd2 (N:Nat)(a0_:Int)(a1_:Int):Option (Int):=
 ((remI a0_ a1_).bind λm1 =>
 ((remI (w64 (m1+a1_)) a1_).bind λm2 =>
 (some m2)))
def ZbL (N:Nat)(i1:Int)(i2:Int):Option ((Int×Int)⊕((Int))):=
 (if (i2 != 0) then ((remI i1 i2).bind λa0 =>
 (some (.inl (i2,a0)))) else (some (.inr i1)))
def Zdo (N:Nat)(a0_:Int)(a1_:Int):Option (Int):=
 ((ZaQ (λx:Int×Int=>ZbL N x.1 x.2) N (a0_,a1_)).bind λa0 =>
 (some a0))
def Zcj (N:Nat)(a0_:Z4)(i4:Int):Option ((Int)⊕((Unit)⊕(Bool))):=
 (if (decide (i4<((List.length a0_.Periods:Nat):Int))) then ((((idx a0_.Periods i4).bind λa2=>(if (decide (a2<1)) then (some true) else ((idx a0_.Periods i4).bind λa1=>(some (decide (a1>240))))))).bind λ(a0:Bool) =>
 (if a0 then (some (.inr (.inr false))) else (some (.inl (w64 (i4+1)))))) else (some (.inr (.inl ()))))
def Zci (N:Nat)(a0_:Z4)(a1:Int):Option ((Int)⊕((Unit)⊕(Bool))):=
 (if (decide (a1<((List.length a0_.Uses:Nat):Int))) then ((idx a0_.Uses a1).bind λa0 =>
 (if ((decide (a0.Stream<0))||((decide (a0.Stream≥((List.length a0_.Periods:Nat):Int)))||((decide (a0.Port<0))||(decide (a0.Port≥48))))) then (some (.inr (.inr false))) else (((if (decide (a0.From<0)) then (some true) else ((idx a0_.Periods a0.Stream).bind λa4=>(if (decide (a0.From≥a4)) then (some true) else (if (decide (a0.Long<1)) then (some true) else ((idx a0_.Periods a0.Stream).bind λa3=>(some (decide (a0.Long>a3))))))))).bind λ(a2:Bool) =>
 (if a2 then (some (.inr (.inr false))) else (some (.inl (w64 (a1+1)))))))) else (some (.inr (.inl ()))))
def Zd3 (N:Nat)(a0_:Z4):Option (Bool):=
 (if ((decide (((List.length a0_.Periods:Nat):Int)>12))||(decide (((List.length a0_.Uses:Nat):Int)>192))) then (some false) else ((ZaQ (λx:Int=>Zcj N a0_ x) N 0).bind λa4=>match a4 with
 | (.inl a6)=>((ZaQ (λx:Int=>Zci N a0_ x) N 0).bind λa3=>match a3 with
 | (.inl a5)=>((Ze4 N a0_.Periods).bind λa0 =>
 (some (decide (a0>0))))
 | (.inr a2)=>(some a2))
 | (.inr a1)=>(some a1)))
def ZcD (N:Nat)(a0_:Z4)(a1_:(List Z3))(i4:Int):Option ((Int)⊕((Unit)⊕(Bool))):=
 (if (decide (i4<((List.length a1_:Nat):Int))) then ((((idx a1_ i4).bind λa3=>(if (decide (a3.Stream<0)) then (some true) else ((idx a1_ i4).bind λa2=>(if (decide (a2.Stream≥((List.length a0_.Periods:Nat):Int))) then (some true) else ((Zeu N a0_ a1_ i4).bind λa0=>(some (!a0)))))))).bind λ(a1:Bool) =>
 (if a1 then (some (.inr (.inr false))) else (some (.inl (w64 (i4+1)))))) else (some (.inr (.inl ()))))
def Zb6 (N:Nat)(a1_:(List Z3))(a3:Int)(a1:Int)(a0:(List Int)):Option ((Int×(List Int))⊕(((List Int)))):=
 ((idx a1_ a3).bind λa9 =>
 (if (decide (a1<((List.length a9.Arms:Nat):Int))) then ((((idx a1_ a3).bind λa8 =>
 ((idx a8.Arms a1).bind λa7 =>
 (if (a7.By==(-1)) then ((idx a1_ a3).bind λa6 =>
 ((idx a6.Arms a1).bind λa2 =>
 ((idx a0 a2.Next).bind λa5 =>
 ((idx a0 a2.Next).bind λaa =>
 (some (List.set a0 (Int.toNat a2.Next) (w64 (a5+1)))))))) else (some a0))))).bind λ(a4:(List Int)) =>
 (some (.inl ((w64 (a1+1)),a4)))) else (some (.inr a0))))
def Zb7 (N:Nat)(a1_:(List Z3))(a0:Int)(a2:(List Int)):Option ((Int×(List Int))⊕(((List Int)))):=
 (if (decide (a0<((List.length a1_:Nat):Int))) then ((ZaQ (λx:Int×(List Int)=>Zb6 N a1_ a0 x.1 x.2) N (0,a2)).bind λa1 =>
 (some (.inl ((w64 (a0+1)),a1)))) else (some (.inr a2)))
def Zb5 (N:Nat)(a1_:(List Z3))(a1:(List Int))(a0:Int):Option ((Int)⊕((Unit)⊕(Bool))):=
 (if (decide (a0<((List.length a1_:Nat):Int))) then ((idx a1 a0).bind λa2 =>
 (if (a2 != 1) then (some (.inr (.inr false))) else (some (.inl (w64 (a0+1)))))) else (some (.inr (.inl ()))))
def Zew (N:Nat)(a0_:Z4)(a1_:(List Z3)):Option (Bool):=
 (if ((decide (((List.length a1_:Nat):Int)<1))||(decide (((List.length a1_:Nat):Int)>2000))) then (some false) else ((ZaQ (λx:Int=>ZcD N a0_ a1_ x) N 0).bind λa4=>match a4 with
 | (.inl a7)=>((Zgd 8 ((List.length a1_:Nat):Int) ((List.length a1_:Nat):Int) 0).bind λa5 =>
 ((ZaQ (λx:Int×(List Int)=>Zb7 N a1_ x.1 x.2) N (0,a5)).bind λa3 =>
 ((ZaQ (λx:Int=>Zb5 N a1_ a3 x) N 1).bind λa2=>match a2 with
 | (.inl a6)=>(some true)
 | (.inr a1)=>(some a1))))
 | (.inr a0)=>(some a0)))
def Zcn (N:Nat)(a0_:Z4)(a1_:(List Z3))(a2_:Int)(e2:Int)(e3:Z3)(i4:Int)(i5:Int):Option ((Int×Int)⊕((Int)⊕(Bool))):=
 (if (decide (i5<((List.length e3.Arms:Nat):Int))) then ((idx e3.Arms i5).bind λa0 =>
 (((if (a0.From != i4) then (some true) else (if (decide (a0.To<=a0.From)) then (some true) else (if (decide (a0.To>e2)) then (some true) else ((ZcR N a0_ a1_ a2_ a0).bind λa1=>(some (!a1))))))).bind λ(a2:Bool) =>
 (if a2 then (some (.inr (.inr false))) else (some (.inl (a0.To,(w64 (i5+1)))))))) else (some (.inr (.inl i4))))
def Zd5 (N:Nat)(a0_:Z4)(a1_:(List Z3))(a2_:Int):Option (Bool):=
 ((idx a1_ a2_).bind λe1 =>
 ((idx a0_.Periods e1.Stream).bind λe2 =>
 ((idx a1_ a2_).bind λe3 =>
 ((ZaQ (λx:Int×Int=>Zcn N a0_ a1_ a2_ e2 e3 x.1 x.2) N (0,0)).bind λa2=>match a2 with
 | (.inl a1)=>(some (a1==e2))
 | (.inr a0)=>(some a0)))))
def Za1 (N:Nat)(a0_:Zad)(a1_:Zad)(r1:Int)(i2:Int):Option ((Int)⊕((Unit)⊕(Bool))):=
 (if (decide (i2<a0_.Long)) then ((Ze5 N (w64 ((w64 (a1_.From-a0_.From))-i2)) r1).bind λa0 =>
 (if (a0==0) then (some (.inr (.inr false))) else (some (.inl (w64 (i2+1)))))) else (some (.inr (.inl ()))))
def Zcm (N:Nat)(a0_:Zad)(a1_:Zad):Option (Bool):=
 ((Ze6 N a0_.Period a1_.Period).bind λr1 =>
 ((ZaQ (λx:Int=>Za1 N a0_ a1_ r1 x) N (w64 (1-a1_.Long))).bind λa1=>match a1 with
 | (.inl a2)=>(some true)
 | (.inr a0)=>(some a0)))
def Zbb (N:Nat)(a0_:Int)(a1_:(List Int))(i1:Int)(i2:Int):Option ((Int×Int)⊕((Int))):=
 (if (decide (i2<((List.length a1_:Nat):Int))) then ((idx a1_ i2).bind λa0 =>
 ((Zdo N i1 a0).bind λa2 =>
 ((quoI .i64 i1 a2).bind λa1 =>
 (if (decide ((w64 (a1*a0))>a0_)) then (some (.inr (w64 (a1*a0)))) else (some (.inl ((w64 (a1*a0)),(w64 (i2+1))))))))) else (some (.inr i1)))
def ZdB (N:Nat)(a0_:Int)(a1_:(List Int)):Option (Int):=
 ((ZaQ (λx:Int×Int=>Zbb N a0_ a1_ x.1 x.2) N (1,0)).bind λa0 =>
 (some a0))
def ZdA (N:Nat)(a0_:Zad)(a1_:Zad):Option (Int×Int×Int):=
 ((Zdo N a0_.Period a1_.Period).bind λr1 =>
 (some (a0_.Long,(w64 (r1-a1_.Long)),r1)))
def ZbB (N:Nat)(a4:Z3)(a2:Int)(a1:(List Int)):Option ((Int×(List Int))⊕(((List Int)))):=
 (if (decide (a2<((List.length a4.Arms:Nat):Int))) then ((((idx a4.Arms a2).bind λa0 =>
 (if (a0.By==(-1)) then ((idx a1 a0.Next).bind λa5 =>
 ((idx a1 a0.Next).bind λa6 =>
 (some (List.set a1 (Int.toNat a0.Next) (w64 (a5+1)))))) else (some a1)))).bind λ(a3:(List Int)) =>
 (some (.inl ((w64 (a2+1)),a3)))) else (some (.inr a1)))
def ZbC (N:Nat)(a0_:Z4)(a1_:(List Z3))(i9:Int)(a4:(List Int)):Option ((Int×(List Int))⊕(((List Int))⊕(Bool))):=
 (if (decide (i9<((List.length a1_:Nat):Int))) then ((idx a1_ i9).bind λa0 =>
 (((if (decide (a0.Stream<0)) then (some true) else (if (decide (a0.Stream≥((List.length a0_.Periods:Nat):Int))) then (some true) else ((Zd5 N a0_ a1_ i9).bind λa2=>(some (!a2)))))).bind λ(a3:Bool) =>
 (if a3 then (some (.inr (.inr false))) else ((ZaQ (λx:Int×(List Int)=>ZbB N a0 x.1 x.2) N (0,a4)).bind λa1 =>
 (some (.inl ((w64 (i9+1)),a1))))))) else (some (.inr (.inl a4))))
def ZbU (N:Nat)(a1:List Int)(a0:Int):Option ((Int)⊕((Unit)⊕(Bool))):=
 (if (decide (a0<((List.length a1:Nat):Int))) then ((idx a1 a0).bind λa2 =>
 (if (a2 != 1) then (some (.inr (.inr false))) else (some (.inl (w64 (a0+1)))))) else (some (.inr (.inl ()))))
def ZdC (N:Nat)(a0_:Z4)(a1_:(List Z3)):Option (Bool):=
 (if ((decide (((List.length a1_:Nat):Int)<1))||(decide (((List.length a1_:Nat):Int)>2000))) then (some false) else ((Zgd 8 ((List.length a1_:Nat):Int) ((List.length a1_:Nat):Int) 0).bind λl6 =>
 ((ZaQ (λx:Int×(List Int)=>ZbC N a0_ a1_ x.1 x.2) N (0,l6)).bind λa4=>match a4 with
 | (.inl a0)=>((subI a0 1 ((List.length a0:Nat):Int)).bind λa5 =>
 ((ZaQ (λx:Int=>ZbU N a5 x) N 0).bind λa3=>match a3 with
 | (.inl a6)=>(some true)
 | (.inr a2)=>(some a2)))
 | (.inr a1)=>(some a1))))
def Zck (N:Nat)(a0_:Z4)(a1_:Int)(a2_:Int)(a3_:Int)(a4_:Int)(i1:Int)(a0:Int):Option ((Int)⊕((Unit)⊕(Bool))):=
 (if (decide (a0<((List.length a0_.Uses:Nat):Int))) then (((if (i1 != a0) then ((idx a0_.Uses i1).bind λa8=>(if (a8.Stream==a1_) then ((idx a0_.Uses a0).bind λa7=>(if (a7.Stream==a3_) then ((idx a0_.Uses i1).bind λa6=>((idx a0_.Uses a0).bind λa5=>(if (a6.Port==a5.Port) then ((Zfm N a0_ i1 a2_).bind λa3=>((Zfm N a0_ a0 a4_).bind λa2=>((Zcm N a3 a2).bind λa1=>(some (!a1))))) else (some false)))) else (some false))) else (some false))) else (some false))).bind λ(a4:Bool) =>
 (if a4 then (some (.inr (.inr true))) else (some (.inl (w64 (a0+1)))))) else (some (.inr (.inl ()))))
def Zcl (N:Nat)(a0_:Z4)(a1_:Int)(a2_:Int)(a3_:Int)(a4_:Int)(i1:Int):Option ((Int)⊕((Unit)⊕(Bool))):=
 (if (decide (i1<((List.length a0_.Uses:Nat):Int))) then ((ZaQ (λx:Int=>Zck N a0_ a1_ a2_ a3_ a4_ i1 x) N 0).bind λa1=>match a1 with
 | (.inl a2)=>(some (.inl (w64 (i1+1))))
 | (.inr a0)=>(some (.inr (.inr a0)))) else (some (.inr (.inl ()))))
def Zdr (N:Nat)(a0_:Z4)(a1_:Int)(a2_:Int)(a3_:Int)(a4_:Int):Option (Bool):=
 ((ZaQ (λx:Int=>Zcl N a0_ a1_ a2_ a3_ a4_ x) N 0).bind λa1=>match a1 with
 | (.inl a2)=>(some false)
 | (.inr a0)=>(some a0))
def Zbs (N:Nat)(a0_:(List Zad))(i8:Int)(l9:(List Int)):Option ((Int×(List Int))⊕(((List Int)))):=
 (if (decide (i8<((List.length a0_:Nat):Int))) then ((idx a0_ i8).bind λa0 =>
 ((idx l9 i8).bind λa1 =>
 (some (.inl ((w64 (i8+1)),(List.set l9 (Int.toNat i8) a0.Period)))))) else (some (.inr l9)))
def Zc4 (N:Nat)(a0_:(List Zad)):Option (Int×Int):=
 ((Zcb N a0_).bind λr1 =>
 (if (r1 != 0) then (some (0,r1)) else ((Zgd 8 ((List.length a0_:Nat):Int) ((List.length a0_:Nat):Int) 0).bind λl5 =>
 ((ZaQ (λx:Int×(List Int)=>Zbs N a0_ x.1 x.2) N (0,l5)).bind λa1 =>
 ((ZdB N 960 a1).bind λa0 =>
 (if (decide (a0>960)) then (some (0,6)) else (some (a0,0))))))))
def Zc3 (N:Nat)(a0_:Zad)(a1_:Zad):Option (Bool):=
 (if ((a0_.Period==a1_.Period)&&((a0_.From==a1_.From)&&((a0_.Long==a1_.Long)&&true))) then (some false) else ((ZdA N a0_ a1_).bind λr2 =>
 ((Zd2 N (w64 (a1_.From-a0_.From)) r2.2.2).bind λr3 =>
 (some ((decide (r2.1<=r3))&&(decide (r3<=r2.2.1)))))))
def Zc7 (l:List Zav)(b:Int):Option Bool :=
 if (b != -1) then (if decide (((List.length l:Nat):Int)>0) then (idx l (w64 (((List.length l:Nat):Int)-1))).bind λe=>some (e.By==b) else some false) else some false
def Zb3 (N:Nat)(p:Z4)(i x:Int)(all:List Int)(j b:Int):Option ((Int×Int)⊕Int):=
 if ((decide (j<=i))&&(b == -1)) then ((idx all j).bind λe=>(Zdr N p i x j e).bind λm=>(if m then some j else some b).bind λb'=>some (.inl (w64 (j+1),b'))) else some (.inr b)
def Zb4 (N:Nat)(rec_:Z4->List Z3->List Int->Option (List Z3×Bool))(p:Z4)(given:List Int)(i c:Int)(x:Int)(f:List Z3):Option ((Int×List Z3)⊕(List Z3⊕(List Z3×Bool))):=
 (idx p.Periods i).bind λe =>
 if decide (x<e) then (appI 8 [] given).bind λg=>(appI 8 g [x]).bind λall =>
  (ZaQ (λy:Int×Int=>Zb3 N p i x all y.1 y.2) N (0,-1)).bind λb0 =>
  (if ((c==0)&&(decide (x>0))) then some (-2) else some b0).bind λb =>
  (idx f c).bind λfc=>(Zc7 fc.Arms b).bind λis =>
  if is then (idx fc.Arms (w64 (((List.length fc.Arms:Nat):Int)-1))).bind λla=>some (.inl (w64 (x+1),f.set c.toNat ⟨fc.Stream,fc.Arms.set (w64 (((List.length fc.Arms:Nat):Int)-1)).toNat { la with To:=w64 (x+1) }⟩))
  else (if (b == -1) then (rec_ p f all).bind λr=>if (!r.2) then some (.inr (r.1,0)) else some (.inl (r.1,((List.length f:Nat):Int))) else some (.inl (f,0))).bind λ(q:(List Z3×Int)⊕(List Z3×Int))=>match q with
   | .inr _=>some (.inr (.inr ([],false)))
   | .inl q=>(idx q.1 c).bind λfd=>(appI 32 fd.Arms [⟨x,w64 (x+1),b,q.2⟩]).bind λl=>some (.inl (w64 (x+1),q.1.set c.toNat ⟨fd.Stream,l⟩))
 else some (.inr (.inl f))
def Zcv (N:Nat)(rec_:Z4->List Z3->List Int->Option (List Z3×Bool))(p:Z4)(f:List Z3)(given:List Int):Option (List Z3×Bool):=
 if ((((List.length given:Nat):Int)==((List.length p.Periods:Nat):Int))||(decide (((List.length f:Nat):Int)≥2000))) then some ([],false)
 else (appI 32 f [⟨((List.length given:Nat):Int),[]⟩]).bind λf1 =>
  (ZaQ (λy:Int×List Z3=>Zb4 N rec_ p given ((List.length given:Nat):Int) ((List.length f:Nat):Int) y.1 y.2) N (0,f1)).bind λo=>match o with
  | .inl f2=>some (f2,true)
  | .inr q=>some q
def Zdq:Nat->Z4->List Z3->List Int->Option (List Z3×Bool)
 | 0=>λ_ _ _=>none
 | N+1=>λp f given=>Zcv N (Zdq N) p f given
def Zev (N:Nat)(p:Z4):Option (List Z3×Bool):=
 if (((List.length p.Periods:Nat):Int)==0) then some ([],false) else (Zdq N p [] []).bind λr=>some (r.1,r.2)
def Zbt (f:List Z3)(i:Int)(out:List Z3):Option ((Int×List Z3)⊕List Z3):=
 if decide (i<((List.length f:Nat):Int)) then (idx f i).bind λe=>(appI 32 [] e.Arms).bind λl=>(appI 32 out [⟨e.Stream,l⟩]).bind λout'=>some (.inl (w64 (i+1),out')) else some (.inr out)
def ZdN (b:ZaO)(out:List Z3)(c k m:Int)(fc:Z3):Option (List Z3):=
 if (m==1) then (idx fc.Arms k).bind λe=>some (out.set c.toNat ⟨fc.Stream,fc.Arms.set k.toNat { e with From:=b.N_ }⟩)
 else if (m==2) then (idx fc.Arms k).bind λe=>some (out.set c.toNat ⟨fc.Stream,fc.Arms.set k.toNat { e with To:=b.N_ }⟩)
 else if (m==3) then (idx fc.Arms k).bind λe=>some (out.set c.toNat ⟨fc.Stream,fc.Arms.set k.toNat { e with By:=b.N_ }⟩)
 else if (m==4) then (idx fc.Arms k).bind λe=>some (out.set c.toNat ⟨fc.Stream,fc.Arms.set k.toNat { e with Next:=b.N_ }⟩)
 else if (m==5) then (idx fc.Arms k).bind λ_=>(appI 32 (fc.Arms.take k.toNat) (fc.Arms.drop (k.toNat+1))).bind λl=>(if w64 (k+1)=k+1 then some l else none).bind λl=>some (out.set c.toNat ⟨fc.Stream,l⟩)
 else if (m==6) then
  (if decide (w64 (k+1)<((List.length fc.Arms:Nat):Int)) then (idx fc.Arms k).bind λe=>(idx (fc.Arms.set k.toNat { e with To:=b.N_ }) (w64 (k+1))).bind λe' =>
   some (out.set c.toNat ⟨fc.Stream,(fc.Arms.set k.toNat { e with To:=b.N_ }).set (w64 (k+1)).toNat { e' with From:=b.N_ }⟩) else some out)
 else appI 32 out [fc]
def Zca (N:Nat)(b:ZaO)(f:List Z3):Option (List Z3):=
 (ZaQ (λx:Int×List Z3=>Zbt f x.1 x.2) N (0,[])).bind λout =>
 if (((List.length out:Nat):Int)==0) then some out else
 (remI (w64 b.Choice) ((List.length out:Nat):Int)).bind λc=>(idx out c).bind λfc =>
 (remI b.What 8).bind λm =>
 if ((m==0)||(((List.length fc.Arms:Nat):Int)==0)) then some (out.set c.toNat ⟨b.N_,fc.Arms⟩) else
 (remI (w64 b.Arm) ((List.length fc.Arms:Nat):Int)).bind λk=>ZdN b out c k m fc
def Zbp (N:Nat)(a0_:Z4)(a3_:Z6)(e1:Z3)(a0:Zav)(a1:Int):Option ((Int)⊕((Unit)⊕(Bool))):=
 (if ((decide (a1<a0.To))&&(decide (a0.By≥0))) then ((a3_.get a0.By).bind λa5 =>
 (((if (a0.By==e1.Stream) then (some a1) else (some a5))).bind λ(a2:Int) =>
 (((if (decide (a2<0)) then (some true) else ((Zdr N a0_ e1.Stream a1 a0.By a2).bind λa3=>(some (!a3))))).bind λ(a4:Bool) =>
 (if a4 then (some (.inr (.inr false))) else (some (.inl (w64 (a1+1)))))))) else (some (.inr (.inl ()))))
def Zcg (N:Nat)(rec_:Z4->((List Z3))->Int->Z6->Option (Bool))(a0_:Z4)(a1_:(List Z3))(a2_:Int)(a3_:Z6)(e1:Z3)(i4:Int):Option ((Int)⊕((Unit)⊕(Bool))):=
 ((idx a1_ a2_).bind λa5 =>
 (if (decide (i4<((List.length a5.Arms:Nat):Int))) then ((idx a1_ a2_).bind λa4 =>
 ((idx a4.Arms i4).bind λa0 =>
 (if (a0.By==(-1)) then ((a3_.get e1.Stream).bind λa7 =>
 ((rec_ a0_ a1_ a0.Next (Z6.set a3_ e1.Stream a0.From)).bind λa3 =>
 (if (!a3) then (some (.inr (.inr false))) else (some (.inl (w64 (i4+1))))))) else ((ZaQ (λx:Int=>Zbp N a0_ a3_ e1 a0 x) N a0.From).bind λa2=>match a2 with
 | (.inl a6)=>(some (.inl (w64 (i4+1))))
 | (.inr a1)=>(some (.inr (.inr a1))))))) else (some (.inr (.inl ())))))
def Zc6 (N:Nat)(rec_:Z4->((List Z3))->Int->Z6->Option (Bool))(a0_:Z4)(a1_:(List Z3))(a2_:Int)(a3_:Z6):Option (Bool):=
 ((idx a1_ a2_).bind λe1 =>
 ((a3_.get e1.Stream).bind λe2 =>
 (if (decide (e2≥0)) then (some false) else ((ZaQ (λx:Int=>Zcg N rec_ a0_ a1_ a2_ a3_ e1 x) N 0).bind λa1=>match a1 with
 | (.inl a2)=>(some true)
 | (.inr a0)=>(some a0)))))
def Zdp:Nat->Z4->((List Z3))->Int->Z6->Option (Bool)
 | 0=>λ_ _ _ _=>none
 | N+1=>λa0_ a1_ a2_ a3_=>Zc6 N (Zdp N) a0_ a1_ a2_ a3_
def Zb8 (N:Nat)(a0_:(List Int))(i6:Int)(l7:(List Zad)):Option ((Int×(List Zad))⊕(((List Zad)))):=
 (if (decide (i6<((List.length a0_:Nat):Int))) then ((idx a0_ i6).bind λa0 =>
 ((idx l7 i6).bind λa1 =>
 (some (.inl ((w64 (i6+1)),(List.set l7 (Int.toNat i6) (Zad.mk a0 0 1))))))) else (some (.inr l7)))
def ZdU (N:Nat)(a0_:(List Int)):Option (Int×Int):=
 ((Zgd 24 ((List.length a0_:Nat):Int) ((List.length a0_:Nat):Int) (Zad.mk 0 0 0)).bind λl3 =>
 ((ZaQ (λx:Int×(List Zad)=>Zb8 N a0_ x.1 x.2) N (0,l3)).bind λa1 =>
 ((Zc4 N a1).bind λa0 =>
 (some (a0.1,a0.2)))))
def Zc5 (N:Nat)(a0_:Zad)(a1_:Zad):Option (Bool×Int):=
 ((Zb2 N a0_).bind λr1 =>
 (if (r1 != 0) then (some (false,r1)) else ((Zb2 N a1_).bind λr3 =>
 (if (r3 != 0) then (some (false,r3)) else ((Zc3 N a0_ a1_).bind λr5 =>
 (some (r5,0)))))))
def ZdE (N:Nat)(a0_:Z4)(a1_:(List Z3))(a2_:ZaO)(a3_:ZaO):Option (Zcr):=
 ((Zev N a0_).bind λr1 =>
 (((if (!r1.2) then ((Zd8 N a1_).bind λa5 =>
 (some a5)) else (some r1.1))).bind λ(a0:(List Z3)) =>
 ((Zd8 N a1_).bind λa4 =>
 ((Zca N a2_ a0).bind λa3 =>
 ((Zca N a2_ a0).bind λa2 =>
 ((Zca N a3_ a2).bind λa1 =>
 (some (Zcr.mk a4 a0 a3 a1))))))))
def Zch (N:Nat)(i5:Int)(l6:Z6):Option ((Int×Z6)⊕((Z6))):=
 (if (decide (i5<12)) then ((l6.get i5).bind λa0 =>
 (some (.inl ((w64 (i5+1)),(Z6.set l6 i5 (-1)))))) else (some (.inr l6)))
def ZaY (N:Nat)(a0_:Z4)(a1_:(List Z3)):Option (Int):=
 ((Zd3 N a0_).bind λr1 =>
 (if (!r1) then (some 340) else ((Zew N a0_ a1_).bind λr3 =>
 (if (!r3) then (some 350) else ((ZaQ (λx:Int×Z6=>Zch N x.1 x.2) N (0,(Z6.mk 0 0 0 0 0 0 0 0 0 0 0 0))).bind λa1 =>
 ((Zdp N a0_ a1_ 0 a1).bind λa0 =>
 (if (!a0) then (some 351) else (some 0))))))))
def ZcH (N:Nat)(a0_:Z4)(i4:Int):Option ((Int)⊕((Unit)⊕(Int))):=
 (if (decide (i4<((List.length a0_.Periods:Nat):Int))) then ((idx a0_.Periods i4).bind λa0 =>
 (if ((decide (a0<1))||(decide (a0>240))) then (some (.inr (.inr 340))) else (some (.inl (w64 (i4+1)))))) else (some (.inr (.inl ()))))
def ZcG (N:Nat)(a0_:Z4)(a2:Int):Option ((Int)⊕((Unit)⊕(Int))):=
 (if (decide (a2<((List.length a0_.Uses:Nat):Int))) then ((idx a0_.Uses a2).bind λa0 =>
 (if ((decide (a0.Stream<0))||((decide (a0.Stream≥((List.length a0_.Periods:Nat):Int)))||((decide (a0.Port<0))||(decide (a0.Port≥48))))) then (some (.inr (.inr 340))) else ((idx a0_.Periods a0.Stream).bind λa1 =>
 (if ((decide (a0.From<0))||((decide (a0.From≥a1))||((decide (a0.Long<1))||(decide (a0.Long>a1))))) then (some (.inr (.inr 340))) else (some (.inl (w64 (a2+1)))))))) else (some (.inr (.inl ()))))
def ZdV (N:Nat)(a0_:Z4):Option (Int):=
 (if ((decide (((List.length a0_.Periods:Nat):Int)>12))||(decide (((List.length a0_.Uses:Nat):Int)>192))) then (some 340) else ((ZaQ (λx:Int=>ZcH N a0_ x) N 0).bind λa4=>match a4 with
 | (.inl a6)=>((ZdU N a0_.Periods).bind λa3 =>
 (if (a3.2 != 0) then (some 340) else ((ZaQ (λx:Int=>ZcG N a0_ x) N 0).bind λa2=>match a2 with
 | (.inl a5)=>(some 0)
 | (.inr a1)=>(some a1))))
 | (.inr a0)=>(some a0)))
def Zbe (N:Nat)(a0_:Z4)(a2_:Int)(a4_:Int)(b18:Bool)(a1:ZaE)(a0:ZaE):Option ((Bool)×Nat):=
 (if ((a1.Stream==a0.Stream)&&((a1.Port==a0.Port)&&((a1.From==a0.From)&&((a1.Long==a0.Long)&&true)))) then (some (true,1)) else ((ZcF N a0_ a1 a2_).bind λa4 =>
 ((ZcF N a0_ a0 a4_).bind λa3 =>
 ((Zc5 N a4 a3).bind λa2 =>
 (if (!a2.1) then (some (true,1)) else (some (b18,0)))))))
def Zda (N:Nat)(a0_:Z4)(a1_:Int)(a2_:Int)(a3_:Int)(a4_:Int):Option (Bool):=
 ((Zfo N a0_ a1_ a3_).bind λa1 =>
 ((ZdD N (λ(s:(Bool)×Nat) (a3:ZaE) (a2:ZaE)=>ZhB (λv:Bool=>Zbe N a0_ a2_ a4_ v a3 a2) s) a1.1 a1.2.1 a1.2.2 (false,0)).bind λa0 =>
 (if (a0.2==0) then (some false) else (if (a0.2==1) then (some a0.1) else none))))
def Zdb (N:Nat)(a0_:Z4)(a1_:Int)(a2_:Int)(a3_:Int)(a4_:Int):Option (Bool×Int):=
 ((ZdV N a0_).bind λr1 =>
 (if (r1 != 0) then (some (false,r1)) else (if ((decide (a1_<0))||((decide (a1_≥((List.length a0_.Periods:Nat):Int)))||((decide (a3_<0))||(decide (a3_≥((List.length a0_.Periods:Nat):Int)))))) then (some (false,2)) else ((((Zds N a0_ a1_ a2_).bind λa2=>(if (!a2) then (some true) else ((Zds N a0_ a3_ a4_).bind λa1=>(if (!a1) then (some true) else (if (a1_==a3_) then (some (a2_ != a4_)) else (some false))))))).bind λ(a3:Bool) =>
 (if a3 then (some (false,2)) else ((Zda N a0_ a1_ a2_ a3_ a4_).bind λa0 =>
 (some (a0,0))))))))
def ZcO (N:Nat)(i8:Int)(l9:Z6):Option ((Int×Z6)⊕((Z6))):=
 (if (decide (i8<12)) then ((l9.get i8).bind λa0 =>
 (some (.inl ((w64 (i8+1)),(Z6.set l9 i8 (-1)))))) else (some (.inr l9)))
def ZcQ (N:Nat)(a3:(List Zah))(a2:Int)(a1:Z6):Option (((List Zah))):=
 ((appI 104 a3 [(Zah.mk a2 a1)]).bind λa0 =>
 (some a0))
def ZcP (N:Nat)(a3:(List Zah))(a1:Int)(a0:Z6):Option (((List Zah))):=
 ((appI 104 a3 [(Zah.mk a1 a0)]).bind λa2 =>
 (some a2))
def Zbq (N:Nat)(r1:Z4×(List (Zai×Bool)))(a3:(List (Zai×Bool)))(a0:Int)(a7:Int)(a1:Int)(a6:Int):Option (((List (Zai×Bool)))×Bool):=
 ((idx r1.1.Periods a0).bind λa8 =>
 ((Zex N (w64 (a7-a6)) a8).bind λa2 =>
 (((if (!(mhas a3 (Zai.mk a0 a2 a1))) then ((Zdb N r1.1 a0 a2 a1 0).bind λa4 =>
 (some (a4.1,(ZfT a3 (Zai.mk a0 a2 a1) a4.1)))) else (some ((Znq a3 (Zai.mk a0 a2 a1) false),a3)))).bind λ(a5:Bool×(List (Zai×Bool))) =>
 (some (a5.2,a5.1)))))
def ZbN (N:Nat)(r1:Z4×(List (Zai×Bool)))(a5:Zah)(a4:Z3)(a8:Z3)(a2:Int)(a3:(List Zah))(a1:(List (Zai×Bool))):Option ((Int×(List Zah)×(List (Zai×Bool)))⊕(((List Zah)×(List (Zai×Bool)))⊕(Bool))):=
 (if (decide (a2<((List.length a8.Arms:Nat):Int))) then ((idx a8.Arms a2).bind λa0 =>
 (if (a0.By==(-1)) then ((a5.given.get a4.Stream).bind λag =>
 (((λ(s:(List Zah)) (ae:Int) (ad:Z6)=>ZcP N s ae ad) a3 a0.Next (Z6.set a5.given a4.Stream a0.From)).bind λaf =>
 (some (.inl ((w64 (a2+1)),af,a1))))) else (((if (decide (a0.By≥0)) then ((Zc8 N (λ(s:(List (Zai×Bool))) (ac:Int) (ab:Int) (aa:Int) (a9:Int)=>Zbq N r1 s ac ab aa a9) a4.Stream a5.given a0 a1).bind λa6=>(some ((!a6.2),a6.1))) else (some (false,a1)))).bind λ(a7:Bool×(List (Zai×Bool))) =>
 (if a7.1 then (some (.inr (.inr false))) else (some (.inl ((w64 (a2+1)),a3,a7.2))))))) else (some (.inr (.inl (a3,a1)))))
def ZbO (N:Nat)(a1_:(List Z3))(r1:Z4×(List (Zai×Bool)))(a0:(List Zah))(a7:(List (Zai×Bool))):Option (((List Zah)×(List (Zai×Bool)))⊕((Unit)⊕(Bool))):=
 (if (decide (((List.length a0:Nat):Int)>0)) then ((idx a0 (w64 (((List.length a0:Nat):Int)-1))).bind λa1 =>
 ((popI a0 (w64 (((List.length a0:Nat):Int)-1))).bind λa6 =>
 ((idx a1_ a1.choice).bind λa3 =>
 ((a1.given.get a3.Stream).bind λa9 =>
 (if (a9 != (-1)) then (some (.inr (.inr false))) else ((idx a1_ a1.choice).bind λa8 =>
 ((ZaQ (λx:Int×(List Zah)×(List (Zai×Bool))=>ZbN N r1 a1 a3 a8 x.1 x.2.1 x.2.2) N (0,a6,a7)).bind λa5=>match a5 with
 | (.inl a2)=>(some (.inl (a2.1,a2.2)))
 | (.inr a4)=>(some (.inr (.inr a4)))))))))) else (some (.inr (.inl ()))))
def Zd4 (N:Nat)(a0_:Z4)(a1_:(List Z3)):Option (Bool):=
 ((Zc9 N a0_).bind λr1 =>
 ((ZaQ (λx:Int×Z6=>ZcO N x.1 x.2) N (0,(Z6.mk 0 0 0 0 0 0 0 0 0 0 0 0))).bind λa5 =>
 (((λ(s:(List Zah)) (a4:Int) (a3:Z6)=>ZcQ N s a4 a3) [] 0 a5).bind λa0 =>
 ((ZaQ (λx:(List Zah)×(List (Zai×Bool))=>ZbO N a1_ r1 x.1 x.2) N (a0,r1.2)).bind λa2=>match a2 with
 | (.inl a6)=>(some true)
 | (.inr a1)=>(some a1)))))
def ZaL (N:Nat)(a0_:Z4)(a1_:(List Z3)):Option (Int):=
 ((ZdV N a0_).bind λr1 =>
 (if (r1 != 0) then (some r1) else ((ZdC N a0_ a1_).bind λr3 =>
 (if (!r3) then (some 350) else ((Zd4 N a0_ a1_).bind λr5 =>
 (if (!r5) then (some 351) else (some 0)))))))
def ZbT (N:Nat)(a0_:(List Int)):Option ((List Int)):=
 ((neL a0_).bind λu1 =>
 ((appI 8 [] a0_).bind λl4 =>
 (some l4)))
def Zel (N:Nat)(a0_:Z4)(a2_:(List Int))(i4:Int):Option ((Int)⊕((Unit)⊕(Int×Int×Int))):=
 (if (decide (i4<((List.length a2_:Nat):Int))) then ((idx a2_ i4).bind λa0 =>
 (((if (decide (a0<0)) then (some true) else ((idx a0_.Periods i4).bind λa2=>(some (decide (a0≥a2)))))).bind λ(a1:Bool) =>
 (if a1 then (some (.inr (.inr (0,0,2)))) else (some (.inl (w64 (i4+1))))))) else (some (.inr (.inl ()))))
def Zej (N:Nat)(a0_:Z4)(a6:(List Int))(a5:Int)(a0:Int)(a1:(List Int)):Option ((Int×(List Int))⊕(((List Int)))):=
 (if (decide (a0<((List.length a6:Nat):Int))) then ((idx a1 a0).bind λa4 =>
 ((idx a0_.Periods a0).bind λa3 =>
 ((Zex N (w64 (a4-a5)) a3).bind λa2 =>
 ((idx a1 a0).bind λa7 =>
 (some (.inl ((w64 (a0+1)),(List.set a1 (Int.toNat a0) a2)))))))) else (some (.inr a1)))
def Zek (N:Nat)(a0_:Z4)(a1_:(List Z3))(a4:Int)(a1:(List Int)):Option ((Int×(List Int))⊕((Int×Int))):=
 ((idx a1_ a4).bind λa3 =>
 ((idx a1 a3.Stream).bind λa2 =>
 ((idx a1_ a4).bind λa6 =>
 ((ZhX N a6 a2).bind λa0 =>
 (if (a0.By==(-2)) then ((ZaQ (λx:Int×(List Int)=>Zej N a0_ a1 a2 x.1 x.2) N (0,a1)).bind λa5 =>
 (some (.inl (a4,a5)))) else (if (a0.By==(-1)) then (some (.inl (a0.Next,a1))) else (some (.inr (a3.Stream,a0.By)))))))))
def ZhY (N:Nat)(a0_:Z4)(a1_:(List Z3))(a2_:(List Int)):Option (Int×Int×Int):=
 ((ZaL N a0_ a1_).bind λr1 =>
 (if (r1 != 0) then (some (0,0,r1)) else (if (((List.length a2_:Nat):Int)!=((List.length a0_.Periods:Nat):Int)) then (some (0,0,2)) else ((ZaQ (λx:Int=>Zel N a0_ a2_ x) N 0).bind λa3=>match a3 with
 | (.inl a4)=>((ZbT N a2_).bind λa2 =>
 ((ZaQ (λx:Int×(List Int)=>Zek N a0_ a1_ x.1 x.2) N (0,a2)).bind λa0 =>
 (some (a0.1,a0.2,0))))
 | (.inr a1)=>(some a1)))))
def Zd7 (N:Nat):Option (Bool):=
 ((ZfV N).bind λr1 =>
 ((ZbK N 0 ([(Za6.mk 0 1 (-1) 1),(Za6.mk 1 2 (-2) 0)])).bind λr2 =>
 ((ZbK N 1 ([(Za6.mk 0 2 0 0)])).bind λr3 =>
 ((ZbK N 0 ([(Za6.mk 0 2 1 0)])).bind λr4 =>
 ((ZbK N 0 ([(Za6.mk 0 1 (-1) 1),(Za6.mk 1 2 (-1) 1)])).bind λr5 =>
 ((ZbK N 1 ([(Za6.mk 0 2 0 0)])).bind λr6 =>
 ((ZbK N 0 ([(Za6.mk 0 1 (-1) 1),(Za6.mk 1 2 (-2) 0)])).bind λr7 =>
 ((ZbK N 1 ([(Za6.mk 0 1 0 0)])).bind λr8 =>
 ((ZhY N r1 ([r2,r3]) ([1,1])).bind λr9 =>
 ((((ZaL N r1 ([r2,r3])).bind λa3=>(if (a3==0) then ((ZaL N r1 ([r4])).bind λa2=>(if (a2==351) then ((ZaL N r1 ([r5,r6])).bind λa1=>(if (a1==350) then ((ZaL N r1 ([r7,r8])).bind λa0=>(if (a0==350) then (if (r9.1==1) then (if (r9.2.1==0) then (some (r9.2.2==0)) else (some false)) else (some false)) else (some false))) else (some false))) else (some false))) else (some false)))).bind λ(a4:Bool) =>
 (some a4)))))))))))
def ZcI (N:Nat)(a0_:Zbk)(a1_:Zbk)(a2_:(List Z3))(a3_:ZaO)(a4_:ZaO):Option (Bool):=
 ((ZaT N a0_).bind λr1 =>
 ((appI 8 [] r1.Periods).bind λl4 =>
 ((appI 8 l4 [0]).bind λl7 =>
 ((ZdE N r1 a2_ a3_ a4_).bind λr9 =>
 ((ZaT N a1_).bind λa3 =>
 ((ZaL N r1 r9.x0).bind λav =>
 ((ZaY N r1 r9.x0).bind λau =>
 (if (av != au) then (some false) else ((ZaL N a3 r9.x0).bind λar =>
 ((ZaY N a3 r9.x0).bind λaq =>
 (if (ar != aq) then (some false) else ((ZaL N (Z4.mk l7 r1.Uses) r9.x0).bind λap =>
 ((ZaY N (Z4.mk l7 r1.Uses) r9.x0).bind λao =>
 (if (ap != ao) then (some false) else ((ZaT N a1_).bind λa2 =>
 ((ZaL N r1 r9.x1).bind λan =>
 ((ZaY N r1 r9.x1).bind λam =>
 (if (an != am) then (some false) else ((ZaL N a2 r9.x1).bind λal =>
 ((ZaY N a2 r9.x1).bind λak =>
 (if (al != ak) then (some false) else ((ZaL N (Z4.mk l7 r1.Uses) r9.x1).bind λaj =>
 ((ZaY N (Z4.mk l7 r1.Uses) r9.x1).bind λai =>
 (if (aj != ai) then (some false) else ((ZaT N a1_).bind λa1 =>
 ((ZaL N r1 r9.x2).bind λag =>
 ((ZaY N r1 r9.x2).bind λaf =>
 (if (ag != af) then (some false) else ((ZaL N a1 r9.x2).bind λae =>
 ((ZaY N a1 r9.x2).bind λad =>
 (if (ae != ad) then (some false) else ((ZaL N (Z4.mk l7 r1.Uses) r9.x2).bind λac =>
 ((ZaY N (Z4.mk l7 r1.Uses) r9.x2).bind λab =>
 (if (ac != ab) then (some false) else ((ZaT N a1_).bind λa0 =>
 ((ZaL N r1 r9.x3).bind λaa =>
 ((ZaY N r1 r9.x3).bind λa9 =>
 (if (aa != a9) then (some false) else ((ZaL N a0 r9.x3).bind λa8 =>
 ((ZaY N a0 r9.x3).bind λa7 =>
 (if (a8 != a7) then (some false) else ((ZaL N (Z4.mk l7 r1.Uses) r9.x3).bind λa6 =>
 ((ZaY N (Z4.mk l7 r1.Uses) r9.x3).bind λa5 =>
 (if (a6 != a5) then (some false) else ((Zd7 N).bind λa4 =>
 (some a4))))))))))))))))))))))))))))))))))))))))))))))
end Go.Sh

