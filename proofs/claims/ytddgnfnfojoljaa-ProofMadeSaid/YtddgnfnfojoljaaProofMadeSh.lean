/- Part of the proof. -/
import Derived.Test.YtddgnfnfojoljaaProofMadeE26
set_option linter.all false
namespace Go.Sh
open Go Go.Eng
set_option maxRecDepth 100000
structure Zig where
 x0:Int
 x1:Int
 x2:Int
 x3:Int
def Zeb (v:Zig):List PC:=[.int .u8 v.x0,.int .u8 v.x1,.int .u8 v.x2,.int .u8 v.x3]
structure Zbx where
 Periods:(List Int)
 Uses:(List Zig)
def ZjG (v:Zbx):List PC:=[.sl 1 false (List.map (eI .u8) v.Periods),.sl 4 false (List.map Zeb v.Uses)]
structure Zak where
 From:Int
 To:Int
 By:Int
 Next:Int
def Zaj (v:Zak):List PC:=[.int .i64 v.From,.int .i64 v.To,.int .i64 v.By,.int .i64 v.Next]
structure Z4 where
 Stream:Int
 Arms:(List Zak)
def Zai (v:Z4):List PC:=[.int .i64 v.Stream,.sl 4 false (List.map Zaj v.Arms)]
structure Zbe where
 Choice:Int
 Arm:Int
 What:Int
 N_:Int
structure Zaz where
 Stream:Int
 Port:Int
 From:Int
 Long:Int
def ZaB (v:Zaz):List PC:=[.int .i64 v.Stream,.int .i64 v.Port,.int .i64 v.From,.int .i64 v.Long]
structure Z5 where
 Periods:(List Int)
 Uses:(List Zaz)
structure ZaZ where
 x0:Int
 x1:Int
 x2:Int
 x3:Int
def Zca (v:ZaZ):List PC:=[.int .i64 v.x0,.int .i64 v.x1,.int .i64 v.x2,.int .i64 v.x3]
structure Z8 where
 x0:Int
 x1:Int
 x2:Int
 x3:Int
 x4:Int
 x5:Int
 x6:Int
 x7:Int
 x8:Int
 x9:Int
 x10:Int
 x11:Int
def Zh6 (v:Z8):List PC:=[.int .i64 v.x0,.int .i64 v.x1,.int .i64 v.x2,.int .i64 v.x3,.int .i64 v.x4,.int .i64 v.x5,.int .i64 v.x6,.int .i64 v.x7,.int .i64 v.x8,.int .i64 v.x9,.int .i64 v.x10,.int .i64 v.x11]
structure Zaa where
 Period:Int
 From:Int
 Long:Int
def ZaR (v:Zaa):List PC:=[.int .i64 v.Period,.int .i64 v.From,.int .i64 v.Long]
structure Zag where
 i:Int
 x_:Int
 j:Int deriving DecidableEq
structure Zaf where
 choice:Int
 given:Z8
def Z9 (v:Zaf):List PC:=[.int .i64 v.choice]++Zh6 v.given
abbrev Z6 (f:Bool) (l:List Z4):AV:=.p (.sl 2 f (List.map Zai l))
abbrev Zk2 (f:Bool) (l:List Int):AV:=.p (.sl 1 f (List.map (eI .u8) l))
abbrev Zah (f:Bool) (l:List Int):AV:=.p (.sl 1 f (List.map eI64 l))
abbrev Zab (f:Bool) (l:List Zaz):AV:=.p (.sl 4 f (List.map ZaB l))
abbrev Zfr (f:Bool) (l:List Zig):AV:=.p (.sl 4 f (List.map Zeb l))
abbrev Zbs (f:Bool) (l:List ZaZ):AV:=.p (.sl 4 f (List.map Zca l))
abbrev Zap (f:Bool) (l:List Zak):AV:=.p (.sl 4 f (List.map Zaj l))
abbrev Zb2 (f:Bool) (l:List Zaf):AV:=.p (.sl 13 f (List.map Z9 l))
abbrev ZaO (f:Bool) (l:List Zaa):AV:=.p (.sl 3 f (List.map ZaR l))
abbrev Zf2 (v:Zig):List AV:=[.p (.int .u8 v.x0),.p (.int .u8 v.x1),.p (.int .u8 v.x2),.p (.int .u8 v.x3)]
abbrev ZaN (v:Zbx):List AV:=[Zk2 false v.Periods,Zfr false v.Uses]
abbrev Zbc (v:Zak):List AV:=[iv v.From,iv v.To,iv v.By,iv v.Next]
abbrev Zdm (v:Z4):List AV:=[iv v.Stream,Zap false v.Arms]
abbrev ZaF (v:Zbe):List AV:=[.p (.int .u8 v.Choice),.p (.int .u8 v.Arm),.p (.int .u8 v.What),iv v.N_]
abbrev ZaK (v:Zaz):List AV:=[iv v.Stream,iv v.Port,iv v.From,iv v.Long]
abbrev Z2 (v:Z5):List AV:=[Zah false v.Periods,Zab false v.Uses]
abbrev Zay (v:Z8):List AV:=[iv v.x0,iv v.x1,iv v.x2,iv v.x3,iv v.x4,iv v.x5,iv v.x6,iv v.x7,iv v.x8,iv v.x9,iv v.x10,iv v.x11]
def Z8.l (v:Z8):List Int:=[v.x0,v.x1,v.x2,v.x3,v.x4,v.x5,v.x6,v.x7,v.x8,v.x9,v.x10,v.x11]
def Z8.ofL (l:List Int):Z8:=⟨l.getD 0 0,l.getD 1 0,l.getD 2 0,l.getD 3 0,l.getD 4 0,l.getD 5 0,l.getD 6 0,l.getD 7 0,l.getD 8 0,l.getD 9 0,l.getD 10 0,l.getD 11 0⟩
def Z8.get (v:Z8)(i:Int):Option Int:=idx v.l i
def Z8.set (v:Z8)(i:Int)(x:Int):Z8:=Z8.ofL (v.l.set i.toNat x)
theorem Z8.l_ofL (l:List Int)(h:l.length=12):(Z8.ofL l).l=l:=ZoR 12 0 l h rfl
theorem Z8.l_set (v:Z8)(i:Int)(x:Int):(v.set i x).l=v.l.set i.toNat x:=Z8.l_ofL _ (by rw [ZG];rfl)
theorem Z8.c_set (v:Z8)(i:Int)(x:Int):Zay (v.set i x)=(v.l.set i.toNat x).map (λx=>iv x):=by rw [← Z8.l_set];rfl
abbrev Zbf (v:Zaa):List AV:=[iv v.Period,iv v.From,iv v.Long]
def Z7 (v:Zag):List Int:=[v.i,v.x_,v.j]
instance:KeyE Zag 3 Z7:=⟨λ_=>rfl,λx y h=>by cases x;cases y;simpa [Z7] using h⟩
abbrev ZcF (v:Zaf):List AV:=([iv v.choice]++(Zay v.given))
def ZaY (N:Nat)(a0_:Zbx)(i3:Int)(l4:(List Int)):Option ((Int×(List Int))⊕(((List Int)))):=
 (if ((decide (i3<((List.length a0_.Periods:Nat):Int)))&&(decide (i3<5))) then ((idx a0_.Periods i3).bind λa2 =>
 ((idx [4,6,8,12,3,5,10,24] (Int.tmod a2 8)).bind λa1 =>
 ((appI 8 l4 [a1]).bind λa0 =>
 (some (.inl ((w64 (i3+1)),a0)))))) else (some (.inr l4)))
def ZaX (N:Nat)(a0_:Zbx)(a4:(List Int))(a2:Int)(a8:(List Zaz)):Option ((Int×(List Zaz))⊕(((List Zaz)))):=
 (((if (decide (a2<((List.length a0_.Uses:Nat):Int))) then (if (decide (a2<12)) then (some (decide (((List.length a4:Nat):Int)>0))) else (some false)) else (some false))).bind λ(aa:Bool) =>
 (if aa then ((idx a0_.Uses a2).bind λa0 =>
 ((remI (w64 (a0.x0)) ((List.length a4:Nat):Int)).bind λa3 =>
 ((idx a4 a3).bind λa1 =>
 ((remI (w64 (a0.x2)) a1).bind λa7 =>
 ((remI (w64 (a0.x3)) a1).bind λa6 =>
 ((remI (Int.tmod a6 4) a1).bind λa5 =>
 ((appI 32 a8 [(Zaz.mk a3 (w64 ((Int.tmod a0.x1 4))) a7 (w64 (1+a5)))]).bind λa9 =>
 (some (.inl ((w64 (a2+1)),a9)))))))))) else (some (.inr a8))))
def Zbw (N:Nat)(a0_:Zbx):Option (Z5):=
 ((ZaS (λx:Int×(List Int)=>ZaY N a0_ x.1 x.2) N (0,[])).bind λa0 =>
 ((ZaS (λx:Int×(List Zaz)=>ZaX N a0_ a0 x.1 x.2) N (0,[])).bind λa1 =>
 (some (Z5.mk a0 a1))))
def Zfz (N:Nat):Option (Z5):=
 (some (Z5.mk ([2,2]) ([(Zaz.mk 0 0 0 1),(Zaz.mk 1 0 0 2)])))
def ZcU (N:Nat)(a1_:(List ZaZ))(i3:Int)(l4:(List Zak)):Option ((Int×(List Zak))⊕(((List Zak)))):=
 (if (decide (i3<((List.length a1_:Nat):Int))) then ((idx a1_ i3).bind λa4 =>
 ((idx a1_ i3).bind λa3 =>
 ((idx a1_ i3).bind λa2 =>
 ((idx a1_ i3).bind λa1 =>
 ((appI 32 l4 [(Zak.mk a4.x0 a3.x1 a2.x2 a1.x3)]).bind λa0 =>
 (some (.inl ((w64 (i3+1)),a0)))))))) else (some (.inr l4)))
def ZbD (N:Nat)(a0_:Int)(a1_:(List ZaZ)):Option (Z4):=
 ((ZaS (λx:Int×(List Zak)=>ZcU N a1_ x.1 x.2) N (0,[])).bind λa0 =>
 (some (Z4.mk a0_ a0)))
def ZdT (N:Nat)(a0_:Z4)(a1_:Int)(i1:Int):Option ((Int)⊕((Int×Int×Int×Int))):=
 (if (decide (i1<((List.length a0_.Arms:Nat):Int))) then ((idx a0_.Arms i1).bind λa0 =>
 (if (decide (a1_<a0.To)) then (some (.inr (a0.From,a0.To,a0.By,a0.Next))) else (some (.inl (w64 (i1+1)))))) else (some (.inr (0,0,0,0))))
def ZhF (N:Nat)(a0_:Z4)(a1_:Int):Option (Zak):=
 ((ZaS (λx:Int=>ZdT N a0_ a1_ x) N 0).bind λa0 =>
 (some (Zak.mk a0.1 a0.2.1 a0.2.2.1 a0.2.2.2)))
def Zea (N:Nat)(a0_:Int)(a1_:Int):Option (Int):=
 ((remI a0_ a1_).bind λm1 =>
 ((remI (w64 (m1+a1_)) a1_).bind λm2 =>
 (some m2)))
def Zc7 (N:Nat)(a0_:Z5)(a1_:Int)(a2_:Int):Option (Bool):=
 (((if (decide (a2_≥0)) then ((idx a0_.Periods a1_).bind λe2=>(some (decide (a2_<e2)))) else (some false))).bind λ(j4:Bool) =>
 (some j4))
def ZcO (N:Nat)(a0_:Z5):Option (Z5×(List (Zag×Bool))):=
 (some (a0_,[]))
def ZbC {σ:Type}(N:Nat)(y_:σ->Int->Int->Int->Int->Option (σ×Bool))(a1_:Int)(a2_:Z8)(a3_:Zak)(i8:Int)(g9:σ):Option ((Int×σ)⊕((σ)⊕(σ×Bool))):=
 (if (decide (i8<a3_.To)) then ((a2_.get a3_.By).bind λa2 =>
 (((if (a3_.By==a1_) then (some i8) else (some a2))).bind λ(a1:Int) =>
 ((y_ g9 a1_ i8 a3_.By a1).bind λa0 =>
 (if (!a0.2) then (some (.inr (.inr (a0.1,false)))) else (some (.inl ((w64 (i8+1)),a0.1))))))) else (some (.inr (.inl g9))))
def ZcN {σ:Type}(N:Nat)(y_:σ->Int->Int->Int->Int->Option (σ×Bool))(a1_:Int)(a2_:Z8)(a3_:Zak)(s_:σ):Option (σ×Bool):=
 (((if (a3_.By != a1_) then ((a2_.get a3_.By).bind λe2=>(some (e2==(-1)))) else (some false))).bind λ(j4:Bool) =>
 (if j4 then (some (s_,false)) else ((ZaS (λx:Int×σ=>ZbC N y_ a1_ a2_ a3_ x.1 x.2) N (a3_.From,s_)).bind λa2=>match a2 with
 | (.inl a1)=>(some (a1,true))
 | (.inr a0)=>(some a0))))
def Zj0 (N:Nat)(a0_:(List Int))(i1:Int)(a4:Bool)(a0:Int):Option ((Bool×Int)⊕((Bool))):=
 (if (decide (a0<((List.length a0_:Nat):Int))) then (((if a4 then ((idx a0_ a0).bind λa3=>((remI i1 a3).bind λa1=>(if (a1==0) then (some true) else (some false)))) else (some false))).bind λ(a2:Bool) =>
 (some (.inl (a2,(w64 (a0+1)))))) else (some (.inr a4)))
def Zj1 (N:Nat)(a0_:(List Int))(i1:Int):Option ((Int)⊕((Unit)⊕(Int))):=
 (if (decide (i1<=960)) then ((ZaS (λx:Bool×Int=>Zj0 N a0_ i1 x.1 x.2) N (true,0)).bind λa0 =>
 (if a0 then (some (.inr (.inr i1))) else (some (.inl (w64 (i1+1)))))) else (some (.inr (.inl ()))))
def ZmX (N:Nat)(a0_:(List Int)):Option (Int):=
 ((ZaS (λx:Int=>Zj1 N a0_ x) N 1).bind λa1=>match a1 with
 | (.inl a2)=>(some 0)
 | (.inr a0)=>(some a0))
def Zjn (N:Nat)(a0_:Z5)(a1_:(List Z4))(a2_:Int)(e1:Z4)(i2:Int)(i3:Int):Option ((Int×Int)⊕((Int)⊕(Bool))):=
 (if (decide (i3<((List.length e1.Arms:Nat):Int))) then ((idx e1.Arms i3).bind λa0 =>
 (((if (a0.From != i2) then (some true) else (if (decide (a0.To<=a0.From)) then (some true) else ((idx a1_ a2_).bind λa3=>((idx a0_.Periods a3.Stream).bind λa2=>(if (decide (a0.To>a2)) then (some true) else (if (decide (a0.By<(-2))) then (some true) else (some (decide (a0.By≥((List.length a0_.Periods:Nat):Int))))))))))).bind λ(a1:Bool) =>
 (if a1 then (some (.inr (.inr false))) else (if (a0.By==(-1)) then (if ((a0.To != (w64 (a0.From+1)))||((decide (a0.Next<=a2_))||(decide (a0.Next≥((List.length a1_:Nat):Int))))) then (some (.inr (.inr false))) else (some (.inl (a0.To,(w64 (i3+1)))))) else (if (a0.By==(-2)) then (if ((a2_ != 0)||((a0.From==0)||(a0.Next != 0))) then (some (.inr (.inr false))) else (some (.inl (a0.To,(w64 (i3+1)))))) else (if (a0.Next != 0) then (some (.inr (.inr false))) else (some (.inl (a0.To,(w64 (i3+1))))))))))) else (some (.inr (.inl i2))))
def Zo3 (N:Nat)(a0_:Z5)(a1_:(List Z4))(a2_:Int):Option (Bool):=
 ((idx a1_ a2_).bind λe1 =>
 ((ZaS (λx:Int×Int=>Zjn N a0_ a1_ a2_ e1 x.1 x.2) N (0,0)).bind λa2=>match a2 with
 | (.inl a1)=>(((if (decide (((List.length e1.Arms:Nat):Int)>0)) then ((idx a1_ a2_).bind λa5=>((idx a0_.Periods a5.Stream).bind λa4=>(some (a1==a4)))) else (some false))).bind λ(a3:Bool) =>
 (some a3))
 | (.inr a0)=>(some a0)))
def Ze3 (N:Nat)(a0_:Z5)(a1_:Int)(a2_:Int):Option (Z5×Int×Int):=
 (some (a0_,a1_,a2_))
def Zck (N:Nat)(a0_:Z5)(a1_:Zaz)(a2_:Int):Option (Zaa):=
 ((idx a0_.Periods a1_.Stream).bind λe1 =>
 ((remI (w64 (a1_.From+a2_)) e1).bind λm2 =>
 (some (Zaa.mk e1 m2 a1_.Long))))
def Zct (N:Nat)(a0_:Z5)(a1_:(List Z4))(a2_:Int)(a3_:Zak):Option (Bool):=
 (if (a3_.By==(-1)) then (some ((a3_.To==(w64 (a3_.From+1)))&&((decide (a3_.Next>a2_))&&(decide (a3_.Next<((List.length a1_:Nat):Int)))))) else (if (a3_.Next != 0) then (some false) else (if (a3_.By==(-2)) then (some ((a2_==0)&&(a3_.From != 0))) else (some ((decide (a3_.By≥0))&&(decide (a3_.By<((List.length a0_.Periods:Nat):Int))))))))
def Ze1 (N:Nat)(a0_:Z5)(a1_:Int)(a2_:Int):Option (Zaa):=
 ((idx a0_.Uses a1_).bind λe1 =>
 ((idx a0_.Periods e1.Stream).bind λe2 =>
 ((idx a0_.Uses a1_).bind λe3 =>
 ((remI (w64 (e3.From+a2_)) e2).bind λm4 =>
 ((idx a0_.Uses a1_).bind λe5 =>
 (some (Zaa.mk e2 m4 e5.Long)))))))
def ZbN {σ:Type}(N:Nat)(y_:σ->Zaz->Zaz->Option (σ×Bool))(c0_:Z5)(c2_:Int)(i4:Int)(a5:Zaz)(a1:Int)(a3:σ):Option ((Int×σ)⊕((σ)⊕(σ))):=
 (if (decide (a1<((List.length c0_.Uses:Nat):Int))) then ((idx c0_.Uses a1).bind λa2 =>
 (((if (a1==i4) then (some true) else (if (a2.Stream != c2_) then (some true) else (some (a2.Port != a5.Port))))).bind λ(a4:Bool) =>
 (if a4 then (some (.inl ((w64 (a1+1)),a3))) else ((y_ a3 a5 a2).bind λa0 =>
 (if (!a0.2) then (some (.inr (.inr a0.1))) else (some (.inl ((w64 (a1+1)),a0.1)))))))) else (some (.inr (.inl a3))))
def ZbO {σ:Type}(N:Nat)(y_:σ->Zaz->Zaz->Option (σ×Bool))(c0_:Z5)(c1_:Int)(c2_:Int)(i4:Int)(g5:σ):Option ((Int×σ)⊕((σ)⊕(σ))):=
 (if (decide (i4<((List.length c0_.Uses:Nat):Int))) then ((idx c0_.Uses i4).bind λa3 =>
 (if (a3.Stream != c1_) then (some (.inl ((w64 (i4+1)),g5))) else ((ZaS (λx:Int×σ=>ZbN N y_ c0_ c2_ i4 a3 x.1 x.2) N (0,g5)).bind λa2=>match a2 with
 | (.inl a1)=>(some (.inl ((w64 (i4+1)),a1)))
 | (.inr a0)=>(some (.inr (.inr a0)))))) else (some (.inr (.inl g5))))
def Zdk {σ:Type}(N:Nat)(y_:σ->Zaz->Zaz->Option (σ×Bool))(c0_:Z5)(c1_:Int)(c2_:Int)(s_:σ):Option (σ):=
 ((ZaS (λx:Int×σ=>ZbO N y_ c0_ c1_ c2_ x.1 x.2) N (0,s_)).bind λa2=>match a2 with
 | (.inl a1)=>(some a1)
 | (.inr a0)=>(some a0))
def ZbU (N:Nat)(a0_:Zaa):Option (Int):=
 (if ((decide (a0_.Period<1))||((decide (a0_.Period>960))||((decide (a0_.From<0))||(decide (a0_.From≥a0_.Period))))) then (some 330) else (if ((decide (a0_.Long<1))||(decide (a0_.Long>a0_.Period))) then (some 330) else (some 0)))
def Za1 (N:Nat)(a0_:(List Zaa))(i2:Int):Option ((Int)⊕((Unit)⊕(Int))):=
 (if (decide (i2<((List.length a0_:Nat):Int))) then ((idx a0_ i2).bind λa1 =>
 ((ZbU N a1).bind λa0 =>
 (if (a0 != 0) then (some (.inr (.inr a0))) else (some (.inl (w64 (i2+1))))))) else (some (.inr (.inl ()))))
def Zb0 (N:Nat)(a0_:(List Zaa)):Option (Int):=
 (if (decide (((List.length a0_:Nat):Int)>32)) then (some 3) else ((ZaS (λx:Int=>Za1 N a0_ x) N 0).bind λa1=>match a1 with
 | (.inl a2)=>(some 0)
 | (.inr a0)=>(some a0)))
def ZbS (N:Nat)(a0_:Int)(a1_:Int)(i1:Int):Option ((Int)⊕((Unit)⊕(Int))):=
 (if (decide (i1>1)) then ((((remI a0_ i1).bind λa1=>(if (a1==0) then ((remI a1_ i1).bind λa0=>(some (a0==0))) else (some false)))).bind λ(a2:Bool) =>
 (if a2 then (some (.inr (.inr i1))) else (some (.inl (w64 (i1-1)))))) else (some (.inr (.inl ()))))
def ZeH (N:Nat)(a0_:Int)(a1_:Int):Option (Int):=
 ((ZaS (λx:Int=>ZbS N a0_ a1_ x) N a0_).bind λa1=>match a1 with
 | (.inl a2)=>(some 1)
 | (.inr a0)=>(some a0))
def ZeG (N:Nat)(a0_:Int)(a1_:Int):Option (Int):=
 ((remI a0_ a1_).bind λm1 =>
 (((if (decide (m1<0)) then (some (w64 (m1+a1_))) else (some m1))).bind λ(a0:Int) =>
 (some a0)))
def ZdG (N:Nat)(a0_:Int)(a1_:Int):Option (Int):=
 ((remI a0_ a1_).bind λm1 =>
 ((remI (w64 (m1+a1_)) a1_).bind λm2 =>
 (some m2)))
def ZbE (N:Nat)(i1:Int)(i2:Int):Option ((Int×Int)⊕((Int))):=
 (if (i2 != 0) then ((remI i1 i2).bind λa0 =>
 (some (.inl (i2,a0)))) else (some (.inr i1)))
def Zc4 (N:Nat)(a0_:Int)(a1_:Int):Option (Int):=
 ((ZaS (λx:Int×Int=>ZbE N x.1 x.2) N (a0_,a1_)).bind λa0 =>
 (some a0))
def Zil (N:Nat)(a0_:Z5)(i4:Int):Option ((Int)⊕((Unit)⊕(Bool))):=
 (if (decide (i4<((List.length a0_.Periods:Nat):Int))) then ((((idx a0_.Periods i4).bind λa2=>(if (decide (a2<1)) then (some true) else ((idx a0_.Periods i4).bind λa1=>(some (decide (a1>240))))))).bind λ(a0:Bool) =>
 (if a0 then (some (.inr (.inr false))) else (some (.inl (w64 (i4+1)))))) else (some (.inr (.inl ()))))
def Zik (N:Nat)(a0_:Z5)(a1:Int):Option ((Int)⊕((Unit)⊕(Bool))):=
 (if (decide (a1<((List.length a0_.Uses:Nat):Int))) then ((idx a0_.Uses a1).bind λa0 =>
 (if ((decide (a0.Stream<0))||((decide (a0.Stream≥((List.length a0_.Periods:Nat):Int)))||((decide (a0.Port<0))||(decide (a0.Port≥48))))) then (some (.inr (.inr false))) else (((if (decide (a0.From<0)) then (some true) else ((idx a0_.Periods a0.Stream).bind λa4=>(if (decide (a0.From≥a4)) then (some true) else (if (decide (a0.Long<1)) then (some true) else ((idx a0_.Periods a0.Stream).bind λa3=>(some (decide (a0.Long>a3))))))))).bind λ(a2:Bool) =>
 (if a2 then (some (.inr (.inr false))) else (some (.inl (w64 (a1+1)))))))) else (some (.inr (.inl ()))))
def ZoJ (N:Nat)(a0_:Z5):Option (Bool):=
 (if ((decide (((List.length a0_.Periods:Nat):Int)>12))||(decide (((List.length a0_.Uses:Nat):Int)>192))) then (some false) else ((ZaS (λx:Int=>Zil N a0_ x) N 0).bind λa4=>match a4 with
 | (.inl a6)=>((ZaS (λx:Int=>Zik N a0_ x) N 0).bind λa3=>match a3 with
 | (.inl a5)=>((ZmX N a0_.Periods).bind λa0 =>
 (some (decide (a0>0))))
 | (.inr a2)=>(some a2))
 | (.inr a1)=>(some a1)))
def Zb8 (N:Nat)(a0_:Z5)(a1_:(List Z4))(a2_:Int)(e2:Int)(e3:Z4)(i4:Int)(i5:Int):Option ((Int×Int)⊕((Int)⊕(Bool))):=
 (if (decide (i5<((List.length e3.Arms:Nat):Int))) then ((idx e3.Arms i5).bind λa0 =>
 (((if (a0.From != i4) then (some true) else (if (decide (a0.To<=a0.From)) then (some true) else (if (decide (a0.To>e2)) then (some true) else ((Zct N a0_ a1_ a2_ a0).bind λa1=>(some (!a1))))))).bind λ(a2:Bool) =>
 (if a2 then (some (.inr (.inr false))) else (some (.inl (a0.To,(w64 (i5+1)))))))) else (some (.inr (.inl i4))))
def ZdI (N:Nat)(a0_:Z5)(a1_:(List Z4))(a2_:Int):Option (Bool):=
 ((idx a1_ a2_).bind λe1 =>
 ((idx a0_.Periods e1.Stream).bind λe2 =>
 ((idx a1_ a2_).bind λe3 =>
 ((ZaS (λx:Int×Int=>Zb8 N a0_ a1_ a2_ e2 e3 x.1 x.2) N (0,0)).bind λa2=>match a2 with
 | (.inl a1)=>(some (a1==e2))
 | (.inr a0)=>(some a0)))))
def ZaW (N:Nat)(a0_:Zaa)(a1_:Zaa)(r1:Int)(i2:Int):Option ((Int)⊕((Unit)⊕(Bool))):=
 (if (decide (i2<a0_.Long)) then ((ZeG N (w64 ((w64 (a1_.From-a0_.From))-i2)) r1).bind λa0 =>
 (if (a0==0) then (some (.inr (.inr false))) else (some (.inl (w64 (i2+1)))))) else (some (.inr (.inl ()))))
def Zb7 (N:Nat)(a0_:Zaa)(a1_:Zaa):Option (Bool):=
 ((ZeH N a0_.Period a1_.Period).bind λr1 =>
 ((ZaS (λx:Int=>ZaW N a0_ a1_ r1 x) N (w64 (1-a1_.Long))).bind λa1=>match a1 with
 | (.inl a2)=>(some true)
 | (.inr a0)=>(some a0)))
def Za4 (N:Nat)(a0_:Int)(a1_:(List Int))(i1:Int)(i2:Int):Option ((Int×Int)⊕((Int))):=
 (if (decide (i2<((List.length a1_:Nat):Int))) then ((idx a1_ i2).bind λa0 =>
 ((Zc4 N i1 a0).bind λa2 =>
 ((quoI .i64 i1 a2).bind λa1 =>
 (if (decide ((w64 (a1*a0))>a0_)) then (some (.inr (w64 (a1*a0)))) else (some (.inl ((w64 (a1*a0)),(w64 (i2+1))))))))) else (some (.inr i1)))
def Zdi (N:Nat)(a0_:Int)(a1_:(List Int)):Option (Int):=
 ((ZaS (λx:Int×Int=>Za4 N a0_ a1_ x.1 x.2) N (1,0)).bind λa0 =>
 (some a0))
def Zdh (N:Nat)(a0_:Zaa)(a1_:Zaa):Option (Int×Int×Int):=
 ((Zc4 N a0_.Period a1_.Period).bind λr1 =>
 (some (a0_.Long,(w64 (r1-a1_.Long)),r1)))
def Zby (N:Nat)(a4:Z4)(a2:Int)(a1:(List Int)):Option ((Int×(List Int))⊕(((List Int)))):=
 (if (decide (a2<((List.length a4.Arms:Nat):Int))) then ((((idx a4.Arms a2).bind λa0 =>
 (if (a0.By==(-1)) then ((idx a1 a0.Next).bind λa5 =>
 ((idx a1 a0.Next).bind λa6 =>
 (some (List.set a1 (Int.toNat a0.Next) (w64 (a5+1)))))) else (some a1)))).bind λ(a3:(List Int)) =>
 (some (.inl ((w64 (a2+1)),a3)))) else (some (.inr a1)))
def Zbz (N:Nat)(a0_:Z5)(a1_:(List Z4))(i9:Int)(a4:(List Int)):Option ((Int×(List Int))⊕(((List Int))⊕(Bool))):=
 (if (decide (i9<((List.length a1_:Nat):Int))) then ((idx a1_ i9).bind λa0 =>
 (((if (decide (a0.Stream<0)) then (some true) else (if (decide (a0.Stream≥((List.length a0_.Periods:Nat):Int))) then (some true) else ((ZdI N a0_ a1_ i9).bind λa2=>(some (!a2)))))).bind λ(a3:Bool) =>
 (if a3 then (some (.inr (.inr false))) else ((ZaS (λx:Int×(List Int)=>Zby N a0 x.1 x.2) N (0,a4)).bind λa1 =>
 (some (.inl ((w64 (i9+1)),a1))))))) else (some (.inr (.inl a4))))
def ZbM (N:Nat)(a1:List Int)(a0:Int):Option ((Int)⊕((Unit)⊕(Bool))):=
 (if (decide (a0<((List.length a1:Nat):Int))) then ((idx a1 a0).bind λa2 =>
 (if (a2 != 1) then (some (.inr (.inr false))) else (some (.inl (w64 (a0+1)))))) else (some (.inr (.inl ()))))
def Zdj (N:Nat)(a0_:Z5)(a1_:(List Z4)):Option (Bool):=
 (if ((decide (((List.length a1_:Nat):Int)<1))||(decide (((List.length a1_:Nat):Int)>2000))) then (some false) else ((ZhW 8 ((List.length a1_:Nat):Int) ((List.length a1_:Nat):Int) 0).bind λl6 =>
 ((ZaS (λx:Int×(List Int)=>Zbz N a0_ a1_ x.1 x.2) N (0,l6)).bind λa4=>match a4 with
 | (.inl a0)=>((subI a0 1 ((List.length a0:Nat):Int)).bind λa5 =>
 ((ZaS (λx:Int=>ZbM N a5 x) N 0).bind λa3=>match a3 with
 | (.inl a6)=>(some true)
 | (.inr a2)=>(some a2)))
 | (.inr a1)=>(some a1))))
def Zb5 (N:Nat)(a0_:Z5)(a1_:Int)(a2_:Int)(a3_:Int)(a4_:Int)(i1:Int)(a0:Int):Option ((Int)⊕((Unit)⊕(Bool))):=
 (if (decide (a0<((List.length a0_.Uses:Nat):Int))) then (((if (i1 != a0) then ((idx a0_.Uses i1).bind λa8=>(if (a8.Stream==a1_) then ((idx a0_.Uses a0).bind λa7=>(if (a7.Stream==a3_) then ((idx a0_.Uses i1).bind λa6=>((idx a0_.Uses a0).bind λa5=>(if (a6.Port==a5.Port) then ((Ze1 N a0_ i1 a2_).bind λa3=>((Ze1 N a0_ a0 a4_).bind λa2=>((Zb7 N a3 a2).bind λa1=>(some (!a1))))) else (some false)))) else (some false))) else (some false))) else (some false))).bind λ(a4:Bool) =>
 (if a4 then (some (.inr (.inr true))) else (some (.inl (w64 (a0+1)))))) else (some (.inr (.inl ()))))
def Zb6 (N:Nat)(a0_:Z5)(a1_:Int)(a2_:Int)(a3_:Int)(a4_:Int)(i1:Int):Option ((Int)⊕((Unit)⊕(Bool))):=
 (if (decide (i1<((List.length a0_.Uses:Nat):Int))) then ((ZaS (λx:Int=>Zb5 N a0_ a1_ a2_ a3_ a4_ i1 x) N 0).bind λa1=>match a1 with
 | (.inl a2)=>(some (.inl (w64 (i1+1))))
 | (.inr a0)=>(some (.inr (.inr a0)))) else (some (.inr (.inl ()))))
def Zc6 (N:Nat)(a0_:Z5)(a1_:Int)(a2_:Int)(a3_:Int)(a4_:Int):Option (Bool):=
 ((ZaS (λx:Int=>Zb6 N a0_ a1_ a2_ a3_ a4_ x) N 0).bind λa1=>match a1 with
 | (.inl a2)=>(some false)
 | (.inr a0)=>(some a0))
def Zbl (N:Nat)(a0_:(List Zaa))(i8:Int)(l9:(List Int)):Option ((Int×(List Int))⊕(((List Int)))):=
 (if (decide (i8<((List.length a0_:Nat):Int))) then ((idx a0_ i8).bind λa0 =>
 ((idx l9 i8).bind λa1 =>
 (some (.inl ((w64 (i8+1)),(List.set l9 (Int.toNat i8) a0.Period)))))) else (some (.inr l9)))
def ZcK (N:Nat)(a0_:(List Zaa)):Option (Int×Int):=
 ((Zb0 N a0_).bind λr1 =>
 (if (r1 != 0) then (some (0,r1)) else ((ZhW 8 ((List.length a0_:Nat):Int) ((List.length a0_:Nat):Int) 0).bind λl5 =>
 ((ZaS (λx:Int×(List Int)=>Zbl N a0_ x.1 x.2) N (0,l5)).bind λa1 =>
 ((Zdi N 960 a1).bind λa0 =>
 (if (decide (a0>960)) then (some (0,6)) else (some (a0,0))))))))
def ZcJ (N:Nat)(a0_:Zaa)(a1_:Zaa):Option (Bool):=
 (if ((a0_.Period==a1_.Period)&&((a0_.From==a1_.From)&&((a0_.Long==a1_.Long)&&true))) then (some false) else ((Zdh N a0_ a1_).bind λr2 =>
 ((ZdG N (w64 (a1_.From-a0_.From)) r2.2.2).bind λr3 =>
 (some ((decide (r2.1<=r3))&&(decide (r3<=r2.2.1)))))))
def ZcM (l:List Zak)(b:Int):Option Bool :=
 if (b != -1) then (if decide (((List.length l:Nat):Int)>0) then (idx l (w64 (((List.length l:Nat):Int)-1))).bind λe=>some (e.By==b) else some false) else some false
def ZbV (N:Nat)(p:Z5)(i x:Int)(all:List Int)(j b:Int):Option ((Int×Int)⊕Int):=
 if ((decide (j<=i))&&(b == -1)) then ((idx all j).bind λe=>(Zc6 N p i x j e).bind λm=>(if m then some j else some b).bind λb'=>some (.inl (w64 (j+1),b'))) else some (.inr b)
def ZbW (N:Nat)(rec_:Z5->List Z4->List Int->Option (List Z4×Bool))(p:Z5)(given:List Int)(i c:Int)(x:Int)(f:List Z4):Option ((Int×List Z4)⊕(List Z4⊕(List Z4×Bool))):=
 (idx p.Periods i).bind λe =>
 if decide (x<e) then (appI 8 [] given).bind λg=>(appI 8 g [x]).bind λall =>
  (ZaS (λy:Int×Int=>ZbV N p i x all y.1 y.2) N (0,-1)).bind λb0 =>
  (if ((c==0)&&(decide (x>0))) then some (-2) else some b0).bind λb =>
  (idx f c).bind λfc=>(ZcM fc.Arms b).bind λis =>
  if is then (idx fc.Arms (w64 (((List.length fc.Arms:Nat):Int)-1))).bind λla=>some (.inl (w64 (x+1),f.set c.toNat ⟨fc.Stream,fc.Arms.set (w64 (((List.length fc.Arms:Nat):Int)-1)).toNat { la with To:=w64 (x+1) }⟩))
  else (if (b == -1) then (rec_ p f all).bind λr=>if (!r.2) then some (.inr (r.1,0)) else some (.inl (r.1,((List.length f:Nat):Int))) else some (.inl (f,0))).bind λ(q:(List Z4×Int)⊕(List Z4×Int))=>match q with
   | .inr _=>some (.inr (.inr ([],false)))
   | .inl q=>(idx q.1 c).bind λfd=>(appI 32 fd.Arms [⟨x,w64 (x+1),b,q.2⟩]).bind λl=>some (.inl (w64 (x+1),q.1.set c.toNat ⟨fd.Stream,l⟩))
 else some (.inr (.inl f))
def Zce (N:Nat)(rec_:Z5->List Z4->List Int->Option (List Z4×Bool))(p:Z5)(f:List Z4)(given:List Int):Option (List Z4×Bool):=
 if ((((List.length given:Nat):Int)==((List.length p.Periods:Nat):Int))||(decide (((List.length f:Nat):Int)≥2000))) then some ([],false)
 else (appI 32 f [⟨((List.length given:Nat):Int),[]⟩]).bind λf1 =>
  (ZaS (λy:Int×List Z4=>ZbW N rec_ p given ((List.length given:Nat):Int) ((List.length f:Nat):Int) y.1 y.2) N (0,f1)).bind λo=>match o with
  | .inl f2=>some (f2,true)
  | .inr q=>some q
def Zc5:Nat->Z5->List Z4->List Int->Option (List Z4×Bool)
 | 0=>λ_ _ _=>none
 | N+1=>λp f given=>Zce N (Zc5 N) p f given
def Zd9 (N:Nat)(p:Z5):Option (List Z4×Bool):=
 if (((List.length p.Periods:Nat):Int)==0) then some ([],false) else (Zc5 N p [] []).bind λr=>some (r.1,r.2)
def Zbn (f:List Z4)(i:Int)(out:List Z4):Option ((Int×List Z4)⊕List Z4):=
 if decide (i<((List.length f:Nat):Int)) then (idx f i).bind λe=>(appI 32 [] e.Arms).bind λl=>(appI 32 out [⟨e.Stream,l⟩]).bind λout'=>some (.inl (w64 (i+1),out')) else some (.inr out)
def Zdu (b:Zbe)(out:List Z4)(c k m:Int)(fc:Z4):Option (List Z4):=
 if (m==1) then (idx fc.Arms k).bind λe=>some (out.set c.toNat ⟨fc.Stream,fc.Arms.set k.toNat { e with From:=b.N_ }⟩)
 else if (m==2) then (idx fc.Arms k).bind λe=>some (out.set c.toNat ⟨fc.Stream,fc.Arms.set k.toNat { e with To:=b.N_ }⟩)
 else if (m==3) then (idx fc.Arms k).bind λe=>some (out.set c.toNat ⟨fc.Stream,fc.Arms.set k.toNat { e with By:=b.N_ }⟩)
 else if (m==4) then (idx fc.Arms k).bind λe=>some (out.set c.toNat ⟨fc.Stream,fc.Arms.set k.toNat { e with Next:=b.N_ }⟩)
 else if (m==5) then (idx fc.Arms k).bind λ_=>(appI 32 (fc.Arms.take k.toNat) (fc.Arms.drop (k.toNat+1))).bind λl=>(if w64 (k+1)=k+1 then some l else none).bind λl=>some (out.set c.toNat ⟨fc.Stream,l⟩)
 else if (m==6) then
  (if decide (w64 (k+1)<((List.length fc.Arms:Nat):Int)) then (idx fc.Arms k).bind λe=>(idx (fc.Arms.set k.toNat { e with To:=b.N_ }) (w64 (k+1))).bind λe' =>
   some (out.set c.toNat ⟨fc.Stream,(fc.Arms.set k.toNat { e with To:=b.N_ }).set (w64 (k+1)).toNat { e' with From:=b.N_ }⟩) else some out)
 else appI 32 out [fc]
def ZcW (N:Nat)(b:Zbe)(f:List Z4):Option (List Z4):=
 (ZaS (λx:Int×List Z4=>Zbn f x.1 x.2) N (0,[])).bind λout =>
 if (((List.length out:Nat):Int)==0) then some out else
 (remI (w64 b.Choice) ((List.length out:Nat):Int)).bind λc=>(idx out c).bind λfc =>
 (remI b.What 8).bind λm =>
 if ((m==0)||(((List.length fc.Arms:Nat):Int)==0)) then some (out.set c.toNat ⟨b.N_,fc.Arms⟩) else
 (remI (w64 b.Arm) ((List.length fc.Arms:Nat):Int)).bind λk=>Zdu b out c k m fc
def Zb4 (N:Nat)(a0_:Z5)(a3_:Z8)(e1:Z4)(a0:Zak)(a1:Int):Option ((Int)⊕((Unit)⊕(Bool))):=
 (if ((decide (a1<a0.To))&&(decide (a0.By≥0))) then ((a3_.get a0.By).bind λa5 =>
 (((if (a0.By==e1.Stream) then (some a1) else (some a5))).bind λ(a2:Int) =>
 (((if (decide (a2<0)) then (some true) else ((Zc6 N a0_ e1.Stream a1 a0.By a2).bind λa3=>(some (!a3))))).bind λ(a4:Bool) =>
 (if a4 then (some (.inr (.inr false))) else (some (.inl (w64 (a1+1)))))))) else (some (.inr (.inl ()))))
def Zd4 (N:Nat)(rec_:Z5->((List Z4))->Int->Z8->Option (Bool))(a0_:Z5)(a1_:(List Z4))(a2_:Int)(a3_:Z8)(e1:Z4)(i4:Int):Option ((Int)⊕((Unit)⊕(Bool))):=
 ((idx a1_ a2_).bind λa5 =>
 (if (decide (i4<((List.length a5.Arms:Nat):Int))) then ((idx a1_ a2_).bind λa4 =>
 ((idx a4.Arms i4).bind λa0 =>
 (if (a0.By==(-1)) then ((a3_.get e1.Stream).bind λa7 =>
 ((rec_ a0_ a1_ a0.Next (Z8.set a3_ e1.Stream a0.From)).bind λa3 =>
 (if (!a3) then (some (.inr (.inr false))) else (some (.inl (w64 (i4+1))))))) else ((ZaS (λx:Int=>Zb4 N a0_ a3_ e1 a0 x) N a0.From).bind λa2=>match a2 with
 | (.inl a6)=>(some (.inl (w64 (i4+1))))
 | (.inr a1)=>(some (.inr (.inr a1))))))) else (some (.inr (.inl ())))))
def Zek (N:Nat)(rec_:Z5->((List Z4))->Int->Z8->Option (Bool))(a0_:Z5)(a1_:(List Z4))(a2_:Int)(a3_:Z8):Option (Bool):=
 ((idx a1_ a2_).bind λe1 =>
 ((a3_.get e1.Stream).bind λe2 =>
 (if (decide (e2≥0)) then (some false) else ((ZaS (λx:Int=>Zd4 N rec_ a0_ a1_ a2_ a3_ e1 x) N 0).bind λa1=>match a1 with
 | (.inl a2)=>(some true)
 | (.inr a0)=>(some a0)))))
def Zfu:Nat->Z5->((List Z4))->Int->Z8->Option (Bool)
 | 0=>λ_ _ _ _=>none
 | N+1=>λa0_ a1_ a2_ a3_=>Zek N (Zfu N) a0_ a1_ a2_ a3_
def ZbY (N:Nat)(a0_:(List Int))(i6:Int)(l7:(List Zaa)):Option ((Int×(List Zaa))⊕(((List Zaa)))):=
 (if (decide (i6<((List.length a0_:Nat):Int))) then ((idx a0_ i6).bind λa0 =>
 ((idx l7 i6).bind λa1 =>
 (some (.inl ((w64 (i6+1)),(List.set l7 (Int.toNat i6) (Zaa.mk a0 0 1))))))) else (some (.inr l7)))
def Zdz (N:Nat)(a0_:(List Int)):Option (Int×Int):=
 ((ZhW 24 ((List.length a0_:Nat):Int) ((List.length a0_:Nat):Int) (Zaa.mk 0 0 0)).bind λl3 =>
 ((ZaS (λx:Int×(List Zaa)=>ZbY N a0_ x.1 x.2) N (0,l3)).bind λa1 =>
 ((ZcK N a1).bind λa0 =>
 (some (a0.1,a0.2)))))
def ZcL (N:Nat)(a0_:Zaa)(a1_:Zaa):Option (Bool×Int):=
 ((ZbU N a0_).bind λr1 =>
 (if (r1 != 0) then (some (false,r1)) else ((ZbU N a1_).bind λr3 =>
 (if (r3 != 0) then (some (false,r3)) else ((ZcJ N a0_ a1_).bind λr5 =>
 (some (r5,0)))))))
def Zcm (N:Nat)(a0_:Z5)(i4:Int):Option ((Int)⊕((Unit)⊕(Int))):=
 (if (decide (i4<((List.length a0_.Periods:Nat):Int))) then ((idx a0_.Periods i4).bind λa0 =>
 (if ((decide (a0<1))||(decide (a0>240))) then (some (.inr (.inr 340))) else (some (.inl (w64 (i4+1)))))) else (some (.inr (.inl ()))))
def Zcl (N:Nat)(a0_:Z5)(a2:Int):Option ((Int)⊕((Unit)⊕(Int))):=
 (if (decide (a2<((List.length a0_.Uses:Nat):Int))) then ((idx a0_.Uses a2).bind λa0 =>
 (if ((decide (a0.Stream<0))||((decide (a0.Stream≥((List.length a0_.Periods:Nat):Int)))||((decide (a0.Port<0))||(decide (a0.Port≥48))))) then (some (.inr (.inr 340))) else ((idx a0_.Periods a0.Stream).bind λa1 =>
 (if ((decide (a0.From<0))||((decide (a0.From≥a1))||((decide (a0.Long<1))||(decide (a0.Long>a1))))) then (some (.inr (.inr 340))) else (some (.inl (w64 (a2+1)))))))) else (some (.inr (.inl ()))))
def ZdA (N:Nat)(a0_:Z5):Option (Int):=
 (if ((decide (((List.length a0_.Periods:Nat):Int)>12))||(decide (((List.length a0_.Uses:Nat):Int)>192))) then (some 340) else ((ZaS (λx:Int=>Zcm N a0_ x) N 0).bind λa4=>match a4 with
 | (.inl a6)=>((Zdz N a0_.Periods).bind λa3 =>
 (if (a3.2 != 0) then (some 340) else ((ZaS (λx:Int=>Zcl N a0_ x) N 0).bind λa2=>match a2 with
 | (.inl a5)=>(some 0)
 | (.inr a1)=>(some a1))))
 | (.inr a0)=>(some a0)))
def Za6 (N:Nat)(a0_:Z5)(a2_:Int)(a4_:Int)(b18:Bool)(a1:Zaz)(a0:Zaz):Option ((Bool)×Nat):=
 (if ((a1.Stream==a0.Stream)&&((a1.Port==a0.Port)&&((a1.From==a0.From)&&((a1.Long==a0.Long)&&true)))) then (some (true,1)) else ((Zck N a0_ a1 a2_).bind λa4 =>
 ((Zck N a0_ a0 a4_).bind λa3 =>
 ((ZcL N a4 a3).bind λa2 =>
 (if (!a2.1) then (some (true,1)) else (some (b18,0)))))))
def ZcP (N:Nat)(a0_:Z5)(a1_:Int)(a2_:Int)(a3_:Int)(a4_:Int):Option (Bool):=
 ((Ze3 N a0_ a1_ a3_).bind λa1 =>
 ((Zdk N (λ(s:(Bool)×Nat) (a3:Zaz) (a2:Zaz)=>Zhg (λv:Bool=>Za6 N a0_ a2_ a4_ v a3 a2) s) a1.1 a1.2.1 a1.2.2 (false,0)).bind λa0 =>
 (if (a0.2==0) then (some false) else (if (a0.2==1) then (some a0.1) else none))))
def ZcQ (N:Nat)(a0_:Z5)(a1_:Int)(a2_:Int)(a3_:Int)(a4_:Int):Option (Bool×Int):=
 ((ZdA N a0_).bind λr1 =>
 (if (r1 != 0) then (some (false,r1)) else (if ((decide (a1_<0))||((decide (a1_≥((List.length a0_.Periods:Nat):Int)))||((decide (a3_<0))||(decide (a3_≥((List.length a0_.Periods:Nat):Int)))))) then (some (false,2)) else ((((Zc7 N a0_ a1_ a2_).bind λa2=>(if (!a2) then (some true) else ((Zc7 N a0_ a3_ a4_).bind λa1=>(if (!a1) then (some true) else (if (a1_==a3_) then (some (a2_ != a4_)) else (some false))))))).bind λ(a3:Bool) =>
 (if a3 then (some (false,2)) else ((ZcP N a0_ a1_ a2_ a3_ a4_).bind λa0 =>
 (some (a0,0))))))))
def Zcq (N:Nat)(i8:Int)(l9:Z8):Option ((Int×Z8)⊕((Z8))):=
 (if (decide (i8<12)) then ((l9.get i8).bind λa0 =>
 (some (.inl ((w64 (i8+1)),(Z8.set l9 i8 (-1)))))) else (some (.inr l9)))
def Zcs (N:Nat)(a3:(List Zaf))(a2:Int)(a1:Z8):Option (((List Zaf))):=
 ((appI 104 a3 [(Zaf.mk a2 a1)]).bind λa0 =>
 (some a0))
def Zcr (N:Nat)(a3:(List Zaf))(a1:Int)(a0:Z8):Option (((List Zaf))):=
 ((appI 104 a3 [(Zaf.mk a1 a0)]).bind λa2 =>
 (some a2))
def Zbi (N:Nat)(r1:Z5×(List (Zag×Bool)))(a3:(List (Zag×Bool)))(a0:Int)(a7:Int)(a1:Int)(a6:Int):Option (((List (Zag×Bool)))×Bool):=
 ((idx r1.1.Periods a0).bind λa8 =>
 ((Zea N (w64 (a7-a6)) a8).bind λa2 =>
 (((if (!(mhas a3 (Zag.mk a0 a2 a1))) then ((ZcQ N r1.1 a0 a2 a1 0).bind λa4 =>
 (some (a4.1,(Zfx a3 (Zag.mk a0 a2 a1) a4.1)))) else (some ((Zm9 a3 (Zag.mk a0 a2 a1) false),a3)))).bind λ(a5:Bool×(List (Zag×Bool))) =>
 (some (a5.2,a5.1)))))
def ZbF (N:Nat)(r1:Z5×(List (Zag×Bool)))(a5:Zaf)(a4:Z4)(a8:Z4)(a2:Int)(a3:(List Zaf))(a1:(List (Zag×Bool))):Option ((Int×(List Zaf)×(List (Zag×Bool)))⊕(((List Zaf)×(List (Zag×Bool)))⊕(Bool))):=
 (if (decide (a2<((List.length a8.Arms:Nat):Int))) then ((idx a8.Arms a2).bind λa0 =>
 (if (a0.By==(-1)) then ((a5.given.get a4.Stream).bind λag =>
 (((λ(s:(List Zaf)) (ae:Int) (ad:Z8)=>Zcr N s ae ad) a3 a0.Next (Z8.set a5.given a4.Stream a0.From)).bind λaf =>
 (some (.inl ((w64 (a2+1)),af,a1))))) else (((if (decide (a0.By≥0)) then ((ZcN N (λ(s:(List (Zag×Bool))) (ac:Int) (ab:Int) (aa:Int) (a9:Int)=>Zbi N r1 s ac ab aa a9) a4.Stream a5.given a0 a1).bind λa6=>(some ((!a6.2),a6.1))) else (some (false,a1)))).bind λ(a7:Bool×(List (Zag×Bool))) =>
 (if a7.1 then (some (.inr (.inr false))) else (some (.inl ((w64 (a2+1)),a3,a7.2))))))) else (some (.inr (.inl (a3,a1)))))
def ZbG (N:Nat)(a1_:(List Z4))(r1:Z5×(List (Zag×Bool)))(a0:(List Zaf))(a7:(List (Zag×Bool))):Option (((List Zaf)×(List (Zag×Bool)))⊕((Unit)⊕(Bool))):=
 (if (decide (((List.length a0:Nat):Int)>0)) then ((idx a0 (w64 (((List.length a0:Nat):Int)-1))).bind λa1 =>
 ((popI a0 (w64 (((List.length a0:Nat):Int)-1))).bind λa6 =>
 ((idx a1_ a1.choice).bind λa3 =>
 ((a1.given.get a3.Stream).bind λa9 =>
 (if (a9 != (-1)) then (some (.inr (.inr false))) else ((idx a1_ a1.choice).bind λa8 =>
 ((ZaS (λx:Int×(List Zaf)×(List (Zag×Bool))=>ZbF N r1 a1 a3 a8 x.1 x.2.1 x.2.2) N (0,a6,a7)).bind λa5=>match a5 with
 | (.inl a2)=>(some (.inl (a2.1,a2.2)))
 | (.inr a4)=>(some (.inr (.inr a4)))))))))) else (some (.inr (.inl ()))))
def ZdH (N:Nat)(a0_:Z5)(a1_:(List Z4)):Option (Bool):=
 ((ZcO N a0_).bind λr1 =>
 ((ZaS (λx:Int×Z8=>Zcq N x.1 x.2) N (0,(Z8.mk 0 0 0 0 0 0 0 0 0 0 0 0))).bind λa5 =>
 (((λ(s:(List Zaf)) (a4:Int) (a3:Z8)=>Zcs N s a4 a3) [] 0 a5).bind λa0 =>
 ((ZaS (λx:(List Zaf)×(List (Zag×Bool))=>ZbG N a1_ r1 x.1 x.2) N (a0,r1.2)).bind λa2=>match a2 with
 | (.inl a6)=>(some true)
 | (.inr a1)=>(some a1)))))
def Zbd (N:Nat)(a0_:Z5)(a1_:(List Z4)):Option (Int):=
 ((ZdA N a0_).bind λr1 =>
 (if (r1 != 0) then (some r1) else ((Zdj N a0_ a1_).bind λr3 =>
 (if (!r3) then (some 350) else ((ZdH N a0_ a1_).bind λr5 =>
 (if (!r5) then (some 351) else (some 0)))))))
def ZbL (N:Nat)(a0_:(List Int)):Option ((List Int)):=
 ((neL a0_).bind λu1 =>
 ((appI 8 [] a0_).bind λl4 =>
 (some l4)))
def ZdW (N:Nat)(a0_:Z5)(a2_:(List Int))(i4:Int):Option ((Int)⊕((Unit)⊕(Int×Int×Int))):=
 (if (decide (i4<((List.length a2_:Nat):Int))) then ((idx a2_ i4).bind λa0 =>
 (((if (decide (a0<0)) then (some true) else ((idx a0_.Periods i4).bind λa2=>(some (decide (a0≥a2)))))).bind λ(a1:Bool) =>
 (if a1 then (some (.inr (.inr (0,0,2)))) else (some (.inl (w64 (i4+1))))))) else (some (.inr (.inl ()))))
def ZdU (N:Nat)(a0_:Z5)(a6:(List Int))(a5:Int)(a0:Int)(a1:(List Int)):Option ((Int×(List Int))⊕(((List Int)))):=
 (if (decide (a0<((List.length a6:Nat):Int))) then ((idx a1 a0).bind λa4 =>
 ((idx a0_.Periods a0).bind λa3 =>
 ((Zea N (w64 (a4-a5)) a3).bind λa2 =>
 ((idx a1 a0).bind λa7 =>
 (some (.inl ((w64 (a0+1)),(List.set a1 (Int.toNat a0) a2)))))))) else (some (.inr a1)))
def ZdV (N:Nat)(a0_:Z5)(a1_:(List Z4))(a4:Int)(a1:(List Int)):Option ((Int×(List Int))⊕((Int×Int))):=
 ((idx a1_ a4).bind λa3 =>
 ((idx a1 a3.Stream).bind λa2 =>
 ((idx a1_ a4).bind λa6 =>
 ((ZhF N a6 a2).bind λa0 =>
 (if (a0.By==(-2)) then ((ZaS (λx:Int×(List Int)=>ZdU N a0_ a1 a2 x.1 x.2) N (0,a1)).bind λa5 =>
 (some (.inl (a4,a5)))) else (if (a0.By==(-1)) then (some (.inl (a0.Next,a1))) else (some (.inr (a3.Stream,a0.By)))))))))
def ZhG (N:Nat)(a0_:Z5)(a1_:(List Z4))(a2_:(List Int)):Option (Int×Int×Int):=
 ((Zbd N a0_ a1_).bind λr1 =>
 (if (r1 != 0) then (some (0,0,r1)) else (if (((List.length a2_:Nat):Int)!=((List.length a0_.Periods:Nat):Int)) then (some (0,0,2)) else ((ZaS (λx:Int=>ZdW N a0_ a2_ x) N 0).bind λa3=>match a3 with
 | (.inl a4)=>((ZbL N a2_).bind λa2 =>
 ((ZaS (λx:Int×(List Int)=>ZdV N a0_ a1_ x.1 x.2) N (0,a2)).bind λa0 =>
 (some (a0.1,a0.2,0))))
 | (.inr a1)=>(some a1)))))
def ZdJ (N:Nat):Option (Bool):=
 ((Zfz N).bind λr1 =>
 ((ZbD N 0 ([(ZaZ.mk 0 1 (-1) 1),(ZaZ.mk 1 2 (-2) 0)])).bind λr2 =>
 ((ZbD N 1 ([(ZaZ.mk 0 2 0 0)])).bind λr3 =>
 ((ZbD N 0 ([(ZaZ.mk 0 2 1 0)])).bind λr4 =>
 ((ZbD N 0 ([(ZaZ.mk 0 1 (-1) 1),(ZaZ.mk 1 2 (-1) 1)])).bind λr5 =>
 ((ZbD N 1 ([(ZaZ.mk 0 2 0 0)])).bind λr6 =>
 ((ZbD N 0 ([(ZaZ.mk 0 1 (-1) 1),(ZaZ.mk 1 2 (-2) 0)])).bind λr7 =>
 ((ZbD N 1 ([(ZaZ.mk 0 1 0 0)])).bind λr8 =>
 ((ZhG N r1 ([r2,r3]) ([1,1])).bind λr9 =>
 ((((Zbd N r1 ([r2,r3])).bind λa3=>(if (a3==0) then ((Zbd N r1 ([r4])).bind λa2=>(if (a2==351) then ((Zbd N r1 ([r5,r6])).bind λa1=>(if (a1==350) then ((Zbd N r1 ([r7,r8])).bind λa0=>(if (a0==350) then (if (r9.1==1) then (if (r9.2.1==0) then (some (r9.2.2==0)) else (some false)) else (some false)) else (some false))) else (some false))) else (some false))) else (some false)))).bind λ(a4:Bool) =>
 (some a4)))))))))))
def ZcV (N:Nat)(a0_:Zbx)(a1_:Int)(a2_:Int):Option (Bool):=
 ((ZdJ N).bind λr1 =>
 (if (!r1) then (some false) else ((Zbw N a0_).bind λr3 =>
 ((Zd9 N r3).bind λr4 =>
 (if (!r4.2) then (some true) else ((remI (w64 (a1_)) ((List.length r4.1:Nat):Int)).bind λm6 =>
 ((ZcW N (Zbe.mk a1_ a2_ 5 0) r4.1).bind λr7 =>
 ((subI r4.1 0 (w64 (((List.length r4.1:Nat):Int)-1))).bind λl8 =>
 ((appI 32 [] l8).bind λa3 =>
 ((((Zbd N r3 r4.1).bind λa2=>(if (a2==0) then ((Zbd N r3 r7).bind λa1=>(if (a1==350) then ((Zbd N r3 a3).bind λa0=>(if (a0==350) then ((idx r4.1 m6).bind λa5=>(some (decide (((List.length a5.Arms:Nat):Int)>0)))) else (some false))) else (some false))) else (some false)))).bind λ(a4:Bool) =>
 (some a4)))))))))))
end Go.Sh

