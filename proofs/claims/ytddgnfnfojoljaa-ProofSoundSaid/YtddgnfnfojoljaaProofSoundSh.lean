/- Part of the proof. -/
import Derived.Test.YtddgnfnfojoljaaProofSoundE26
set_option linter.all false
namespace Go.Sh
open Go Go.Eng
set_option maxRecDepth 100000
structure ZiI where
 x0:Int
 x1:Int
 x2:Int
 x3:Int
def ZeB (v:ZiI):List PC:=[.int .u8 v.x0,.int .u8 v.x1,.int .u8 v.x2,.int .u8 v.x3]
structure ZbH where
 Periods:(List Int)
 Uses:(List ZiI)
def Zka (v:ZbH):List PC:=[.sl 1 false (List.map (eI .u8) v.Periods),.sl 4 false (List.map ZeB v.Uses)]
structure Zax where
 From:Int
 To:Int
 By:Int
 Next:Int
def Zap (v:Zax):List PC:=[.int .i64 v.From,.int .i64 v.To,.int .i64 v.By,.int .i64 v.Next]
structure Z7 where
 Stream:Int
 Arms:(List Zax)
def Zal (v:Z7):List PC:=[.int .i64 v.Stream,.sl 4 false (List.map Zap v.Arms)]
structure ZaU where
 Choice:Int
 Arm:Int
 What:Int
 N_:Int
def Zk8 (v:ZaU):List PC:=[.int .u8 v.Choice,.int .u8 v.Arm,.int .u8 v.What,.int .i64 v.N_]
structure ZaJ where
 Stream:Int
 Port:Int
 From:Int
 Long:Int
def ZaM (v:ZaJ):List PC:=[.int .i64 v.Stream,.int .i64 v.Port,.int .i64 v.From,.int .i64 v.Long]
structure Z6 where
 Periods:(List Int)
 Uses:(List ZaJ)
structure ZbO where
 x0:(List Z7)
 x1:(List Z7)
 x2:(List Z7)
 x3:(List Z7)
structure Zbd where
 x0:Int
 x1:Int
 x2:Int
 x3:Int
def Zcs (v:Zbd):List PC:=[.int .i64 v.x0,.int .i64 v.x1,.int .i64 v.x2,.int .i64 v.x3]
structure Zag where
 x0:Int
 x1:Int
 x2:Int
 x3:Int
 x4:Int
 x5:Int
 x6:Int
 x7:Int
 x8:Int
 x9:Int
 x10:Int
 x11:Int
def Ziv (v:Zag):List PC:=[.int .i64 v.x0,.int .i64 v.x1,.int .i64 v.x2,.int .i64 v.x3,.int .i64 v.x4,.int .i64 v.x5,.int .i64 v.x6,.int .i64 v.x7,.int .i64 v.x8,.int .i64 v.x9,.int .i64 v.x10,.int .i64 v.x11]
structure Zah where
 Period:Int
 From:Int
 Long:Int
def Za4 (v:Zah):List PC:=[.int .i64 v.Period,.int .i64 v.From,.int .i64 v.Long]
structure Zan where
 i:Int
 x_:Int
 j:Int deriving DecidableEq
structure Zam where
 choice:Int
 given:Zag
def Zaf (v:Zam):List PC:=[.int .i64 v.choice]++Ziv v.given
abbrev Z8 (f:Bool) (l:List Z7):AV:=.p (.sl 2 f (List.map Zal l))
abbrev ZcW (f:Bool) (l:List Int):AV:=.p (.sl 1 f (List.map (eI .u8) l))
abbrev Zab (f:Bool) (l:List Int):AV:=.p (.sl 1 f (List.map eI64 l))
abbrev Zaj (f:Bool) (l:List ZaJ):AV:=.p (.sl 4 f (List.map ZaM l))
abbrev ZfV (f:Bool) (l:List ZiI):AV:=.p (.sl 4 f (List.map ZeB l))
abbrev ZbE (f:Bool) (l:List Zbd):AV:=.p (.sl 4 f (List.map Zcs l))
abbrev Zar (f:Bool) (l:List Zax):AV:=.p (.sl 4 f (List.map Zap l))
abbrev Zcj (f:Bool) (l:List Zam):AV:=.p (.sl 13 f (List.map Zaf l))
abbrev Za0 (f:Bool) (l:List Zah):AV:=.p (.sl 3 f (List.map Za4 l))
abbrev Zgw (v:ZiI):List AV:=[.p (.int .u8 v.x0),.p (.int .u8 v.x1),.p (.int .u8 v.x2),.p (.int .u8 v.x3)]
abbrev ZaY (v:ZbH):List AV:=[ZcW false v.Periods,ZfV false v.Uses]
abbrev Zbp (v:Zax):List AV:=[iv v.From,iv v.To,iv v.By,iv v.Next]
abbrev ZdK (v:Z7):List AV:=[iv v.Stream,Zar false v.Arms]
abbrev ZaD (v:ZaU):List AV:=[.p (.int .u8 v.Choice),.p (.int .u8 v.Arm),.p (.int .u8 v.What),iv v.N_]
abbrev ZaS (v:ZaJ):List AV:=[iv v.Stream,iv v.Port,iv v.From,iv v.Long]
abbrev Z4 (v:Z6):List AV:=[Zab false v.Periods,Zaj false v.Uses]
abbrev Zad (v:ZbO):List AV:=[Z8 false v.x0,Z8 false v.x1,Z8 false v.x2,Z8 false v.x3]
abbrev ZaF (v:Zag):List AV:=[iv v.x0,iv v.x1,iv v.x2,iv v.x3,iv v.x4,iv v.x5,iv v.x6,iv v.x7,iv v.x8,iv v.x9,iv v.x10,iv v.x11]
def Zag.l (v:Zag):List Int:=[v.x0,v.x1,v.x2,v.x3,v.x4,v.x5,v.x6,v.x7,v.x8,v.x9,v.x10,v.x11]
def Zag.ofL (l:List Int):Zag:=⟨l.getD 0 0,l.getD 1 0,l.getD 2 0,l.getD 3 0,l.getD 4 0,l.getD 5 0,l.getD 6 0,l.getD 7 0,l.getD 8 0,l.getD 9 0,l.getD 10 0,l.getD 11 0⟩
def Zag.get (v:Zag)(i:Int):Option Int:=idx v.l i
def Zag.set (v:Zag)(i:Int)(x:Int):Zag:=Zag.ofL (v.l.set i.toNat x)
theorem Zag.l_ofL (l:List Int)(h:l.length=12):(Zag.ofL l).l=l:=Zph 12 0 l h rfl
theorem Zag.l_set (v:Zag)(i:Int)(x:Int):(v.set i x).l=v.l.set i.toNat x:=Zag.l_ofL _ (by rw [ZI];rfl)
theorem Zag.c_set (v:Zag)(i:Int)(x:Int):ZaF (v.set i x)=(v.l.set i.toNat x).map (λx=>iv x):=by rw [← Zag.l_set];rfl
abbrev Zbq (v:Zah):List AV:=[iv v.Period,iv v.From,iv v.Long]
def Zae (v:Zan):List Int:=[v.i,v.x_,v.j]
instance:KeyE Zan 3 Zae:=⟨λ_=>rfl,λx y h=>by cases x;cases y;simpa [Zae] using h⟩
abbrev Zda (v:Zam):List AV:=([iv v.choice]++(ZaF v.given))
def Zbb (N:Nat)(a0_:ZbH)(i3:Int)(l4:(List Int)):Option ((Int×(List Int))⊕(((List Int)))):=
 (if ((decide (i3<((List.length a0_.Periods:Nat):Int)))&&(decide (i3<5))) then ((idx a0_.Periods i3).bind λa2 =>
 ((idx [4,6,8,12,3,5,10,24] (Int.tmod a2 8)).bind λa1 =>
 ((appI 8 l4 [a1]).bind λa0 =>
 (some (.inl ((w64 (i3+1)),a0)))))) else (some (.inr l4)))
def Zba (N:Nat)(a0_:ZbH)(a4:(List Int))(a2:Int)(a8:(List ZaJ)):Option ((Int×(List ZaJ))⊕(((List ZaJ)))):=
 (((if (decide (a2<((List.length a0_.Uses:Nat):Int))) then (if (decide (a2<12)) then (some (decide (((List.length a4:Nat):Int)>0))) else (some false)) else (some false))).bind λ(aa:Bool) =>
 (if aa then ((idx a0_.Uses a2).bind λa0 =>
 ((remI (w64 (a0.x0)) ((List.length a4:Nat):Int)).bind λa3 =>
 ((idx a4 a3).bind λa1 =>
 ((remI (w64 (a0.x2)) a1).bind λa7 =>
 ((remI (w64 (a0.x3)) a1).bind λa6 =>
 ((remI (Int.tmod a6 4) a1).bind λa5 =>
 ((appI 32 a8 [(ZaJ.mk a3 (w64 ((Int.tmod a0.x1 4))) a7 (w64 (1+a5)))]).bind λa9 =>
 (some (.inl ((w64 (a2+1)),a9)))))))))) else (some (.inr a8))))
def ZbG (N:Nat)(a0_:ZbH):Option (Z6):=
 ((ZaW (λx:Int×(List Int)=>Zbb N a0_ x.1 x.2) N (0,[])).bind λa0 =>
 ((ZaW (λx:Int×(List ZaJ)=>Zba N a0_ a0 x.1 x.2) N (0,[])).bind λa1 =>
 (some (Z6.mk a0 a1))))
def ZcF (N:Nat)(a0_:Z6)(a1_:(List Int))(i3:Int)(l4:(List Int)):Option ((Int×(List Int))⊕(((List Int)))):=
 (if (decide (i3<((List.length a0_.Periods:Nat):Int))) then (((if (decide (i3<((List.length a1_:Nat):Int))) then ((idx a1_ i3).bind λa4 =>
 ((idx a0_.Periods i3).bind λa3 =>
 ((remI (w64 (a4)) a3).bind λa0 =>
 (some a0)))) else (some 0))).bind λ(a2:Int) =>
 ((appI 8 l4 [a2]).bind λa1 =>
 (some (.inl ((w64 (i3+1)),a1))))) else (some (.inr l4)))
def Zey (N:Nat)(a0_:Z6)(a1_:(List Int)):Option ((List Int)):=
 ((ZaW (λx:Int×(List Int)=>ZcF N a0_ a1_ x.1 x.2) N (0,[])).bind λa0 =>
 (some a0))
def Zf3 (N:Nat):Option (Z6):=
 (some (Z6.mk ([2,2]) ([(ZaJ.mk 0 0 0 1),(ZaJ.mk 1 0 0 2)])))
def Zdn (N:Nat)(a1_:(List Zbd))(i3:Int)(l4:(List Zax)):Option ((Int×(List Zax))⊕(((List Zax)))):=
 (if (decide (i3<((List.length a1_:Nat):Int))) then ((idx a1_ i3).bind λa4 =>
 ((idx a1_ i3).bind λa3 =>
 ((idx a1_ i3).bind λa2 =>
 ((idx a1_ i3).bind λa1 =>
 ((appI 32 l4 [(Zax.mk a4.x0 a3.x1 a2.x2 a1.x3)]).bind λa0 =>
 (some (.inl ((w64 (i3+1)),a0)))))))) else (some (.inr l4)))
def ZbT (N:Nat)(a0_:Int)(a1_:(List Zbd)):Option (Z7):=
 ((ZaW (λx:Int×(List Zax)=>Zdn N a1_ x.1 x.2) N (0,[])).bind λa0 =>
 (some (Z7.mk a0_ a0)))
def Zc6 (N:Nat)(a0_:(List Z7))(i3:Int)(l4:(List Z7)):Option ((Int×(List Z7))⊕(((List Z7)))):=
 (if ((decide (i3<((List.length a0_:Nat):Int)))&&(decide (i3<40))) then ((idx a0_ i3).bind λa4 =>
 ((idx a0_ i3).bind λa3 =>
 ((idx a0_ i3).bind λa0 =>
 ((subI a3.Arms 0 (if 30<((List.length a0.Arms:Nat):Int) then 30 else ((List.length a0.Arms:Nat):Int))).bind λa2 =>
 ((appI 32 l4 [(Z7.mk a4.Stream a2)]).bind λa1 =>
 (some (.inl ((w64 (i3+1)),a1)))))))) else (some (.inr l4)))
def Zec (N:Nat)(a0_:(List Z7)):Option ((List Z7)):=
 ((ZaW (λx:Int×(List Z7)=>Zc6 N a0_ x.1 x.2) N (0,[])).bind λa0 =>
 (some a0))
def Zc1 (N:Nat)(a0_:Z7)(a1_:Int)(i1:Int):Option ((Int)⊕((Int×Int×Int×Int))):=
 (if (decide (i1<((List.length a0_.Arms:Nat):Int))) then ((idx a0_.Arms i1).bind λa0 =>
 (if (decide (a1_<a0.To)) then (some (.inr (a0.From,a0.To,a0.By,a0.Next))) else (some (.inl (w64 (i1+1)))))) else (some (.inr (0,0,0,0))))
def Zfb (N:Nat)(a0_:Z7)(a1_:Int):Option (Zax):=
 ((ZaW (λx:Int=>Zc1 N a0_ a1_ x) N 0).bind λa0 =>
 (some (Zax.mk a0.1 a0.2.1 a0.2.2.1 a0.2.2.2)))
def Zez (N:Nat)(a0_:Int)(a1_:Int):Option (Int):=
 ((remI a0_ a1_).bind λm1 =>
 ((remI (w64 (m1+a1_)) a1_).bind λm2 =>
 (some m2)))
def ZcX (N:Nat)(a0_:Z6)(a1_:Int)(a2_:Int):Option (Bool):=
 (((if (decide (a2_≥0)) then ((idx a0_.Periods a1_).bind λe2=>(some (decide (a2_<e2)))) else (some false))).bind λ(j4:Bool) =>
 (some j4))
def Zdj (N:Nat)(a0_:Z6):Option (Z6×(List (Zan×Bool))):=
 (some (a0_,[]))
def ZbP {σ:Type}(N:Nat)(y_:σ->Int->Int->Int->Int->Option (σ×Bool))(a1_:Int)(a2_:Zag)(a3_:Zax)(i8:Int)(g9:σ):Option ((Int×σ)⊕((σ)⊕(σ×Bool))):=
 (if (decide (i8<a3_.To)) then ((a2_.get a3_.By).bind λa2 =>
 (((if (a3_.By==a1_) then (some i8) else (some a2))).bind λ(a1:Int) =>
 ((y_ g9 a1_ i8 a3_.By a1).bind λa0 =>
 (if (!a0.2) then (some (.inr (.inr (a0.1,false)))) else (some (.inl ((w64 (i8+1)),a0.1))))))) else (some (.inr (.inl g9))))
def Zdi {σ:Type}(N:Nat)(y_:σ->Int->Int->Int->Int->Option (σ×Bool))(a1_:Int)(a2_:Zag)(a3_:Zax)(s_:σ):Option (σ×Bool):=
 (((if (a3_.By != a1_) then ((a2_.get a3_.By).bind λe2=>(some (e2==(-1)))) else (some false))).bind λ(j4:Bool) =>
 (if j4 then (some (s_,false)) else ((ZaW (λx:Int×σ=>ZbP N y_ a1_ a2_ a3_ x.1 x.2) N (a3_.From,s_)).bind λa2=>match a2 with
 | (.inl a1)=>(some (a1,true))
 | (.inr a0)=>(some a0))))
def Zkt (N:Nat)(a0_:(List Int))(i1:Int)(a4:Bool)(a0:Int):Option ((Bool×Int)⊕((Bool))):=
 (if (decide (a0<((List.length a0_:Nat):Int))) then (((if a4 then ((idx a0_ a0).bind λa3=>((remI i1 a3).bind λa1=>(if (a1==0) then (some true) else (some false)))) else (some false))).bind λ(a2:Bool) =>
 (some (.inl (a2,(w64 (a0+1)))))) else (some (.inr a4)))
def Zku (N:Nat)(a0_:(List Int))(i1:Int):Option ((Int)⊕((Unit)⊕(Int))):=
 (if (decide (i1<=960)) then ((ZaW (λx:Bool×Int=>Zkt N a0_ i1 x.1 x.2) N (true,0)).bind λa0 =>
 (if a0 then (some (.inr (.inr i1))) else (some (.inl (w64 (i1+1)))))) else (some (.inr (.inl ()))))
def Znl (N:Nat)(a0_:(List Int)):Option (Int):=
 ((ZaW (λx:Int=>Zku N a0_ x) N 1).bind λa1=>match a1 with
 | (.inl a2)=>(some 0)
 | (.inr a0)=>(some a0))
def ZjO (N:Nat)(a0_:Z6)(a1_:(List Z7))(a2_:Int)(e1:Z7)(i2:Int)(i3:Int):Option ((Int×Int)⊕((Int)⊕(Bool))):=
 (if (decide (i3<((List.length e1.Arms:Nat):Int))) then ((idx e1.Arms i3).bind λa0 =>
 (((if (a0.From != i2) then (some true) else (if (decide (a0.To<=a0.From)) then (some true) else ((idx a1_ a2_).bind λa3=>((idx a0_.Periods a3.Stream).bind λa2=>(if (decide (a0.To>a2)) then (some true) else (if (decide (a0.By<(-2))) then (some true) else (some (decide (a0.By≥((List.length a0_.Periods:Nat):Int))))))))))).bind λ(a1:Bool) =>
 (if a1 then (some (.inr (.inr false))) else (if (a0.By==(-1)) then (if ((a0.To != (w64 (a0.From+1)))||((decide (a0.Next<=a2_))||(decide (a0.Next≥((List.length a1_:Nat):Int))))) then (some (.inr (.inr false))) else (some (.inl (a0.To,(w64 (i3+1)))))) else (if (a0.By==(-2)) then (if ((a2_ != 0)||((a0.From==0)||(a0.Next != 0))) then (some (.inr (.inr false))) else (some (.inl (a0.To,(w64 (i3+1)))))) else (if (a0.Next != 0) then (some (.inr (.inr false))) else (some (.inl (a0.To,(w64 (i3+1))))))))))) else (some (.inr (.inl i2))))
def Zpv (N:Nat)(a0_:Z6)(a1_:(List Z7))(a2_:Int):Option (Bool):=
 ((idx a1_ a2_).bind λe1 =>
 ((ZaW (λx:Int×Int=>ZjO N a0_ a1_ a2_ e1 x.1 x.2) N (0,0)).bind λa2=>match a2 with
 | (.inl a1)=>(((if (decide (((List.length e1.Arms:Nat):Int)>0)) then ((idx a1_ a2_).bind λa5=>((idx a0_.Periods a5.Stream).bind λa4=>(some (a1==a4)))) else (some false))).bind λ(a3:Bool) =>
 (some a3))
 | (.inr a0)=>(some a0)))
def Zft (N:Nat)(a0_:Z6)(a1_:Int)(a2_:Int):Option (Z6×Int×Int):=
 (some (a0_,a1_,a2_))
def ZcG (N:Nat)(a0_:Z6)(a1_:ZaJ)(a2_:Int):Option (Zah):=
 ((idx a0_.Periods a1_.Stream).bind λe1 =>
 ((remI (w64 (a1_.From+a2_)) e1).bind λm2 =>
 (some (Zah.mk e1 m2 a1_.Long))))
def ZcP (N:Nat)(a0_:Z6)(a1_:(List Z7))(a2_:Int)(a3_:Zax):Option (Bool):=
 (if (a3_.By==(-1)) then (some ((a3_.To==(w64 (a3_.From+1)))&&((decide (a3_.Next>a2_))&&(decide (a3_.Next<((List.length a1_:Nat):Int)))))) else (if (a3_.Next != 0) then (some false) else (if (a3_.By==(-2)) then (some ((a2_==0)&&(a3_.From != 0))) else (some ((decide (a3_.By≥0))&&(decide (a3_.By<((List.length a0_.Periods:Nat):Int))))))))
def Zfr (N:Nat)(a0_:Z6)(a1_:Int)(a2_:Int):Option (Zah):=
 ((idx a0_.Uses a1_).bind λe1 =>
 ((idx a0_.Periods e1.Stream).bind λe2 =>
 ((idx a0_.Uses a1_).bind λe3 =>
 ((remI (w64 (e3.From+a2_)) e2).bind λm4 =>
 ((idx a0_.Uses a1_).bind λe5 =>
 (some (Zah.mk e2 m4 e5.Long)))))))
def Zb4 {σ:Type}(N:Nat)(y_:σ->ZaJ->ZaJ->Option (σ×Bool))(c0_:Z6)(c2_:Int)(i4:Int)(a5:ZaJ)(a1:Int)(a3:σ):Option ((Int×σ)⊕((σ)⊕(σ))):=
 (if (decide (a1<((List.length c0_.Uses:Nat):Int))) then ((idx c0_.Uses a1).bind λa2 =>
 (((if (a1==i4) then (some true) else (if (a2.Stream != c2_) then (some true) else (some (a2.Port != a5.Port))))).bind λ(a4:Bool) =>
 (if a4 then (some (.inl ((w64 (a1+1)),a3))) else ((y_ a3 a5 a2).bind λa0 =>
 (if (!a0.2) then (some (.inr (.inr a0.1))) else (some (.inl ((w64 (a1+1)),a0.1)))))))) else (some (.inr (.inl a3))))
def Zb5 {σ:Type}(N:Nat)(y_:σ->ZaJ->ZaJ->Option (σ×Bool))(c0_:Z6)(c1_:Int)(c2_:Int)(i4:Int)(g5:σ):Option ((Int×σ)⊕((σ)⊕(σ))):=
 (if (decide (i4<((List.length c0_.Uses:Nat):Int))) then ((idx c0_.Uses i4).bind λa3 =>
 (if (a3.Stream != c1_) then (some (.inl ((w64 (i4+1)),g5))) else ((ZaW (λx:Int×σ=>Zb4 N y_ c0_ c2_ i4 a3 x.1 x.2) N (0,g5)).bind λa2=>match a2 with
 | (.inl a1)=>(some (.inl ((w64 (i4+1)),a1)))
 | (.inr a0)=>(some (.inr (.inr a0)))))) else (some (.inr (.inl g5))))
def ZdI {σ:Type}(N:Nat)(y_:σ->ZaJ->ZaJ->Option (σ×Bool))(c0_:Z6)(c1_:Int)(c2_:Int)(s_:σ):Option (σ):=
 ((ZaW (λx:Int×σ=>Zb5 N y_ c0_ c1_ c2_ x.1 x.2) N (0,s_)).bind λa2=>match a2 with
 | (.inl a1)=>(some a1)
 | (.inr a0)=>(some a0))
def Zcb (N:Nat)(a0_:Zah):Option (Int):=
 (if ((decide (a0_.Period<1))||((decide (a0_.Period>960))||((decide (a0_.From<0))||(decide (a0_.From≥a0_.Period))))) then (some 330) else (if ((decide (a0_.Long<1))||(decide (a0_.Long>a0_.Period))) then (some 330) else (some 0)))
def Zbe (N:Nat)(a0_:(List Zah))(i2:Int):Option ((Int)⊕((Unit)⊕(Int))):=
 (if (decide (i2<((List.length a0_:Nat):Int))) then ((idx a0_ i2).bind λa1 =>
 ((Zcb N a1).bind λa0 =>
 (if (a0 != 0) then (some (.inr (.inr a0))) else (some (.inl (w64 (i2+1))))))) else (some (.inr (.inl ()))))
def Zch (N:Nat)(a0_:(List Zah)):Option (Int):=
 (if (decide (((List.length a0_:Nat):Int)>32)) then (some 3) else ((ZaW (λx:Int=>Zbe N a0_ x) N 0).bind λa1=>match a1 with
 | (.inl a2)=>(some 0)
 | (.inr a0)=>(some a0)))
def Zb9 (N:Nat)(a0_:Int)(a1_:Int)(i1:Int):Option ((Int)⊕((Unit)⊕(Int))):=
 (if (decide (i1>1)) then ((((remI a0_ i1).bind λa1=>(if (a1==0) then ((remI a1_ i1).bind λa0=>(some (a0==0))) else (some false)))).bind λ(a2:Bool) =>
 (if a2 then (some (.inr (.inr i1))) else (some (.inl (w64 (i1-1)))))) else (some (.inr (.inl ()))))
def Zfa (N:Nat)(a0_:Int)(a1_:Int):Option (Int):=
 ((ZaW (λx:Int=>Zb9 N a0_ a1_ x) N a0_).bind λa1=>match a1 with
 | (.inl a2)=>(some 1)
 | (.inr a0)=>(some a0))
def Ze9 (N:Nat)(a0_:Int)(a1_:Int):Option (Int):=
 ((remI a0_ a1_).bind λm1 =>
 (((if (decide (m1<0)) then (some (w64 (m1+a1_))) else (some m1))).bind λ(a0:Int) =>
 (some a0)))
def Zd8 (N:Nat)(a0_:Int)(a1_:Int):Option (Int):=
 ((remI a0_ a1_).bind λm1 =>
 ((remI (w64 (m1+a1_)) a1_).bind λm2 =>
 (some m2)))
def ZbU (N:Nat)(i1:Int)(i2:Int):Option ((Int×Int)⊕((Int))):=
 (if (i2 != 0) then ((remI i1 i2).bind λa0 =>
 (some (.inl (i2,a0)))) else (some (.inr i1)))
def Zdw (N:Nat)(a0_:Int)(a1_:Int):Option (Int):=
 ((ZaW (λx:Int×Int=>ZbU N x.1 x.2) N (a0_,a1_)).bind λa0 =>
 (some a0))
def ZiN (N:Nat)(a0_:Z6)(i4:Int):Option ((Int)⊕((Unit)⊕(Bool))):=
 (if (decide (i4<((List.length a0_.Periods:Nat):Int))) then ((((idx a0_.Periods i4).bind λa2=>(if (decide (a2<1)) then (some true) else ((idx a0_.Periods i4).bind λa1=>(some (decide (a1>240))))))).bind λ(a0:Bool) =>
 (if a0 then (some (.inr (.inr false))) else (some (.inl (w64 (i4+1)))))) else (some (.inr (.inl ()))))
def ZiM (N:Nat)(a0_:Z6)(a1:Int):Option ((Int)⊕((Unit)⊕(Bool))):=
 (if (decide (a1<((List.length a0_.Uses:Nat):Int))) then ((idx a0_.Uses a1).bind λa0 =>
 (if ((decide (a0.Stream<0))||((decide (a0.Stream≥((List.length a0_.Periods:Nat):Int)))||((decide (a0.Port<0))||(decide (a0.Port≥48))))) then (some (.inr (.inr false))) else (((if (decide (a0.From<0)) then (some true) else ((idx a0_.Periods a0.Stream).bind λa4=>(if (decide (a0.From≥a4)) then (some true) else (if (decide (a0.Long<1)) then (some true) else ((idx a0_.Periods a0.Stream).bind λa3=>(some (decide (a0.Long>a3))))))))).bind λ(a2:Bool) =>
 (if a2 then (some (.inr (.inr false))) else (some (.inl (w64 (a1+1)))))))) else (some (.inr (.inl ()))))
def Zpa (N:Nat)(a0_:Z6):Option (Bool):=
 (if ((decide (((List.length a0_.Periods:Nat):Int)>12))||(decide (((List.length a0_.Uses:Nat):Int)>192))) then (some false) else ((ZaW (λx:Int=>ZiN N a0_ x) N 0).bind λa4=>match a4 with
 | (.inl a6)=>((ZaW (λx:Int=>ZiM N a0_ x) N 0).bind λa3=>match a3 with
 | (.inl a5)=>((Znl N a0_.Periods).bind λa0 =>
 (some (decide (a0>0))))
 | (.inr a2)=>(some a2))
 | (.inr a1)=>(some a1)))
def Zcq (N:Nat)(a0_:Z6)(a1_:(List Z7))(a2_:Int)(e2:Int)(e3:Z7)(i4:Int)(i5:Int):Option ((Int×Int)⊕((Int)⊕(Bool))):=
 (if (decide (i5<((List.length e3.Arms:Nat):Int))) then ((idx e3.Arms i5).bind λa0 =>
 (((if (a0.From != i4) then (some true) else (if (decide (a0.To<=a0.From)) then (some true) else (if (decide (a0.To>e2)) then (some true) else ((ZcP N a0_ a1_ a2_ a0).bind λa1=>(some (!a1))))))).bind λ(a2:Bool) =>
 (if a2 then (some (.inr (.inr false))) else (some (.inl (a0.To,(w64 (i5+1)))))))) else (some (.inr (.inl i4))))
def Zea (N:Nat)(a0_:Z6)(a1_:(List Z7))(a2_:Int):Option (Bool):=
 ((idx a1_ a2_).bind λe1 =>
 ((idx a0_.Periods e1.Stream).bind λe2 =>
 ((idx a1_ a2_).bind λe3 =>
 ((ZaW (λx:Int×Int=>Zcq N a0_ a1_ a2_ e2 e3 x.1 x.2) N (0,0)).bind λa2=>match a2 with
 | (.inl a1)=>(some (a1==e2))
 | (.inr a0)=>(some a0)))))
def Za8 (N:Nat)(a0_:Zah)(a1_:Zah)(r1:Int)(i2:Int):Option ((Int)⊕((Unit)⊕(Bool))):=
 (if (decide (i2<a0_.Long)) then ((Ze9 N (w64 ((w64 (a1_.From-a0_.From))-i2)) r1).bind λa0 =>
 (if (a0==0) then (some (.inr (.inr false))) else (some (.inl (w64 (i2+1)))))) else (some (.inr (.inl ()))))
def Zco (N:Nat)(a0_:Zah)(a1_:Zah):Option (Bool):=
 ((Zfa N a0_.Period a1_.Period).bind λr1 =>
 ((ZaW (λx:Int=>Za8 N a0_ a1_ r1 x) N (w64 (1-a1_.Long))).bind λa1=>match a1 with
 | (.inl a2)=>(some true)
 | (.inr a0)=>(some a0)))
def Zbj (N:Nat)(a0_:Int)(a1_:(List Int))(i1:Int)(i2:Int):Option ((Int×Int)⊕((Int))):=
 (if (decide (i2<((List.length a1_:Nat):Int))) then ((idx a1_ i2).bind λa0 =>
 ((Zdw N i1 a0).bind λa2 =>
 ((quoI .i64 i1 a2).bind λa1 =>
 (if (decide ((w64 (a1*a0))>a0_)) then (some (.inr (w64 (a1*a0)))) else (some (.inl ((w64 (a1*a0)),(w64 (i2+1))))))))) else (some (.inr i1)))
def ZdG (N:Nat)(a0_:Int)(a1_:(List Int)):Option (Int):=
 ((ZaW (λx:Int×Int=>Zbj N a0_ a1_ x.1 x.2) N (1,0)).bind λa0 =>
 (some a0))
def ZdF (N:Nat)(a0_:Zah)(a1_:Zah):Option (Int×Int×Int):=
 ((Zdw N a0_.Period a1_.Period).bind λr1 =>
 (some (a0_.Long,(w64 (r1-a1_.Long)),r1)))
def ZbJ (N:Nat)(a4:Z7)(a2:Int)(a1:(List Int)):Option ((Int×(List Int))⊕(((List Int)))):=
 (if (decide (a2<((List.length a4.Arms:Nat):Int))) then ((((idx a4.Arms a2).bind λa0 =>
 (if (a0.By==(-1)) then ((idx a1 a0.Next).bind λa5 =>
 ((idx a1 a0.Next).bind λa6 =>
 (some (List.set a1 (Int.toNat a0.Next) (w64 (a5+1)))))) else (some a1)))).bind λ(a3:(List Int)) =>
 (some (.inl ((w64 (a2+1)),a3)))) else (some (.inr a1)))
def ZbK (N:Nat)(a0_:Z6)(a1_:(List Z7))(i9:Int)(a4:(List Int)):Option ((Int×(List Int))⊕(((List Int))⊕(Bool))):=
 (if (decide (i9<((List.length a1_:Nat):Int))) then ((idx a1_ i9).bind λa0 =>
 (((if (decide (a0.Stream<0)) then (some true) else (if (decide (a0.Stream≥((List.length a0_.Periods:Nat):Int))) then (some true) else ((Zea N a0_ a1_ i9).bind λa2=>(some (!a2)))))).bind λ(a3:Bool) =>
 (if a3 then (some (.inr (.inr false))) else ((ZaW (λx:Int×(List Int)=>ZbJ N a0 x.1 x.2) N (0,a4)).bind λa1 =>
 (some (.inl ((w64 (i9+1)),a1))))))) else (some (.inr (.inl a4))))
def Zb3 (N:Nat)(a1:List Int)(a0:Int):Option ((Int)⊕((Unit)⊕(Bool))):=
 (if (decide (a0<((List.length a1:Nat):Int))) then ((idx a1 a0).bind λa2 =>
 (if (a2 != 1) then (some (.inr (.inr false))) else (some (.inl (w64 (a0+1)))))) else (some (.inr (.inl ()))))
def ZdH (N:Nat)(a0_:Z6)(a1_:(List Z7)):Option (Bool):=
 (if ((decide (((List.length a1_:Nat):Int)<1))||(decide (((List.length a1_:Nat):Int)>2000))) then (some false) else ((Zii 8 ((List.length a1_:Nat):Int) ((List.length a1_:Nat):Int) 0).bind λl6 =>
 ((ZaW (λx:Int×(List Int)=>ZbK N a0_ a1_ x.1 x.2) N (0,l6)).bind λa4=>match a4 with
 | (.inl a0)=>((subI a0 1 ((List.length a0:Nat):Int)).bind λa5 =>
 ((ZaW (λx:Int=>Zb3 N a5 x) N 0).bind λa3=>match a3 with
 | (.inl a6)=>(some true)
 | (.inr a2)=>(some a2)))
 | (.inr a1)=>(some a1))))
def Zcm (N:Nat)(a0_:Z6)(a1_:Int)(a2_:Int)(a3_:Int)(a4_:Int)(i1:Int)(a0:Int):Option ((Int)⊕((Unit)⊕(Bool))):=
 (if (decide (a0<((List.length a0_.Uses:Nat):Int))) then (((if (i1 != a0) then ((idx a0_.Uses i1).bind λa8=>(if (a8.Stream==a1_) then ((idx a0_.Uses a0).bind λa7=>(if (a7.Stream==a3_) then ((idx a0_.Uses i1).bind λa6=>((idx a0_.Uses a0).bind λa5=>(if (a6.Port==a5.Port) then ((Zfr N a0_ i1 a2_).bind λa3=>((Zfr N a0_ a0 a4_).bind λa2=>((Zco N a3 a2).bind λa1=>(some (!a1))))) else (some false)))) else (some false))) else (some false))) else (some false))).bind λ(a4:Bool) =>
 (if a4 then (some (.inr (.inr true))) else (some (.inl (w64 (a0+1)))))) else (some (.inr (.inl ()))))
def Zcn (N:Nat)(a0_:Z6)(a1_:Int)(a2_:Int)(a3_:Int)(a4_:Int)(i1:Int):Option ((Int)⊕((Unit)⊕(Bool))):=
 (if (decide (i1<((List.length a0_.Uses:Nat):Int))) then ((ZaW (λx:Int=>Zcm N a0_ a1_ a2_ a3_ a4_ i1 x) N 0).bind λa1=>match a1 with
 | (.inl a2)=>(some (.inl (w64 (i1+1))))
 | (.inr a0)=>(some (.inr (.inr a0)))) else (some (.inr (.inl ()))))
def Zdy (N:Nat)(a0_:Z6)(a1_:Int)(a2_:Int)(a3_:Int)(a4_:Int):Option (Bool):=
 ((ZaW (λx:Int=>Zcn N a0_ a1_ a2_ a3_ a4_ x) N 0).bind λa1=>match a1 with
 | (.inl a2)=>(some false)
 | (.inr a0)=>(some a0))
def Zbz (N:Nat)(a0_:(List Zah))(i8:Int)(l9:(List Int)):Option ((Int×(List Int))⊕(((List Int)))):=
 (if (decide (i8<((List.length a0_:Nat):Int))) then ((idx a0_ i8).bind λa0 =>
 ((idx l9 i8).bind λa1 =>
 (some (.inl ((w64 (i8+1)),(List.set l9 (Int.toNat i8) a0.Period)))))) else (some (.inr l9)))
def Zdf (N:Nat)(a0_:(List Zah)):Option (Int×Int):=
 ((Zch N a0_).bind λr1 =>
 (if (r1 != 0) then (some (0,r1)) else ((Zii 8 ((List.length a0_:Nat):Int) ((List.length a0_:Nat):Int) 0).bind λl5 =>
 ((ZaW (λx:Int×(List Int)=>Zbz N a0_ x.1 x.2) N (0,l5)).bind λa1 =>
 ((ZdG N 960 a1).bind λa0 =>
 (if (decide (a0>960)) then (some (0,6)) else (some (a0,0))))))))
def Zde (N:Nat)(a0_:Zah)(a1_:Zah):Option (Bool):=
 (if ((a0_.Period==a1_.Period)&&((a0_.From==a1_.From)&&((a0_.Long==a1_.Long)&&true))) then (some false) else ((ZdF N a0_ a1_).bind λr2 =>
 ((Zd8 N (w64 (a1_.From-a0_.From)) r2.2.2).bind λr3 =>
 (some ((decide (r2.1<=r3))&&(decide (r3<=r2.2.1)))))))
def Zdh (l:List Zax)(b:Int):Option Bool :=
 if (b != -1) then (if decide (((List.length l:Nat):Int)>0) then (idx l (w64 (((List.length l:Nat):Int)-1))).bind λe=>some (e.By==b) else some false) else some false
def Zcc (N:Nat)(p:Z6)(i x:Int)(all:List Int)(j b:Int):Option ((Int×Int)⊕Int):=
 if ((decide (j<=i))&&(b == -1)) then ((idx all j).bind λe=>(Zdy N p i x j e).bind λm=>(if m then some j else some b).bind λb'=>some (.inl (w64 (j+1),b'))) else some (.inr b)
def Zcd (N:Nat)(rec_:Z6->List Z7->List Int->Option (List Z7×Bool))(p:Z6)(given:List Int)(i c:Int)(x:Int)(f:List Z7):Option ((Int×List Z7)⊕(List Z7⊕(List Z7×Bool))):=
 (idx p.Periods i).bind λe =>
 if decide (x<e) then (appI 8 [] given).bind λg=>(appI 8 g [x]).bind λall =>
  (ZaW (λy:Int×Int=>Zcc N p i x all y.1 y.2) N (0,-1)).bind λb0 =>
  (if ((c==0)&&(decide (x>0))) then some (-2) else some b0).bind λb =>
  (idx f c).bind λfc=>(Zdh fc.Arms b).bind λis =>
  if is then (idx fc.Arms (w64 (((List.length fc.Arms:Nat):Int)-1))).bind λla=>some (.inl (w64 (x+1),f.set c.toNat ⟨fc.Stream,fc.Arms.set (w64 (((List.length fc.Arms:Nat):Int)-1)).toNat { la with To:=w64 (x+1) }⟩))
  else (if (b == -1) then (rec_ p f all).bind λr=>if (!r.2) then some (.inr (r.1,0)) else some (.inl (r.1,((List.length f:Nat):Int))) else some (.inl (f,0))).bind λ(q:(List Z7×Int)⊕(List Z7×Int))=>match q with
   | .inr _=>some (.inr (.inr ([],false)))
   | .inl q=>(idx q.1 c).bind λfd=>(appI 32 fd.Arms [⟨x,w64 (x+1),b,q.2⟩]).bind λl=>some (.inl (w64 (x+1),q.1.set c.toNat ⟨fd.Stream,l⟩))
 else some (.inr (.inl f))
def Zcx (N:Nat)(rec_:Z6->List Z7->List Int->Option (List Z7×Bool))(p:Z6)(f:List Z7)(given:List Int):Option (List Z7×Bool):=
 if ((((List.length given:Nat):Int)==((List.length p.Periods:Nat):Int))||(decide (((List.length f:Nat):Int)≥2000))) then some ([],false)
 else (appI 32 f [⟨((List.length given:Nat):Int),[]⟩]).bind λf1 =>
  (ZaW (λy:Int×List Z7=>Zcd N rec_ p given ((List.length given:Nat):Int) ((List.length f:Nat):Int) y.1 y.2) N (0,f1)).bind λo=>match o with
  | .inl f2=>some (f2,true)
  | .inr q=>some q
def Zdx:Nat->Z6->List Z7->List Int->Option (List Z7×Bool)
 | 0=>λ_ _ _=>none
 | N+1=>λp f given=>Zcx N (Zdx N) p f given
def Zex (N:Nat)(p:Z6):Option (List Z7×Bool):=
 if (((List.length p.Periods:Nat):Int)==0) then some ([],false) else (Zdx N p [] []).bind λr=>some (r.1,r.2)
def ZbA (f:List Z7)(i:Int)(out:List Z7):Option ((Int×List Z7)⊕List Z7):=
 if decide (i<((List.length f:Nat):Int)) then (idx f i).bind λe=>(appI 32 [] e.Arms).bind λl=>(appI 32 out [⟨e.Stream,l⟩]).bind λout'=>some (.inl (w64 (i+1),out')) else some (.inr out)
def ZdT (b:ZaU)(out:List Z7)(c k m:Int)(fc:Z7):Option (List Z7):=
 if (m==1) then (idx fc.Arms k).bind λe=>some (out.set c.toNat ⟨fc.Stream,fc.Arms.set k.toNat { e with From:=b.N_ }⟩)
 else if (m==2) then (idx fc.Arms k).bind λe=>some (out.set c.toNat ⟨fc.Stream,fc.Arms.set k.toNat { e with To:=b.N_ }⟩)
 else if (m==3) then (idx fc.Arms k).bind λe=>some (out.set c.toNat ⟨fc.Stream,fc.Arms.set k.toNat { e with By:=b.N_ }⟩)
 else if (m==4) then (idx fc.Arms k).bind λe=>some (out.set c.toNat ⟨fc.Stream,fc.Arms.set k.toNat { e with Next:=b.N_ }⟩)
 else if (m==5) then (idx fc.Arms k).bind λ_=>(appI 32 (fc.Arms.take k.toNat) (fc.Arms.drop (k.toNat+1))).bind λl=>(if w64 (k+1)=k+1 then some l else none).bind λl=>some (out.set c.toNat ⟨fc.Stream,l⟩)
 else if (m==6) then
  (if decide (w64 (k+1)<((List.length fc.Arms:Nat):Int)) then (idx fc.Arms k).bind λe=>(idx (fc.Arms.set k.toNat { e with To:=b.N_ }) (w64 (k+1))).bind λe' =>
   some (out.set c.toNat ⟨fc.Stream,(fc.Arms.set k.toNat { e with To:=b.N_ }).set (w64 (k+1)).toNat { e' with From:=b.N_ }⟩) else some out)
 else appI 32 out [fc]
def Zcg (N:Nat)(b:ZaU)(f:List Z7):Option (List Z7):=
 (ZaW (λx:Int×List Z7=>ZbA f x.1 x.2) N (0,[])).bind λout =>
 if (((List.length out:Nat):Int)==0) then some out else
 (remI (w64 b.Choice) ((List.length out:Nat):Int)).bind λc=>(idx out c).bind λfc =>
 (remI b.What 8).bind λm =>
 if ((m==0)||(((List.length fc.Arms:Nat):Int)==0)) then some (out.set c.toNat ⟨b.N_,fc.Arms⟩) else
 (remI (w64 b.Arm) ((List.length fc.Arms:Nat):Int)).bind λk=>ZdT b out c k m fc
def Zcl (N:Nat)(a0_:Z6)(a3_:Zag)(e1:Z7)(a0:Zax)(a1:Int):Option ((Int)⊕((Unit)⊕(Bool))):=
 (if ((decide (a1<a0.To))&&(decide (a0.By≥0))) then ((a3_.get a0.By).bind λa5 =>
 (((if (a0.By==e1.Stream) then (some a1) else (some a5))).bind λ(a2:Int) =>
 (((if (decide (a2<0)) then (some true) else ((Zdy N a0_ e1.Stream a1 a0.By a2).bind λa3=>(some (!a3))))).bind λ(a4:Bool) =>
 (if a4 then (some (.inr (.inr false))) else (some (.inl (w64 (a1+1)))))))) else (some (.inr (.inl ()))))
def Zer (N:Nat)(rec_:Z6->((List Z7))->Int->Zag->Option (Bool))(a0_:Z6)(a1_:(List Z7))(a2_:Int)(a3_:Zag)(e1:Z7)(i4:Int):Option ((Int)⊕((Unit)⊕(Bool))):=
 ((idx a1_ a2_).bind λa5 =>
 (if (decide (i4<((List.length a5.Arms:Nat):Int))) then ((idx a1_ a2_).bind λa4 =>
 ((idx a4.Arms i4).bind λa0 =>
 (if (a0.By==(-1)) then ((a3_.get e1.Stream).bind λa7 =>
 ((rec_ a0_ a1_ a0.Next (Zag.set a3_ e1.Stream a0.From)).bind λa3 =>
 (if (!a3) then (some (.inr (.inr false))) else (some (.inl (w64 (i4+1))))))) else ((ZaW (λx:Int=>Zcl N a0_ a3_ e1 a0 x) N a0.From).bind λa2=>match a2 with
 | (.inl a6)=>(some (.inl (w64 (i4+1))))
 | (.inr a1)=>(some (.inr (.inr a1))))))) else (some (.inr (.inl ())))))
def ZeO (N:Nat)(rec_:Z6->((List Z7))->Int->Zag->Option (Bool))(a0_:Z6)(a1_:(List Z7))(a2_:Int)(a3_:Zag):Option (Bool):=
 ((idx a1_ a2_).bind λe1 =>
 ((a3_.get e1.Stream).bind λe2 =>
 (if (decide (e2≥0)) then (some false) else ((ZaW (λx:Int=>Zer N rec_ a0_ a1_ a2_ a3_ e1 x) N 0).bind λa1=>match a1 with
 | (.inl a2)=>(some true)
 | (.inr a0)=>(some a0)))))
def ZfY:Nat->Z6->((List Z7))->Int->Zag->Option (Bool)
 | 0=>λ_ _ _ _=>none
 | N+1=>λa0_ a1_ a2_ a3_=>ZeO N (ZfY N) a0_ a1_ a2_ a3_
def Zce (N:Nat)(a0_:(List Int))(i6:Int)(l7:(List Zah)):Option ((Int×(List Zah))⊕(((List Zah)))):=
 (if (decide (i6<((List.length a0_:Nat):Int))) then ((idx a0_ i6).bind λa0 =>
 ((idx l7 i6).bind λa1 =>
 (some (.inl ((w64 (i6+1)),(List.set l7 (Int.toNat i6) (Zah.mk a0 0 1))))))) else (some (.inr l7)))
def Zd1 (N:Nat)(a0_:(List Int)):Option (Int×Int):=
 ((Zii 24 ((List.length a0_:Nat):Int) ((List.length a0_:Nat):Int) (Zah.mk 0 0 0)).bind λl3 =>
 ((ZaW (λx:Int×(List Zah)=>Zce N a0_ x.1 x.2) N (0,l3)).bind λa1 =>
 ((Zdf N a1).bind λa0 =>
 (some (a0.1,a0.2)))))
def Zdg (N:Nat)(a0_:Zah)(a1_:Zah):Option (Bool×Int):=
 ((Zcb N a0_).bind λr1 =>
 (if (r1 != 0) then (some (false,r1)) else ((Zcb N a1_).bind λr3 =>
 (if (r3 != 0) then (some (false,r3)) else ((Zde N a0_ a1_).bind λr5 =>
 (some (r5,0)))))))
def ZdJ (N:Nat)(a0_:Z6)(a1_:(List Z7))(a2_:ZaU)(a3_:ZaU):Option (ZbO):=
 ((Zex N a0_).bind λr1 =>
 (((if (!r1.2) then ((Zec N a1_).bind λa5 =>
 (some a5)) else (some r1.1))).bind λ(a0:(List Z7)) =>
 ((Zec N a1_).bind λa4 =>
 ((Zcg N a2_ a0).bind λa3 =>
 ((Zcg N a2_ a0).bind λa2 =>
 ((Zcg N a3_ a2).bind λa1 =>
 (some (ZbO.mk a4 a0 a3 a1))))))))
def ZcJ (N:Nat)(a0_:Z6)(i4:Int):Option ((Int)⊕((Unit)⊕(Int))):=
 (if (decide (i4<((List.length a0_.Periods:Nat):Int))) then ((idx a0_.Periods i4).bind λa0 =>
 (if ((decide (a0<1))||(decide (a0>240))) then (some (.inr (.inr 340))) else (some (.inl (w64 (i4+1)))))) else (some (.inr (.inl ()))))
def ZcI (N:Nat)(a0_:Z6)(a2:Int):Option ((Int)⊕((Unit)⊕(Int))):=
 (if (decide (a2<((List.length a0_.Uses:Nat):Int))) then ((idx a0_.Uses a2).bind λa0 =>
 (if ((decide (a0.Stream<0))||((decide (a0.Stream≥((List.length a0_.Periods:Nat):Int)))||((decide (a0.Port<0))||(decide (a0.Port≥48))))) then (some (.inr (.inr 340))) else ((idx a0_.Periods a0.Stream).bind λa1 =>
 (if ((decide (a0.From<0))||((decide (a0.From≥a1))||((decide (a0.Long<1))||(decide (a0.Long>a1))))) then (some (.inr (.inr 340))) else (some (.inl (w64 (a2+1)))))))) else (some (.inr (.inl ()))))
def Zdz (N:Nat)(a0_:Z6):Option (Int):=
 (if ((decide (((List.length a0_.Periods:Nat):Int)>12))||(decide (((List.length a0_.Uses:Nat):Int)>192))) then (some 340) else ((ZaW (λx:Int=>ZcJ N a0_ x) N 0).bind λa4=>match a4 with
 | (.inl a6)=>((Zd1 N a0_.Periods).bind λa3 =>
 (if (a3.2 != 0) then (some 340) else ((ZaW (λx:Int=>ZcI N a0_ x) N 0).bind λa2=>match a2 with
 | (.inl a5)=>(some 0)
 | (.inr a1)=>(some a1))))
 | (.inr a0)=>(some a0)))
def Zbk (N:Nat)(a0_:Z6)(a2_:Int)(a4_:Int)(b18:Bool)(a1:ZaJ)(a0:ZaJ):Option ((Bool)×Nat):=
 (if ((a1.Stream==a0.Stream)&&((a1.Port==a0.Port)&&((a1.From==a0.From)&&((a1.Long==a0.Long)&&true)))) then (some (true,1)) else ((ZcG N a0_ a1 a2_).bind λa4 =>
 ((ZcG N a0_ a0 a4_).bind λa3 =>
 ((Zdg N a4 a3).bind λa2 =>
 (if (!a2.1) then (some (true,1)) else (some (b18,0)))))))
def ZcH (N:Nat)(a0_:Z6)(a1_:Int)(a2_:Int)(a3_:Int)(a4_:Int):Option (Bool):=
 ((Zft N a0_ a1_ a3_).bind λa1 =>
 ((ZdI N (λ(s:(Bool)×Nat) (a3:ZaJ) (a2:ZaJ)=>ZhH (λv:Bool=>Zbk N a0_ a2_ a4_ v a3 a2) s) a1.1 a1.2.1 a1.2.2 (false,0)).bind λa0 =>
 (if (a0.2==0) then (some false) else (if (a0.2==1) then (some a0.1) else none))))
def Zc5 (N:Nat)(a0_:Z6)(a1_:(List Int))(i4:Int):Option ((Int)⊕((Unit)⊕(Bool×Int))):=
 (if (decide (i4<((List.length a1_:Nat):Int))) then ((idx a1_ i4).bind λa1 =>
 ((ZcX N a0_ i4 a1).bind λa0 =>
 (if (!a0) then (some (.inr (.inr (false,2)))) else (some (.inl (w64 (i4+1))))))) else (some (.inr (.inl ()))))
def Zc3 (N:Nat)(a0_:Z6)(a5:Int)(a4:Int)(a1:List Int)(a0:Int):Option ((Int)⊕((Unit)⊕(Bool×Int))):=
 (if (decide (a0<((List.length a1:Nat):Int))) then ((idx a1 a0).bind λa3 =>
 ((ZcH N a0_ a0 a3 a5 a4).bind λa2 =>
 (if a2 then (some (.inr (.inr (false,0)))) else (some (.inl (w64 (a0+1))))))) else (some (.inr (.inl ()))))
def Zc4 (N:Nat)(a0_:Z6)(a1_:(List Int))(a0:Int):Option ((Int)⊕((Unit)⊕(Bool×Int))):=
 (if (decide (a0<((List.length a1_:Nat):Int))) then ((idx a1_ a0).bind λa4 =>
 ((subI a1_ 0 (w64 (a0+1))).bind λa3 =>
 ((ZaW (λx:Int=>Zc3 N a0_ a0 a4 a3 x) N 0).bind λa2=>match a2 with
 | (.inl a5)=>(some (.inl (w64 (a0+1))))
 | (.inr a1)=>(some (.inr (.inr a1)))))) else (some (.inr (.inl ()))))
def Zbc (N:Nat)(a0_:Z6)(a1_:(List Int)):Option (Bool×Int):=
 ((Zdz N a0_).bind λr1 =>
 (if (r1 != 0) then (some (false,r1)) else (if (((List.length a1_:Nat):Int)!=((List.length a0_.Periods:Nat):Int)) then (some (false,2)) else ((ZaW (λx:Int=>Zc5 N a0_ a1_ x) N 0).bind λa3=>match a3 with
 | (.inl a5)=>((ZaW (λx:Int=>Zc4 N a0_ a1_ x) N 0).bind λa2=>match a2 with
 | (.inl a4)=>(some (true,0))
 | (.inr a1)=>(some a1))
 | (.inr a0)=>(some a0)))))
def ZaH (N:Nat)(a0_:Z6)(a1_:Int)(a2_:Int)(a3_:Int)(a4_:Int):Option (Bool×Int):=
 ((Zdz N a0_).bind λr1 =>
 (if (r1 != 0) then (some (false,r1)) else (if ((decide (a1_<0))||((decide (a1_≥((List.length a0_.Periods:Nat):Int)))||((decide (a3_<0))||(decide (a3_≥((List.length a0_.Periods:Nat):Int)))))) then (some (false,2)) else ((((ZcX N a0_ a1_ a2_).bind λa2=>(if (!a2) then (some true) else ((ZcX N a0_ a3_ a4_).bind λa1=>(if (!a1) then (some true) else (if (a1_==a3_) then (some (a2_ != a4_)) else (some false))))))).bind λ(a3:Bool) =>
 (if a3 then (some (false,2)) else ((ZcH N a0_ a1_ a2_ a3_ a4_).bind λa0 =>
 (some (a0,0))))))))
def ZcM (N:Nat)(i8:Int)(l9:Zag):Option ((Int×Zag)⊕((Zag))):=
 (if (decide (i8<12)) then ((l9.get i8).bind λa0 =>
 (some (.inl ((w64 (i8+1)),(Zag.set l9 i8 (-1)))))) else (some (.inr l9)))
def ZcO (N:Nat)(a3:(List Zam))(a2:Int)(a1:Zag):Option (((List Zam))):=
 ((appI 104 a3 [(Zam.mk a2 a1)]).bind λa0 =>
 (some a0))
def ZcN (N:Nat)(a3:(List Zam))(a1:Int)(a0:Zag):Option (((List Zam))):=
 ((appI 104 a3 [(Zam.mk a1 a0)]).bind λa2 =>
 (some a2))
def Zbt (N:Nat)(r1:Z6×(List (Zan×Bool)))(a3:(List (Zan×Bool)))(a0:Int)(a7:Int)(a1:Int)(a6:Int):Option (((List (Zan×Bool)))×Bool):=
 ((idx r1.1.Periods a0).bind λa8 =>
 ((Zez N (w64 (a7-a6)) a8).bind λa2 =>
 (((if (!(mhas a3 (Zan.mk a0 a2 a1))) then ((ZaH N r1.1 a0 a2 a1 0).bind λa4 =>
 (some (a4.1,(Zf1 a3 (Zan.mk a0 a2 a1) a4.1)))) else (some ((Zny a3 (Zan.mk a0 a2 a1) false),a3)))).bind λ(a5:Bool×(List (Zan×Bool))) =>
 (some (a5.2,a5.1)))))
def ZbW (N:Nat)(r1:Z6×(List (Zan×Bool)))(a5:Zam)(a4:Z7)(a8:Z7)(a2:Int)(a3:(List Zam))(a1:(List (Zan×Bool))):Option ((Int×(List Zam)×(List (Zan×Bool)))⊕(((List Zam)×(List (Zan×Bool)))⊕(Bool))):=
 (if (decide (a2<((List.length a8.Arms:Nat):Int))) then ((idx a8.Arms a2).bind λa0 =>
 (if (a0.By==(-1)) then ((a5.given.get a4.Stream).bind λag =>
 (((λ(s:(List Zam)) (ae:Int) (ad:Zag)=>ZcN N s ae ad) a3 a0.Next (Zag.set a5.given a4.Stream a0.From)).bind λaf =>
 (some (.inl ((w64 (a2+1)),af,a1))))) else (((if (decide (a0.By≥0)) then ((Zdi N (λ(s:(List (Zan×Bool))) (ac:Int) (ab:Int) (aa:Int) (a9:Int)=>Zbt N r1 s ac ab aa a9) a4.Stream a5.given a0 a1).bind λa6=>(some ((!a6.2),a6.1))) else (some (false,a1)))).bind λ(a7:Bool×(List (Zan×Bool))) =>
 (if a7.1 then (some (.inr (.inr false))) else (some (.inl ((w64 (a2+1)),a3,a7.2))))))) else (some (.inr (.inl (a3,a1)))))
def ZbX (N:Nat)(a1_:(List Z7))(r1:Z6×(List (Zan×Bool)))(a0:(List Zam))(a7:(List (Zan×Bool))):Option (((List Zam)×(List (Zan×Bool)))⊕((Unit)⊕(Bool))):=
 (if (decide (((List.length a0:Nat):Int)>0)) then ((idx a0 (w64 (((List.length a0:Nat):Int)-1))).bind λa1 =>
 ((popI a0 (w64 (((List.length a0:Nat):Int)-1))).bind λa6 =>
 ((idx a1_ a1.choice).bind λa3 =>
 ((a1.given.get a3.Stream).bind λa9 =>
 (if (a9 != (-1)) then (some (.inr (.inr false))) else ((idx a1_ a1.choice).bind λa8 =>
 ((ZaW (λx:Int×(List Zam)×(List (Zan×Bool))=>ZbW N r1 a1 a3 a8 x.1 x.2.1 x.2.2) N (0,a6,a7)).bind λa5=>match a5 with
 | (.inl a2)=>(some (.inl (a2.1,a2.2)))
 | (.inr a4)=>(some (.inr (.inr a4)))))))))) else (some (.inr (.inl ()))))
def Zd9 (N:Nat)(a0_:Z6)(a1_:(List Z7)):Option (Bool):=
 ((Zdj N a0_).bind λr1 =>
 ((ZaW (λx:Int×Zag=>ZcM N x.1 x.2) N (0,(Zag.mk 0 0 0 0 0 0 0 0 0 0 0 0))).bind λa5 =>
 (((λ(s:(List Zam)) (a4:Int) (a3:Zag)=>ZcO N s a4 a3) [] 0 a5).bind λa0 =>
 ((ZaW (λx:(List Zam)×(List (Zan×Bool))=>ZbX N a1_ r1 x.1 x.2) N (a0,r1.2)).bind λa2=>match a2 with
 | (.inl a6)=>(some true)
 | (.inr a1)=>(some a1)))))
def ZaK (N:Nat)(a0_:Z6)(a1_:(List Z7)):Option (Int):=
 ((Zdz N a0_).bind λr1 =>
 (if (r1 != 0) then (some r1) else ((ZdH N a0_ a1_).bind λr3 =>
 (if (!r3) then (some 350) else ((Zd9 N a0_ a1_).bind λr5 =>
 (if (!r5) then (some 351) else (some 0)))))))
def Zbf (N:Nat)(a0_:(List Int)):Option ((List Int)):=
 ((neL a0_).bind λu1 =>
 ((appI 8 [] a0_).bind λl4 =>
 (some l4)))
def Zc2 (N:Nat)(a0_:Z6)(a2_:(List Int))(i4:Int):Option ((Int)⊕((Unit)⊕(Int×Int×Int))):=
 (if (decide (i4<((List.length a2_:Nat):Int))) then ((idx a2_ i4).bind λa0 =>
 (((if (decide (a0<0)) then (some true) else ((idx a0_.Periods i4).bind λa2=>(some (decide (a0≥a2)))))).bind λ(a1:Bool) =>
 (if a1 then (some (.inr (.inr (0,0,2)))) else (some (.inl (w64 (i4+1))))))) else (some (.inr (.inl ()))))
def Zcy (N:Nat)(a0_:Z6)(a6:(List Int))(a5:Int)(a0:Int)(a1:(List Int)):Option ((Int×(List Int))⊕(((List Int)))):=
 (if (decide (a0<((List.length a6:Nat):Int))) then ((idx a1 a0).bind λa4 =>
 ((idx a0_.Periods a0).bind λa3 =>
 ((Zez N (w64 (a4-a5)) a3).bind λa2 =>
 ((idx a1 a0).bind λa7 =>
 (some (.inl ((w64 (a0+1)),(List.set a1 (Int.toNat a0) a2)))))))) else (some (.inr a1)))
def Zcz (N:Nat)(a0_:Z6)(a1_:(List Z7))(a4:Int)(a1:(List Int)):Option ((Int×(List Int))⊕((Int×Int))):=
 ((idx a1_ a4).bind λa3 =>
 ((idx a1 a3.Stream).bind λa2 =>
 ((idx a1_ a4).bind λa6 =>
 ((Zfb N a6 a2).bind λa0 =>
 (if (a0.By==(-2)) then ((ZaW (λx:Int×(List Int)=>Zcy N a0_ a1 a2 x.1 x.2) N (0,a1)).bind λa5 =>
 (some (.inl (a4,a5)))) else (if (a0.By==(-1)) then (some (.inl (a0.Next,a1))) else (some (.inr (a3.Stream,a0.By)))))))))
def Za9 (N:Nat)(a0_:Z6)(a1_:(List Z7))(a2_:(List Int)):Option (Int×Int×Int):=
 ((ZaK N a0_ a1_).bind λr1 =>
 (if (r1 != 0) then (some (0,0,r1)) else (if (((List.length a2_:Nat):Int)!=((List.length a0_.Periods:Nat):Int)) then (some (0,0,2)) else ((ZaW (λx:Int=>Zc2 N a0_ a2_ x) N 0).bind λa3=>match a3 with
 | (.inl a4)=>((Zbf N a2_).bind λa2 =>
 ((ZaW (λx:Int×(List Int)=>Zcz N a0_ a1_ x.1 x.2) N (0,a2)).bind λa0 =>
 (some (a0.1,a0.2,0))))
 | (.inr a1)=>(some a1)))))
def Zeb (N:Nat):Option (Bool):=
 ((Zf3 N).bind λr1 =>
 ((ZbT N 0 ([(Zbd.mk 0 1 (-1) 1),(Zbd.mk 1 2 (-2) 0)])).bind λr2 =>
 ((ZbT N 1 ([(Zbd.mk 0 2 0 0)])).bind λr3 =>
 ((ZbT N 0 ([(Zbd.mk 0 2 1 0)])).bind λr4 =>
 ((ZbT N 0 ([(Zbd.mk 0 1 (-1) 1),(Zbd.mk 1 2 (-1) 1)])).bind λr5 =>
 ((ZbT N 1 ([(Zbd.mk 0 2 0 0)])).bind λr6 =>
 ((ZbT N 0 ([(Zbd.mk 0 1 (-1) 1),(Zbd.mk 1 2 (-2) 0)])).bind λr7 =>
 ((ZbT N 1 ([(Zbd.mk 0 1 0 0)])).bind λr8 =>
 ((Za9 N r1 ([r2,r3]) ([1,1])).bind λr9 =>
 ((((ZaK N r1 ([r2,r3])).bind λa3=>(if (a3==0) then ((ZaK N r1 ([r4])).bind λa2=>(if (a2==351) then ((ZaK N r1 ([r5,r6])).bind λa1=>(if (a1==350) then ((ZaK N r1 ([r7,r8])).bind λa0=>(if (a0==350) then (if (r9.1==1) then (if (r9.2.1==0) then (some (r9.2.2==0)) else (some false)) else (some false)) else (some false))) else (some false))) else (some false))) else (some false)))).bind λ(a4:Bool) =>
 (some a4)))))))))))
def ZcU (N:Nat)(a0_:ZbH)(a1_:(List Z7))(a2_:ZaU)(a3_:(List Int)):Option (Bool):=
 ((Zeb N).bind λr1 =>
 (if (!r1) then (some false) else ((ZbG N a0_).bind λr3 =>
 ((Zey N r3 a3_).bind λr4 =>
 ((ZdJ N r3 a1_ a2_ a2_).bind λr5 =>
 ((ZaK N r3 r5.x0).bind λr6 =>
 (if (r6 != 0) then ((ZaK N r3 r5.x1).bind λr8 =>
 (if (r8 != 0) then ((ZaK N r3 r5.x2).bind λbI =>
 (if (bI != 0) then ((ZaK N r3 r5.x3).bind λbG =>
 (if (bG != 0) then (some true) else ((Zbc N r3 r4).bind λbD =>
 ((Za9 N r3 r5.x3 r4).bind λae =>
 (if (bD.1||((bD.2 != 0)||((ae.2.2 != 0)||((decide (ae.1<0))||((decide (ae.2.1<0))||((decide (ae.1≥((List.length r4:Nat):Int)))||(decide (ae.2.1≥((List.length r4:Nat):Int))))))))) then (some false) else ((idx r4 ae.1).bind λbU =>
 ((idx r4 ae.2.1).bind λbT =>
 ((ZaH N r3 ae.1 bU ae.2.1 bT).bind λbC =>
 (if ((!bC.1)||(bC.2 != 0)) then (some false) else (some true)))))))))) else ((Zbc N r3 r4).bind λbB =>
 ((Za9 N r3 r5.x2 r4).bind λad =>
 (if (bB.1||((bB.2 != 0)||((ad.2.2 != 0)||((decide (ad.1<0))||((decide (ad.2.1<0))||((decide (ad.1≥((List.length r4:Nat):Int)))||(decide (ad.2.1≥((List.length r4:Nat):Int))))))))) then (some false) else ((idx r4 ad.1).bind λbR =>
 ((idx r4 ad.2.1).bind λbQ =>
 ((ZaH N r3 ad.1 bR ad.2.1 bQ).bind λbA =>
 (if ((!bA.1)||(bA.2 != 0)) then (some false) else ((ZaK N r3 r5.x3).bind λbE =>
 (if (bE != 0) then (some true) else ((Zbc N r3 r4).bind λbz =>
 ((Za9 N r3 r5.x3 r4).bind λac =>
 (if (bz.1||((bz.2 != 0)||((ac.2.2 != 0)||((decide (ac.1<0))||((decide (ac.2.1<0))||((decide (ac.1≥((List.length r4:Nat):Int)))||(decide (ac.2.1≥((List.length r4:Nat):Int))))))))) then (some false) else ((idx r4 ac.1).bind λbM =>
 ((idx r4 ac.2.1).bind λbL =>
 ((ZaH N r3 ac.1 bM ac.2.1 bL).bind λbw =>
 (if ((!bw.1)||(bw.2 != 0)) then (some false) else (some true))))))))))))))))))) else ((Zbc N r3 r4).bind λbu =>
 ((Za9 N r3 r5.x1 r4).bind λab =>
 (if (bu.1||((bu.2 != 0)||((ab.2.2 != 0)||((decide (ab.1<0))||((decide (ab.2.1<0))||((decide (ab.1≥((List.length r4:Nat):Int)))||(decide (ab.2.1≥((List.length r4:Nat):Int))))))))) then (some false) else ((idx r4 ab.1).bind λbK =>
 ((idx r4 ab.2.1).bind λbJ =>
 ((ZaH N r3 ab.1 bK ab.2.1 bJ).bind λbt =>
 (if ((!bt.1)||(bt.2 != 0)) then (some false) else ((ZaK N r3 r5.x2).bind λaS =>
 (if (aS != 0) then ((ZaK N r3 r5.x3).bind λaR =>
 (if (aR != 0) then (some true) else ((Zbc N r3 r4).bind λaD =>
 ((Za9 N r3 r5.x3 r4).bind λaa =>
 (if (aD.1||((aD.2 != 0)||((aa.2.2 != 0)||((decide (aa.1<0))||((decide (aa.2.1<0))||((decide (aa.1≥((List.length r4:Nat):Int)))||(decide (aa.2.1≥((List.length r4:Nat):Int))))))))) then (some false) else ((idx r4 aa.1).bind λbq =>
 ((idx r4 aa.2.1).bind λbp =>
 ((ZaH N r3 aa.1 bq aa.2.1 bp).bind λaC =>
 (if ((!aC.1)||(aC.2 != 0)) then (some false) else (some true)))))))))) else ((Zbc N r3 r4).bind λaB =>
 ((Za9 N r3 r5.x2 r4).bind λa9 =>
 (if (aB.1||((aB.2 != 0)||((a9.2.2 != 0)||((decide (a9.1<0))||((decide (a9.2.1<0))||((decide (a9.1≥((List.length r4:Nat):Int)))||(decide (a9.2.1≥((List.length r4:Nat):Int))))))))) then (some false) else ((idx r4 a9.1).bind λbm =>
 ((idx r4 a9.2.1).bind λbl =>
 ((ZaH N r3 a9.1 bm a9.2.1 bl).bind λaA =>
 (if ((!aA.1)||(aA.2 != 0)) then (some false) else ((ZaK N r3 r5.x3).bind λaQ =>
 (if (aQ != 0) then (some true) else ((Zbc N r3 r4).bind λaz =>
 ((Za9 N r3 r5.x3 r4).bind λa8 =>
 (if (az.1||((az.2 != 0)||((a8.2.2 != 0)||((decide (a8.1<0))||((decide (a8.2.1<0))||((decide (a8.1≥((List.length r4:Nat):Int)))||(decide (a8.2.1≥((List.length r4:Nat):Int))))))))) then (some false) else ((idx r4 a8.1).bind λbj =>
 ((idx r4 a8.2.1).bind λbi =>
 ((ZaH N r3 a8.1 bj a8.2.1 bi).bind λay =>
 (if ((!ay.1)||(ay.2 != 0)) then (some false) else (some true)))))))))))))))))))))))))))) else ((Zbc N r3 r4).bind λax =>
 ((Za9 N r3 r5.x0 r4).bind λa7 =>
 (if (ax.1||((ax.2 != 0)||((a7.2.2 != 0)||((decide (a7.1<0))||((decide (a7.2.1<0))||((decide (a7.1≥((List.length r4:Nat):Int)))||(decide (a7.2.1≥((List.length r4:Nat):Int))))))))) then (some false) else ((idx r4 a7.1).bind λbf =>
 ((idx r4 a7.2.1).bind λbe =>
 ((ZaH N r3 a7.1 bf a7.2.1 be).bind λaw =>
 (if ((!aw.1)||(aw.2 != 0)) then (some false) else ((ZaK N r3 r5.x1).bind λaM =>
 (if (aM != 0) then ((ZaK N r3 r5.x2).bind λaL =>
 (if (aL != 0) then ((ZaK N r3 r5.x3).bind λaK =>
 (if (aK != 0) then (some true) else ((Zbc N r3 r4).bind λav =>
 ((Za9 N r3 r5.x3 r4).bind λa6 =>
 (if (av.1||((av.2 != 0)||((a6.2.2 != 0)||((decide (a6.1<0))||((decide (a6.2.1<0))||((decide (a6.1≥((List.length r4:Nat):Int)))||(decide (a6.2.1≥((List.length r4:Nat):Int))))))))) then (some false) else ((idx r4 a6.1).bind λbd =>
 ((idx r4 a6.2.1).bind λbc =>
 ((ZaH N r3 a6.1 bd a6.2.1 bc).bind λau =>
 (if ((!au.1)||(au.2 != 0)) then (some false) else (some true)))))))))) else ((Zbc N r3 r4).bind λar =>
 ((Za9 N r3 r5.x2 r4).bind λa5 =>
 (if (ar.1||((ar.2 != 0)||((a5.2.2 != 0)||((decide (a5.1<0))||((decide (a5.2.1<0))||((decide (a5.1≥((List.length r4:Nat):Int)))||(decide (a5.2.1≥((List.length r4:Nat):Int))))))))) then (some false) else ((idx r4 a5.1).bind λbb =>
 ((idx r4 a5.2.1).bind λba =>
 ((ZaH N r3 a5.1 bb a5.2.1 ba).bind λaq =>
 (if ((!aq.1)||(aq.2 != 0)) then (some false) else ((ZaK N r3 r5.x3).bind λaJ =>
 (if (aJ != 0) then (some true) else ((Zbc N r3 r4).bind λap =>
 ((Za9 N r3 r5.x3 r4).bind λa4 =>
 (if (ap.1||((ap.2 != 0)||((a4.2.2 != 0)||((decide (a4.1<0))||((decide (a4.2.1<0))||((decide (a4.1≥((List.length r4:Nat):Int)))||(decide (a4.2.1≥((List.length r4:Nat):Int))))))))) then (some false) else ((idx r4 a4.1).bind λb2 =>
 ((idx r4 a4.2.1).bind λb1 =>
 ((ZaH N r3 a4.1 b2 a4.2.1 b1).bind λao =>
 (if ((!ao.1)||(ao.2 != 0)) then (some false) else (some true))))))))))))))))))) else ((Zbc N r3 r4).bind λan =>
 ((Za9 N r3 r5.x1 r4).bind λa3 =>
 (if (an.1||((an.2 != 0)||((a3.2.2 != 0)||((decide (a3.1<0))||((decide (a3.2.1<0))||((decide (a3.1≥((List.length r4:Nat):Int)))||(decide (a3.2.1≥((List.length r4:Nat):Int))))))))) then (some false) else ((idx r4 a3.1).bind λb0 =>
 ((idx r4 a3.2.1).bind λaZ =>
 ((ZaH N r3 a3.1 b0 a3.2.1 aZ).bind λam =>
 (if ((!am.1)||(am.2 != 0)) then (some false) else ((ZaK N r3 r5.x2).bind λaI =>
 (if (aI != 0) then ((ZaK N r3 r5.x3).bind λaG =>
 (if (aG != 0) then (some true) else ((Zbc N r3 r4).bind λal =>
 ((Za9 N r3 r5.x3 r4).bind λa2 =>
 (if (al.1||((al.2 != 0)||((a2.2.2 != 0)||((decide (a2.1<0))||((decide (a2.2.1<0))||((decide (a2.1≥((List.length r4:Nat):Int)))||(decide (a2.2.1≥((List.length r4:Nat):Int))))))))) then (some false) else ((idx r4 a2.1).bind λaY =>
 ((idx r4 a2.2.1).bind λaX =>
 ((ZaH N r3 a2.1 aY a2.2.1 aX).bind λak =>
 (if ((!ak.1)||(ak.2 != 0)) then (some false) else (some true)))))))))) else ((Zbc N r3 r4).bind λaj =>
 ((Za9 N r3 r5.x2 r4).bind λa1 =>
 (if (aj.1||((aj.2 != 0)||((a1.2.2 != 0)||((decide (a1.1<0))||((decide (a1.2.1<0))||((decide (a1.1≥((List.length r4:Nat):Int)))||(decide (a1.2.1≥((List.length r4:Nat):Int))))))))) then (some false) else ((idx r4 a1.1).bind λaW =>
 ((idx r4 a1.2.1).bind λaV =>
 ((ZaH N r3 a1.1 aW a1.2.1 aV).bind λai =>
 (if ((!ai.1)||(ai.2 != 0)) then (some false) else ((ZaK N r3 r5.x3).bind λaE =>
 (if (aE != 0) then (some true) else ((Zbc N r3 r4).bind λag =>
 ((Za9 N r3 r5.x3 r4).bind λa0 =>
 (if (ag.1||((ag.2 != 0)||((a0.2.2 != 0)||((decide (a0.1<0))||((decide (a0.2.1<0))||((decide (a0.1≥((List.length r4:Nat):Int)))||(decide (a0.2.1≥((List.length r4:Nat):Int))))))))) then (some false) else ((idx r4 a0.1).bind λaU =>
 ((idx r4 a0.2.1).bind λaT =>
 ((ZaH N r3 a0.1 aU a0.2.1 aT).bind λaf =>
 (if ((!af.1)||(af.2 != 0)) then (some false) else (some true))))))))))))))))))))))))))))))))))))))))))
end Go.Sh

