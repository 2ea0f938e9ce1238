/- Part of the proof. -/
import Derived.Test.YthhhjjjbpcaadaaSolveMoreE18
set_option linter.all false
namespace Go.Sh
open Go Go.Eng
set_option maxRecDepth 100000
structure ZgX where
 x0:Int
 x1:Int
 x2:Int
 x3:Int
def Zdp (v:ZgX):List PC:=[.int .u8 v.x0,.int .u8 v.x1,.int .u8 v.x2,.int .u8 v.x3]
structure Za4 where
 Periods:(List Int)
 Uses:(List ZgX)
def Zh8 (v:Za4):List PC:=[.sl 1 false (List.map (eI .u8) v.Periods),.sl 4 false (List.map Zdp v.Uses)]
structure Zai where
 Stream:Int
 Port:Int
 From:Int
 Long:Int
def ZaT (v:Zai):List PC:=[.int .i64 v.Stream,.int .i64 v.Port,.int .i64 v.From,.int .i64 v.Long]
structure ZZ where
 Periods:(List Int)
 Uses:(List Zai)
structure Zal where
 From:Int
 To:Int
 By:Int
 Next:Int
def Zau (v:Zal):List PC:=[.int .i64 v.From,.int .i64 v.To,.int .i64 v.By,.int .i64 v.Next]
structure Z1 where
 Stream:Int
 Arms:(List Zal)
def Zaj (v:Z1):List PC:=[.int .i64 v.Stream,.sl 4 false (List.map Zau v.Arms)]
structure Z2 where
 Period:Int
 From:Int
 Long:Int
def ZaB (v:Z2):List PC:=[.int .i64 v.Period,.int .i64 v.From,.int .i64 v.Long]
structure Zhh where
 i:Int
 x_:Int
 j:Int deriving DecidableEq
structure Zav where
 x0:Int
 x1:Int
 x2:Int
 x3:Int
 x4:Int
 x5:Int
 x6:Int
 x7:Int
 x8:Int
 x9:Int
 x10:Int
 x11:Int
structure ZaD where
 i:Int
 x_:Int
 j:Int deriving DecidableEq
abbrev Zad (f:Bool) (l:List Int):AV:=.p (.sl 1 f (List.map eI64 l))
abbrev Z3 (f:Bool) (l:List Zai):AV:=.p (.sl 4 f (List.map ZaT l))
abbrev Zjm (f:Bool) (l:List Int):AV:=.p (.sl 1 f (List.map (eI .u8) l))
abbrev Zez (f:Bool) (l:List ZgX):AV:=.p (.sl 4 f (List.map Zdp l))
abbrev Zaa (f:Bool) (l:List Z1):AV:=.p (.sl 2 f (List.map Zaj l))
abbrev Za2 (f:Bool) (l:List Zal):AV:=.p (.sl 4 f (List.map Zau l))
abbrev Zaw (f:Bool) (l:List Z2):AV:=.p (.sl 3 f (List.map ZaB l))
abbrev Ze6 (v:ZgX):List AV:=[.p (.int .u8 v.x0),.p (.int .u8 v.x1),.p (.int .u8 v.x2),.p (.int .u8 v.x3)]
abbrev Zat (v:Za4):List AV:=[Zjm false v.Periods,Zez false v.Uses]
abbrev Zas (v:Zai):List AV:=[iv v.Stream,iv v.Port,iv v.From,iv v.Long]
abbrev ZY (v:ZZ):List AV:=[Zad false v.Periods,Z3 false v.Uses]
abbrev Zbs (v:Zal):List AV:=[iv v.From,iv v.To,iv v.By,iv v.Next]
abbrev Zbh (v:Z2):List AV:=[iv v.Period,iv v.From,iv v.Long]
def ZeY (v:Zhh):List Int:=[v.i,v.x_,v.j]
instance:KeyE Zhh 3 ZeY:=⟨λ_=>rfl,λx y h=>by cases x;cases y;simpa [ZeY] using h⟩
abbrev ZjG (v:Zav):List AV:=[iv v.x0,iv v.x1,iv v.x2,iv v.x3,iv v.x4,iv v.x5,iv v.x6,iv v.x7,iv v.x8,iv v.x9,iv v.x10,iv v.x11]
def Zav.l (v:Zav):List Int:=[v.x0,v.x1,v.x2,v.x3,v.x4,v.x5,v.x6,v.x7,v.x8,v.x9,v.x10,v.x11]
def Zav.ofL (l:List Int):Zav:=⟨l.getD 0 0,l.getD 1 0,l.getD 2 0,l.getD 3 0,l.getD 4 0,l.getD 5 0,l.getD 6 0,l.getD 7 0,l.getD 8 0,l.getD 9 0,l.getD 10 0,l.getD 11 0⟩
def Zav.get (v:Zav)(i:Int):Option Int:=idx v.l i
def Zav.set (v:Zav)(i:Int)(x:Int):Zav:=Zav.ofL (v.l.set i.toNat x)
theorem Zav.l_ofL (l:List Int)(h:l.length=12):(Zav.ofL l).l=l:=Zm3 12 0 l h rfl
theorem Zav.l_set (v:Zav)(i:Int)(x:Int):(v.set i x).l=v.l.set i.toNat x:=Zav.l_ofL _ (by rw [ZC];rfl)
theorem Zav.c_set (v:Zav)(i:Int)(x:Int):ZjG (v.set i x)=(v.l.set i.toNat x).map (λx=>iv x):=by rw [← Zav.l_set];rfl
def ZbK (v:ZaD):List Int:=[v.i,v.x_,v.j]
instance:KeyE ZaD 3 ZbK:=⟨λ_=>rfl,λx y h=>by cases x;cases y;simpa [ZbK] using h⟩
def ZaH (N:Nat)(a0_:Za4)(i3:Int)(l4:(List Int)):Option ((Int×(List Int))⊕(((List Int)))):=
 (if ((decide (i3<((List.length a0_.Periods:Nat):Int)))&&(decide (i3<5))) then ((idx a0_.Periods i3).bind λa2 =>
 ((idx [4,6,8,12,3,5,10,24] (Int.tmod a2 8)).bind λa1 =>
 ((appI 8 l4 [a1]).bind λa0 =>
 (some (.inl ((w64 (i3+1)),a0)))))) else (some (.inr l4)))
def ZaG (N:Nat)(a0_:Za4)(a4:(List Int))(a2:Int)(a8:(List Zai)):Option ((Int×(List Zai))⊕(((List Zai)))):=
 (((if (decide (a2<((List.length a0_.Uses:Nat):Int))) then (if (decide (a2<12)) then (some (decide (((List.length a4:Nat):Int)>0))) else (some false)) else (some false))).bind λ(aa:Bool) =>
 (if aa then ((idx a0_.Uses a2).bind λa0 =>
 ((remI (w64 (a0.x0)) ((List.length a4:Nat):Int)).bind λa3 =>
 ((idx a4 a3).bind λa1 =>
 ((remI (w64 (a0.x2)) a1).bind λa7 =>
 ((remI (w64 (a0.x3)) a1).bind λa6 =>
 ((remI (Int.tmod a6 4) a1).bind λa5 =>
 ((appI 32 a8 [(Zai.mk a3 (w64 ((Int.tmod a0.x1 4))) a7 (w64 (1+a5)))]).bind λa9 =>
 (some (.inl ((w64 (a2+1)),a9)))))))))) else (some (.inr a8))))
def Za3 (N:Nat)(a0_:Za4):Option (ZZ):=
 ((Zbv (λx:Int×(List Int)=>ZaH N a0_ x.1 x.2) N (0,[])).bind λa0 =>
 ((Zbv (λx:Int×(List Zai)=>ZaG N a0_ a0 x.1 x.2) N (0,[])).bind λa1 =>
 (some (ZZ.mk a0 a1))))
def ZaA (N:Nat)(a0_:(List Int))(a1_:(List Int))(i2:Int):Option ((Int)⊕((Unit)⊕(Bool))):=
 (if (decide (i2<((List.length a0_:Nat):Int))) then ((idx a0_ i2).bind λa1 =>
 ((idx a1_ i2).bind λa0 =>
 (if (a1 != a0) then (some (.inr (.inr false))) else (some (.inl (w64 (i2+1))))))) else (some (.inr (.inl ()))))
def ZaM (N:Nat)(a0_:(List Int))(a1_:(List Int)):Option (Bool):=
 (if (((List.length a0_:Nat):Int)!=((List.length a1_:Nat):Int)) then (some false) else ((Zbv (λx:Int=>ZaA N a0_ a1_ x) N 0).bind λa1=>match a1 with
 | (.inl a2)=>(some true)
 | (.inr a0)=>(some a0)))
def ZbE (N:Nat)(a0_:(List Z1))(a1_:(List Z1))(i2:Int)(a2:Int):Option ((Int)⊕((Unit)⊕(Bool))):=
 ((idx a0_ i2).bind λa5 =>
 (if (decide (a2<((List.length a5.Arms:Nat):Int))) then ((idx a0_ i2).bind λa4 =>
 ((idx a4.Arms a2).bind λa1 =>
 ((idx a1_ i2).bind λa3 =>
 ((idx a3.Arms a2).bind λa0 =>
 (if (!((a1.From==a0.From)&&((a1.To==a0.To)&&((a1.By==a0.By)&&((a1.Next==a0.Next)&&true))))) then (some (.inr (.inr false))) else (some (.inl (w64 (a2+1))))))))) else (some (.inr (.inl ())))))
def ZbF (N:Nat)(a0_:(List Z1))(a1_:(List Z1))(i2:Int):Option ((Int)⊕((Unit)⊕(Bool))):=
 (if (decide (i2<((List.length a0_:Nat):Int))) then ((((idx a0_ i2).bind λa6=>((idx a1_ i2).bind λa5=>(if (a6.Stream != a5.Stream) then (some true) else ((idx a0_ i2).bind λa4=>((idx a1_ i2).bind λa3=>(some (((List.length a4.Arms:Nat):Int)!=((List.length a3.Arms:Nat):Int))))))))).bind λ(a2:Bool) =>
 (if a2 then (some (.inr (.inr false))) else ((Zbv (λx:Int=>ZbE N a0_ a1_ i2 x) N 0).bind λa1=>match a1 with
 | (.inl a7)=>(some (.inl (w64 (i2+1))))
 | (.inr a0)=>(some (.inr (.inr a0)))))) else (some (.inr (.inl ()))))
def ZcC (N:Nat)(a0_:(List Z1))(a1_:(List Z1)):Option (Bool):=
 (if (((List.length a0_:Nat):Int)!=((List.length a1_:Nat):Int)) then (some false) else ((Zbv (λx:Int=>ZbF N a0_ a1_ x) N 0).bind λa1=>match a1 with
 | (.inl a2)=>(some true)
 | (.inr a0)=>(some a0)))
def Zdy (N:Nat)(a0_:Int)(a1_:Int)(a2_:Int):Option (ZZ):=
 (some (ZZ.mk ([4,4,4]) ([(Zai.mk 0 0 0 a0_),(Zai.mk 1 0 0 a1_),(Zai.mk 2 0 0 a2_)])))
def Zcj (N:Nat)(a0_:ZZ)(a1_:Int)(a2_:Int):Option (Bool):=
 (((if (decide (a2_≥0)) then ((idx a0_.Periods a1_).bind λe2=>(some (decide (a2_<e2)))) else (some false))).bind λ(j4:Bool) =>
 (some j4))
def ZiC (N:Nat)(a0_:(List Int))(i1:Int)(a4:Bool)(a0:Int):Option ((Bool×Int)⊕((Bool))):=
 (if (decide (a0<((List.length a0_:Nat):Int))) then (((if a4 then ((idx a0_ a0).bind λa3=>((remI i1 a3).bind λa1=>(if (a1==0) then (some true) else (some false)))) else (some false))).bind λ(a2:Bool) =>
 (some (.inl (a2,(w64 (a0+1)))))) else (some (.inr a4)))
def ZiD (N:Nat)(a0_:(List Int))(i1:Int):Option ((Int)⊕((Unit)⊕(Int))):=
 (if (decide (i1<=960)) then ((Zbv (λx:Bool×Int=>ZiC N a0_ i1 x.1 x.2) N (true,0)).bind λa0 =>
 (if a0 then (some (.inr (.inr i1))) else (some (.inl (w64 (i1+1)))))) else (some (.inr (.inl ()))))
def Znk (N:Nat)(a0_:(List Int)):Option (Int):=
 ((Zbv (λx:Int=>ZiD N a0_ x) N 1).bind λa1=>match a1 with
 | (.inl a2)=>(some 0)
 | (.inr a0)=>(some a0))
def Zd7 (N:Nat)(a0_:ZZ)(a1_:Int)(a2_:Int):Option (ZZ×Int×Int):=
 (some (a0_,a1_,a2_))
def ZbG (N:Nat)(a0_:ZZ)(a1_:Zai)(a2_:Int):Option (Z2):=
 ((idx a0_.Periods a1_.Stream).bind λe1 =>
 ((remI (w64 (a1_.From+a2_)) e1).bind λm2 =>
 (some (Z2.mk e1 m2 a1_.Long))))
def Zbf {σ:Type}(N:Nat)(y_:σ->Zai->Zai->Option (σ×Bool))(c0_:ZZ)(c2_:Int)(i4:Int)(a5:Zai)(a1:Int)(a3:σ):Option ((Int×σ)⊕((σ)⊕(σ))):=
 (if (decide (a1<((List.length c0_.Uses:Nat):Int))) then ((idx c0_.Uses a1).bind λa2 =>
 (((if (a1==i4) then (some true) else (if (a2.Stream != c2_) then (some true) else (some (a2.Port != a5.Port))))).bind λ(a4:Bool) =>
 (if a4 then (some (.inl ((w64 (a1+1)),a3))) else ((y_ a3 a5 a2).bind λa0 =>
 (if (!a0.2) then (some (.inr (.inr a0.1))) else (some (.inl ((w64 (a1+1)),a0.1)))))))) else (some (.inr (.inl a3))))
def Zbg {σ:Type}(N:Nat)(y_:σ->Zai->Zai->Option (σ×Bool))(c0_:ZZ)(c1_:Int)(c2_:Int)(i4:Int)(g5:σ):Option ((Int×σ)⊕((σ)⊕(σ))):=
 (if (decide (i4<((List.length c0_.Uses:Nat):Int))) then ((idx c0_.Uses i4).bind λa3 =>
 (if (a3.Stream != c1_) then (some (.inl ((w64 (i4+1)),g5))) else ((Zbv (λx:Int×σ=>Zbf N y_ c0_ c2_ i4 a3 x.1 x.2) N (0,g5)).bind λa2=>match a2 with
 | (.inl a1)=>(some (.inl ((w64 (i4+1)),a1)))
 | (.inr a0)=>(some (.inr (.inr a0)))))) else (some (.inr (.inl g5))))
def Zcq {σ:Type}(N:Nat)(y_:σ->Zai->Zai->Option (σ×Bool))(c0_:ZZ)(c1_:Int)(c2_:Int)(s_:σ):Option (σ):=
 ((Zbv (λx:Int×σ=>Zbg N y_ c0_ c1_ c2_ x.1 x.2) N (0,s_)).bind λa2=>match a2 with
 | (.inl a1)=>(some a1)
 | (.inr a0)=>(some a0))
def Zbn (N:Nat)(a0_:Z2):Option (Int):=
 (if ((decide (a0_.Period<1))||((decide (a0_.Period>960))||((decide (a0_.From<0))||(decide (a0_.From≥a0_.Period))))) then (some 330) else (if ((decide (a0_.Long<1))||(decide (a0_.Long>a0_.Period))) then (some 330) else (some 0)))
def ZaL (N:Nat)(a0_:(List Z2))(i2:Int):Option ((Int)⊕((Unit)⊕(Int))):=
 (if (decide (i2<((List.length a0_:Nat):Int))) then ((idx a0_ i2).bind λa1 =>
 ((Zbn N a1).bind λa0 =>
 (if (a0 != 0) then (some (.inr (.inr a0))) else (some (.inl (w64 (i2+1))))))) else (some (.inr (.inl ()))))
def Zbr (N:Nat)(a0_:(List Z2)):Option (Int):=
 (if (decide (((List.length a0_:Nat):Int)>32)) then (some 3) else ((Zbv (λx:Int=>ZaL N a0_ x) N 0).bind λa1=>match a1 with
 | (.inl a2)=>(some 0)
 | (.inr a0)=>(some a0)))
def ZcO (N:Nat)(a0_:Int)(a1_:Int):Option (Int):=
 ((remI a0_ a1_).bind λm1 =>
 ((remI (w64 (m1+a1_)) a1_).bind λm2 =>
 (some m2)))
def Zba (N:Nat)(i1:Int)(i2:Int):Option ((Int×Int)⊕((Int))):=
 (if (i2 != 0) then ((remI i1 i2).bind λa0 =>
 (some (.inl (i2,a0)))) else (some (.inr i1)))
def Zci (N:Nat)(a0_:Int)(a1_:Int):Option (Int):=
 ((Zbv (λx:Int×Int=>Zba N x.1 x.2) N (a0_,a1_)).bind λa0 =>
 (some a0))
def ZaR (N:Nat)(a0_:Int)(a1_:(List Int))(i1:Int)(i2:Int):Option ((Int×Int)⊕((Int))):=
 (if (decide (i2<((List.length a1_:Nat):Int))) then ((idx a1_ i2).bind λa0 =>
 ((Zci N i1 a0).bind λa2 =>
 ((quoI .i64 i1 a2).bind λa1 =>
 (if (decide ((w64 (a1*a0))>a0_)) then (some (.inr (w64 (a1*a0)))) else (some (.inl ((w64 (a1*a0)),(w64 (i2+1))))))))) else (some (.inr i1)))
def Zcp (N:Nat)(a0_:Int)(a1_:(List Int)):Option (Int):=
 ((Zbv (λx:Int×Int=>ZaR N a0_ a1_ x.1 x.2) N (1,0)).bind λa0 =>
 (some a0))
def Zco (N:Nat)(a0_:Z2)(a1_:Z2):Option (Int×Int×Int):=
 ((Zci N a0_.Period a1_.Period).bind λr1 =>
 (some (a0_.Long,(w64 (r1-a1_.Long)),r1)))
def ZaZ (N:Nat)(a0_:(List Z2))(i8:Int)(l9:(List Int)):Option ((Int×(List Int))⊕(((List Int)))):=
 (if (decide (i8<((List.length a0_:Nat):Int))) then ((idx a0_ i8).bind λa0 =>
 ((idx l9 i8).bind λa1 =>
 (some (.inl ((w64 (i8+1)),(List.set l9 (Int.toNat i8) a0.Period)))))) else (some (.inr l9)))
def Zb3 (N:Nat)(a0_:(List Z2)):Option (Int×Int):=
 ((Zbr N a0_).bind λr1 =>
 (if (r1 != 0) then (some (0,r1)) else ((ZiS 8 ((List.length a0_:Nat):Int) ((List.length a0_:Nat):Int) 0).bind λl5 =>
 ((Zbv (λx:Int×(List Int)=>ZaZ N a0_ x.1 x.2) N (0,l5)).bind λa1 =>
 ((Zcp N 960 a1).bind λa0 =>
 (if (decide (a0>960)) then (some (0,6)) else (some (a0,0))))))))
def Zb2 (N:Nat)(a0_:Z2)(a1_:Z2):Option (Bool):=
 (if ((a0_.Period==a1_.Period)&&((a0_.From==a1_.From)&&((a0_.Long==a1_.Long)&&true))) then (some false) else ((Zco N a0_ a1_).bind λr2 =>
 ((ZcO N (w64 (a1_.From-a0_.From)) r2.2.2).bind λr3 =>
 (some ((decide (r2.1<=r3))&&(decide (r3<=r2.2.1)))))))
def Zbo (N:Nat)(a0_:(List Int))(i6:Int)(l7:(List Z2)):Option ((Int×(List Z2))⊕(((List Z2)))):=
 (if (decide (i6<((List.length a0_:Nat):Int))) then ((idx a0_ i6).bind λa0 =>
 ((idx l7 i6).bind λa1 =>
 (some (.inl ((w64 (i6+1)),(List.set l7 (Int.toNat i6) (Z2.mk a0 0 1))))))) else (some (.inr l7)))
def ZcD (N:Nat)(a0_:(List Int)):Option (Int×Int):=
 ((ZiS 24 ((List.length a0_:Nat):Int) ((List.length a0_:Nat):Int) (Z2.mk 0 0 0)).bind λl3 =>
 ((Zbv (λx:Int×(List Z2)=>Zbo N a0_ x.1 x.2) N (0,l3)).bind λa1 =>
 ((Zb3 N a1).bind λa0 =>
 (some (a0.1,a0.2)))))
def Zb4 (N:Nat)(a0_:Z2)(a1_:Z2):Option (Bool×Int):=
 ((Zbn N a0_).bind λr1 =>
 (if (r1 != 0) then (some (false,r1)) else ((Zbn N a1_).bind λr3 =>
 (if (r3 != 0) then (some (false,r3)) else ((Zb2 N a0_ a1_).bind λr5 =>
 (some (r5,0)))))))
def ZbI (N:Nat)(a0_:ZZ)(i4:Int):Option ((Int)⊕((Unit)⊕(Int))):=
 (if (decide (i4<((List.length a0_.Periods:Nat):Int))) then ((idx a0_.Periods i4).bind λa0 =>
 (if ((decide (a0<1))||(decide (a0>240))) then (some (.inr (.inr 340))) else (some (.inl (w64 (i4+1)))))) else (some (.inr (.inl ()))))
def ZbH (N:Nat)(a0_:ZZ)(a2:Int):Option ((Int)⊕((Unit)⊕(Int))):=
 (if (decide (a2<((List.length a0_.Uses:Nat):Int))) then ((idx a0_.Uses a2).bind λa0 =>
 (if ((decide (a0.Stream<0))||((decide (a0.Stream≥((List.length a0_.Periods:Nat):Int)))||((decide (a0.Port<0))||(decide (a0.Port≥48))))) then (some (.inr (.inr 340))) else ((idx a0_.Periods a0.Stream).bind λa1 =>
 (if ((decide (a0.From<0))||((decide (a0.From≥a1))||((decide (a0.Long<1))||(decide (a0.Long>a1))))) then (some (.inr (.inr 340))) else (some (.inl (w64 (a2+1)))))))) else (some (.inr (.inl ()))))
def ZcE (N:Nat)(a0_:ZZ):Option (Int):=
 (if ((decide (((List.length a0_.Periods:Nat):Int)>12))||(decide (((List.length a0_.Uses:Nat):Int)>192))) then (some 340) else ((Zbv (λx:Int=>ZbI N a0_ x) N 0).bind λa4=>match a4 with
 | (.inl a6)=>((ZcD N a0_.Periods).bind λa3 =>
 (if (a3.2 != 0) then (some 340) else ((Zbv (λx:Int=>ZbH N a0_ x) N 0).bind λa2=>match a2 with
 | (.inl a5)=>(some 0)
 | (.inr a1)=>(some a1))))
 | (.inr a0)=>(some a0)))
def ZaV (N:Nat)(a0_:ZZ)(a2_:Int)(a4_:Int)(b18:Bool)(a1:Zai)(a0:Zai):Option ((Bool)×Nat):=
 (if ((a1.Stream==a0.Stream)&&((a1.Port==a0.Port)&&((a1.From==a0.From)&&((a1.Long==a0.Long)&&true)))) then (some (true,1)) else ((ZbG N a0_ a1 a2_).bind λa4 =>
 ((ZbG N a0_ a0 a4_).bind λa3 =>
 ((Zb4 N a4 a3).bind λa2 =>
 (if (!a2.1) then (some (true,1)) else (some (b18,0)))))))
def Zb5 (N:Nat)(a0_:ZZ)(a1_:Int)(a2_:Int)(a3_:Int)(a4_:Int):Option (Bool):=
 ((Zd7 N a0_ a1_ a3_).bind λa1 =>
 ((Zcq N (λ(s:(Bool)×Nat) (a3:Zai) (a2:Zai)=>Zf9 (λv:Bool=>ZaV N a0_ a2_ a4_ v a3 a2) s) a1.1 a1.2.1 a1.2.2 (false,0)).bind λa0 =>
 (if (a0.2==0) then (some false) else (if (a0.2==1) then (some a0.1) else none))))
def Zb6 (N:Nat)(a0_:ZZ)(a1_:Int)(a2_:Int)(a3_:Int)(a4_:Int):Option (Bool×Int):=
 ((ZcE N a0_).bind λr1 =>
 (if (r1 != 0) then (some (false,r1)) else (if ((decide (a1_<0))||((decide (a1_≥((List.length a0_.Periods:Nat):Int)))||((decide (a3_<0))||(decide (a3_≥((List.length a0_.Periods:Nat):Int)))))) then (some (false,2)) else ((((Zcj N a0_ a1_ a2_).bind λa2=>(if (!a2) then (some true) else ((Zcj N a0_ a3_ a4_).bind λa1=>(if (!a1) then (some true) else (if (a1_==a3_) then (some (a2_ != a4_)) else (some false))))))).bind λ(a3:Bool) =>
 (if a3 then (some (false,2)) else ((Zb5 N a0_ a1_ a2_ a3_ a4_).bind λa0 =>
 (some (a0,0))))))))
abbrev slvK:=List (ZaD×Bool)
def Zdi (N:Nat)(p:ZZ)(known:slvK)(i x j y:Int):Option (Bool×slvK):=
 (idx p.Periods i).bind λper=>(remI (w64 (x-y)) per).bind λm1=>(remI (w64 (m1+per)) per).bind λm2 =>
 if (!(mhas known (ZaD.mk i m2 j))) then (Zb6 N p i m2 j 0).bind λr=>some (r.1,ZeX known (ZaD.mk i m2 j) r.1) else some (Zjt known (ZaD.mk i m2 j) false,known)
def ZbD (N:Nat)(p:ZZ)(given:List Int)(i x:Int)(j:Int)(known:slvK):Option ((Int×slvK)⊕(slvK⊕(Int×slvK))):=
 if decide (j<i) then (idx given j).bind λy=>(Zdi N p known i x j y).bind λr=>if r.1 then some (.inr (.inr (j,r.2))) else some (.inl (w64 (j+1),r.2))
 else some (.inr (.inl known))
def Zdh (N:Nat)(p:ZZ)(given:List Int)(known:slvK)(i x:Int):Option (Int×slvK):=
 (Zbv (λy:Int×slvK=>ZbD N p given i x y.1 y.2) N (0,known)).bind λo=>match o with
  | .inl k=>(Zdi N p k i x i x).bind λr=>if r.1 then some (i,r.2) else some (-1,r.2)
  | .inr q=>some q
def Zc3 (l:List Zal)(b:Int):Option Bool :=
 if decide (((List.length l:Nat):Int)>0) then (if decide (b≥0) then (idx l (w64 (((List.length l:Nat):Int)-1))).bind λe=>some (e.By==b) else some false) else some false
def Zdu (f:List Z1)(c:Int)(z:Zal):Option (List Z1):=
 (idx f c).bind λfc=>(Zc3 fc.Arms z.By).bind λis =>
  if is then (idx fc.Arms (w64 (((List.length fc.Arms:Nat):Int)-1))).bind λla=>some (f.set c.toNat ⟨fc.Stream,fc.Arms.set (w64 (((List.length fc.Arms:Nat):Int)-1)).toNat { la with To:=z.To }⟩)
  else (appI 32 fc.Arms [z]).bind λl=>some (f.set c.toNat ⟨fc.Stream,l⟩)
abbrev Za7:=List Z1×List Int×slvK
def ZbZ (N:Nat)(rec_:Za7->Int->Option (Option (Bool×Za7)))(p:ZZ)(i c most:Int)(x:Int)(st:Za7):Option ((Int×Za7)⊕(Za7⊕Option Za7)):=
 if decide (x<most) then (Zdh N p st.2.1 st.2.2 i x).bind λb =>
  (if b.1 == -1 then (appI 8 st.2.1 [x]).bind λg =>
   if i==w64 (((List.length p.Periods:Nat):Int)-1) then some (.inr (some (st.1,g,b.2)))
   else (rec_ (st.1,g,b.2) (w64 (i+1))).bind λo=>match o with
    | none=>some (.inr none)
    | some (t,s2)=>if t then some (.inr (some s2)) else (popI s2.2.1 i).bind λg2=>some (.inl (((List.length st.1:Nat):Int),(s2.1,g2,s2.2.2)))
  else some (.inl (0,(st.1,st.2.1,b.2)))).bind λ(q:(Int×Za7)⊕Option Za7)=>match q with
   | .inr e=>some (.inr (.inr e))
   | .inl q=>(Zdu q.2.1 c ⟨x,w64 (x+1),b.1,q.1⟩).bind λf=>some (.inl (w64 (x+1),(f,q.2.2)))
 else some (.inr (.inl st))
def Zch (N:Nat)(rec_:Za7->Int->Option (Option (Bool×Za7)))(p:ZZ)(fuel:Int)(st:Za7)(i:Int):Option (Option (Bool×Za7)):=
 if decide (((List.length st.1:Nat):Int)>fuel) then some none
 else (appI 32 st.1 [⟨i,[]⟩]).bind λf1=>(idx p.Periods i).bind λper=>(if i==0 then some 1 else some per).bind λmost =>
  (Zbv (λy:Int×Za7=>ZbZ N rec_ p i ((List.length st.1:Nat):Int) most y.1 y.2) N (0,(f1,st.2))).bind λo=>match o with
   | .inl s2=>if decide (most<per) then (Zdu s2.1 ((List.length st.1:Nat):Int) ⟨most,per,-2,0⟩).bind λf=>some (some (false,(f,s2.2))) else some (some (false,s2))
   | .inr o=>match o with
    | none=>some none
    | some s2=>some (some (true,s2))
def ZcK:Nat->ZZ->Int->Za7->Int->Option (Option (Bool×Za7))
 | 0=>λ_ _ _ _=>none
 | N+1=>λp fuel st i=>Zch N (ZcK N p fuel) p fuel st i
def Zbm (N:Nat)(p:ZZ)(fuel:Int):Option (List Int×List Z1×Int):=
 (ZcE N p).bind λe=>if (e != 0) then some ([],[],e) else
 if ((decide (fuel<0))||(decide (fuel>1999))) then some ([],[],2) else
 if (((List.length p.Periods:Nat):Int)==0) then some ([],[],0) else
 (ZcK N p fuel ([],[],[]) 0).bind λo=>match o with
  | none=>some ([],[],8)
  | some (t,st)=>if t then some (st.2.1,[],0) else some ([],st.1,4)
def Zdz (N:Nat)(a0_:ZZ)(a1_:Int)(a2_:(List Int)):Option (Bool):=
 ((Zbm N a0_ a1_).bind λr1 =>
 (((if (r1.2.2==0) then (if (((List.length r1.2.1:Nat):Int)==0) then ((ZaM N r1.1 a2_).bind λr4=>(some r4)) else (some false)) else (some false))).bind λ(j7:Bool) =>
 (some j7)))
def ZcR (N:Nat)(a0_:ZZ)(a1_:Int)(a2_:Int):Option (Bool):=
 ((Zbm N a0_ a1_).bind λr1 =>
 (some ((r1.2.2==a2_)&&((((List.length r1.1:Nat):Int)==0)&&((decide (((List.length r1.2.1:Nat):Int)>0))==(r1.2.2==4))))))
def ZcQ (N:Nat):Option (Bool):=
 ((Zdy N 2 1 1).bind λr1 =>
 ((Zdy N 2 2 1).bind λr2 =>
 ((Zbm N r2 2).bind λr3 =>
 ((((Zdz N r1 9 ([0,2,3])).bind λr4=>(if r4 then ((ZcR N r1 1 8).bind λr6=>(if r6 then ((Zdz N r1 2 ([0,2,3])).bind λr8=>(if r8 then (if (r3.2.2==4) then ((ZcC N r3.2.1 ([(Z1.mk 0 ([(Zal.mk 0 1 (-1) 1),(Zal.mk 1 4 (-2) 0)])),(Z1.mk 1 ([(Zal.mk 0 2 0 0),(Zal.mk 2 3 (-1) 2),(Zal.mk 3 4 0 0)])),(Z1.mk 2 ([(Zal.mk 0 2 0 0),(Zal.mk 2 4 1 0)]))])).bind λa2=>(if a2 then ((ZcR N r2 1 8).bind λa1=>(if a1 then ((ZcR N r2 2000 2).bind λa0=>(some a0)) else (some false))) else (some false))) else (some false)) else (some false))) else (some false))) else (some false)))).bind λ(a3:Bool) =>
 (some a3)))))
def Zca (N:Nat)(a0_:Za4)(a1_:Int)(a2_:Int):Option (Bool):=
 ((ZcQ N).bind λr1 =>
 (if (!r1) then (some false) else ((Za3 N a0_).bind λr3 =>
 ((Zbm N r3 (w64 (a1_))).bind λr4 =>
 ((Zbm N r3 (w64 ((w64 (a1_))+(w64 (a2_))))).bind λr5 =>
 (((if (r4.2.2==8) then (some true) else (if (r4.2.2==r5.2.2) then ((ZaM N r4.1 r5.1).bind λr9=>(if r9 then ((ZcC N r4.2.1 r5.2.1).bind λa0=>(some a0)) else (some false))) else (some false)))).bind λ(a1:Bool) =>
 (some a1)))))))
end Go.Sh

