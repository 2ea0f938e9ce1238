/- Part of the proof. -/
import Derived.Test.YthhhjjjbpcaadaaSolveSearchesE18
set_option linter.all false
namespace Go.Sh
open Go Go.Eng
set_option maxRecDepth 100000
structure ZhV where
 x0:Int
 x1:Int
 x2:Int
 x3:Int
def Zd0 (v:ZhV):List PC:=[.int .u8 v.x0,.int .u8 v.x1,.int .u8 v.x2,.int .u8 v.x3]
structure Zbn where
 Periods:(List Int)
 Uses:(List ZhV)
def Zje (v:Zbn):List PC:=[.sl 1 false (List.map (eI .u8) v.Periods),.sl 4 false (List.map Zd0 v.Uses)]
structure Zax where
 Stream:Int
 Port:Int
 From:Int
 Long:Int
def Zan (v:Zax):List PC:=[.int .i64 v.Stream,.int .i64 v.Port,.int .i64 v.From,.int .i64 v.Long]
structure Z3 where
 Periods:(List Int)
 Uses:(List Zax)
def Zjf (v:Z3):List PC:=[.sl 1 false (List.map eI64 v.Periods),.sl 4 false (List.map Zan v.Uses)]
structure Zag where
 From:Int
 To:Int
 By:Int
 Next:Int
def Zah (v:Zag):List PC:=[.int .i64 v.From,.int .i64 v.To,.int .i64 v.By,.int .i64 v.Next]
structure Z5 where
 Stream:Int
 Arms:(List Zag)
def Z7 (v:Z5):List PC:=[.int .i64 v.Stream,.sl 4 false (List.map Zah v.Arms)]
structure Zaq where
 Proof:(List Z5)
 Offsets:(List Int)
 What:Int
structure Zab where
 Period:Int
 From:Int
 Long:Int
def ZaO (v:Zab):List PC:=[.int .i64 v.Period,.int .i64 v.From,.int .i64 v.Long]
structure Zil where
 i:Int
 x_:Int
 j:Int deriving DecidableEq
structure ZaK where
 x0:Int
 x1:Int
 x2:Int
 x3:Int
 x4:Int
 x5:Int
 x6:Int
 x7:Int
 x8:Int
 x9:Int
 x10:Int
 x11:Int
structure ZaQ where
 i:Int
 x_:Int
 j:Int deriving DecidableEq
abbrev Z9 (f:Bool) (l:List Int):AV:=.p (.sl 1 f (List.map eI64 l))
abbrev Z8 (f:Bool) (l:List Zax):AV:=.p (.sl 4 f (List.map Zan l))
abbrev Zky (f:Bool) (l:List Int):AV:=.p (.sl 1 f (List.map (eI .u8) l))
abbrev Zfk (f:Bool) (l:List ZhV):AV:=.p (.sl 4 f (List.map Zd0 l))
abbrev Z6 (f:Bool) (l:List Z5):AV:=.p (.sl 2 f (List.map Z7 l))
abbrev ZaI (f:Bool) (l:List Zag):AV:=.p (.sl 4 f (List.map Zah l))
abbrev ZaL (f:Bool) (l:List Zab):AV:=.p (.sl 3 f (List.map ZaO l))
abbrev ZfT (v:ZhV):List AV:=[.p (.int .u8 v.x0),.p (.int .u8 v.x1),.p (.int .u8 v.x2),.p (.int .u8 v.x3)]
abbrev ZaJ (v:Zbn):List AV:=[Zky false v.Periods,Zfk false v.Uses]
abbrev ZaE (v:Zax):List AV:=[iv v.Stream,iv v.Port,iv v.From,iv v.Long]
abbrev Z2 (v:Z3):List AV:=[Z9 false v.Periods,Z8 false v.Uses]
abbrev ZbV (v:Zag):List AV:=[iv v.From,iv v.To,iv v.By,iv v.Next]
abbrev Za9 (v:Zab):List AV:=[iv v.Period,iv v.From,iv v.Long]
def ZfM (v:Zil):List Int:=[v.i,v.x_,v.j]
instance:KeyE Zil 3 ZfM:=⟨λ_=>rfl,λx y h=>by cases x;cases y;simpa [ZfM] using h⟩
abbrev ZkV (v:ZaK):List AV:=[iv v.x0,iv v.x1,iv v.x2,iv v.x3,iv v.x4,iv v.x5,iv v.x6,iv v.x7,iv v.x8,iv v.x9,iv v.x10,iv v.x11]
def ZaK.l (v:ZaK):List Int:=[v.x0,v.x1,v.x2,v.x3,v.x4,v.x5,v.x6,v.x7,v.x8,v.x9,v.x10,v.x11]
def ZaK.ofL (l:List Int):ZaK:=⟨l.getD 0 0,l.getD 1 0,l.getD 2 0,l.getD 3 0,l.getD 4 0,l.getD 5 0,l.getD 6 0,l.getD 7 0,l.getD 8 0,l.getD 9 0,l.getD 10 0,l.getD 11 0⟩
def ZaK.get (v:ZaK)(i:Int):Option Int:=idx v.l i
def ZaK.set (v:ZaK)(i:Int)(x:Int):ZaK:=ZaK.ofL (v.l.set i.toNat x)
theorem ZaK.l_ofL (l:List Int)(h:l.length=12):(ZaK.ofL l).l=l:=Zoi 12 0 l h rfl
theorem ZaK.l_set (v:ZaK)(i:Int)(x:Int):(v.set i x).l=v.l.set i.toNat x:=ZaK.l_ofL _ (by rw [ZF];rfl)
theorem ZaK.c_set (v:ZaK)(i:Int)(x:Int):ZkV (v.set i x)=(v.l.set i.toNat x).map (λx=>iv x):=by rw [← ZaK.l_set];rfl
def Zcl (v:ZaQ):List Int:=[v.i,v.x_,v.j]
instance:KeyE ZaQ 3 Zcl:=⟨λ_=>rfl,λx y h=>by cases x;cases y;simpa [Zcl] using h⟩
def ZaV (N:Nat)(a0_:Zbn)(i3:Int)(l4:(List Int)):Option ((Int×(List Int))⊕(((List Int)))):=
 (if ((decide (i3<((List.length a0_.Periods:Nat):Int)))&&(decide (i3<5))) then ((idx a0_.Periods i3).bind λa2 =>
 ((idx [4,6,8,12,3,5,10,24] (Int.tmod a2 8)).bind λa1 =>
 ((appI 8 l4 [a1]).bind λa0 =>
 (some (.inl ((w64 (i3+1)),a0)))))) else (some (.inr l4)))
def ZaU (N:Nat)(a0_:Zbn)(a4:(List Int))(a2:Int)(a8:(List Zax)):Option ((Int×(List Zax))⊕(((List Zax)))):=
 (((if (decide (a2<((List.length a0_.Uses:Nat):Int))) then (if (decide (a2<12)) then (some (decide (((List.length a4:Nat):Int)>0))) else (some false)) else (some false))).bind λ(aa:Bool) =>
 (if aa then ((idx a0_.Uses a2).bind λa0 =>
 ((remI (w64 (a0.x0)) ((List.length a4:Nat):Int)).bind λa3 =>
 ((idx a4 a3).bind λa1 =>
 ((remI (w64 (a0.x2)) a1).bind λa7 =>
 ((remI (w64 (a0.x3)) a1).bind λa6 =>
 ((remI (Int.tmod a6 4) a1).bind λa5 =>
 ((appI 32 a8 [(Zax.mk a3 (w64 ((Int.tmod a0.x1 4))) a7 (w64 (1+a5)))]).bind λa9 =>
 (some (.inl ((w64 (a2+1)),a9)))))))))) else (some (.inr a8))))
def Zbm (N:Nat)(a0_:Zbn):Option (Z3):=
 ((Zbf (λx:Int×(List Int)=>ZaV N a0_ x.1 x.2) N (0,[])).bind λa0 =>
 ((Zbf (λx:Int×(List Zax)=>ZaU N a0_ a0 x.1 x.2) N (0,[])).bind λa1 =>
 (some (Z3.mk a0 a1))))
def ZaN (N:Nat)(a0_:(List Int))(a1_:(List Int))(i2:Int):Option ((Int)⊕((Unit)⊕(Bool))):=
 (if (decide (i2<((List.length a0_:Nat):Int))) then ((idx a0_ i2).bind λa1 =>
 ((idx a1_ i2).bind λa0 =>
 (if (a1 != a0) then (some (.inr (.inr false))) else (some (.inl (w64 (i2+1))))))) else (some (.inr (.inl ()))))
def Zau (N:Nat)(a0_:(List Int))(a1_:(List Int)):Option (Bool):=
 (if (((List.length a0_:Nat):Int)!=((List.length a1_:Nat):Int)) then (some false) else ((Zbf (λx:Int=>ZaN N a0_ a1_ x) N 0).bind λa1=>match a1 with
 | (.inl a2)=>(some true)
 | (.inr a0)=>(some a0)))
def Zcf (N:Nat)(a0_:(List Z5))(a1_:(List Z5))(i2:Int)(a2:Int):Option ((Int)⊕((Unit)⊕(Bool))):=
 ((idx a0_ i2).bind λa5 =>
 (if (decide (a2<((List.length a5.Arms:Nat):Int))) then ((idx a0_ i2).bind λa4 =>
 ((idx a4.Arms a2).bind λa1 =>
 ((idx a1_ i2).bind λa3 =>
 ((idx a3.Arms a2).bind λa0 =>
 (if (!((a1.From==a0.From)&&((a1.To==a0.To)&&((a1.By==a0.By)&&((a1.Next==a0.Next)&&true))))) then (some (.inr (.inr false))) else (some (.inl (w64 (a2+1))))))))) else (some (.inr (.inl ())))))
def Zcg (N:Nat)(a0_:(List Z5))(a1_:(List Z5))(i2:Int):Option ((Int)⊕((Unit)⊕(Bool))):=
 (if (decide (i2<((List.length a0_:Nat):Int))) then ((((idx a0_ i2).bind λa6=>((idx a1_ i2).bind λa5=>(if (a6.Stream != a5.Stream) then (some true) else ((idx a0_ i2).bind λa4=>((idx a1_ i2).bind λa3=>(some (((List.length a4.Arms:Nat):Int)!=((List.length a3.Arms:Nat):Int))))))))).bind λ(a2:Bool) =>
 (if a2 then (some (.inr (.inr false))) else ((Zbf (λx:Int=>Zcf N a0_ a1_ i2 x) N 0).bind λa1=>match a1 with
 | (.inl a7)=>(some (.inl (w64 (i2+1))))
 | (.inr a0)=>(some (.inr (.inr a0)))))) else (some (.inr (.inl ()))))
def Zbp (N:Nat)(a0_:(List Z5))(a1_:(List Z5)):Option (Bool):=
 (if (((List.length a0_:Nat):Int)!=((List.length a1_:Nat):Int)) then (some false) else ((Zbf (λx:Int=>Zcg N a0_ a1_ x) N 0).bind λa1=>match a1 with
 | (.inl a2)=>(some true)
 | (.inr a0)=>(some a0)))
def Zd9 (N:Nat)(a0_:Int)(a1_:Int)(a2_:Int):Option (Z3):=
 (some (Z3.mk ([4,4,4]) ([(Zax.mk 0 0 0 a0_),(Zax.mk 1 0 0 a1_),(Zax.mk 2 0 0 a2_)])))
def ZcV (N:Nat)(a0_:Z3)(a1_:Int)(a2_:Int):Option (Bool):=
 (((if (decide (a2_≥0)) then ((idx a0_.Periods a1_).bind λe2=>(some (decide (a2_<e2)))) else (some false))).bind λ(j4:Bool) =>
 (some j4))
def Zb8 (N:Nat)(a0_:(List Int))(i1:Int)(a4:Bool)(a0:Int):Option ((Bool×Int)⊕((Bool))):=
 (if (decide (a0<((List.length a0_:Nat):Int))) then (((if a4 then ((idx a0_ a0).bind λa3=>((remI i1 a3).bind λa1=>(if (a1==0) then (some true) else (some false)))) else (some false))).bind λ(a2:Bool) =>
 (some (.inl (a2,(w64 (a0+1)))))) else (some (.inr a4)))
def ZbI (N:Nat)(a0_:(List Int))(i1:Int):Option ((Int)⊕((Unit)⊕(Int))):=
 (if (decide (i1<=960)) then ((Zbf (λx:Bool×Int=>Zb8 N a0_ i1 x.1 x.2) N (true,0)).bind λa0 =>
 (if a0 then (some (.inr (.inr i1))) else (some (.inl (w64 (i1+1)))))) else (some (.inr (.inl ()))))
def Zet (N:Nat)(a0_:(List Int)):Option (Int):=
 ((Zbf (λx:Int=>ZbI N a0_ x) N 1).bind λa1=>match a1 with
 | (.inl a2)=>(some 0)
 | (.inr a0)=>(some a0))
def ZeP (N:Nat)(a0_:Z3)(a1_:Int)(a2_:Int):Option (Z3×Int×Int):=
 (some (a0_,a1_,a2_))
def Zch (N:Nat)(a0_:Z3)(a1_:Zax)(a2_:Int):Option (Zab):=
 ((idx a0_.Periods a1_.Stream).bind λe1 =>
 ((remI (w64 (a1_.From+a2_)) e1).bind λm2 =>
 (some (Zab.mk e1 m2 a1_.Long))))
def ZbE {σ:Type}(N:Nat)(y_:σ->Zax->Zax->Option (σ×Bool))(c0_:Z3)(c2_:Int)(i4:Int)(a5:Zax)(a1:Int)(a3:σ):Option ((Int×σ)⊕((σ)⊕(σ))):=
 (if (decide (a1<((List.length c0_.Uses:Nat):Int))) then ((idx c0_.Uses a1).bind λa2 =>
 (((if (a1==i4) then (some true) else (if (a2.Stream != c2_) then (some true) else (some (a2.Port != a5.Port))))).bind λ(a4:Bool) =>
 (if a4 then (some (.inl ((w64 (a1+1)),a3))) else ((y_ a3 a5 a2).bind λa0 =>
 (if (!a0.2) then (some (.inr (.inr a0.1))) else (some (.inl ((w64 (a1+1)),a0.1)))))))) else (some (.inr (.inl a3))))
def ZbF {σ:Type}(N:Nat)(y_:σ->Zax->Zax->Option (σ×Bool))(c0_:Z3)(c1_:Int)(c2_:Int)(i4:Int)(g5:σ):Option ((Int×σ)⊕((σ)⊕(σ))):=
 (if (decide (i4<((List.length c0_.Uses:Nat):Int))) then ((idx c0_.Uses i4).bind λa3 =>
 (if (a3.Stream != c1_) then (some (.inl ((w64 (i4+1)),g5))) else ((Zbf (λx:Int×σ=>ZbE N y_ c0_ c2_ i4 a3 x.1 x.2) N (0,g5)).bind λa2=>match a2 with
 | (.inl a1)=>(some (.inl ((w64 (i4+1)),a1)))
 | (.inr a0)=>(some (.inr (.inr a0)))))) else (some (.inr (.inl g5))))
def Zc4 {σ:Type}(N:Nat)(y_:σ->Zax->Zax->Option (σ×Bool))(c0_:Z3)(c1_:Int)(c2_:Int)(s_:σ):Option (σ):=
 ((Zbf (λx:Int×σ=>ZbF N y_ c0_ c1_ c2_ x.1 x.2) N (0,s_)).bind λa2=>match a2 with
 | (.inl a1)=>(some a1)
 | (.inr a0)=>(some a0))
def ZbM (N:Nat)(a0_:Zab):Option (Int):=
 (if ((decide (a0_.Period<1))||((decide (a0_.Period>960))||((decide (a0_.From<0))||(decide (a0_.From≥a0_.Period))))) then (some 330) else (if ((decide (a0_.Long<1))||(decide (a0_.Long>a0_.Period))) then (some 330) else (some 0)))
def ZaZ (N:Nat)(a0_:(List Zab))(i2:Int):Option ((Int)⊕((Unit)⊕(Int))):=
 (if (decide (i2<((List.length a0_:Nat):Int))) then ((idx a0_ i2).bind λa1 =>
 ((ZbM N a1).bind λa0 =>
 (if (a0 != 0) then (some (.inr (.inr a0))) else (some (.inl (w64 (i2+1))))))) else (some (.inr (.inl ()))))
def ZbT (N:Nat)(a0_:(List Zab)):Option (Int):=
 (if (decide (((List.length a0_:Nat):Int)>32)) then (some 3) else ((Zbf (λx:Int=>ZaZ N a0_ x) N 0).bind λa1=>match a1 with
 | (.inl a2)=>(some 0)
 | (.inr a0)=>(some a0)))
def ZeO (N:Nat)(a0_:Z3)(a1_:Int)(a2_:Int):Option (Zab):=
 ((idx a0_.Uses a1_).bind λe1 =>
 ((idx a0_.Periods e1.Stream).bind λe2 =>
 ((idx a0_.Uses a1_).bind λe3 =>
 ((remI (w64 (e3.From+a2_)) e2).bind λm4 =>
 ((idx a0_.Uses a1_).bind λe5 =>
 (some (Zab.mk e2 m4 e5.Long)))))))
def Zdp (N:Nat)(a0_:Int)(a1_:Int):Option (Int):=
 ((remI a0_ a1_).bind λm1 =>
 ((remI (w64 (m1+a1_)) a1_).bind λm2 =>
 (some m2)))
def Zbz (N:Nat)(i1:Int)(i2:Int):Option ((Int×Int)⊕((Int))):=
 (if (i2 != 0) then ((remI i1 i2).bind λa0 =>
 (some (.inl (i2,a0)))) else (some (.inr i1)))
def ZcR (N:Nat)(a0_:Int)(a1_:Int):Option (Int):=
 ((Zbf (λx:Int×Int=>Zbz N x.1 x.2) N (a0_,a1_)).bind λa0 =>
 (some a0))
def ZbJ (N:Nat)(a0_:Int)(a1_:Int)(i1:Int):Option ((Int)⊕((Unit)⊕(Int))):=
 (if (decide (i1>1)) then ((((remI a0_ i1).bind λa1=>(if (a1==0) then ((remI a1_ i1).bind λa0=>(some (a0==0))) else (some false)))).bind λ(a2:Bool) =>
 (if a2 then (some (.inr (.inr i1))) else (some (.inl (w64 (i1-1)))))) else (some (.inr (.inl ()))))
def Zev (N:Nat)(a0_:Int)(a1_:Int):Option (Int):=
 ((Zbf (λx:Int=>ZbJ N a0_ a1_ x) N a0_).bind λa1=>match a1 with
 | (.inl a2)=>(some 1)
 | (.inr a0)=>(some a0))
def Zeu (N:Nat)(a0_:Int)(a1_:Int):Option (Int):=
 ((remI a0_ a1_).bind λm1 =>
 (((if (decide (m1<0)) then (some (w64 (m1+a1_))) else (some m1))).bind λ(a0:Int) =>
 (some a0)))
def Zb0 (N:Nat)(a0_:Z3)(i4:Int):Option ((Int)⊕((Unit)⊕(Bool))):=
 (if (decide (i4<((List.length a0_.Periods:Nat):Int))) then ((((idx a0_.Periods i4).bind λa2=>(if (decide (a2<1)) then (some true) else ((idx a0_.Periods i4).bind λa1=>(some (decide (a1>240))))))).bind λ(a0:Bool) =>
 (if a0 then (some (.inr (.inr false))) else (some (.inl (w64 (i4+1)))))) else (some (.inr (.inl ()))))
def ZbZ (N:Nat)(a0_:Z3)(a1:Int):Option ((Int)⊕((Unit)⊕(Bool))):=
 (if (decide (a1<((List.length a0_.Uses:Nat):Int))) then ((idx a0_.Uses a1).bind λa0 =>
 (if ((decide (a0.Stream<0))||((decide (a0.Stream≥((List.length a0_.Periods:Nat):Int)))||((decide (a0.Port<0))||(decide (a0.Port≥48))))) then (some (.inr (.inr false))) else (((if (decide (a0.From<0)) then (some true) else ((idx a0_.Periods a0.Stream).bind λa4=>(if (decide (a0.From≥a4)) then (some true) else (if (decide (a0.Long<1)) then (some true) else ((idx a0_.Periods a0.Stream).bind λa3=>(some (decide (a0.Long>a3))))))))).bind λ(a2:Bool) =>
 (if a2 then (some (.inr (.inr false))) else (some (.inl (w64 (a1+1)))))))) else (some (.inr (.inl ()))))
def Zdq (N:Nat)(a0_:Z3):Option (Bool):=
 (if ((decide (((List.length a0_.Periods:Nat):Int)>12))||(decide (((List.length a0_.Uses:Nat):Int)>192))) then (some false) else ((Zbf (λx:Int=>Zb0 N a0_ x) N 0).bind λa4=>match a4 with
 | (.inl a6)=>((Zbf (λx:Int=>ZbZ N a0_ x) N 0).bind λa3=>match a3 with
 | (.inl a5)=>((Zet N a0_.Periods).bind λa0 =>
 (some (decide (a0>0))))
 | (.inr a2)=>(some a2))
 | (.inr a1)=>(some a1)))
def Za3 (N:Nat)(a0_:Int)(a1_:(List Int))(i1:Int)(i2:Int):Option ((Int×Int)⊕((Int))):=
 (if (decide (i2<((List.length a1_:Nat):Int))) then ((idx a1_ i2).bind λa0 =>
 ((ZcR N i1 a0).bind λa2 =>
 ((quoI .i64 i1 a2).bind λa1 =>
 (if (decide ((w64 (a1*a0))>a0_)) then (some (.inr (w64 (a1*a0)))) else (some (.inl ((w64 (a1*a0)),(w64 (i2+1))))))))) else (some (.inr i1)))
def Zc3 (N:Nat)(a0_:Int)(a1_:(List Int)):Option (Int):=
 ((Zbf (λx:Int×Int=>Za3 N a0_ a1_ x.1 x.2) N (1,0)).bind λa0 =>
 (some a0))
def ZaR (N:Nat)(a0_:Zab)(a1_:Zab)(r1:Int)(i2:Int):Option ((Int)⊕((Unit)⊕(Bool))):=
 (if (decide (i2<a0_.Long)) then ((Zeu N (w64 ((w64 (a1_.From-a0_.From))-i2)) r1).bind λa0 =>
 (if (a0==0) then (some (.inr (.inr false))) else (some (.inl (w64 (i2+1)))))) else (some (.inr (.inl ()))))
def Zb3 (N:Nat)(a0_:Zab)(a1_:Zab):Option (Bool):=
 ((Zev N a0_.Period a1_.Period).bind λr1 =>
 ((Zbf (λx:Int=>ZaR N a0_ a1_ r1 x) N (w64 (1-a1_.Long))).bind λa1=>match a1 with
 | (.inl a2)=>(some true)
 | (.inr a0)=>(some a0)))
def Zc2 (N:Nat)(a0_:Zab)(a1_:Zab):Option (Int×Int×Int):=
 ((ZcR N a0_.Period a1_.Period).bind λr1 =>
 (some (a0_.Long,(w64 (r1-a1_.Long)),r1)))
def Zbh (N:Nat)(a0_:(List Zab))(i8:Int)(l9:(List Int)):Option ((Int×(List Int))⊕(((List Int)))):=
 (if (decide (i8<((List.length a0_:Nat):Int))) then ((idx a0_ i8).bind λa0 =>
 ((idx l9 i8).bind λa1 =>
 (some (.inl ((w64 (i8+1)),(List.set l9 (Int.toNat i8) a0.Period)))))) else (some (.inr l9)))
def ZcE (N:Nat)(a0_:(List Zab)):Option (Int×Int):=
 ((ZbT N a0_).bind λr1 =>
 (if (r1 != 0) then (some (0,r1)) else ((Zj5 8 ((List.length a0_:Nat):Int) ((List.length a0_:Nat):Int) 0).bind λl5 =>
 ((Zbf (λx:Int×(List Int)=>Zbh N a0_ x.1 x.2) N (0,l5)).bind λa1 =>
 ((Zc3 N 960 a1).bind λa0 =>
 (if (decide (a0>960)) then (some (0,6)) else (some (a0,0))))))))
def Zb1 (N:Nat)(a0_:Z3)(a1_:Int)(a2_:Int)(a3_:Int)(a4_:Int)(i1:Int)(a0:Int):Option ((Int)⊕((Unit)⊕(Bool))):=
 (if (decide (a0<((List.length a0_.Uses:Nat):Int))) then (((if (i1 != a0) then ((idx a0_.Uses i1).bind λa8=>(if (a8.Stream==a1_) then ((idx a0_.Uses a0).bind λa7=>(if (a7.Stream==a3_) then ((idx a0_.Uses i1).bind λa6=>((idx a0_.Uses a0).bind λa5=>(if (a6.Port==a5.Port) then ((ZeO N a0_ i1 a2_).bind λa3=>((ZeO N a0_ a0 a4_).bind λa2=>((Zb3 N a3 a2).bind λa1=>(some (!a1))))) else (some false)))) else (some false))) else (some false))) else (some false))).bind λ(a4:Bool) =>
 (if a4 then (some (.inr (.inr true))) else (some (.inl (w64 (a0+1)))))) else (some (.inr (.inl ()))))
def Zb2 (N:Nat)(a0_:Z3)(a1_:Int)(a2_:Int)(a3_:Int)(a4_:Int)(i1:Int):Option ((Int)⊕((Unit)⊕(Bool))):=
 (if (decide (i1<((List.length a0_.Uses:Nat):Int))) then ((Zbf (λx:Int=>Zb1 N a0_ a1_ a2_ a3_ a4_ i1 x) N 0).bind λa1=>match a1 with
 | (.inl a2)=>(some (.inl (w64 (i1+1))))
 | (.inr a0)=>(some (.inr (.inr a0)))) else (some (.inr (.inl ()))))
def ZcU (N:Nat)(a0_:Z3)(a1_:Int)(a2_:Int)(a3_:Int)(a4_:Int):Option (Bool):=
 ((Zbf (λx:Int=>Zb2 N a0_ a1_ a2_ a3_ a4_ x) N 0).bind λa1=>match a1 with
 | (.inl a2)=>(some false)
 | (.inr a0)=>(some a0))
def ZcD (N:Nat)(a0_:Zab)(a1_:Zab):Option (Bool):=
 (if ((a0_.Period==a1_.Period)&&((a0_.From==a1_.From)&&((a0_.Long==a1_.Long)&&true))) then (some false) else ((Zc2 N a0_ a1_).bind λr2 =>
 ((Zdp N (w64 (a1_.From-a0_.From)) r2.2.2).bind λr3 =>
 (some ((decide (r2.1<=r3))&&(decide (r3<=r2.2.1)))))))
def ZbO (N:Nat)(a0_:(List Int))(i6:Int)(l7:(List Zab)):Option ((Int×(List Zab))⊕(((List Zab)))):=
 (if (decide (i6<((List.length a0_:Nat):Int))) then ((idx a0_ i6).bind λa0 =>
 ((idx l7 i6).bind λa1 =>
 (some (.inl ((w64 (i6+1)),(List.set l7 (Int.toNat i6) (Zab.mk a0 0 1))))))) else (some (.inr l7)))
def Zdg (N:Nat)(a0_:(List Int)):Option (Int×Int):=
 ((Zj5 24 ((List.length a0_:Nat):Int) ((List.length a0_:Nat):Int) (Zab.mk 0 0 0)).bind λl3 =>
 ((Zbf (λx:Int×(List Zab)=>ZbO N a0_ x.1 x.2) N (0,l3)).bind λa1 =>
 ((ZcE N a1).bind λa0 =>
 (some (a0.1,a0.2)))))
def ZcT (N:Nat)(a0_:Z3)(a1_:(List Int))(a2_:Int)(i1:Int):Option ((Int)⊕((Unit)⊕(Int))):=
 (if (decide (i1<((List.length a1_:Nat):Int))) then ((idx a1_ i1).bind λa1 =>
 ((ZcU N a0_ ((List.length a1_:Nat):Int) a2_ i1 a1).bind λa0 =>
 (if a0 then (some (.inr (.inr i1))) else (some (.inl (w64 (i1+1))))))) else (some (.inr (.inl ()))))
def ZfC (N:Nat)(a0_:Z3)(a1_:(List Int))(a2_:Int):Option (Int):=
 ((Zbf (λx:Int=>ZcT N a0_ a1_ a2_ x) N 0).bind λa2=>match a2 with
 | (.inl a3)=>((ZcU N a0_ ((List.length a1_:Nat):Int) a2_ ((List.length a1_:Nat):Int) a2_).bind λa0 =>
 (if a0 then (some ((List.length a1_:Nat):Int)) else (some (-1))))
 | (.inr a1)=>(some a1))
def ZcF (N:Nat)(a0_:Zab)(a1_:Zab):Option (Bool×Int):=
 ((ZbM N a0_).bind λr1 =>
 (if (r1 != 0) then (some (false,r1)) else ((ZbM N a1_).bind λr3 =>
 (if (r3 != 0) then (some (false,r3)) else ((ZcD N a0_ a1_).bind λr5 =>
 (some (r5,0)))))))
def Zcj (N:Nat)(a0_:Z3)(i4:Int):Option ((Int)⊕((Unit)⊕(Int))):=
 (if (decide (i4<((List.length a0_.Periods:Nat):Int))) then ((idx a0_.Periods i4).bind λa0 =>
 (if ((decide (a0<1))||(decide (a0>240))) then (some (.inr (.inr 340))) else (some (.inl (w64 (i4+1)))))) else (some (.inr (.inl ()))))
def Zci (N:Nat)(a0_:Z3)(a2:Int):Option ((Int)⊕((Unit)⊕(Int))):=
 (if (decide (a2<((List.length a0_.Uses:Nat):Int))) then ((idx a0_.Uses a2).bind λa0 =>
 (if ((decide (a0.Stream<0))||((decide (a0.Stream≥((List.length a0_.Periods:Nat):Int)))||((decide (a0.Port<0))||(decide (a0.Port≥48))))) then (some (.inr (.inr 340))) else ((idx a0_.Periods a0.Stream).bind λa1 =>
 (if ((decide (a0.From<0))||((decide (a0.From≥a1))||((decide (a0.Long<1))||(decide (a0.Long>a1))))) then (some (.inr (.inr 340))) else (some (.inl (w64 (a2+1)))))))) else (some (.inr (.inl ()))))
def Zdh (N:Nat)(a0_:Z3):Option (Int):=
 (if ((decide (((List.length a0_.Periods:Nat):Int)>12))||(decide (((List.length a0_.Uses:Nat):Int)>192))) then (some 340) else ((Zbf (λx:Int=>Zcj N a0_ x) N 0).bind λa4=>match a4 with
 | (.inl a6)=>((Zdg N a0_.Periods).bind λa3 =>
 (if (a3.2 != 0) then (some 340) else ((Zbf (λx:Int=>Zci N a0_ x) N 0).bind λa2=>match a2 with
 | (.inl a5)=>(some 0)
 | (.inr a1)=>(some a1))))
 | (.inr a0)=>(some a0)))
def ZbX (N:Nat)(rec_:Z3->Zaq->((List Int))->Int->Option (Zaq))(a0_:Z3)(a2_:(List Int))(a3_:Int)(i10:Int)(i11:Int)(a1:(List Zag))(a5:(List Z5))(ac:(List Int)):Option ((Int×Int×(List Zag)×(List Z5)×(List Int))⊕((Int×(List Zag)×(List Z5)×(List Int))⊕(Zaq))):=
 ((idx a0_.Periods ((List.length a2_:Nat):Int)).bind λaf =>
 (if (decide (i10<af)) then (if ((((List.length a2_:Nat):Int)==0)&&(i10==1)) then ((idx a0_.Periods 0).bind λae =>
 ((appI 32 a1 [(Zag.mk 1 ae (-2) 0)]).bind λad =>
 (some (.inr (.inl (i11,ad,a5,ac)))))) else ((ZfC N a0_ a2_ i10).bind λa4 =>
 (if (a4 != (-1)) then (((((if (decide (((List.length a1:Nat):Int)>0)) then ((idx a1 (w64 (((List.length a1:Nat):Int)-1))).bind λab=>(some (ab.By==a4))) else (some false))).bind λ(a9:Bool) =>
 (if a9 then ((idx a1 (w64 (((List.length a1:Nat):Int)-1))).bind λa3 =>
 (some (List.set a1 (Int.toNat (w64 (((List.length a1:Nat):Int)-1))) (Zag.mk a3.From (w64 (i10+1)) a3.By a3.Next)))) else ((appI 32 a1 [(Zag.mk i10 (w64 (i10+1)) a4 0)]).bind λa8 =>
 (some a8))))).bind λ(aa:(List Zag)) =>
 (some (.inl ((w64 (i10+1)),i11,aa,a5,ac)))) else ((appI 8 [] a2_).bind λa7 =>
 ((appI 8 a7 [i10]).bind λa2 =>
 (if (((List.length a2:Nat):Int)==((List.length a0_.Periods:Nat):Int)) then (some (.inr (.inr (Zaq.mk a5 a2 1)))) else ((appI 32 a1 [(Zag.mk i10 (w64 (i10+1)) (-1) ((List.length a5:Nat):Int))]).bind λa6 =>
 ((rec_ a0_ (Zaq.mk a5 ac i11) a2 a3_).bind λa0 =>
 (if (a0.What != 0) then (some (.inr (.inr a0))) else (some (.inl ((w64 (i10+1)),a0.What,a6,a0.Proof,a0.Offsets)))))))))))) else (some (.inr (.inl (i11,a1,a5,ac))))))
def Zce (N:Nat)(rec_:Z3->Zaq->((List Int))->Int->Option (Zaq))(a0_:Z3)(a1_:Zaq)(a2_:(List Int))(a3_:Int):Option (Zaq):=
 (if (decide (((List.length a1_.Proof:Nat):Int)>a3_)) then (some (Zaq.mk a1_.Proof a1_.Offsets 2)) else ((appI 32 a1_.Proof [(Z5.mk ((List.length a2_:Nat):Int) ([]))]).bind λl5 =>
 ((Zbf (λx:Int×Int×(List Zag)×(List Z5)×(List Int)=>ZbX N rec_ a0_ a2_ a3_ x.1 x.2.1 x.2.2.1 x.2.2.2.1 x.2.2.2.2) N (0,a1_.What,[],l5,a1_.Offsets)).bind λa2=>match a2 with
 | (.inl a0)=>((idx a0.2.2.1 ((List.length a1_.Proof:Nat):Int)).bind λa3 =>
 (some (Zaq.mk (List.set a0.2.2.1 (Int.toNat ((List.length a1_.Proof:Nat):Int)) (Z5.mk a3.Stream a0.2.1)) a0.2.2.2 a0.1)))
 | (.inr a1)=>(some a1))))
def ZcS:Nat->Z3->Zaq->((List Int))->Int->Option (Zaq)
 | 0=>λ_ _ _ _=>none
 | N+1=>λa0_ a1_ a2_ a3_=>Zce N (ZcS N) a0_ a1_ a2_ a3_
def Za6 (N:Nat)(a0_:Z3)(a2_:Int)(a4_:Int)(b18:Bool)(a1:Zax)(a0:Zax):Option ((Bool)×Nat):=
 (if ((a1.Stream==a0.Stream)&&((a1.Port==a0.Port)&&((a1.From==a0.From)&&((a1.Long==a0.Long)&&true)))) then (some (true,1)) else ((Zch N a0_ a1 a2_).bind λa4 =>
 ((Zch N a0_ a0 a4_).bind λa3 =>
 ((ZcF N a4 a3).bind λa2 =>
 (if (!a2.1) then (some (true,1)) else (some (b18,0)))))))
def ZcG (N:Nat)(a0_:Z3)(a1_:Int)(a2_:Int)(a3_:Int)(a4_:Int):Option (Bool):=
 ((ZeP N a0_ a1_ a3_).bind λa1 =>
 ((Zc4 N (λ(s:(Bool)×Nat) (a3:Zax) (a2:Zax)=>Zg4 (λv:Bool=>Za6 N a0_ a2_ a4_ v a3 a2) s) a1.1 a1.2.1 a1.2.2 (false,0)).bind λa0 =>
 (if (a0.2==0) then (some false) else (if (a0.2==1) then (some a0.1) else none))))
def ZcH (N:Nat)(a0_:Z3)(a1_:Int)(a2_:Int)(a3_:Int)(a4_:Int):Option (Bool×Int):=
 ((Zdh N a0_).bind λr1 =>
 (if (r1 != 0) then (some (false,r1)) else (if ((decide (a1_<0))||((decide (a1_≥((List.length a0_.Periods:Nat):Int)))||((decide (a3_<0))||(decide (a3_≥((List.length a0_.Periods:Nat):Int)))))) then (some (false,2)) else ((((ZcV N a0_ a1_ a2_).bind λa2=>(if (!a2) then (some true) else ((ZcV N a0_ a3_ a4_).bind λa1=>(if (!a1) then (some true) else (if (a1_==a3_) then (some (a2_ != a4_)) else (some false))))))).bind λ(a3:Bool) =>
 (if a3 then (some (false,2)) else ((ZcG N a0_ a1_ a2_ a3_ a4_).bind λa0 =>
 (some (a0,0))))))))
abbrev slvK:=List (ZaQ×Bool)
def ZdS (N:Nat)(p:Z3)(known:slvK)(i x j y:Int):Option (Bool×slvK):=
 (idx p.Periods i).bind λper=>(remI (w64 (x-y)) per).bind λm1=>(remI (w64 (m1+per)) per).bind λm2 =>
 if (!(mhas known (ZaQ.mk i m2 j))) then (ZcH N p i m2 j 0).bind λr=>some (r.1,ZfL known (ZaQ.mk i m2 j) r.1) else some (ZkH known (ZaQ.mk i m2 j) false,known)
def Zcd (N:Nat)(p:Z3)(given:List Int)(i x:Int)(j:Int)(known:slvK):Option ((Int×slvK)⊕(slvK⊕(Int×slvK))):=
 if decide (j<i) then (idx given j).bind λy=>(ZdS N p known i x j y).bind λr=>if r.1 then some (.inr (.inr (j,r.2))) else some (.inl (w64 (j+1),r.2))
 else some (.inr (.inl known))
def ZdR (N:Nat)(p:Z3)(given:List Int)(known:slvK)(i x:Int):Option (Int×slvK):=
 (Zbf (λy:Int×slvK=>Zcd N p given i x y.1 y.2) N (0,known)).bind λo=>match o with
  | .inl k=>(ZdS N p k i x i x).bind λr=>if r.1 then some (i,r.2) else some (-1,r.2)
  | .inr q=>some q
def ZdD (l:List Zag)(b:Int):Option Bool :=
 if decide (((List.length l:Nat):Int)>0) then (if decide (b≥0) then (idx l (w64 (((List.length l:Nat):Int)-1))).bind λe=>some (e.By==b) else some false) else some false
def Zd5 (f:List Z5)(c:Int)(z:Zag):Option (List Z5):=
 (idx f c).bind λfc=>(ZdD fc.Arms z.By).bind λis =>
  if is then (idx fc.Arms (w64 (((List.length fc.Arms:Nat):Int)-1))).bind λla=>some (f.set c.toNat ⟨fc.Stream,fc.Arms.set (w64 (((List.length fc.Arms:Nat):Int)-1)).toNat { la with To:=z.To }⟩)
  else (appI 32 fc.Arms [z]).bind λl=>some (f.set c.toNat ⟨fc.Stream,l⟩)
abbrev Zbt:=List Z5×List Int×slvK
def Zcv (N:Nat)(rec_:Zbt->Int->Option (Option (Bool×Zbt)))(p:Z3)(i c most:Int)(x:Int)(st:Zbt):Option ((Int×Zbt)⊕(Zbt⊕Option Zbt)):=
 if decide (x<most) then (ZdR N p st.2.1 st.2.2 i x).bind λb =>
  (if b.1 == -1 then (appI 8 st.2.1 [x]).bind λg =>
   if i==w64 (((List.length p.Periods:Nat):Int)-1) then some (.inr (some (st.1,g,b.2)))
   else (rec_ (st.1,g,b.2) (w64 (i+1))).bind λo=>match o with
    | none=>some (.inr none)
    | some (t,s2)=>if t then some (.inr (some s2)) else (popI s2.2.1 i).bind λg2=>some (.inl (((List.length st.1:Nat):Int),(s2.1,g2,s2.2.2)))
  else some (.inl (0,(st.1,st.2.1,b.2)))).bind λ(q:(Int×Zbt)⊕Option Zbt)=>match q with
   | .inr e=>some (.inr (.inr e))
   | .inl q=>(Zd5 q.2.1 c ⟨x,w64 (x+1),b.1,q.1⟩).bind λf=>some (.inl (w64 (x+1),(f,q.2.2)))
 else some (.inr (.inl st))
def ZcQ (N:Nat)(rec_:Zbt->Int->Option (Option (Bool×Zbt)))(p:Z3)(fuel:Int)(st:Zbt)(i:Int):Option (Option (Bool×Zbt)):=
 if decide (((List.length st.1:Nat):Int)>fuel) then some none
 else (appI 32 st.1 [⟨i,[]⟩]).bind λf1=>(idx p.Periods i).bind λper=>(if i==0 then some 1 else some per).bind λmost =>
  (Zbf (λy:Int×Zbt=>Zcv N rec_ p i ((List.length st.1:Nat):Int) most y.1 y.2) N (0,(f1,st.2))).bind λo=>match o with
   | .inl s2=>if decide (most<per) then (Zd5 s2.1 ((List.length st.1:Nat):Int) ⟨most,per,-2,0⟩).bind λf=>some (some (false,(f,s2.2))) else some (some (false,s2))
   | .inr o=>match o with
    | none=>some none
    | some s2=>some (some (true,s2))
def Zdm:Nat->Z3->Int->Zbt->Int->Option (Option (Bool×Zbt))
 | 0=>λ_ _ _ _=>none
 | N+1=>λp fuel st i=>ZcQ N (Zdm N p fuel) p fuel st i
def Za8 (N:Nat)(p:Z3)(fuel:Int):Option (List Int×List Z5×Int):=
 (Zdh N p).bind λe=>if (e != 0) then some ([],[],e) else
 if ((decide (fuel<0))||(decide (fuel>1999))) then some ([],[],2) else
 if (((List.length p.Periods:Nat):Int)==0) then some ([],[],0) else
 (Zdm N p fuel ([],[],[]) 0).bind λo=>match o with
  | none=>some ([],[],8)
  | some (t,st)=>if t then some (st.2.1,[],0) else some ([],st.1,4)
def ZbA (N:Nat)(a0_:Z3)(a1_:Int):Option ((List Int)×(List Z5)×Int):=
 ((Zdq N a0_).bind λr1 =>
 (if (!r1) then (some ([],[],340)) else (if ((decide (a1_<0))||(decide (a1_≥2000))) then (some ([],[],2)) else (if (((List.length a0_.Periods:Nat):Int)==0) then (some ([],[],0)) else ((ZcS N a0_ (Zaq.mk ([]) ([]) 0) ([]) a1_).bind λr7 =>
 (if (r7.What==1) then (some (r7.Offsets,[],0)) else (if (r7.What==2) then (some ([],[],8)) else (some ([],r7.Proof,4)))))))))
def Zea (N:Nat)(a0_:Z3)(a1_:Int)(a2_:(List Int)):Option (Bool):=
 ((Za8 N a0_ a1_).bind λr1 =>
 (((if (r1.2.2==0) then (if (((List.length r1.2.1:Nat):Int)==0) then ((Zau N r1.1 a2_).bind λr4=>(some r4)) else (some false)) else (some false))).bind λ(j7:Bool) =>
 (some j7)))
def Zdt (N:Nat)(a0_:Z3)(a1_:Int)(a2_:Int):Option (Bool):=
 ((Za8 N a0_ a1_).bind λr1 =>
 (some ((r1.2.2==a2_)&&((((List.length r1.1:Nat):Int)==0)&&((decide (((List.length r1.2.1:Nat):Int)>0))==(r1.2.2==4))))))
def Zds (N:Nat):Option (Bool):=
 ((Zd9 N 2 1 1).bind λr1 =>
 ((Zd9 N 2 2 1).bind λr2 =>
 ((Za8 N r2 2).bind λr3 =>
 ((((Zea N r1 9 ([0,2,3])).bind λr4=>(if r4 then ((Zdt N r1 1 8).bind λr6=>(if r6 then ((Zea N r1 2 ([0,2,3])).bind λr8=>(if r8 then (if (r3.2.2==4) then ((Zbp N r3.2.1 ([(Z5.mk 0 ([(Zag.mk 0 1 (-1) 1),(Zag.mk 1 4 (-2) 0)])),(Z5.mk 1 ([(Zag.mk 0 2 0 0),(Zag.mk 2 3 (-1) 2),(Zag.mk 3 4 0 0)])),(Z5.mk 2 ([(Zag.mk 0 2 0 0),(Zag.mk 2 4 1 0)]))])).bind λa2=>(if a2 then ((Zdt N r2 1 8).bind λa1=>(if a1 then ((Zdt N r2 2000 2).bind λa0=>(some a0)) else (some false))) else (some false))) else (some false)) else (some false))) else (some false))) else (some false)))).bind λ(a3:Bool) =>
 (some a3)))))
def ZbQ (N:Nat)(a0_:Zbn)(a1_:Z3)(a2_:Int):Option (Bool):=
 ((subI a1_.Periods 0 (if 13<((List.length a1_.Periods:Nat):Int) then 13 else ((List.length a1_.Periods:Nat):Int))).bind λl1 =>
 ((subI a1_.Uses 0 (if 200<((List.length a1_.Uses:Nat):Int) then 200 else ((List.length a1_.Uses:Nat):Int))).bind λl2 =>
 ((Zbm N a0_).bind λr3 =>
 ((Za8 N r3 a2_).bind λr4 =>
 ((ZbA N r3 a2_).bind λr5 =>
 (((if (r4.2.2 != r5.2.2) then (some true) else ((Zau N r4.1 r5.1).bind λr8=>(if (!r8) then (some true) else ((Zbp N r4.2.1 r5.2.1).bind λam=>(some (!am))))))).bind λ(au:Bool) =>
 (if au then (some false) else ((Za8 N r3 (w64 ((Int.tmod (IntKind.u64.wrap (a2_)) 8)))).bind λa9 =>
 ((ZbA N r3 (w64 ((Int.tmod (IntKind.u64.wrap (a2_)) 8)))).bind λa8 =>
 (((if (a9.2.2 != a8.2.2) then (some true) else ((Zau N a9.1 a8.1).bind λal=>(if (!al) then (some true) else ((Zbp N a9.2.1 a8.2.1).bind λak=>(some (!ak))))))).bind λ(ar:Bool) =>
 (if ar then (some false) else ((Za8 N r3 60).bind λa7 =>
 ((ZbA N r3 60).bind λa6 =>
 (((if (a7.2.2 != a6.2.2) then (some true) else ((Zau N a7.1 a6.1).bind λaj=>(if (!aj) then (some true) else ((Zbp N a7.2.1 a6.2.1).bind λai=>(some (!ai))))))).bind λ(aq:Bool) =>
 (if aq then (some false) else ((Za8 N (Z3.mk l1 l2) a2_).bind λa5 =>
 ((ZbA N (Z3.mk l1 l2) a2_).bind λa4 =>
 (((if (a5.2.2 != a4.2.2) then (some true) else ((Zau N a5.1 a4.1).bind λag=>(if (!ag) then (some true) else ((Zbp N a5.2.1 a4.2.1).bind λaf=>(some (!af))))))).bind λ(ap:Bool) =>
 (if ap then (some false) else ((Za8 N (Z3.mk l1 l2) (w64 ((Int.tmod (IntKind.u64.wrap (a2_)) 8)))).bind λa3 =>
 ((ZbA N (Z3.mk l1 l2) (w64 ((Int.tmod (IntKind.u64.wrap (a2_)) 8)))).bind λa2 =>
 (((if (a3.2.2 != a2.2.2) then (some true) else ((Zau N a3.1 a2.1).bind λae=>(if (!ae) then (some true) else ((Zbp N a3.2.1 a2.2.1).bind λad=>(some (!ad))))))).bind λ(ao:Bool) =>
 (if ao then (some false) else ((Za8 N (Z3.mk l1 l2) 60).bind λa1 =>
 ((ZbA N (Z3.mk l1 l2) 60).bind λa0 =>
 (((if (a1.2.2 != a0.2.2) then (some true) else ((Zau N a1.1 a0.1).bind λac=>(if (!ac) then (some true) else ((Zbp N a1.2.1 a0.2.1).bind λab=>(some (!ab))))))).bind λ(an:Bool) =>
 (if an then (some false) else ((Zds N).bind λaa =>
 (some aa)))))))))))))))))))))))))))))
end Go.Sh

