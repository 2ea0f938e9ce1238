/- Part of the proof. -/
import Derived.Test.YthhhjjjbpcaadaaSolveLeastE18
set_option linter.all false
namespace Go.Sh
open Go Go.Eng
set_option maxRecDepth 100000
structure ZhB where
 x0:Int
 x1:Int
 x2:Int
 x3:Int
def ZdJ (v:ZhB):List PC:=[.int .u8 v.x0,.int .u8 v.x1,.int .u8 v.x2,.int .u8 v.x3]
structure Zbc where
 Periods:(List Int)
 Uses:(List ZhB)
def ZiP (v:Zbc):List PC:=[.sl 1 false (List.map (eI .u8) v.Periods),.sl 4 false (List.map ZdJ v.Uses)]
structure Zam where
 Stream:Int
 Port:Int
 From:Int
 Long:Int
def ZaX (v:Zam):List PC:=[.int .i64 v.Stream,.int .i64 v.Port,.int .i64 v.From,.int .i64 v.Long]
structure Z1 where
 Periods:(List Int)
 Uses:(List Zam)
structure Zan where
 From:Int
 To:Int
 By:Int
 Next:Int
def ZaA (v:Zan):List PC:=[.int .i64 v.From,.int .i64 v.To,.int .i64 v.By,.int .i64 v.Next]
structure Z3 where
 Stream:Int
 Arms:(List Zan)
def Zao (v:Z3):List PC:=[.int .i64 v.Stream,.sl 4 false (List.map ZaA v.Arms)]
structure Z4 where
 Period:Int
 From:Int
 Long:Int
def ZaE (v:Z4):List PC:=[.int .i64 v.Period,.int .i64 v.From,.int .i64 v.Long]
structure ZhY where
 i:Int
 x_:Int
 j:Int deriving DecidableEq
structure ZaB where
 x0:Int
 x1:Int
 x2:Int
 x3:Int
 x4:Int
 x5:Int
 x6:Int
 x7:Int
 x8:Int
 x9:Int
 x10:Int
 x11:Int
structure ZaI where
 i:Int
 x_:Int
 j:Int deriving DecidableEq
abbrev Z5 (f:Bool) (l:List Int):AV:=.p (.sl 1 f (List.map eI64 l))
abbrev Z6 (f:Bool) (l:List Zam):AV:=.p (.sl 4 f (List.map ZaX l))
abbrev ZbK (f:Bool) (l:List Int):AV:=.p (.sl 1 f (List.map (eI .u8) l))
abbrev Ze1 (f:Bool) (l:List ZhB):AV:=.p (.sl 4 f (List.map ZdJ l))
abbrev Zag (f:Bool) (l:List Z3):AV:=.p (.sl 2 f (List.map Zao l))
abbrev Zba (f:Bool) (l:List Zan):AV:=.p (.sl 4 f (List.map ZaA l))
abbrev ZaC (f:Bool) (l:List Z4):AV:=.p (.sl 3 f (List.map ZaE l))
abbrev Zfy (v:ZhB):List AV:=[.p (.int .u8 v.x0),.p (.int .u8 v.x1),.p (.int .u8 v.x2),.p (.int .u8 v.x3)]
abbrev Zaz (v:Zbc):List AV:=[ZbK false v.Periods,Ze1 false v.Uses]
abbrev Zaw (v:Zam):List AV:=[iv v.Stream,iv v.Port,iv v.From,iv v.Long]
abbrev Z0 (v:Z1):List AV:=[Z5 false v.Periods,Z6 false v.Uses]
abbrev ZbB (v:Zan):List AV:=[iv v.From,iv v.To,iv v.By,iv v.Next]
abbrev Zbr (v:Z4):List AV:=[iv v.Period,iv v.From,iv v.Long]
def Zfq (v:ZhY):List Int:=[v.i,v.x_,v.j]
instance:KeyE ZhY 3 Zfq:=⟨λ_=>rfl,λx y h=>by cases x;cases y;simpa [Zfq] using h⟩
abbrev Zkp (v:ZaB):List AV:=[iv v.x0,iv v.x1,iv v.x2,iv v.x3,iv v.x4,iv v.x5,iv v.x6,iv v.x7,iv v.x8,iv v.x9,iv v.x10,iv v.x11]
def ZaB.l (v:ZaB):List Int:=[v.x0,v.x1,v.x2,v.x3,v.x4,v.x5,v.x6,v.x7,v.x8,v.x9,v.x10,v.x11]
def ZaB.ofL (l:List Int):ZaB:=⟨l.getD 0 0,l.getD 1 0,l.getD 2 0,l.getD 3 0,l.getD 4 0,l.getD 5 0,l.getD 6 0,l.getD 7 0,l.getD 8 0,l.getD 9 0,l.getD 10 0,l.getD 11 0⟩
def ZaB.get (v:ZaB)(i:Int):Option Int:=idx v.l i
def ZaB.set (v:ZaB)(i:Int)(x:Int):ZaB:=ZaB.ofL (v.l.set i.toNat x)
theorem ZaB.l_ofL (l:List Int)(h:l.length=12):(ZaB.ofL l).l=l:=ZnQ 12 0 l h rfl
theorem ZaB.l_set (v:ZaB)(i:Int)(x:Int):(v.set i x).l=v.l.set i.toNat x:=ZaB.l_ofL _ (by rw [ZC];rfl)
theorem ZaB.c_set (v:ZaB)(i:Int)(x:Int):Zkp (v.set i x)=(v.l.set i.toNat x).map (λx=>iv x):=by rw [← ZaB.l_set];rfl
def ZbX (v:ZaI):List Int:=[v.i,v.x_,v.j]
instance:KeyE ZaI 3 ZbX:=⟨λ_=>rfl,λx y h=>by cases x;cases y;simpa [ZbX] using h⟩
def ZaN (N:Nat)(a0_:Zbc)(i3:Int)(l4:(List Int)):Option ((Int×(List Int))⊕(((List Int)))):=
 (if ((decide (i3<((List.length a0_.Periods:Nat):Int)))&&(decide (i3<5))) then ((idx a0_.Periods i3).bind λa2 =>
 ((idx [4,6,8,12,3,5,10,24] (Int.tmod a2 8)).bind λa1 =>
 ((appI 8 l4 [a1]).bind λa0 =>
 (some (.inl ((w64 (i3+1)),a0)))))) else (some (.inr l4)))
def ZaM (N:Nat)(a0_:Zbc)(a4:(List Int))(a2:Int)(a8:(List Zam)):Option ((Int×(List Zam))⊕(((List Zam)))):=
 (((if (decide (a2<((List.length a0_.Uses:Nat):Int))) then (if (decide (a2<12)) then (some (decide (((List.length a4:Nat):Int)>0))) else (some false)) else (some false))).bind λ(aa:Bool) =>
 (if aa then ((idx a0_.Uses a2).bind λa0 =>
 ((remI (w64 (a0.x0)) ((List.length a4:Nat):Int)).bind λa3 =>
 ((idx a4 a3).bind λa1 =>
 ((remI (w64 (a0.x2)) a1).bind λa7 =>
 ((remI (w64 (a0.x3)) a1).bind λa6 =>
 ((remI (Int.tmod a6 4) a1).bind λa5 =>
 ((appI 32 a8 [(Zam.mk a3 (w64 ((Int.tmod a0.x1 4))) a7 (w64 (1+a5)))]).bind λa9 =>
 (some (.inl ((w64 (a2+1)),a9)))))))))) else (some (.inr a8))))
def Zbb (N:Nat)(a0_:Zbc):Option (Z1):=
 ((Za9 (λx:Int×(List Int)=>ZaN N a0_ x.1 x.2) N (0,[])).bind λa0 =>
 ((Za9 (λx:Int×(List Zam)=>ZaM N a0_ a0 x.1 x.2) N (0,[])).bind λa1 =>
 (some (Z1.mk a0 a1))))
def Za4 (N:Nat)(a0_:(List Int))(a1_:(List Int))(i2:Int):Option ((Int)⊕((Unit)⊕(Bool))):=
 (if (decide (i2<((List.length a0_:Nat):Int))) then ((idx a0_ i2).bind λa1 =>
 ((idx a1_ i2).bind λa0 =>
 (if (a1 != a0) then (some (.inr (.inr false))) else (some (.inl (w64 (i2+1))))))) else (some (.inr (.inl ()))))
def ZbJ (N:Nat)(a0_:(List Int))(a1_:(List Int)):Option (Bool):=
 (if (((List.length a0_:Nat):Int)!=((List.length a1_:Nat):Int)) then (some false) else ((Za9 (λx:Int=>Za4 N a0_ a1_ x) N 0).bind λa1=>match a1 with
 | (.inl a2)=>(some true)
 | (.inr a0)=>(some a0)))
def ZcT (N:Nat)(a0_:(List Z3))(a1_:(List Z3))(i2:Int)(a2:Int):Option ((Int)⊕((Unit)⊕(Bool))):=
 ((idx a0_ i2).bind λa5 =>
 (if (decide (a2<((List.length a5.Arms:Nat):Int))) then ((idx a0_ i2).bind λa4 =>
 ((idx a4.Arms a2).bind λa1 =>
 ((idx a1_ i2).bind λa3 =>
 ((idx a3.Arms a2).bind λa0 =>
 (if (!((a1.From==a0.From)&&((a1.To==a0.To)&&((a1.By==a0.By)&&((a1.Next==a0.Next)&&true))))) then (some (.inr (.inr false))) else (some (.inl (w64 (a2+1))))))))) else (some (.inr (.inl ())))))
def ZcU (N:Nat)(a0_:(List Z3))(a1_:(List Z3))(i2:Int):Option ((Int)⊕((Unit)⊕(Bool))):=
 (if (decide (i2<((List.length a0_:Nat):Int))) then ((((idx a0_ i2).bind λa6=>((idx a1_ i2).bind λa5=>(if (a6.Stream != a5.Stream) then (some true) else ((idx a0_ i2).bind λa4=>((idx a1_ i2).bind λa3=>(some (((List.length a4.Arms:Nat):Int)!=((List.length a3.Arms:Nat):Int))))))))).bind λ(a2:Bool) =>
 (if a2 then (some (.inr (.inr false))) else ((Za9 (λx:Int=>ZcT N a0_ a1_ i2 x) N 0).bind λa1=>match a1 with
 | (.inl a7)=>(some (.inl (w64 (i2+1))))
 | (.inr a0)=>(some (.inr (.inr a0)))))) else (some (.inr (.inl ()))))
def ZfI (N:Nat)(a0_:(List Z3))(a1_:(List Z3)):Option (Bool):=
 (if (((List.length a0_:Nat):Int)!=((List.length a1_:Nat):Int)) then (some false) else ((Za9 (λx:Int=>ZcU N a0_ a1_ x) N 0).bind λa1=>match a1 with
 | (.inl a2)=>(some true)
 | (.inr a0)=>(some a0)))
def ZdX (N:Nat)(a0_:Int)(a1_:Int)(a2_:Int):Option (Z1):=
 (some (Z1.mk ([4,4,4]) ([(Zam.mk 0 0 0 a0_),(Zam.mk 1 0 0 a1_),(Zam.mk 2 0 0 a2_)])))
def ZdR (N:Nat)(a0_:Z1)(a1_:(List Int))(i3:Int)(l4:(List Int)):Option ((Int×(List Int))⊕(((List Int)))):=
 (if (decide (i3<((List.length a0_.Periods:Nat):Int))) then (((if (decide (i3<((List.length a1_:Nat):Int))) then ((idx a1_ i3).bind λa4 =>
 ((idx a0_.Periods i3).bind λa3 =>
 ((remI (w64 (a4)) a3).bind λa0 =>
 (some a0)))) else (some 0))).bind λ(a2:Int) =>
 ((appI 8 l4 [a2]).bind λa1 =>
 (some (.inl ((w64 (i3+1)),a1))))) else (some (.inr l4)))
def ZfJ (N:Nat)(a0_:Z1)(a1_:(List Int)):Option ((List Int)):=
 ((Za9 (λx:Int×(List Int)=>ZdR N a0_ a1_ x.1 x.2) N (0,[])).bind λa0 =>
 (some a0))
def Zb9 (N:Nat)(a0_:Z1)(a1_:Int)(a2_:Int):Option (Bool):=
 (((if (decide (a2_≥0)) then ((idx a0_.Periods a1_).bind λe2=>(some (decide (a2_<e2)))) else (some false))).bind λ(j4:Bool) =>
 (some j4))
def Zjf (N:Nat)(a0_:(List Int))(i1:Int)(a4:Bool)(a0:Int):Option ((Bool×Int)⊕((Bool))):=
 (if (decide (a0<((List.length a0_:Nat):Int))) then (((if a4 then ((idx a0_ a0).bind λa3=>((remI i1 a3).bind λa1=>(if (a1==0) then (some true) else (some false)))) else (some false))).bind λ(a2:Bool) =>
 (some (.inl (a2,(w64 (a0+1)))))) else (some (.inr a4)))
def Zjg (N:Nat)(a0_:(List Int))(i1:Int):Option ((Int)⊕((Unit)⊕(Int))):=
 (if (decide (i1<=960)) then ((Za9 (λx:Bool×Int=>Zjf N a0_ i1 x.1 x.2) N (true,0)).bind λa0 =>
 (if a0 then (some (.inr (.inr i1))) else (some (.inl (w64 (i1+1)))))) else (some (.inr (.inl ()))))
def Zn9 (N:Nat)(a0_:(List Int)):Option (Int):=
 ((Za9 (λx:Int=>Zjg N a0_ x) N 1).bind λa1=>match a1 with
 | (.inl a2)=>(some 0)
 | (.inr a0)=>(some a0))
def ZeA (N:Nat)(a0_:Z1)(a1_:Int)(a2_:Int):Option (Z1×Int×Int):=
 (some (a0_,a1_,a2_))
def ZbS (N:Nat)(a0_:Z1)(a1_:Zam)(a2_:Int):Option (Z4):=
 ((idx a0_.Periods a1_.Stream).bind λe1 =>
 ((remI (w64 (a1_.From+a2_)) e1).bind λm2 =>
 (some (Z4.mk e1 m2 a1_.Long))))
def Zcn (N:Nat)(a0_:Int):Option (Bool):=
 (some (a0_ != a0_))
def Zbp {σ:Type}(N:Nat)(y_:σ->Zam->Zam->Option (σ×Bool))(c0_:Z1)(c2_:Int)(i4:Int)(a5:Zam)(a1:Int)(a3:σ):Option ((Int×σ)⊕((σ)⊕(σ))):=
 (if (decide (a1<((List.length c0_.Uses:Nat):Int))) then ((idx c0_.Uses a1).bind λa2 =>
 (((if (a1==i4) then (some true) else (if (a2.Stream != c2_) then (some true) else (some (a2.Port != a5.Port))))).bind λ(a4:Bool) =>
 (if a4 then (some (.inl ((w64 (a1+1)),a3))) else ((y_ a3 a5 a2).bind λa0 =>
 (if (!a0.2) then (some (.inr (.inr a0.1))) else (some (.inl ((w64 (a1+1)),a0.1)))))))) else (some (.inr (.inl a3))))
def Zbq {σ:Type}(N:Nat)(y_:σ->Zam->Zam->Option (σ×Bool))(c0_:Z1)(c1_:Int)(c2_:Int)(i4:Int)(g5:σ):Option ((Int×σ)⊕((σ)⊕(σ))):=
 (if (decide (i4<((List.length c0_.Uses:Nat):Int))) then ((idx c0_.Uses i4).bind λa3 =>
 (if (a3.Stream != c1_) then (some (.inl ((w64 (i4+1)),g5))) else ((Za9 (λx:Int×σ=>Zbp N y_ c0_ c2_ i4 a3 x.1 x.2) N (0,g5)).bind λa2=>match a2 with
 | (.inl a1)=>(some (.inl ((w64 (i4+1)),a1)))
 | (.inr a0)=>(some (.inr (.inr a0)))))) else (some (.inr (.inl g5))))
def ZcE {σ:Type}(N:Nat)(y_:σ->Zam->Zam->Option (σ×Bool))(c0_:Z1)(c1_:Int)(c2_:Int)(s_:σ):Option (σ):=
 ((Za9 (λx:Int×σ=>Zbq N y_ c0_ c1_ c2_ x.1 x.2) N (0,s_)).bind λa2=>match a2 with
 | (.inl a1)=>(some a1)
 | (.inr a0)=>(some a0))
def Zbv (N:Nat)(a0_:Z4):Option (Int):=
 (if ((decide (a0_.Period<1))||((decide (a0_.Period>960))||((decide (a0_.From<0))||(decide (a0_.From≥a0_.Period))))) then (some 330) else (if ((decide (a0_.Long<1))||(decide (a0_.Long>a0_.Period))) then (some 330) else (some 0)))
def ZaR (N:Nat)(a0_:(List Z4))(i2:Int):Option ((Int)⊕((Unit)⊕(Int))):=
 (if (decide (i2<((List.length a0_:Nat):Int))) then ((idx a0_ i2).bind λa1 =>
 ((Zbv N a1).bind λa0 =>
 (if (a0 != 0) then (some (.inr (.inr a0))) else (some (.inl (w64 (i2+1))))))) else (some (.inr (.inl ()))))
def Zbz (N:Nat)(a0_:(List Z4)):Option (Int):=
 (if (decide (((List.length a0_:Nat):Int)>32)) then (some 3) else ((Za9 (λx:Int=>ZaR N a0_ x) N 0).bind λa1=>match a1 with
 | (.inl a2)=>(some 0)
 | (.inr a0)=>(some a0)))
def Zc8 (N:Nat)(a0_:Int)(a1_:Int):Option (Int):=
 ((remI a0_ a1_).bind λm1 =>
 ((remI (w64 (m1+a1_)) a1_).bind λm2 =>
 (some m2)))
def Zbl (N:Nat)(i1:Int)(i2:Int):Option ((Int×Int)⊕((Int))):=
 (if (i2 != 0) then ((remI i1 i2).bind λa0 =>
 (some (.inl (i2,a0)))) else (some (.inr i1)))
def Zcu (N:Nat)(a0_:Int)(a1_:Int):Option (Int):=
 ((Za9 (λx:Int×Int=>Zbl N x.1 x.2) N (a0_,a1_)).bind λa0 =>
 (some a0))
def ZbO (N:Nat)(a0_:Int)(a1_:Int):Option (Int):=
 ((Zcn N a0_).bind λr1 =>
 ((Zcn N a1_).bind λr2 =>
 (if r1 then (if r2 then (some 0) else (some (-1))) else (if r2 then (some 1) else (if (decide (a0_<a1_)) then (some (-1)) else (if (decide (a0_>a1_)) then (some 1) else (some 0)))))))
def ZaV (N:Nat)(a0_:Int)(a1_:(List Int))(i1:Int)(i2:Int):Option ((Int×Int)⊕((Int))):=
 (if (decide (i2<((List.length a1_:Nat):Int))) then ((idx a1_ i2).bind λa0 =>
 ((Zcu N i1 a0).bind λa2 =>
 ((quoI .i64 i1 a2).bind λa1 =>
 (if (decide ((w64 (a1*a0))>a0_)) then (some (.inr (w64 (a1*a0)))) else (some (.inl ((w64 (a1*a0)),(w64 (i2+1))))))))) else (some (.inr i1)))
def ZcD (N:Nat)(a0_:Int)(a1_:(List Int)):Option (Int):=
 ((Za9 (λx:Int×Int=>ZaV N a0_ a1_ x.1 x.2) N (1,0)).bind λa0 =>
 (some a0))
def ZcC (N:Nat)(a0_:Z4)(a1_:Z4):Option (Int×Int×Int):=
 ((Zcu N a0_.Period a1_.Period).bind λr1 =>
 (some (a0_.Long,(w64 (r1-a1_.Long)),r1)))
def Zay (N:Nat)(a0_:(List Int))(a1_:(List Int))(i1:Int):Option ((Int)⊕((Unit)⊕(Int))):=
 (if (decide (i1<((List.length a0_:Nat):Int))) then ((idx a0_ i1).bind λa2 =>
 (if (decide (i1≥((List.length a1_:Nat):Int))) then (some (.inr (.inr 1))) else ((idx a1_ i1).bind λa1 =>
 ((ZbO N a2 a1).bind λa0 =>
 (if (a0 != 0) then (some (.inr (.inr a0))) else (some (.inl (w64 (i1+1))))))))) else (some (.inr (.inl ()))))
def ZaJ (N:Nat)(a0_:(List Int))(a1_:(List Int)):Option (Int):=
 ((Za9 (λx:Int=>Zay N a0_ a1_ x) N 0).bind λa1=>match a1 with
 | (.inl a2)=>(if (decide (((List.length a0_:Nat):Int)<((List.length a1_:Nat):Int))) then (some (-1)) else (some 0))
 | (.inr a0)=>(some a0))
def Za6 (N:Nat)(a0_:(List Z4))(i8:Int)(l9:(List Int)):Option ((Int×(List Int))⊕(((List Int)))):=
 (if (decide (i8<((List.length a0_:Nat):Int))) then ((idx a0_ i8).bind λa0 =>
 ((idx l9 i8).bind λa1 =>
 (some (.inl ((w64 (i8+1)),(List.set l9 (Int.toNat i8) a0.Period)))))) else (some (.inr l9)))
def Zch (N:Nat)(a0_:(List Z4)):Option (Int×Int):=
 ((Zbz N a0_).bind λr1 =>
 (if (r1 != 0) then (some (0,r1)) else ((ZjA 8 ((List.length a0_:Nat):Int) ((List.length a0_:Nat):Int) 0).bind λl5 =>
 ((Za9 (λx:Int×(List Int)=>Za6 N a0_ x.1 x.2) N (0,l5)).bind λa1 =>
 ((ZcD N 960 a1).bind λa0 =>
 (if (decide (a0>960)) then (some (0,6)) else (some (a0,0))))))))
def Zcg (N:Nat)(a0_:Z4)(a1_:Z4):Option (Bool):=
 (if ((a0_.Period==a1_.Period)&&((a0_.From==a1_.From)&&((a0_.Long==a1_.Long)&&true))) then (some false) else ((ZcC N a0_ a1_).bind λr2 =>
 ((Zc8 N (w64 (a1_.From-a0_.From)) r2.2.2).bind λr3 =>
 (some ((decide (r2.1<=r3))&&(decide (r3<=r2.2.1)))))))
def Zbw (N:Nat)(a0_:(List Int))(i6:Int)(l7:(List Z4)):Option ((Int×(List Z4))⊕(((List Z4)))):=
 (if (decide (i6<((List.length a0_:Nat):Int))) then ((idx a0_ i6).bind λa0 =>
 ((idx l7 i6).bind λa1 =>
 (some (.inl ((w64 (i6+1)),(List.set l7 (Int.toNat i6) (Z4.mk a0 0 1))))))) else (some (.inr l7)))
def ZcX (N:Nat)(a0_:(List Int)):Option (Int×Int):=
 ((ZjA 24 ((List.length a0_:Nat):Int) ((List.length a0_:Nat):Int) (Z4.mk 0 0 0)).bind λl3 =>
 ((Za9 (λx:Int×(List Z4)=>Zbw N a0_ x.1 x.2) N (0,l3)).bind λa1 =>
 ((Zch N a1).bind λa0 =>
 (some (a0.1,a0.2)))))
def Zci (N:Nat)(a0_:Z4)(a1_:Z4):Option (Bool×Int):=
 ((Zbv N a0_).bind λr1 =>
 (if (r1 != 0) then (some (false,r1)) else ((Zbv N a1_).bind λr3 =>
 (if (r3 != 0) then (some (false,r3)) else ((Zcg N a0_ a1_).bind λr5 =>
 (some (r5,0)))))))
def ZbV (N:Nat)(a0_:Z1)(i4:Int):Option ((Int)⊕((Unit)⊕(Int))):=
 (if (decide (i4<((List.length a0_.Periods:Nat):Int))) then ((idx a0_.Periods i4).bind λa0 =>
 (if ((decide (a0<1))||(decide (a0>240))) then (some (.inr (.inr 340))) else (some (.inl (w64 (i4+1)))))) else (some (.inr (.inl ()))))
def ZbU (N:Nat)(a0_:Z1)(a2:Int):Option ((Int)⊕((Unit)⊕(Int))):=
 (if (decide (a2<((List.length a0_.Uses:Nat):Int))) then ((idx a0_.Uses a2).bind λa0 =>
 (if ((decide (a0.Stream<0))||((decide (a0.Stream≥((List.length a0_.Periods:Nat):Int)))||((decide (a0.Port<0))||(decide (a0.Port≥48))))) then (some (.inr (.inr 340))) else ((idx a0_.Periods a0.Stream).bind λa1 =>
 (if ((decide (a0.From<0))||((decide (a0.From≥a1))||((decide (a0.Long<1))||(decide (a0.Long>a1))))) then (some (.inr (.inr 340))) else (some (.inl (w64 (a2+1)))))))) else (some (.inr (.inl ()))))
def Zcv (N:Nat)(a0_:Z1):Option (Int):=
 (if ((decide (((List.length a0_.Periods:Nat):Int)>12))||(decide (((List.length a0_.Uses:Nat):Int)>192))) then (some 340) else ((Za9 (λx:Int=>ZbV N a0_ x) N 0).bind λa4=>match a4 with
 | (.inl a6)=>((ZcX N a0_.Periods).bind λa3 =>
 (if (a3.2 != 0) then (some 340) else ((Za9 (λx:Int=>ZbU N a0_ x) N 0).bind λa2=>match a2 with
 | (.inl a5)=>(some 0)
 | (.inr a1)=>(some a1))))
 | (.inr a0)=>(some a0)))
def ZaZ (N:Nat)(a0_:Z1)(a2_:Int)(a4_:Int)(b18:Bool)(a1:Zam)(a0:Zam):Option ((Bool)×Nat):=
 (if ((a1.Stream==a0.Stream)&&((a1.Port==a0.Port)&&((a1.From==a0.From)&&((a1.Long==a0.Long)&&true)))) then (some (true,1)) else ((ZbS N a0_ a1 a2_).bind λa4 =>
 ((ZbS N a0_ a0 a4_).bind λa3 =>
 ((Zci N a4 a3).bind λa2 =>
 (if (!a2.1) then (some (true,1)) else (some (b18,0)))))))
def ZbT (N:Nat)(a0_:Z1)(a1_:Int)(a2_:Int)(a3_:Int)(a4_:Int):Option (Bool):=
 ((ZeA N a0_ a1_ a3_).bind λa1 =>
 ((ZcE N (λ(s:(Bool)×Nat) (a3:Zam) (a2:Zam)=>ZgK (λv:Bool=>ZaZ N a0_ a2_ a4_ v a3 a2) s) a1.1 a1.2.1 a1.2.2 (false,0)).bind λa0 =>
 (if (a0.2==0) then (some false) else (if (a0.2==1) then (some a0.1) else none))))
def Zcj (N:Nat)(a0_:Z1)(a1_:Int)(a2_:Int)(a3_:Int)(a4_:Int):Option (Bool×Int):=
 ((Zcv N a0_).bind λr1 =>
 (if (r1 != 0) then (some (false,r1)) else (if ((decide (a1_<0))||((decide (a1_≥((List.length a0_.Periods:Nat):Int)))||((decide (a3_<0))||(decide (a3_≥((List.length a0_.Periods:Nat):Int)))))) then (some (false,2)) else ((((Zb9 N a0_ a1_ a2_).bind λa2=>(if (!a2) then (some true) else ((Zb9 N a0_ a3_ a4_).bind λa1=>(if (!a1) then (some true) else (if (a1_==a3_) then (some (a2_ != a4_)) else (some false))))))).bind λ(a3:Bool) =>
 (if a3 then (some (false,2)) else ((ZbT N a0_ a1_ a2_ a3_ a4_).bind λa0 =>
 (some (a0,0))))))))
abbrev slvK:=List (ZaI×Bool)
def ZdC (N:Nat)(p:Z1)(known:slvK)(i x j y:Int):Option (Bool×slvK):=
 (idx p.Periods i).bind λper=>(remI (w64 (x-y)) per).bind λm1=>(remI (w64 (m1+per)) per).bind λm2 =>
 if (!(mhas known (ZaI.mk i m2 j))) then (Zcj N p i m2 j 0).bind λr=>some (r.1,Zfp known (ZaI.mk i m2 j) r.1) else some (Zkc known (ZaI.mk i m2 j) false,known)
def ZbR (N:Nat)(p:Z1)(given:List Int)(i x:Int)(j:Int)(known:slvK):Option ((Int×slvK)⊕(slvK⊕(Int×slvK))):=
 if decide (j<i) then (idx given j).bind λy=>(ZdC N p known i x j y).bind λr=>if r.1 then some (.inr (.inr (j,r.2))) else some (.inl (w64 (j+1),r.2))
 else some (.inr (.inl known))
def ZdB (N:Nat)(p:Z1)(given:List Int)(known:slvK)(i x:Int):Option (Int×slvK):=
 (Za9 (λy:Int×slvK=>ZbR N p given i x y.1 y.2) N (0,known)).bind λo=>match o with
  | .inl k=>(ZdC N p k i x i x).bind λr=>if r.1 then some (i,r.2) else some (-1,r.2)
  | .inr q=>some q
def Zdk (l:List Zan)(b:Int):Option Bool :=
 if decide (((List.length l:Nat):Int)>0) then (if decide (b≥0) then (idx l (w64 (((List.length l:Nat):Int)-1))).bind λe=>some (e.By==b) else some false) else some false
def ZdO (f:List Z3)(c:Int)(z:Zan):Option (List Z3):=
 (idx f c).bind λfc=>(Zdk fc.Arms z.By).bind λis =>
  if is then (idx fc.Arms (w64 (((List.length fc.Arms:Nat):Int)-1))).bind λla=>some (f.set c.toNat ⟨fc.Stream,fc.Arms.set (w64 (((List.length fc.Arms:Nat):Int)-1)).toNat { la with To:=z.To }⟩)
  else (appI 32 fc.Arms [z]).bind λl=>some (f.set c.toNat ⟨fc.Stream,l⟩)
abbrev Zbh:=List Z3×List Int×slvK
def Zca (N:Nat)(rec_:Zbh->Int->Option (Option (Bool×Zbh)))(p:Z1)(i c most:Int)(x:Int)(st:Zbh):Option ((Int×Zbh)⊕(Zbh⊕Option Zbh)):=
 if decide (x<most) then (ZdB N p st.2.1 st.2.2 i x).bind λb =>
  (if b.1 == -1 then (appI 8 st.2.1 [x]).bind λg =>
   if i==w64 (((List.length p.Periods:Nat):Int)-1) then some (.inr (some (st.1,g,b.2)))
   else (rec_ (st.1,g,b.2) (w64 (i+1))).bind λo=>match o with
    | none=>some (.inr none)
    | some (t,s2)=>if t then some (.inr (some s2)) else (popI s2.2.1 i).bind λg2=>some (.inl (((List.length st.1:Nat):Int),(s2.1,g2,s2.2.2)))
  else some (.inl (0,(st.1,st.2.1,b.2)))).bind λ(q:(Int×Zbh)⊕Option Zbh)=>match q with
   | .inr e=>some (.inr (.inr e))
   | .inl q=>(ZdO q.2.1 c ⟨x,w64 (x+1),b.1,q.1⟩).bind λf=>some (.inl (w64 (x+1),(f,q.2.2)))
 else some (.inr (.inl st))
def Zct (N:Nat)(rec_:Zbh->Int->Option (Option (Bool×Zbh)))(p:Z1)(fuel:Int)(st:Zbh)(i:Int):Option (Option (Bool×Zbh)):=
 if decide (((List.length st.1:Nat):Int)>fuel) then some none
 else (appI 32 st.1 [⟨i,[]⟩]).bind λf1=>(idx p.Periods i).bind λper=>(if i==0 then some 1 else some per).bind λmost =>
  (Za9 (λy:Int×Zbh=>Zca N rec_ p i ((List.length st.1:Nat):Int) most y.1 y.2) N (0,(f1,st.2))).bind λo=>match o with
   | .inl s2=>if decide (most<per) then (ZdO s2.1 ((List.length st.1:Nat):Int) ⟨most,per,-2,0⟩).bind λf=>some (some (false,(f,s2.2))) else some (some (false,s2))
   | .inr o=>match o with
    | none=>some none
    | some s2=>some (some (true,s2))
def Zc5:Nat->Z1->Int->Zbh->Int->Option (Option (Bool×Zbh))
 | 0=>λ_ _ _ _=>none
 | N+1=>λp fuel st i=>Zct N (Zc5 N p fuel) p fuel st i
def ZbI (N:Nat)(p:Z1)(fuel:Int):Option (List Int×List Z3×Int):=
 (Zcv N p).bind λe=>if (e != 0) then some ([],[],e) else
 if ((decide (fuel<0))||(decide (fuel>1999))) then some ([],[],2) else
 if (((List.length p.Periods:Nat):Int)==0) then some ([],[],0) else
 (Zc5 N p fuel ([],[],[]) 0).bind λo=>match o with
  | none=>some ([],[],8)
  | some (t,st)=>if t then some (st.2.1,[],0) else some ([],st.1,4)
def ZdY (N:Nat)(a0_:Z1)(a1_:Int)(a2_:(List Int)):Option (Bool):=
 ((ZbI N a0_ a1_).bind λr1 =>
 (((if (r1.2.2==0) then (if (((List.length r1.2.1:Nat):Int)==0) then ((ZbJ N r1.1 a2_).bind λr4=>(some r4)) else (some false)) else (some false))).bind λ(j7:Bool) =>
 (some j7)))
def Zdb (N:Nat)(a0_:Z1)(a1_:Int)(a2_:Int):Option (Bool):=
 ((ZbI N a0_ a1_).bind λr1 =>
 (some ((r1.2.2==a2_)&&((((List.length r1.1:Nat):Int)==0)&&((decide (((List.length r1.2.1:Nat):Int)>0))==(r1.2.2==4))))))
def Zcd (N:Nat)(a0_:Z1)(a1_:(List Int))(i4:Int):Option ((Int)⊕((Unit)⊕(Bool×Int))):=
 (if (decide (i4<((List.length a1_:Nat):Int))) then ((idx a1_ i4).bind λa1 =>
 ((Zb9 N a0_ i4 a1).bind λa0 =>
 (if (!a0) then (some (.inr (.inr (false,2)))) else (some (.inl (w64 (i4+1))))))) else (some (.inr (.inl ()))))
def Zcb (N:Nat)(a0_:Z1)(a5:Int)(a4:Int)(a1:List Int)(a0:Int):Option ((Int)⊕((Unit)⊕(Bool×Int))):=
 (if (decide (a0<((List.length a1:Nat):Int))) then ((idx a1 a0).bind λa3 =>
 ((ZbT N a0_ a0 a3 a5 a4).bind λa2 =>
 (if a2 then (some (.inr (.inr (false,0)))) else (some (.inl (w64 (a0+1))))))) else (some (.inr (.inl ()))))
def Zcc (N:Nat)(a0_:Z1)(a1_:(List Int))(a0:Int):Option ((Int)⊕((Unit)⊕(Bool×Int))):=
 (if (decide (a0<((List.length a1_:Nat):Int))) then ((idx a1_ a0).bind λa4 =>
 ((subI a1_ 0 (w64 (a0+1))).bind λa3 =>
 ((Za9 (λx:Int=>Zcb N a0_ a0 a4 a3 x) N 0).bind λa2=>match a2 with
 | (.inl a5)=>(some (.inl (w64 (a0+1))))
 | (.inr a1)=>(some (.inr (.inr a1)))))) else (some (.inr (.inl ()))))
def Zej (N:Nat)(a0_:Z1)(a1_:(List Int)):Option (Bool×Int):=
 ((Zcv N a0_).bind λr1 =>
 (if (r1 != 0) then (some (false,r1)) else (if (((List.length a1_:Nat):Int)!=((List.length a0_.Periods:Nat):Int)) then (some (false,2)) else ((Za9 (λx:Int=>Zcd N a0_ a1_ x) N 0).bind λa3=>match a3 with
 | (.inl a5)=>((Za9 (λx:Int=>Zcc N a0_ a1_ x) N 0).bind λa2=>match a2 with
 | (.inl a4)=>(some (true,0))
 | (.inr a1)=>(some a1))
 | (.inr a0)=>(some a0)))))
def Zda (N:Nat):Option (Bool):=
 ((ZdX N 2 1 1).bind λr1 =>
 ((ZdX N 2 2 1).bind λr2 =>
 ((ZbI N r2 2).bind λr3 =>
 ((((ZdY N r1 9 ([0,2,3])).bind λr4=>(if r4 then ((Zdb N r1 1 8).bind λr6=>(if r6 then ((ZdY N r1 2 ([0,2,3])).bind λr8=>(if r8 then (if (r3.2.2==4) then ((ZfI N r3.2.1 ([(Z3.mk 0 ([(Zan.mk 0 1 (-1) 1),(Zan.mk 1 4 (-2) 0)])),(Z3.mk 1 ([(Zan.mk 0 2 0 0),(Zan.mk 2 3 (-1) 2),(Zan.mk 3 4 0 0)])),(Z3.mk 2 ([(Zan.mk 0 2 0 0),(Zan.mk 2 4 1 0)]))])).bind λa2=>(if a2 then ((Zdb N r2 1 8).bind λa1=>(if a1 then ((Zdb N r2 2000 2).bind λa0=>(some a0)) else (some false))) else (some false))) else (some false)) else (some false))) else (some false))) else (some false)))).bind λ(a3:Bool) =>
 (some a3)))))
def Zb6 (N:Nat)(a0_:Z1)(a1_:(List Int))(i3:Int)(l4:(List Int)):Option ((Int×(List Int))⊕(((List Int)))):=
 (if (decide (i3<((List.length a0_.Periods:Nat):Int))) then (((if (decide (i3<((List.length a1_:Nat):Int))) then ((idx a1_ i3).bind λa4 =>
 ((idx a0_.Periods i3).bind λa3 =>
 ((remI (w64 (a4)) a3).bind λa0 =>
 (some a0)))) else (some 0))).bind λ(a2:Int) =>
 ((appI 8 l4 [a2]).bind λa1 =>
 (some (.inl ((w64 (i3+1)),a1))))) else (some (.inr l4)))
def ZcV (N:Nat)(a0_:Z1)(a1_:(List Int)):Option ((List Int)):=
 ((Za9 (λx:Int×(List Int)=>Zb6 N a0_ a1_ x.1 x.2) N (0,[])).bind λa0 =>
 (some a0))
def ZaG (N:Nat)(r3:Z1)(a3:Int)(a0:Int)(a1:(List Int)):Option ((Int×(List Int))⊕(((List Int)))):=
 (if (decide (a0<((List.length a1:Nat):Int))) then ((idx a1 a0).bind λa6 =>
 ((idx r3.Periods a0).bind λa5 =>
 ((idx r3.Periods a0).bind λa4 =>
 ((remI (w64 ((w64 (a6+(w64 (a5*a3))))-a3)) a4).bind λa2 =>
 ((idx a1 a0).bind λa7 =>
 (some (.inl ((w64 (a0+1)),(List.set a1 (Int.toNat a0) a2))))))))) else (some (.inr a1)))
def Zb8 (N:Nat)(a0_:Zbc)(a1_:(List Int)):Option (Bool):=
 ((Zda N).bind λr1 =>
 (if (!r1) then (some false) else ((Zbb N a0_).bind λr3 =>
 ((ZbI N r3 200).bind λr4 =>
 ((ZcV N r3 a1_).bind λr5 =>
 (((if (decide (((List.length r5:Nat):Int)>0)) then ((idx r5 0).bind λa5 =>
 ((Za9 (λx:Int×(List Int)=>ZaG N r3 a5 x.1 x.2) N (0,r5)).bind λa2 =>
 (some a2))) else (some r5))).bind λ(a3:(List Int)) =>
 ((Zej N r3 a3).bind λa0 =>
 (if ((a0.2 != 0)||((r4.2.2 != 0)&&((r4.2.2 != 4)&&(r4.2.2 != 8)))) then (some false) else (((if (!a0.1) then (some true) else (if (r4.2.2==8) then (some true) else (if (r4.2.2==0) then ((ZaJ N r4.1 a3).bind λa1=>(some (decide (a1<=0)))) else (some false))))).bind λ(a4:Bool) =>
 (some a4))))))))))
end Go.Sh

