/- Part of the proof. -/
import Derived.Test.YthhhjjjbpcaadaaSolveTellsE26
set_option linter.all false
namespace Go.Sh
open Go Go.Eng
set_option maxRecDepth 100000
structure Zip where
 x0:Int
 x1:Int
 x2:Int
 x3:Int
def Zej (v:Zip):List PC:=[.int .u8 v.x0,.int .u8 v.x1,.int .u8 v.x2,.int .u8 v.x3]
structure Zbu where
 Periods:(List Int)
 Uses:(List Zip)
def ZjW (v:Zbu):List PC:=[.sl 1 false (List.map (eI .u8) v.Periods),.sl 4 false (List.map Zej v.Uses)]
structure ZaD where
 Stream:Int
 Port:Int
 From:Int
 Long:Int
def Za8 (v:ZaD):List PC:=[.int .i64 v.Stream,.int .i64 v.Port,.int .i64 v.From,.int .i64 v.Long]
structure Z6 where
 Periods:(List Int)
 Uses:(List ZaD)
structure Zam where
 From:Int
 To:Int
 By:Int
 Next:Int
def ZaB (v:Zam):List PC:=[.int .i64 v.From,.int .i64 v.To,.int .i64 v.By,.int .i64 v.Next]
structure Z8 where
 Stream:Int
 Arms:(List Zam)
def Zal (v:Z8):List PC:=[.int .i64 v.Stream,.sl 4 false (List.map ZaB v.Arms)]
structure Zae where
 Period:Int
 From:Int
 Long:Int
def ZaU (v:Zae):List PC:=[.int .i64 v.Period,.int .i64 v.From,.int .i64 v.Long]
structure Zah where
 i:Int
 x_:Int
 j:Int deriving DecidableEq
structure Zac where
 x0:Int
 x1:Int
 x2:Int
 x3:Int
 x4:Int
 x5:Int
 x6:Int
 x7:Int
 x8:Int
 x9:Int
 x10:Int
 x11:Int
def Zif (v:Zac):List PC:=[.int .i64 v.x0,.int .i64 v.x1,.int .i64 v.x2,.int .i64 v.x3,.int .i64 v.x4,.int .i64 v.x5,.int .i64 v.x6,.int .i64 v.x7,.int .i64 v.x8,.int .i64 v.x9,.int .i64 v.x10,.int .i64 v.x11]
structure Zag where
 choice:Int
 given:Zac
def Zab (v:Zag):List PC:=[.int .i64 v.choice]++Zif v.given
structure ZaW where
 i:Int
 x_:Int
 j:Int deriving DecidableEq
abbrev Zak (f:Bool) (l:List Int):AV:=.p (.sl 1 f (List.map eI64 l))
abbrev Zaj (f:Bool) (l:List ZaD):AV:=.p (.sl 4 f (List.map Za8 l))
abbrev Zcz (f:Bool) (l:List Int):AV:=.p (.sl 1 f (List.map (eI .u8) l))
abbrev ZfG (f:Bool) (l:List Zip):AV:=.p (.sl 4 f (List.map Zej l))
abbrev Z9 (f:Bool) (l:List Z8):AV:=.p (.sl 2 f (List.map Zal l))
abbrev Zau (f:Bool) (l:List Zam):AV:=.p (.sl 4 f (List.map ZaB l))
abbrev ZbZ (f:Bool) (l:List Zag):AV:=.p (.sl 13 f (List.map Zab l))
abbrev ZaR (f:Bool) (l:List Zae):AV:=.p (.sl 3 f (List.map ZaU l))
abbrev Zgd (v:Zip):List AV:=[.p (.int .u8 v.x0),.p (.int .u8 v.x1),.p (.int .u8 v.x2),.p (.int .u8 v.x3)]
abbrev ZaP (v:Zbu):List AV:=[Zcz false v.Periods,ZfG false v.Uses]
abbrev ZaN (v:ZaD):List AV:=[iv v.Stream,iv v.Port,iv v.From,iv v.Long]
abbrev Z5 (v:Z6):List AV:=[Zak false v.Periods,Zaj false v.Uses]
abbrev ZaQ (v:Zam):List AV:=[iv v.From,iv v.To,iv v.By,iv v.Next]
abbrev Ze9 (v:Z8):List AV:=[iv v.Stream,Zau false v.Arms]
abbrev ZbP (v:Zae):List AV:=[iv v.Period,iv v.From,iv v.Long]
def Zaa (v:Zah):List Int:=[v.i,v.x_,v.j]
instance:KeyE Zah 3 Zaa:=⟨λ_=>rfl,λx y h=>by cases x;cases y;simpa [Zaa] using h⟩
abbrev Zaz (v:Zac):List AV:=[iv v.x0,iv v.x1,iv v.x2,iv v.x3,iv v.x4,iv v.x5,iv v.x6,iv v.x7,iv v.x8,iv v.x9,iv v.x10,iv v.x11]
def Zac.l (v:Zac):List Int:=[v.x0,v.x1,v.x2,v.x3,v.x4,v.x5,v.x6,v.x7,v.x8,v.x9,v.x10,v.x11]
def Zac.ofL (l:List Int):Zac:=⟨l.getD 0 0,l.getD 1 0,l.getD 2 0,l.getD 3 0,l.getD 4 0,l.getD 5 0,l.getD 6 0,l.getD 7 0,l.getD 8 0,l.getD 9 0,l.getD 10 0,l.getD 11 0⟩
def Zac.get (v:Zac)(i:Int):Option Int:=idx v.l i
def Zac.set (v:Zac)(i:Int)(x:Int):Zac:=Zac.ofL (v.l.set i.toNat x)
theorem Zac.l_ofL (l:List Int)(h:l.length=12):(Zac.ofL l).l=l:=Zpx 12 0 l h rfl
theorem Zac.l_set (v:Zac)(i:Int)(x:Int):(v.set i x).l=v.l.set i.toNat x:=Zac.l_ofL _ (by rw [ZH];rfl)
theorem Zac.c_set (v:Zac)(i:Int)(x:Int):Zaz (v.set i x)=(v.l.set i.toNat x).map (λx=>iv x):=by rw [← Zac.l_set];rfl
abbrev ZcI (v:Zag):List AV:=([iv v.choice]++(Zaz v.given))
def Zcl (v:ZaW):List Int:=[v.i,v.x_,v.j]
instance:KeyE ZaW 3 Zcl:=⟨λ_=>rfl,λx y h=>by cases x;cases y;simpa [Zcl] using h⟩
def ZaZ (N:Nat)(a0_:Zbu)(i3:Int)(l4:(List Int)):Option ((Int×(List Int))⊕(((List Int)))):=
 (if ((decide (i3<((List.length a0_.Periods:Nat):Int)))&&(decide (i3<5))) then ((idx a0_.Periods i3).bind λa2 =>
 ((idx [4,6,8,12,3,5,10,24] (Int.tmod a2 8)).bind λa1 =>
 ((appI 8 l4 [a1]).bind λa0 =>
 (some (.inl ((w64 (i3+1)),a0)))))) else (some (.inr l4)))
def ZaY (N:Nat)(a0_:Zbu)(a4:(List Int))(a2:Int)(a8:(List ZaD)):Option ((Int×(List ZaD))⊕(((List ZaD)))):=
 (((if (decide (a2<((List.length a0_.Uses:Nat):Int))) then (if (decide (a2<12)) then (some (decide (((List.length a4:Nat):Int)>0))) else (some false)) else (some false))).bind λ(aa:Bool) =>
 (if aa then ((idx a0_.Uses a2).bind λa0 =>
 ((remI (w64 (a0.x0)) ((List.length a4:Nat):Int)).bind λa3 =>
 ((idx a4 a3).bind λa1 =>
 ((remI (w64 (a0.x2)) a1).bind λa7 =>
 ((remI (w64 (a0.x3)) a1).bind λa6 =>
 ((remI (Int.tmod a6 4) a1).bind λa5 =>
 ((appI 32 a8 [(ZaD.mk a3 (w64 ((Int.tmod a0.x1 4))) a7 (w64 (1+a5)))]).bind λa9 =>
 (some (.inl ((w64 (a2+1)),a9)))))))))) else (some (.inr a8))))
def Zbt (N:Nat)(a0_:Zbu):Option (Z6):=
 ((Za9 (λx:Int×(List Int)=>ZaZ N a0_ x.1 x.2) N (0,[])).bind λa0 =>
 ((Za9 (λx:Int×(List ZaD)=>ZaY N a0_ a0 x.1 x.2) N (0,[])).bind λa1 =>
 (some (Z6.mk a0 a1))))
def Zbk (N:Nat)(a0_:(List Int))(a1_:(List Int))(i2:Int):Option ((Int)⊕((Unit)⊕(Bool))):=
 (if (decide (i2<((List.length a0_:Nat):Int))) then ((idx a0_ i2).bind λa1 =>
 ((idx a1_ i2).bind λa0 =>
 (if (a1 != a0) then (some (.inr (.inr false))) else (some (.inl (w64 (i2+1))))))) else (some (.inr (.inl ()))))
def Zb6 (N:Nat)(a0_:(List Int))(a1_:(List Int)):Option (Bool):=
 (if (((List.length a0_:Nat):Int)!=((List.length a1_:Nat):Int)) then (some false) else ((Za9 (λx:Int=>Zbk N a0_ a1_ x) N 0).bind λa1=>match a1 with
 | (.inl a2)=>(some true)
 | (.inr a0)=>(some a0)))
def Zdt (N:Nat)(a0_:(List Z8))(a1_:(List Z8))(i2:Int)(a2:Int):Option ((Int)⊕((Unit)⊕(Bool))):=
 ((idx a0_ i2).bind λa5 =>
 (if (decide (a2<((List.length a5.Arms:Nat):Int))) then ((idx a0_ i2).bind λa4 =>
 ((idx a4.Arms a2).bind λa1 =>
 ((idx a1_ i2).bind λa3 =>
 ((idx a3.Arms a2).bind λa0 =>
 (if (!((a1.From==a0.From)&&((a1.To==a0.To)&&((a1.By==a0.By)&&((a1.Next==a0.Next)&&true))))) then (some (.inr (.inr false))) else (some (.inl (w64 (a2+1))))))))) else (some (.inr (.inl ())))))
def Zdu (N:Nat)(a0_:(List Z8))(a1_:(List Z8))(i2:Int):Option ((Int)⊕((Unit)⊕(Bool))):=
 (if (decide (i2<((List.length a0_:Nat):Int))) then ((((idx a0_ i2).bind λa6=>((idx a1_ i2).bind λa5=>(if (a6.Stream != a5.Stream) then (some true) else ((idx a0_ i2).bind λa4=>((idx a1_ i2).bind λa3=>(some (((List.length a4.Arms:Nat):Int)!=((List.length a3.Arms:Nat):Int))))))))).bind λ(a2:Bool) =>
 (if a2 then (some (.inr (.inr false))) else ((Za9 (λx:Int=>Zdt N a0_ a1_ i2 x) N 0).bind λa1=>match a1 with
 | (.inl a7)=>(some (.inl (w64 (i2+1))))
 | (.inr a0)=>(some (.inr (.inr a0)))))) else (some (.inr (.inl ()))))
def Zgo (N:Nat)(a0_:(List Z8))(a1_:(List Z8)):Option (Bool):=
 (if (((List.length a0_:Nat):Int)!=((List.length a1_:Nat):Int)) then (some false) else ((Za9 (λx:Int=>Zdu N a0_ a1_ x) N 0).bind λa1=>match a1 with
 | (.inl a2)=>(some true)
 | (.inr a0)=>(some a0)))
def Zev (N:Nat)(a0_:Int)(a1_:Int)(a2_:Int):Option (Z6):=
 (some (Z6.mk ([4,4,4]) ([(ZaD.mk 0 0 0 a0_),(ZaD.mk 1 0 0 a1_),(ZaD.mk 2 0 0 a2_)])))
def Zce (N:Nat)(a0_:Z6)(a1_:(List Int))(i3:Int)(l4:(List Int)):Option ((Int×(List Int))⊕(((List Int)))):=
 (if (decide (i3<((List.length a0_.Periods:Nat):Int))) then (((if (decide (i3<((List.length a1_:Nat):Int))) then ((idx a1_ i3).bind λa4 =>
 ((idx a0_.Periods i3).bind λa3 =>
 ((remI (w64 (a4)) a3).bind λa0 =>
 (some a0)))) else (some 0))).bind λ(a2:Int) =>
 ((appI 8 l4 [a2]).bind λa1 =>
 (some (.inl ((w64 (i3+1)),a1))))) else (some (.inr l4)))
def Zed (N:Nat)(a0_:Z6)(a1_:(List Int)):Option ((List Int)):=
 ((Za9 (λx:Int×(List Int)=>Zce N a0_ a1_ x.1 x.2) N (0,[])).bind λa0 =>
 (some a0))
def ZcA (N:Nat)(a0_:Z6)(a1_:Int)(a2_:Int):Option (Bool):=
 (((if (decide (a2_≥0)) then ((idx a0_.Periods a1_).bind λe2=>(some (decide (a2_<e2)))) else (some false))).bind λ(j4:Bool) =>
 (some j4))
def Zko (N:Nat)(a0_:(List Int))(i1:Int)(a4:Bool)(a0:Int):Option ((Bool×Int)⊕((Bool))):=
 (if (decide (a0<((List.length a0_:Nat):Int))) then (((if a4 then ((idx a0_ a0).bind λa3=>((remI i1 a3).bind λa1=>(if (a1==0) then (some true) else (some false)))) else (some false))).bind λ(a2:Bool) =>
 (some (.inl (a2,(w64 (a0+1)))))) else (some (.inr a4)))
def Zkp (N:Nat)(a0_:(List Int))(i1:Int):Option ((Int)⊕((Unit)⊕(Int))):=
 (if (decide (i1<=960)) then ((Za9 (λx:Bool×Int=>Zko N a0_ i1 x.1 x.2) N (true,0)).bind λa0 =>
 (if a0 then (some (.inr (.inr i1))) else (some (.inl (w64 (i1+1)))))) else (some (.inr (.inl ()))))
def ZpQ (N:Nat)(a0_:(List Int)):Option (Int):=
 ((Za9 (λx:Int=>Zkp N a0_ x) N 1).bind λa1=>match a1 with
 | (.inl a2)=>(some 0)
 | (.inr a0)=>(some a0))
def Zff (N:Nat)(a0_:Z6)(a1_:Int)(a2_:Int):Option (Z6×Int×Int):=
 (some (a0_,a1_,a2_))
def Zcf (N:Nat)(a0_:Z6)(a1_:ZaD)(a2_:Int):Option (Zae):=
 ((idx a0_.Periods a1_.Stream).bind λe1 =>
 ((remI (w64 (a1_.From+a2_)) e1).bind λm2 =>
 (some (Zae.mk e1 m2 a1_.Long))))
def ZcO (N:Nat)(a0_:Z6):Option (Z6×(List (Zah×Bool))):=
 (some (a0_,[]))
def Zbz {σ:Type}(N:Nat)(y_:σ->Int->Int->Int->Int->Option (σ×Bool))(a1_:Int)(a2_:Zac)(a3_:Zam)(i8:Int)(g9:σ):Option ((Int×σ)⊕((σ)⊕(σ×Bool))):=
 (if (decide (i8<a3_.To)) then ((a2_.get a3_.By).bind λa2 =>
 (((if (a3_.By==a1_) then (some i8) else (some a2))).bind λ(a1:Int) =>
 ((y_ g9 a1_ i8 a3_.By a1).bind λa0 =>
 (if (!a0.2) then (some (.inr (.inr (a0.1,false)))) else (some (.inl ((w64 (i8+1)),a0.1))))))) else (some (.inr (.inl g9))))
def ZcN {σ:Type}(N:Nat)(y_:σ->Int->Int->Int->Int->Option (σ×Bool))(a1_:Int)(a2_:Zac)(a3_:Zam)(s_:σ):Option (σ×Bool):=
 (((if (a3_.By != a1_) then ((a2_.get a3_.By).bind λe2=>(some (e2==(-1)))) else (some false))).bind λ(j4:Bool) =>
 (if j4 then (some (s_,false)) else ((Za9 (λx:Int×σ=>Zbz N y_ a1_ a2_ a3_ x.1 x.2) N (a3_.From,s_)).bind λa2=>match a2 with
 | (.inl a1)=>(some (a1,true))
 | (.inr a0)=>(some a0))))
def ZbN {σ:Type}(N:Nat)(y_:σ->ZaD->ZaD->Option (σ×Bool))(c0_:Z6)(c2_:Int)(i4:Int)(a5:ZaD)(a1:Int)(a3:σ):Option ((Int×σ)⊕((σ)⊕(σ))):=
 (if (decide (a1<((List.length c0_.Uses:Nat):Int))) then ((idx c0_.Uses a1).bind λa2 =>
 (((if (a1==i4) then (some true) else (if (a2.Stream != c2_) then (some true) else (some (a2.Port != a5.Port))))).bind λ(a4:Bool) =>
 (if a4 then (some (.inl ((w64 (a1+1)),a3))) else ((y_ a3 a5 a2).bind λa0 =>
 (if (!a0.2) then (some (.inr (.inr a0.1))) else (some (.inl ((w64 (a1+1)),a0.1)))))))) else (some (.inr (.inl a3))))
def ZbO {σ:Type}(N:Nat)(y_:σ->ZaD->ZaD->Option (σ×Bool))(c0_:Z6)(c1_:Int)(c2_:Int)(i4:Int)(g5:σ):Option ((Int×σ)⊕((σ)⊕(σ))):=
 (if (decide (i4<((List.length c0_.Uses:Nat):Int))) then ((idx c0_.Uses i4).bind λa3 =>
 (if (a3.Stream != c1_) then (some (.inl ((w64 (i4+1)),g5))) else ((Za9 (λx:Int×σ=>ZbN N y_ c0_ c2_ i4 a3 x.1 x.2) N (0,g5)).bind λa2=>match a2 with
 | (.inl a1)=>(some (.inl ((w64 (i4+1)),a1)))
 | (.inr a0)=>(some (.inr (.inr a0)))))) else (some (.inr (.inl g5))))
def Zdf {σ:Type}(N:Nat)(y_:σ->ZaD->ZaD->Option (σ×Bool))(c0_:Z6)(c1_:Int)(c2_:Int)(s_:σ):Option (σ):=
 ((Za9 (λx:Int×σ=>ZbO N y_ c0_ c1_ c2_ x.1 x.2) N (0,s_)).bind λa2=>match a2 with
 | (.inl a1)=>(some a1)
 | (.inr a0)=>(some a0))
def ZbT (N:Nat)(a0_:Zae):Option (Int):=
 (if ((decide (a0_.Period<1))||((decide (a0_.Period>960))||((decide (a0_.From<0))||(decide (a0_.From≥a0_.Period))))) then (some 330) else (if ((decide (a0_.Long<1))||(decide (a0_.Long>a0_.Period))) then (some 330) else (some 0)))
def Zcs (N:Nat)(a0_:Z6)(a1_:(List Z8))(a2_:Int)(a3_:Zam):Option (Bool):=
 (if (a3_.By==(-1)) then (some ((a3_.To==(w64 (a3_.From+1)))&&((decide (a3_.Next>a2_))&&(decide (a3_.Next<((List.length a1_:Nat):Int)))))) else (if (a3_.Next != 0) then (some false) else (if (a3_.By==(-2)) then (some ((a2_==0)&&(a3_.From != 0))) else (some ((decide (a3_.By≥0))&&(decide (a3_.By<((List.length a0_.Periods:Nat):Int))))))))
def ZeV (N:Nat)(a0_:Int)(a1_:Int):Option (Int):=
 ((remI a0_ a1_).bind λm1 =>
 ((remI (w64 (m1+a1_)) a1_).bind λm2 =>
 (some m2)))
def Za2 (N:Nat)(a0_:(List Zae))(i2:Int):Option ((Int)⊕((Unit)⊕(Int))):=
 (if (decide (i2<((List.length a0_:Nat):Int))) then ((idx a0_ i2).bind λa1 =>
 ((ZbT N a1).bind λa0 =>
 (if (a0 != 0) then (some (.inr (.inr a0))) else (some (.inl (w64 (i2+1))))))) else (some (.inr (.inl ()))))
def ZbW (N:Nat)(a0_:(List Zae)):Option (Int):=
 (if (decide (((List.length a0_:Nat):Int)>32)) then (some 3) else ((Za9 (λx:Int=>Za2 N a0_ x) N 0).bind λa1=>match a1 with
 | (.inl a2)=>(some 0)
 | (.inr a0)=>(some a0)))
def ZdL (N:Nat)(a0_:Int)(a1_:Int):Option (Int):=
 ((remI a0_ a1_).bind λm1 =>
 ((remI (w64 (m1+a1_)) a1_).bind λm2 =>
 (some m2)))
def ZbE (N:Nat)(i1:Int)(i2:Int):Option ((Int×Int)⊕((Int))):=
 (if (i2 != 0) then ((remI i1 i2).bind λa0 =>
 (some (.inl (i2,a0)))) else (some (.inr i1)))
def ZcX (N:Nat)(a0_:Int)(a1_:Int):Option (Int):=
 ((Za9 (λx:Int×Int=>ZbE N x.1 x.2) N (a0_,a1_)).bind λa0 =>
 (some a0))
def Zb1 (N:Nat)(a0_:Z6)(a1_:(List Z8))(a2_:Int)(e2:Int)(e3:Z8)(i4:Int)(i5:Int):Option ((Int×Int)⊕((Int)⊕(Bool))):=
 (if (decide (i5<((List.length e3.Arms:Nat):Int))) then ((idx e3.Arms i5).bind λa0 =>
 (((if (a0.From != i4) then (some true) else (if (decide (a0.To<=a0.From)) then (some true) else (if (decide (a0.To>e2)) then (some true) else ((Zcs N a0_ a1_ a2_ a0).bind λa1=>(some (!a1))))))).bind λ(a2:Bool) =>
 (if a2 then (some (.inr (.inr false))) else (some (.inl (a0.To,(w64 (i5+1)))))))) else (some (.inr (.inl i4))))
def ZdN (N:Nat)(a0_:Z6)(a1_:(List Z8))(a2_:Int):Option (Bool):=
 ((idx a1_ a2_).bind λe1 =>
 ((idx a0_.Periods e1.Stream).bind λe2 =>
 ((idx a1_ a2_).bind λe3 =>
 ((Za9 (λx:Int×Int=>Zb1 N a0_ a1_ a2_ e2 e3 x.1 x.2) N (0,0)).bind λa2=>match a2 with
 | (.inl a1)=>(some (a1==e2))
 | (.inr a0)=>(some a0)))))
def Za7 (N:Nat)(a0_:Int)(a1_:(List Int))(i1:Int)(i2:Int):Option ((Int×Int)⊕((Int))):=
 (if (decide (i2<((List.length a1_:Nat):Int))) then ((idx a1_ i2).bind λa0 =>
 ((ZcX N i1 a0).bind λa2 =>
 ((quoI .i64 i1 a2).bind λa1 =>
 (if (decide ((w64 (a1*a0))>a0_)) then (some (.inr (w64 (a1*a0)))) else (some (.inl ((w64 (a1*a0)),(w64 (i2+1))))))))) else (some (.inr i1)))
def Zdd (N:Nat)(a0_:Int)(a1_:(List Int)):Option (Int):=
 ((Za9 (λx:Int×Int=>Za7 N a0_ a1_ x.1 x.2) N (1,0)).bind λa0 =>
 (some a0))
def Zdc (N:Nat)(a0_:Zae)(a1_:Zae):Option (Int×Int×Int):=
 ((ZcX N a0_.Period a1_.Period).bind λr1 =>
 (some (a0_.Long,(w64 (r1-a1_.Long)),r1)))
def Zbv (N:Nat)(a4:Z8)(a2:Int)(a1:(List Int)):Option ((Int×(List Int))⊕(((List Int)))):=
 (if (decide (a2<((List.length a4.Arms:Nat):Int))) then ((((idx a4.Arms a2).bind λa0 =>
 (if (a0.By==(-1)) then ((idx a1 a0.Next).bind λa5 =>
 ((idx a1 a0.Next).bind λa6 =>
 (some (List.set a1 (Int.toNat a0.Next) (w64 (a5+1)))))) else (some a1)))).bind λ(a3:(List Int)) =>
 (some (.inl ((w64 (a2+1)),a3)))) else (some (.inr a1)))
def Zbw (N:Nat)(a0_:Z6)(a1_:(List Z8))(i9:Int)(a4:(List Int)):Option ((Int×(List Int))⊕(((List Int))⊕(Bool))):=
 (if (decide (i9<((List.length a1_:Nat):Int))) then ((idx a1_ i9).bind λa0 =>
 (((if (decide (a0.Stream<0)) then (some true) else (if (decide (a0.Stream≥((List.length a0_.Periods:Nat):Int))) then (some true) else ((ZdN N a0_ a1_ i9).bind λa2=>(some (!a2)))))).bind λ(a3:Bool) =>
 (if a3 then (some (.inr (.inr false))) else ((Za9 (λx:Int×(List Int)=>Zbv N a0 x.1 x.2) N (0,a4)).bind λa1 =>
 (some (.inl ((w64 (i9+1)),a1))))))) else (some (.inr (.inl a4))))
def ZbM (N:Nat)(a1:List Int)(a0:Int):Option ((Int)⊕((Unit)⊕(Bool))):=
 (if (decide (a0<((List.length a1:Nat):Int))) then ((idx a1 a0).bind λa2 =>
 (if (a2 != 1) then (some (.inr (.inr false))) else (some (.inl (w64 (a0+1)))))) else (some (.inr (.inl ()))))
def Zde (N:Nat)(a0_:Z6)(a1_:(List Z8)):Option (Bool):=
 (if ((decide (((List.length a1_:Nat):Int)<1))||(decide (((List.length a1_:Nat):Int)>2000))) then (some false) else ((Zh4 8 ((List.length a1_:Nat):Int) ((List.length a1_:Nat):Int) 0).bind λl6 =>
 ((Za9 (λx:Int×(List Int)=>Zbw N a0_ a1_ x.1 x.2) N (0,l6)).bind λa4=>match a4 with
 | (.inl a0)=>((subI a0 1 ((List.length a0:Nat):Int)).bind λa5 =>
 ((Za9 (λx:Int=>ZbM N a5 x) N 0).bind λa3=>match a3 with
 | (.inl a6)=>(some true)
 | (.inr a2)=>(some a2)))
 | (.inr a1)=>(some a1))))
def Zbm (N:Nat)(a0_:(List Zae))(i8:Int)(l9:(List Int)):Option ((Int×(List Int))⊕(((List Int)))):=
 (if (decide (i8<((List.length a0_:Nat):Int))) then ((idx a0_ i8).bind λa0 =>
 ((idx l9 i8).bind λa1 =>
 (some (.inl ((w64 (i8+1)),(List.set l9 (Int.toNat i8) a0.Period)))))) else (some (.inr l9)))
def ZcL (N:Nat)(a0_:(List Zae)):Option (Int×Int):=
 ((ZbW N a0_).bind λr1 =>
 (if (r1 != 0) then (some (0,r1)) else ((Zh4 8 ((List.length a0_:Nat):Int) ((List.length a0_:Nat):Int) 0).bind λl5 =>
 ((Za9 (λx:Int×(List Int)=>Zbm N a0_ x.1 x.2) N (0,l5)).bind λa1 =>
 ((Zdd N 960 a1).bind λa0 =>
 (if (decide (a0>960)) then (some (0,6)) else (some (a0,0))))))))
def ZcK (N:Nat)(a0_:Zae)(a1_:Zae):Option (Bool):=
 (if ((a0_.Period==a1_.Period)&&((a0_.From==a1_.From)&&((a0_.Long==a1_.Long)&&true))) then (some false) else ((Zdc N a0_ a1_).bind λr2 =>
 ((ZdL N (w64 (a1_.From-a0_.From)) r2.2.2).bind λr3 =>
 (some ((decide (r2.1<=r3))&&(decide (r3<=r2.2.1)))))))
def ZbU (N:Nat)(a0_:(List Int))(i6:Int)(l7:(List Zae)):Option ((Int×(List Zae))⊕(((List Zae)))):=
 (if (decide (i6<((List.length a0_:Nat):Int))) then ((idx a0_ i6).bind λa0 =>
 ((idx l7 i6).bind λa1 =>
 (some (.inl ((w64 (i6+1)),(List.set l7 (Int.toNat i6) (Zae.mk a0 0 1))))))) else (some (.inr l7)))
def Zdy (N:Nat)(a0_:(List Int)):Option (Int×Int):=
 ((Zh4 24 ((List.length a0_:Nat):Int) ((List.length a0_:Nat):Int) (Zae.mk 0 0 0)).bind λl3 =>
 ((Za9 (λx:Int×(List Zae)=>ZbU N a0_ x.1 x.2) N (0,l3)).bind λa1 =>
 ((ZcL N a1).bind λa0 =>
 (some (a0.1,a0.2)))))
def ZcM (N:Nat)(a0_:Zae)(a1_:Zae):Option (Bool×Int):=
 ((ZbT N a0_).bind λr1 =>
 (if (r1 != 0) then (some (false,r1)) else ((ZbT N a1_).bind λr3 =>
 (if (r3 != 0) then (some (false,r3)) else ((ZcK N a0_ a1_).bind λr5 =>
 (some (r5,0)))))))
def Zcj (N:Nat)(a0_:Z6)(i4:Int):Option ((Int)⊕((Unit)⊕(Int))):=
 (if (decide (i4<((List.length a0_.Periods:Nat):Int))) then ((idx a0_.Periods i4).bind λa0 =>
 (if ((decide (a0<1))||(decide (a0>240))) then (some (.inr (.inr 340))) else (some (.inl (w64 (i4+1)))))) else (some (.inr (.inl ()))))
def Zci (N:Nat)(a0_:Z6)(a2:Int):Option ((Int)⊕((Unit)⊕(Int))):=
 (if (decide (a2<((List.length a0_.Uses:Nat):Int))) then ((idx a0_.Uses a2).bind λa0 =>
 (if ((decide (a0.Stream<0))||((decide (a0.Stream≥((List.length a0_.Periods:Nat):Int)))||((decide (a0.Port<0))||(decide (a0.Port≥48))))) then (some (.inr (.inr 340))) else ((idx a0_.Periods a0.Stream).bind λa1 =>
 (if ((decide (a0.From<0))||((decide (a0.From≥a1))||((decide (a0.Long<1))||(decide (a0.Long>a1))))) then (some (.inr (.inr 340))) else (some (.inl (w64 (a2+1)))))))) else (some (.inr (.inl ()))))
def ZcF (N:Nat)(a0_:Z6):Option (Int):=
 (if ((decide (((List.length a0_.Periods:Nat):Int)>12))||(decide (((List.length a0_.Uses:Nat):Int)>192))) then (some 340) else ((Za9 (λx:Int=>Zcj N a0_ x) N 0).bind λa4=>match a4 with
 | (.inl a6)=>((Zdy N a0_.Periods).bind λa3 =>
 (if (a3.2 != 0) then (some 340) else ((Za9 (λx:Int=>Zci N a0_ x) N 0).bind λa2=>match a2 with
 | (.inl a5)=>(some 0)
 | (.inr a1)=>(some a1))))
 | (.inr a0)=>(some a0)))
def Zbb (N:Nat)(a0_:Z6)(a2_:Int)(a4_:Int)(b18:Bool)(a1:ZaD)(a0:ZaD):Option ((Bool)×Nat):=
 (if ((a1.Stream==a0.Stream)&&((a1.Port==a0.Port)&&((a1.From==a0.From)&&((a1.Long==a0.Long)&&true)))) then (some (true,1)) else ((Zcf N a0_ a1 a2_).bind λa4 =>
 ((Zcf N a0_ a0 a4_).bind λa3 =>
 ((ZcM N a4 a3).bind λa2 =>
 (if (!a2.1) then (some (true,1)) else (some (b18,0)))))))
def Zcg (N:Nat)(a0_:Z6)(a1_:Int)(a2_:Int)(a3_:Int)(a4_:Int):Option (Bool):=
 ((Zff N a0_ a1_ a3_).bind λa1 =>
 ((Zdf N (λ(s:(Bool)×Nat) (a3:ZaD) (a2:ZaD)=>Zhp (λv:Bool=>Zbb N a0_ a2_ a4_ v a3 a2) s) a1.1 a1.2.1 a1.2.2 (false,0)).bind λa0 =>
 (if (a0.2==0) then (some false) else (if (a0.2==1) then (some a0.1) else none))))
def Zch (N:Nat)(a0_:Z6)(a1_:Int)(a2_:Int)(a3_:Int)(a4_:Int):Option (Bool×Int):=
 ((ZcF N a0_).bind λr1 =>
 (if (r1 != 0) then (some (false,r1)) else (if ((decide (a1_<0))||((decide (a1_≥((List.length a0_.Periods:Nat):Int)))||((decide (a3_<0))||(decide (a3_≥((List.length a0_.Periods:Nat):Int)))))) then (some (false,2)) else ((((ZcA N a0_ a1_ a2_).bind λa2=>(if (!a2) then (some true) else ((ZcA N a0_ a3_ a4_).bind λa1=>(if (!a1) then (some true) else (if (a1_==a3_) then (some (a2_ != a4_)) else (some false))))))).bind λ(a3:Bool) =>
 (if a3 then (some (false,2)) else ((Zcg N a0_ a1_ a2_ a3_ a4_).bind λa0 =>
 (some (a0,0))))))))
abbrev slvK:=List (ZaW×Bool)
def Zeb (N:Nat)(p:Z6)(known:slvK)(i x j y:Int):Option (Bool×slvK):=
 (idx p.Periods i).bind λper=>(remI (w64 (x-y)) per).bind λm1=>(remI (w64 (m1+per)) per).bind λm2 =>
 if (!(mhas known (ZaW.mk i m2 j))) then (Zch N p i m2 j 0).bind λr=>some (r.1,Zeu known (ZaW.mk i m2 j) r.1) else some (ZiF known (ZaW.mk i m2 j) false,known)
def Zcc (N:Nat)(p:Z6)(given:List Int)(i x:Int)(j:Int)(known:slvK):Option ((Int×slvK)⊕(slvK⊕(Int×slvK))):=
 if decide (j<i) then (idx given j).bind λy=>(Zeb N p known i x j y).bind λr=>if r.1 then some (.inr (.inr (j,r.2))) else some (.inl (w64 (j+1),r.2))
 else some (.inr (.inl known))
def Zea (N:Nat)(p:Z6)(given:List Int)(known:slvK)(i x:Int):Option (Int×slvK):=
 (Za9 (λy:Int×slvK=>Zcc N p given i x y.1 y.2) N (0,known)).bind λo=>match o with
  | .inl k=>(Zeb N p k i x i x).bind λr=>if r.1 then some (i,r.2) else some (-1,r.2)
  | .inr q=>some q
def ZdW (l:List Zam)(b:Int):Option Bool :=
 if decide (((List.length l:Nat):Int)>0) then (if decide (b≥0) then (idx l (w64 (((List.length l:Nat):Int)-1))).bind λe=>some (e.By==b) else some false) else some false
def Zeq (f:List Z8)(c:Int)(z:Zam):Option (List Z8):=
 (idx f c).bind λfc=>(ZdW fc.Arms z.By).bind λis =>
  if is then (idx fc.Arms (w64 (((List.length fc.Arms:Nat):Int)-1))).bind λla=>some (f.set c.toNat ⟨fc.Stream,fc.Arms.set (w64 (((List.length fc.Arms:Nat):Int)-1)).toNat { la with To:=z.To }⟩)
  else (appI 32 fc.Arms [z]).bind λl=>some (f.set c.toNat ⟨fc.Stream,l⟩)
abbrev ZbB:=List Z8×List Int×slvK
def ZcB (N:Nat)(rec_:ZbB->Int->Option (Option (Bool×ZbB)))(p:Z6)(i c most:Int)(x:Int)(st:ZbB):Option ((Int×ZbB)⊕(ZbB⊕Option ZbB)):=
 if decide (x<most) then (Zea N p st.2.1 st.2.2 i x).bind λb =>
  (if b.1 == -1 then (appI 8 st.2.1 [x]).bind λg =>
   if i==w64 (((List.length p.Periods:Nat):Int)-1) then some (.inr (some (st.1,g,b.2)))
   else (rec_ (st.1,g,b.2) (w64 (i+1))).bind λo=>match o with
    | none=>some (.inr none)
    | some (t,s2)=>if t then some (.inr (some s2)) else (popI s2.2.1 i).bind λg2=>some (.inl (((List.length st.1:Nat):Int),(s2.1,g2,s2.2.2)))
  else some (.inl (0,(st.1,st.2.1,b.2)))).bind λ(q:(Int×ZbB)⊕Option ZbB)=>match q with
   | .inr e=>some (.inr (.inr e))
   | .inl q=>(Zeq q.2.1 c ⟨x,w64 (x+1),b.1,q.1⟩).bind λf=>some (.inl (w64 (x+1),(f,q.2.2)))
 else some (.inr (.inl st))
def ZcW (N:Nat)(rec_:ZbB->Int->Option (Option (Bool×ZbB)))(p:Z6)(fuel:Int)(st:ZbB)(i:Int):Option (Option (Bool×ZbB)):=
 if decide (((List.length st.1:Nat):Int)>fuel) then some none
 else (appI 32 st.1 [⟨i,[]⟩]).bind λf1=>(idx p.Periods i).bind λper=>(if i==0 then some 1 else some per).bind λmost =>
  (Za9 (λy:Int×ZbB=>ZcB N rec_ p i ((List.length st.1:Nat):Int) most y.1 y.2) N (0,(f1,st.2))).bind λo=>match o with
   | .inl s2=>if decide (most<per) then (Zeq s2.1 ((List.length st.1:Nat):Int) ⟨most,per,-2,0⟩).bind λf=>some (some (false,(f,s2.2))) else some (some (false,s2))
   | .inr o=>match o with
    | none=>some none
    | some s2=>some (some (true,s2))
def ZdI:Nat->Z6->Int->ZbB->Int->Option (Option (Bool×ZbB))
 | 0=>λ_ _ _ _=>none
 | N+1=>λp fuel st i=>ZcW N (ZdI N p fuel) p fuel st i
def Zb5 (N:Nat)(p:Z6)(fuel:Int):Option (List Int×List Z8×Int):=
 (ZcF N p).bind λe=>if (e != 0) then some ([],[],e) else
 if ((decide (fuel<0))||(decide (fuel>1999))) then some ([],[],2) else
 if (((List.length p.Periods:Nat):Int)==0) then some ([],[],0) else
 (ZdI N p fuel ([],[],[]) 0).bind λo=>match o with
  | none=>some ([],[],8)
  | some (t,st)=>if t then some (st.2.1,[],0) else some ([],st.1,4)
def Zew (N:Nat)(a0_:Z6)(a1_:Int)(a2_:(List Int)):Option (Bool):=
 ((Zb5 N a0_ a1_).bind λr1 =>
 (((if (r1.2.2==0) then (if (((List.length r1.2.1:Nat):Int)==0) then ((Zb6 N r1.1 a2_).bind λr4=>(some r4)) else (some false)) else (some false))).bind λ(j7:Bool) =>
 (some j7)))
def ZdQ (N:Nat)(a0_:Z6)(a1_:Int)(a2_:Int):Option (Bool):=
 ((Zb5 N a0_ a1_).bind λr1 =>
 (some ((r1.2.2==a2_)&&((((List.length r1.1:Nat):Int)==0)&&((decide (((List.length r1.2.1:Nat):Int)>0))==(r1.2.2==4))))))
def ZcE (N:Nat)(a0_:Z6)(a1_:(List Int))(i4:Int):Option ((Int)⊕((Unit)⊕(Bool×Int))):=
 (if (decide (i4<((List.length a1_:Nat):Int))) then ((idx a1_ i4).bind λa1 =>
 ((ZcA N a0_ i4 a1).bind λa0 =>
 (if (!a0) then (some (.inr (.inr (false,2)))) else (some (.inl (w64 (i4+1))))))) else (some (.inr (.inl ()))))
def ZcC (N:Nat)(a0_:Z6)(a5:Int)(a4:Int)(a1:List Int)(a0:Int):Option ((Int)⊕((Unit)⊕(Bool×Int))):=
 (if (decide (a0<((List.length a1:Nat):Int))) then ((idx a1 a0).bind λa3 =>
 ((Zcg N a0_ a0 a3 a5 a4).bind λa2 =>
 (if a2 then (some (.inr (.inr (false,0)))) else (some (.inl (w64 (a0+1))))))) else (some (.inr (.inl ()))))
def ZcD (N:Nat)(a0_:Z6)(a1_:(List Int))(a0:Int):Option ((Int)⊕((Unit)⊕(Bool×Int))):=
 (if (decide (a0<((List.length a1_:Nat):Int))) then ((idx a1_ a0).bind λa4 =>
 ((subI a1_ 0 (w64 (a0+1))).bind λa3 =>
 ((Za9 (λx:Int=>ZcC N a0_ a0 a4 a3 x) N 0).bind λa2=>match a2 with
 | (.inl a5)=>(some (.inl (w64 (a0+1))))
 | (.inr a1)=>(some (.inr (.inr a1)))))) else (some (.inr (.inl ()))))
def Zef (N:Nat)(a0_:Z6)(a1_:(List Int)):Option (Bool×Int):=
 ((ZcF N a0_).bind λr1 =>
 (if (r1 != 0) then (some (false,r1)) else (if (((List.length a1_:Nat):Int)!=((List.length a0_.Periods:Nat):Int)) then (some (false,2)) else ((Za9 (λx:Int=>ZcE N a0_ a1_ x) N 0).bind λa3=>match a3 with
 | (.inl a5)=>((Za9 (λx:Int=>ZcD N a0_ a1_ x) N 0).bind λa2=>match a2 with
 | (.inl a4)=>(some (true,0))
 | (.inr a1)=>(some a1))
 | (.inr a0)=>(some a0)))))
def Zcp (N:Nat)(i8:Int)(l9:Zac):Option ((Int×Zac)⊕((Zac))):=
 (if (decide (i8<12)) then ((l9.get i8).bind λa0 =>
 (some (.inl ((w64 (i8+1)),(Zac.set l9 i8 (-1)))))) else (some (.inr l9)))
def Zcr (N:Nat)(a3:(List Zag))(a2:Int)(a1:Zac):Option (((List Zag))):=
 ((appI 104 a3 [(Zag.mk a2 a1)]).bind λa0 =>
 (some a0))
def Zcq (N:Nat)(a3:(List Zag))(a1:Int)(a0:Zac):Option (((List Zag))):=
 ((appI 104 a3 [(Zag.mk a1 a0)]).bind λa2 =>
 (some a2))
def Zbh (N:Nat)(r1:Z6×(List (Zah×Bool)))(a3:(List (Zah×Bool)))(a0:Int)(a7:Int)(a1:Int)(a6:Int):Option (((List (Zah×Bool)))×Bool):=
 ((idx r1.1.Periods a0).bind λa8 =>
 ((ZeV N (w64 (a7-a6)) a8).bind λa2 =>
 (((if (!(mhas a3 (Zah.mk a0 a2 a1))) then ((Zch N r1.1 a0 a2 a1 0).bind λa4 =>
 (some (a4.1,(Zeu a3 (Zah.mk a0 a2 a1) a4.1)))) else (some ((ZiF a3 (Zah.mk a0 a2 a1) false),a3)))).bind λ(a5:Bool×(List (Zah×Bool))) =>
 (some (a5.2,a5.1)))))
def ZbF (N:Nat)(r1:Z6×(List (Zah×Bool)))(a5:Zag)(a4:Z8)(a8:Z8)(a2:Int)(a3:(List Zag))(a1:(List (Zah×Bool))):Option ((Int×(List Zag)×(List (Zah×Bool)))⊕(((List Zag)×(List (Zah×Bool)))⊕(Bool))):=
 (if (decide (a2<((List.length a8.Arms:Nat):Int))) then ((idx a8.Arms a2).bind λa0 =>
 (if (a0.By==(-1)) then ((a5.given.get a4.Stream).bind λag =>
 (((λ(s:(List Zag)) (ae:Int) (ad:Zac)=>Zcq N s ae ad) a3 a0.Next (Zac.set a5.given a4.Stream a0.From)).bind λaf =>
 (some (.inl ((w64 (a2+1)),af,a1))))) else (((if (decide (a0.By≥0)) then ((ZcN N (λ(s:(List (Zah×Bool))) (ac:Int) (ab:Int) (aa:Int) (a9:Int)=>Zbh N r1 s ac ab aa a9) a4.Stream a5.given a0 a1).bind λa6=>(some ((!a6.2),a6.1))) else (some (false,a1)))).bind λ(a7:Bool×(List (Zah×Bool))) =>
 (if a7.1 then (some (.inr (.inr false))) else (some (.inl ((w64 (a2+1)),a3,a7.2))))))) else (some (.inr (.inl (a3,a1)))))
def ZbG (N:Nat)(a1_:(List Z8))(r1:Z6×(List (Zah×Bool)))(a0:(List Zag))(a7:(List (Zah×Bool))):Option (((List Zag)×(List (Zah×Bool)))⊕((Unit)⊕(Bool))):=
 (if (decide (((List.length a0:Nat):Int)>0)) then ((idx a0 (w64 (((List.length a0:Nat):Int)-1))).bind λa1 =>
 ((popI a0 (w64 (((List.length a0:Nat):Int)-1))).bind λa6 =>
 ((idx a1_ a1.choice).bind λa3 =>
 ((a1.given.get a3.Stream).bind λa9 =>
 (if (a9 != (-1)) then (some (.inr (.inr false))) else ((idx a1_ a1.choice).bind λa8 =>
 ((Za9 (λx:Int×(List Zag)×(List (Zah×Bool))=>ZbF N r1 a1 a3 a8 x.1 x.2.1 x.2.2) N (0,a6,a7)).bind λa5=>match a5 with
 | (.inl a2)=>(some (.inl (a2.1,a2.2)))
 | (.inr a4)=>(some (.inr (.inr a4)))))))))) else (some (.inr (.inl ()))))
def ZdM (N:Nat)(a0_:Z6)(a1_:(List Z8)):Option (Bool):=
 ((ZcO N a0_).bind λr1 =>
 ((Za9 (λx:Int×Zac=>Zcp N x.1 x.2) N (0,(Zac.mk 0 0 0 0 0 0 0 0 0 0 0 0))).bind λa5 =>
 (((λ(s:(List Zag)) (a4:Int) (a3:Zac)=>Zcr N s a4 a3) [] 0 a5).bind λa0 =>
 ((Za9 (λx:(List Zag)×(List (Zah×Bool))=>ZbG N a1_ r1 x.1 x.2) N (a0,r1.2)).bind λa2=>match a2 with
 | (.inl a6)=>(some true)
 | (.inr a1)=>(some a1)))))
def ZdP (N:Nat):Option (Bool):=
 ((Zev N 2 1 1).bind λr1 =>
 ((Zev N 2 2 1).bind λr2 =>
 ((Zb5 N r2 2).bind λr3 =>
 ((((Zew N r1 9 ([0,2,3])).bind λr4=>(if r4 then ((ZdQ N r1 1 8).bind λr6=>(if r6 then ((Zew N r1 2 ([0,2,3])).bind λr8=>(if r8 then (if (r3.2.2==4) then ((Zgo N r3.2.1 ([(Z8.mk 0 ([(Zam.mk 0 1 (-1) 1),(Zam.mk 1 4 (-2) 0)])),(Z8.mk 1 ([(Zam.mk 0 2 0 0),(Zam.mk 2 3 (-1) 2),(Zam.mk 3 4 0 0)])),(Z8.mk 2 ([(Zam.mk 0 2 0 0),(Zam.mk 2 4 1 0)]))])).bind λa2=>(if a2 then ((ZdQ N r2 1 8).bind λa1=>(if a1 then ((ZdQ N r2 2000 2).bind λa0=>(some a0)) else (some false))) else (some false))) else (some false)) else (some false))) else (some false))) else (some false)))).bind λ(a3:Bool) =>
 (some a3)))))
def ZcY (N:Nat)(a0_:Z6)(a1_:(List Z8)):Option (Int):=
 ((ZcF N a0_).bind λr1 =>
 (if (r1 != 0) then (some r1) else ((Zde N a0_ a1_).bind λr3 =>
 (if (!r3) then (some 350) else ((ZdM N a0_ a1_).bind λr5 =>
 (if (!r5) then (some 351) else (some 0)))))))
def Zcy (N:Nat)(a0_:Zbu)(a1_:(List Int))(a2_:Int):Option (Bool):=
 ((ZdP N).bind λr1 =>
 (if (!r1) then (some false) else ((Zbt N a0_).bind λr3 =>
 ((Zb5 N r3 (w64 (a2_))).bind λr4 =>
 ((Zed N r3 a1_).bind λr5 =>
 ((Zef N r3 r5).bind λr6 =>
 (if (r6.2 != 0) then (some false) else (if (r4.2.2==0) then ((Zef N r3 r4.1).bind λr9 =>
 (((if r9.1 then (if (r9.2==0) then (if (((List.length r4.2.1:Nat):Int)==0) then (if (((List.length r4.1:Nat):Int)==0) then (some true) else ((idx r4.1 0).bind λa3=>(some (a3==0)))) else (some false)) else (some false)) else (some false))).bind λ(a2:Bool) =>
 (some a2))) else (if (r4.2.2==4) then (((if (!r6.1) then (if (((List.length r4.1:Nat):Int)==0) then ((ZcY N r3 r4.2.1).bind λa0=>(if (a0==0) then (some (decide (((List.length r4.2.1:Nat):Int)<=(w64 (1+(w64 (a2_))))))) else (some false))) else (some false)) else (some false))).bind λ(a1:Bool) =>
 (some a1)) else (some ((r4.2.2==8)&&((((List.length r4.1:Nat):Int)==0)&&(((List.length r4.2.1:Nat):Int)==0)))))))))))))
end Go.Sh

