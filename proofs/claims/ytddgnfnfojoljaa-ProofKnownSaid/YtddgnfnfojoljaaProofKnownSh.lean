/- Part of the proof. -/
import Derived.Test.YtddgnfnfojoljaaProofKnownE26
set_option linter.all false
namespace Go.Sh
open Go Go.Eng
set_option maxRecDepth 100000
structure ZaQ where
 From:Int
 To:Int
 By:Int
 Next:Int
def Zan (v:ZaQ):List PC:=[.int .i64 v.From,.int .i64 v.To,.int .i64 v.By,.int .i64 v.Next]
structure ZP where
 Stream:Int
 Arms:(List ZaQ)
def Z2 (v:ZP):List PC:=[.int .i64 v.Stream,.sl 4 false (List.map Zan v.Arms)]
structure Zak where
 Stream:Int
 Port:Int
 From:Int
 Long:Int
def Zba (v:Zak):List PC:=[.int .i64 v.Stream,.int .i64 v.Port,.int .i64 v.From,.int .i64 v.Long]
structure ZM where
 Periods:(List Int)
 Uses:(List Zak)
structure ZQ where
 x0:Int
 x1:Int
 x2:Int
 x3:Int
def Za4 (v:ZQ):List PC:=[.int .i64 v.x0,.int .i64 v.x1,.int .i64 v.x2,.int .i64 v.x3]
structure ZR where
 x0:Int
 x1:Int
 x2:Int
 x3:Int
 x4:Int
 x5:Int
 x6:Int
 x7:Int
 x8:Int
 x9:Int
 x10:Int
 x11:Int
def Ze3 (v:ZR):List PC:=[.int .i64 v.x0,.int .i64 v.x1,.int .i64 v.x2,.int .i64 v.x3,.int .i64 v.x4,.int .i64 v.x5,.int .i64 v.x6,.int .i64 v.x7,.int .i64 v.x8,.int .i64 v.x9,.int .i64 v.x10,.int .i64 v.x11]
structure Zah where
 Period:Int
 From:Int
 Long:Int
def Zat (v:Zah):List PC:=[.int .i64 v.Period,.int .i64 v.From,.int .i64 v.Long]
structure ZV where
 i:Int
 x_:Int
 j:Int deriving DecidableEq
structure ZZ where
 choice:Int
 given:ZR
def ZN (v:ZZ):List PC:=[.int .i64 v.choice]++Ze3 v.given
abbrev ZK (f:Bool) (l:List ZP):AV:=.p (.sl 2 f (List.map Z2 l))
abbrev Zaf (f:Bool) (l:List Int):AV:=.p (.sl 1 f (List.map eI64 l))
abbrev Z7 (f:Bool) (l:List Zak):AV:=.p (.sl 4 f (List.map Zba l))
abbrev Z3 (f:Bool) (l:List ZaQ):AV:=.p (.sl 4 f (List.map Zan l))
abbrev ZaM (f:Bool) (l:List ZQ):AV:=.p (.sl 4 f (List.map Za4 l))
abbrev Za1 (f:Bool) (l:List ZZ):AV:=.p (.sl 13 f (List.map ZN l))
abbrev Zaq (f:Bool) (l:List Zah):AV:=.p (.sl 3 f (List.map Zat l))
abbrev ZaI (f:Bool) (l:List (List ZP)):AV:=.p (.sl 1 f (List.map (eSl 2 Z2) l))
abbrev ZaC (v:ZaQ):List AV:=[iv v.From,iv v.To,iv v.By,iv v.Next]
abbrev ZaE (v:ZP):List AV:=[iv v.Stream,Z3 false v.Arms]
abbrev Zao (v:Zak):List AV:=[iv v.Stream,iv v.Port,iv v.From,iv v.Long]
abbrev ZI (v:ZM):List AV:=[Zaf false v.Periods,Z7 false v.Uses]
abbrev Z8 (v:ZR):List AV:=[iv v.x0,iv v.x1,iv v.x2,iv v.x3,iv v.x4,iv v.x5,iv v.x6,iv v.x7,iv v.x8,iv v.x9,iv v.x10,iv v.x11]
def ZR.l (v:ZR):List Int:=[v.x0,v.x1,v.x2,v.x3,v.x4,v.x5,v.x6,v.x7,v.x8,v.x9,v.x10,v.x11]
def ZR.ofL (l:List Int):ZR:=⟨l.getD 0 0,l.getD 1 0,l.getD 2 0,l.getD 3 0,l.getD 4 0,l.getD 5 0,l.getD 6 0,l.getD 7 0,l.getD 8 0,l.getD 9 0,l.getD 10 0,l.getD 11 0⟩
def ZR.get (v:ZR)(i:Int):Option Int:=idx v.l i
def ZR.set (v:ZR)(i:Int)(x:Int):ZR:=ZR.ofL (v.l.set i.toNat x)
theorem ZR.l_ofL (l:List Int)(h:l.length=12):(ZR.ofL l).l=l:=Zjh 12 0 l h rfl
theorem ZR.l_set (v:ZR)(i:Int)(x:Int):(v.set i x).l=v.l.set i.toNat x:=ZR.l_ofL _ (by rw [List.length_set];rfl)
theorem ZR.c_set (v:ZR)(i:Int)(x:Int):Z8 (v.set i x)=(v.l.set i.toNat x).map (λx=>iv x):=by rw [← ZR.l_set];rfl
abbrev ZaU (v:Zah):List AV:=[iv v.Period,iv v.From,iv v.Long]
def ZL (v:ZV):List Int:=[v.i,v.x_,v.j]
instance:KeyE ZV 3 ZL:=⟨λ_=>rfl,λx y h=>by cases x;cases y;simpa [ZL] using h⟩
abbrev Zbn (v:ZZ):List AV:=([iv v.choice]++(Z8 v.given))
def ZcC (N:Nat):Option (ZM):=
 (some (ZM.mk ([2,2]) ([(Zak.mk 0 0 0 1),(Zak.mk 1 0 0 2)])))
def Zbz (N:Nat)(a1_:(List ZQ))(i3:Int)(l4:(List ZaQ)):Option ((Int×(List ZaQ))⊕(((List ZaQ)))):=
 (if (decide (i3<((List.length a1_:Nat):Int))) then ((idx a1_ i3).bind λa4 =>
 ((idx a1_ i3).bind λa3 =>
 ((idx a1_ i3).bind λa2 =>
 ((idx a1_ i3).bind λa1 =>
 ((appI 32 l4 [(ZaQ.mk a4.x0 a3.x1 a2.x2 a1.x3)]).bind λa0 =>
 (some (.inl ((w64 (i3+1)),a0)))))))) else (some (.inr l4)))
def Z6 (N:Nat)(a0_:Int)(a1_:(List ZQ)):Option (ZP):=
 ((Zbi (λx:Int×(List ZaQ)=>Zbz N a1_ x.1 x.2) N (0,[])).bind λa0 =>
 (some (ZP.mk a0_ a0)))
def Zcb (N:Nat)(a0_:ZP)(a1_:Int)(i1:Int):Option ((Int)⊕((Int×Int×Int×Int))):=
 (if (decide (i1<((List.length a0_.Arms:Nat):Int))) then ((idx a0_.Arms i1).bind λa0 =>
 (if (decide (a1_<a0.To)) then (some (.inr (a0.From,a0.To,a0.By,a0.Next))) else (some (.inl (w64 (i1+1)))))) else (some (.inr (0,0,0,0))))
def ZeN (N:Nat)(a0_:ZP)(a1_:Int):Option (ZaQ):=
 ((Zbi (λx:Int=>Zcb N a0_ a1_ x) N 0).bind λa0 =>
 (some (ZaQ.mk a0.1 a0.2.1 a0.2.2.1 a0.2.2.2)))
def ZdD (N:Nat)(a0_:Int)(a1_:Int):Option (Int):=
 ((remI a0_ a1_).bind λm1 =>
 ((remI (w64 (m1+a1_)) a1_).bind λm2 =>
 (some m2)))
def Zcy (N:Nat)(a0_:ZM)(a1_:Int)(a2_:Int):Option (Bool):=
 (((if (decide (a2_≥0)) then ((idx a0_.Periods a1_).bind λe2=>(some (decide (a2_<e2)))) else (some false))).bind λ(j4:Bool) =>
 (some j4))
def Zb6 (N:Nat)(a0_:ZM):Option (ZM×(List (ZV×Bool))):=
 (some (a0_,[]))
def Zbk {σ:Type}(N:Nat)(y_:σ->Int->Int->Int->Int->Option (σ×Bool))(a1_:Int)(a2_:ZR)(a3_:ZaQ)(i8:Int)(g9:σ):Option ((Int×σ)⊕((σ)⊕(σ×Bool))):=
 (if (decide (i8<a3_.To)) then ((a2_.get a3_.By).bind λa2 =>
 (((if (a3_.By==a1_) then (some i8) else (some a2))).bind λ(a1:Int) =>
 ((y_ g9 a1_ i8 a3_.By a1).bind λa0 =>
 (if (!a0.2) then (some (.inr (.inr (a0.1,false)))) else (some (.inl ((w64 (i8+1)),a0.1))))))) else (some (.inr (.inl g9))))
def Zcx {σ:Type}(N:Nat)(y_:σ->Int->Int->Int->Int->Option (σ×Bool))(a1_:Int)(a2_:ZR)(a3_:ZaQ)(s_:σ):Option (σ×Bool):=
 (((if (a3_.By != a1_) then ((a2_.get a3_.By).bind λe2=>(some (e2==(-1)))) else (some false))).bind λ(j4:Bool) =>
 (if j4 then (some (s_,false)) else ((Zbi (λx:Int×σ=>Zbk N y_ a1_ a2_ a3_ x.1 x.2) N (a3_.From,s_)).bind λa2=>match a2 with
 | (.inl a1)=>(some (a1,true))
 | (.inr a0)=>(some a0))))
def Zgh (N:Nat)(a0_:(List Int))(i1:Int)(a4:Bool)(a0:Int):Option ((Bool×Int)⊕((Bool))):=
 (if (decide (a0<((List.length a0_:Nat):Int))) then (((if a4 then ((idx a0_ a0).bind λa3=>((remI i1 a3).bind λa1=>(if (a1==0) then (some true) else (some false)))) else (some false))).bind λ(a2:Bool) =>
 (some (.inl (a2,(w64 (a0+1)))))) else (some (.inr a4)))
def Zgi (N:Nat)(a0_:(List Int))(i1:Int):Option ((Int)⊕((Unit)⊕(Int))):=
 (if (decide (i1<=960)) then ((Zbi (λx:Bool×Int=>Zgh N a0_ i1 x.1 x.2) N (true,0)).bind λa0 =>
 (if a0 then (some (.inr (.inr i1))) else (some (.inl (w64 (i1+1)))))) else (some (.inr (.inl ()))))
def Zib (N:Nat)(a0_:(List Int)):Option (Int):=
 ((Zbi (λx:Int=>Zgi N a0_ x) N 1).bind λa1=>match a1 with
 | (.inl a2)=>(some 0)
 | (.inr a0)=>(some a0))
def ZfP (N:Nat)(a0_:ZM)(a1_:(List ZP))(a2_:Int)(e1:ZP)(i2:Int)(i3:Int):Option ((Int×Int)⊕((Int)⊕(Bool))):=
 (if (decide (i3<((List.length e1.Arms:Nat):Int))) then ((idx e1.Arms i3).bind λa0 =>
 (((if (a0.From != i2) then (some true) else (if (decide (a0.To<=a0.From)) then (some true) else ((idx a1_ a2_).bind λa3=>((idx a0_.Periods a3.Stream).bind λa2=>(if (decide (a0.To>a2)) then (some true) else (if (decide (a0.By<(-2))) then (some true) else (some (decide (a0.By≥((List.length a0_.Periods:Nat):Int))))))))))).bind λ(a1:Bool) =>
 (if a1 then (some (.inr (.inr false))) else (if (a0.By==(-1)) then (if ((a0.To != (w64 (a0.From+1)))||((decide (a0.Next<=a2_))||(decide (a0.Next≥((List.length a1_:Nat):Int))))) then (some (.inr (.inr false))) else (some (.inl (a0.To,(w64 (i3+1)))))) else (if (a0.By==(-2)) then (if ((a2_ != 0)||((a0.From==0)||(a0.Next != 0))) then (some (.inr (.inr false))) else (some (.inl (a0.To,(w64 (i3+1)))))) else (if (a0.Next != 0) then (some (.inr (.inr false))) else (some (.inl (a0.To,(w64 (i3+1))))))))))) else (some (.inr (.inl i2))))
def Zjl (N:Nat)(a0_:ZM)(a1_:(List ZP))(a2_:Int):Option (Bool):=
 ((idx a1_ a2_).bind λe1 =>
 ((Zbi (λx:Int×Int=>ZfP N a0_ a1_ a2_ e1 x.1 x.2) N (0,0)).bind λa2=>match a2 with
 | (.inl a1)=>(((if (decide (((List.length e1.Arms:Nat):Int)>0)) then ((idx a1_ a2_).bind λa5=>((idx a0_.Periods a5.Stream).bind λa4=>(some (a1==a4)))) else (some false))).bind λ(a3:Bool) =>
 (some a3))
 | (.inr a0)=>(some a0)))
def ZdR (N:Nat)(a0_:ZM)(a1_:Int)(a2_:Int):Option (ZM×Int×Int):=
 (some (a0_,a1_,a2_))
def ZbZ (N:Nat)(a0_:ZM)(a1_:Zak)(a2_:Int):Option (Zah):=
 ((idx a0_.Periods a1_.Stream).bind λe1 =>
 ((remI (w64 (a1_.From+a2_)) e1).bind λm2 =>
 (some (Zah.mk e1 m2 a1_.Long))))
def Zck (N:Nat)(a0_:ZM)(a1_:(List ZP))(a2_:Int)(a3_:ZaQ):Option (Bool):=
 (if (a3_.By==(-1)) then (some ((a3_.To==(w64 (a3_.From+1)))&&((decide (a3_.Next>a2_))&&(decide (a3_.Next<((List.length a1_:Nat):Int)))))) else (if (a3_.Next != 0) then (some false) else (if (a3_.By==(-2)) then (some ((a2_==0)&&(a3_.From != 0))) else (some ((decide (a3_.By≥0))&&(decide (a3_.By<((List.length a0_.Periods:Nat):Int))))))))
def Zbw {σ:Type}(N:Nat)(y_:σ->Zak->Zak->Option (σ×Bool))(c0_:ZM)(c2_:Int)(i4:Int)(a5:Zak)(a1:Int)(a3:σ):Option ((Int×σ)⊕((σ)⊕(σ))):=
 (if (decide (a1<((List.length c0_.Uses:Nat):Int))) then ((idx c0_.Uses a1).bind λa2 =>
 (((if (a1==i4) then (some true) else (if (a2.Stream != c2_) then (some true) else (some (a2.Port != a5.Port))))).bind λ(a4:Bool) =>
 (if a4 then (some (.inl ((w64 (a1+1)),a3))) else ((y_ a3 a5 a2).bind λa0 =>
 (if (!a0.2) then (some (.inr (.inr a0.1))) else (some (.inl ((w64 (a1+1)),a0.1)))))))) else (some (.inr (.inl a3))))
def Zbx {σ:Type}(N:Nat)(y_:σ->Zak->Zak->Option (σ×Bool))(c0_:ZM)(c1_:Int)(c2_:Int)(i4:Int)(g5:σ):Option ((Int×σ)⊕((σ)⊕(σ))):=
 (if (decide (i4<((List.length c0_.Uses:Nat):Int))) then ((idx c0_.Uses i4).bind λa3 =>
 (if (a3.Stream != c1_) then (some (.inl ((w64 (i4+1)),g5))) else ((Zbi (λx:Int×σ=>Zbw N y_ c0_ c2_ i4 a3 x.1 x.2) N (0,g5)).bind λa2=>match a2 with
 | (.inl a1)=>(some (.inl ((w64 (i4+1)),a1)))
 | (.inr a0)=>(some (.inr (.inr a0)))))) else (some (.inr (.inl g5))))
def ZcR {σ:Type}(N:Nat)(y_:σ->Zak->Zak->Option (σ×Bool))(c0_:ZM)(c1_:Int)(c2_:Int)(s_:σ):Option (σ):=
 ((Zbi (λx:Int×σ=>Zbx N y_ c0_ c1_ c2_ x.1 x.2) N (0,s_)).bind λa2=>match a2 with
 | (.inl a1)=>(some a1)
 | (.inr a0)=>(some a0))
def Zbr (N:Nat)(a0_:Zah):Option (Int):=
 (if ((decide (a0_.Period<1))||((decide (a0_.Period>960))||((decide (a0_.From<0))||(decide (a0_.From≥a0_.Period))))) then (some 330) else (if ((decide (a0_.Long<1))||(decide (a0_.Long>a0_.Period))) then (some 330) else (some 0)))
def ZaW (N:Nat)(a0_:(List Zah))(i2:Int):Option ((Int)⊕((Unit)⊕(Int))):=
 (if (decide (i2<((List.length a0_:Nat):Int))) then ((idx a0_ i2).bind λa1 =>
 ((Zbr N a1).bind λa0 =>
 (if (a0 != 0) then (some (.inr (.inr a0))) else (some (.inl (w64 (i2+1))))))) else (some (.inr (.inl ()))))
def ZbV (N:Nat)(a0_:(List Zah)):Option (Int):=
 (if (decide (((List.length a0_:Nat):Int)>32)) then (some 3) else ((Zbi (λx:Int=>ZaW N a0_ x) N 0).bind λa1=>match a1 with
 | (.inl a2)=>(some 0)
 | (.inr a0)=>(some a0)))
def Zdp (N:Nat)(a0_:Int)(a1_:Int):Option (Int):=
 ((remI a0_ a1_).bind λm1 =>
 ((remI (w64 (m1+a1_)) a1_).bind λm2 =>
 (some m2)))
def ZbG (N:Nat)(i1:Int)(i2:Int):Option ((Int×Int)⊕((Int))):=
 (if (i2 != 0) then ((remI i1 i2).bind λa0 =>
 (some (.inl (i2,a0)))) else (some (.inr i1)))
def Zct (N:Nat)(a0_:Int)(a1_:Int):Option (Int):=
 ((Zbi (λx:Int×Int=>ZbG N x.1 x.2) N (a0_,a1_)).bind λa0 =>
 (some a0))
def Zfc (N:Nat)(a0_:ZM)(i4:Int):Option ((Int)⊕((Unit)⊕(Bool))):=
 (if (decide (i4<((List.length a0_.Periods:Nat):Int))) then ((((idx a0_.Periods i4).bind λa2=>(if (decide (a2<1)) then (some true) else ((idx a0_.Periods i4).bind λa1=>(some (decide (a1>240))))))).bind λ(a0:Bool) =>
 (if a0 then (some (.inr (.inr false))) else (some (.inl (w64 (i4+1)))))) else (some (.inr (.inl ()))))
def Zfb (N:Nat)(a0_:ZM)(a1:Int):Option ((Int)⊕((Unit)⊕(Bool))):=
 (if (decide (a1<((List.length a0_.Uses:Nat):Int))) then ((idx a0_.Uses a1).bind λa0 =>
 (if ((decide (a0.Stream<0))||((decide (a0.Stream≥((List.length a0_.Periods:Nat):Int)))||((decide (a0.Port<0))||(decide (a0.Port≥48))))) then (some (.inr (.inr false))) else (((if (decide (a0.From<0)) then (some true) else ((idx a0_.Periods a0.Stream).bind λa4=>(if (decide (a0.From≥a4)) then (some true) else (if (decide (a0.Long<1)) then (some true) else ((idx a0_.Periods a0.Stream).bind λa3=>(some (decide (a0.Long>a3))))))))).bind λ(a2:Bool) =>
 (if a2 then (some (.inr (.inr false))) else (some (.inl (w64 (a1+1)))))))) else (some (.inr (.inl ()))))
def Zje (N:Nat)(a0_:ZM):Option (Bool):=
 (if ((decide (((List.length a0_.Periods:Nat):Int)>12))||(decide (((List.length a0_.Uses:Nat):Int)>192))) then (some false) else ((Zbi (λx:Int=>Zfc N a0_ x) N 0).bind λa4=>match a4 with
 | (.inl a6)=>((Zbi (λx:Int=>Zfb N a0_ x) N 0).bind λa3=>match a3 with
 | (.inl a5)=>((Zib N a0_.Periods).bind λa0 =>
 (some (decide (a0>0))))
 | (.inr a2)=>(some a2))
 | (.inr a1)=>(some a1)))
def ZbM (N:Nat)(a0_:ZM)(a1_:(List ZP))(a2_:Int)(e2:Int)(e3:ZP)(i4:Int)(i5:Int):Option ((Int×Int)⊕((Int)⊕(Bool))):=
 (if (decide (i5<((List.length e3.Arms:Nat):Int))) then ((idx e3.Arms i5).bind λa0 =>
 (((if (a0.From != i4) then (some true) else (if (decide (a0.To<=a0.From)) then (some true) else (if (decide (a0.To>e2)) then (some true) else ((Zck N a0_ a1_ a2_ a0).bind λa1=>(some (!a1))))))).bind λ(a2:Bool) =>
 (if a2 then (some (.inr (.inr false))) else (some (.inl (a0.To,(w64 (i5+1)))))))) else (some (.inr (.inl i4))))
def Zdu (N:Nat)(a0_:ZM)(a1_:(List ZP))(a2_:Int):Option (Bool):=
 ((idx a1_ a2_).bind λe1 =>
 ((idx a0_.Periods e1.Stream).bind λe2 =>
 ((idx a1_ a2_).bind λe3 =>
 ((Zbi (λx:Int×Int=>ZbM N a0_ a1_ a2_ e2 e3 x.1 x.2) N (0,0)).bind λa2=>match a2 with
 | (.inl a1)=>(some (a1==e2))
 | (.inr a0)=>(some a0)))))
def Zbq (N:Nat)(a0_:Int)(a1_:(List Int))(i1:Int)(i2:Int):Option ((Int×Int)⊕((Int))):=
 (if (decide (i2<((List.length a1_:Nat):Int))) then ((idx a1_ i2).bind λa0 =>
 ((Zct N i1 a0).bind λa2 =>
 ((quoI .i64 i1 a2).bind λa1 =>
 (if (decide ((w64 (a1*a0))>a0_)) then (some (.inr (w64 (a1*a0)))) else (some (.inl ((w64 (a1*a0)),(w64 (i2+1))))))))) else (some (.inr i1)))
def ZcP (N:Nat)(a0_:Int)(a1_:(List Int)):Option (Int):=
 ((Zbi (λx:Int×Int=>Zbq N a0_ a1_ x.1 x.2) N (1,0)).bind λa0 =>
 (some a0))
def ZcO (N:Nat)(a0_:Zah)(a1_:Zah):Option (Int×Int×Int):=
 ((Zct N a0_.Period a1_.Period).bind λr1 =>
 (some (a0_.Long,(w64 (r1-a1_.Long)),r1)))
def Zbt (N:Nat)(a4:ZP)(a2:Int)(a1:(List Int)):Option ((Int×(List Int))⊕(((List Int)))):=
 (if (decide (a2<((List.length a4.Arms:Nat):Int))) then ((((idx a4.Arms a2).bind λa0 =>
 (if (a0.By==(-1)) then ((idx a1 a0.Next).bind λa5 =>
 ((idx a1 a0.Next).bind λa6 =>
 (some (List.set a1 (Int.toNat a0.Next) (w64 (a5+1)))))) else (some a1)))).bind λ(a3:(List Int)) =>
 (some (.inl ((w64 (a2+1)),a3)))) else (some (.inr a1)))
def Zbu (N:Nat)(a0_:ZM)(a1_:(List ZP))(i9:Int)(a4:(List Int)):Option ((Int×(List Int))⊕(((List Int))⊕(Bool))):=
 (if (decide (i9<((List.length a1_:Nat):Int))) then ((idx a1_ i9).bind λa0 =>
 (((if (decide (a0.Stream<0)) then (some true) else (if (decide (a0.Stream≥((List.length a0_.Periods:Nat):Int))) then (some true) else ((Zdu N a0_ a1_ i9).bind λa2=>(some (!a2)))))).bind λ(a3:Bool) =>
 (if a3 then (some (.inr (.inr false))) else ((Zbi (λx:Int×(List Int)=>Zbt N a0 x.1 x.2) N (0,a4)).bind λa1 =>
 (some (.inl ((w64 (i9+1)),a1))))))) else (some (.inr (.inl a4))))
def Zbs (N:Nat)(a1:List Int)(a0:Int):Option ((Int)⊕((Unit)⊕(Bool))):=
 (if (decide (a0<((List.length a1:Nat):Int))) then ((idx a1 a0).bind λa2 =>
 (if (a2 != 1) then (some (.inr (.inr false))) else (some (.inl (w64 (a0+1)))))) else (some (.inr (.inl ()))))
def ZcQ (N:Nat)(a0_:ZM)(a1_:(List ZP)):Option (Bool):=
 (if ((decide (((List.length a1_:Nat):Int)<1))||(decide (((List.length a1_:Nat):Int)>2000))) then (some false) else ((Zil 8 ((List.length a1_:Nat):Int) ((List.length a1_:Nat):Int) 0).bind λl6 =>
 ((Zbi (λx:Int×(List Int)=>Zbu N a0_ a1_ x.1 x.2) N (0,l6)).bind λa4=>match a4 with
 | (.inl a0)=>((subI a0 1 ((List.length a0:Nat):Int)).bind λa5 =>
 ((Zbi (λx:Int=>Zbs N a5 x) N 0).bind λa3=>match a3 with
 | (.inl a6)=>(some true)
 | (.inr a2)=>(some a2)))
 | (.inr a1)=>(some a1))))
def Zbj (N:Nat)(a0_:(List Zah))(i8:Int)(l9:(List Int)):Option ((Int×(List Int))⊕(((List Int)))):=
 (if (decide (i8<((List.length a0_:Nat):Int))) then ((idx a0_ i8).bind λa0 =>
 ((idx l9 i8).bind λa1 =>
 (some (.inl ((w64 (i8+1)),(List.set l9 (Int.toNat i8) a0.Period)))))) else (some (.inr l9)))
def Zcv (N:Nat)(a0_:(List Zah)):Option (Int×Int):=
 ((ZbV N a0_).bind λr1 =>
 (if (r1 != 0) then (some (0,r1)) else ((Zil 8 ((List.length a0_:Nat):Int) ((List.length a0_:Nat):Int) 0).bind λl5 =>
 ((Zbi (λx:Int×(List Int)=>Zbj N a0_ x.1 x.2) N (0,l5)).bind λa1 =>
 ((ZcP N 960 a1).bind λa0 =>
 (if (decide (a0>960)) then (some (0,6)) else (some (a0,0))))))))
def Zcu (N:Nat)(a0_:Zah)(a1_:Zah):Option (Bool):=
 (if ((a0_.Period==a1_.Period)&&((a0_.From==a1_.From)&&((a0_.Long==a1_.Long)&&true))) then (some false) else ((ZcO N a0_ a1_).bind λr2 =>
 ((Zdp N (w64 (a1_.From-a0_.From)) r2.2.2).bind λr3 =>
 (some ((decide (r2.1<=r3))&&(decide (r3<=r2.2.1)))))))
def Zb0 (N:Nat)(a0_:(List Int))(i6:Int)(l7:(List Zah)):Option ((Int×(List Zah))⊕(((List Zah)))):=
 (if (decide (i6<((List.length a0_:Nat):Int))) then ((idx a0_ i6).bind λa0 =>
 ((idx l7 i6).bind λa1 =>
 (some (.inl ((w64 (i6+1)),(List.set l7 (Int.toNat i6) (Zah.mk a0 0 1))))))) else (some (.inr l7)))
def ZdS (N:Nat)(a0_:(List Int)):Option (Int×Int):=
 ((Zil 24 ((List.length a0_:Nat):Int) ((List.length a0_:Nat):Int) (Zah.mk 0 0 0)).bind λl3 =>
 ((Zbi (λx:Int×(List Zah)=>Zb0 N a0_ x.1 x.2) N (0,l3)).bind λa1 =>
 ((Zcv N a1).bind λa0 =>
 (some (a0.1,a0.2)))))
def Zcw (N:Nat)(a0_:Zah)(a1_:Zah):Option (Bool×Int):=
 ((Zbr N a0_).bind λr1 =>
 (if (r1 != 0) then (some (false,r1)) else ((Zbr N a1_).bind λr3 =>
 (if (r3 != 0) then (some (false,r3)) else ((Zcu N a0_ a1_).bind λr5 =>
 (some (r5,0)))))))
def Zb2 (N:Nat)(a0_:ZM)(i4:Int):Option ((Int)⊕((Unit)⊕(Int))):=
 (if (decide (i4<((List.length a0_.Periods:Nat):Int))) then ((idx a0_.Periods i4).bind λa0 =>
 (if ((decide (a0<1))||(decide (a0>240))) then (some (.inr (.inr 340))) else (some (.inl (w64 (i4+1)))))) else (some (.inr (.inl ()))))
def Zb1 (N:Nat)(a0_:ZM)(a2:Int):Option ((Int)⊕((Unit)⊕(Int))):=
 (if (decide (a2<((List.length a0_.Uses:Nat):Int))) then ((idx a0_.Uses a2).bind λa0 =>
 (if ((decide (a0.Stream<0))||((decide (a0.Stream≥((List.length a0_.Periods:Nat):Int)))||((decide (a0.Port<0))||(decide (a0.Port≥48))))) then (some (.inr (.inr 340))) else ((idx a0_.Periods a0.Stream).bind λa1 =>
 (if ((decide (a0.From<0))||((decide (a0.From≥a1))||((decide (a0.Long<1))||(decide (a0.Long>a1))))) then (some (.inr (.inr 340))) else (some (.inl (w64 (a2+1)))))))) else (some (.inr (.inl ()))))
def Zc1 (N:Nat)(a0_:ZM):Option (Int):=
 (if ((decide (((List.length a0_.Periods:Nat):Int)>12))||(decide (((List.length a0_.Uses:Nat):Int)>192))) then (some 340) else ((Zbi (λx:Int=>Zb2 N a0_ x) N 0).bind λa4=>match a4 with
 | (.inl a6)=>((ZdS N a0_.Periods).bind λa3 =>
 (if (a3.2 != 0) then (some 340) else ((Zbi (λx:Int=>Zb1 N a0_ x) N 0).bind λa2=>match a2 with
 | (.inl a5)=>(some 0)
 | (.inr a1)=>(some a1))))
 | (.inr a0)=>(some a0)))
def Za0 (N:Nat)(a0_:ZM)(a2_:Int)(a4_:Int)(b18:Bool)(a1:Zak)(a0:Zak):Option ((Bool)×Nat):=
 (if ((a1.Stream==a0.Stream)&&((a1.Port==a0.Port)&&((a1.From==a0.From)&&((a1.Long==a0.Long)&&true)))) then (some (true,1)) else ((ZbZ N a0_ a1 a2_).bind λa4 =>
 ((ZbZ N a0_ a0 a4_).bind λa3 =>
 ((Zcw N a4 a3).bind λa2 =>
 (if (!a2.1) then (some (true,1)) else (some (b18,0)))))))
def Zcz (N:Nat)(a0_:ZM)(a1_:Int)(a2_:Int)(a3_:Int)(a4_:Int):Option (Bool):=
 ((ZdR N a0_ a1_ a3_).bind λa1 =>
 ((ZcR N (λ(s:(Bool)×Nat) (a3:Zak) (a2:Zak)=>Zf5 (λv:Bool=>Za0 N a0_ a2_ a4_ v a3 a2) s) a1.1 a1.2.1 a1.2.2 (false,0)).bind λa0 =>
 (if (a0.2==0) then (some false) else (if (a0.2==1) then (some a0.1) else none))))
def ZcA (N:Nat)(a0_:ZM)(a1_:Int)(a2_:Int)(a3_:Int)(a4_:Int):Option (Bool×Int):=
 ((Zc1 N a0_).bind λr1 =>
 (if (r1 != 0) then (some (false,r1)) else (if ((decide (a1_<0))||((decide (a1_≥((List.length a0_.Periods:Nat):Int)))||((decide (a3_<0))||(decide (a3_≥((List.length a0_.Periods:Nat):Int)))))) then (some (false,2)) else ((((Zcy N a0_ a1_ a2_).bind λa2=>(if (!a2) then (some true) else ((Zcy N a0_ a3_ a4_).bind λa1=>(if (!a1) then (some true) else (if (a1_==a3_) then (some (a2_ != a4_)) else (some false))))))).bind λ(a3:Bool) =>
 (if a3 then (some (false,2)) else ((Zcz N a0_ a1_ a2_ a3_ a4_).bind λa0 =>
 (some (a0,0))))))))
def ZbJ (N:Nat)(i8:Int)(l9:ZR):Option ((Int×ZR)⊕((ZR))):=
 (if (decide (i8<12)) then ((l9.get i8).bind λa0 =>
 (some (.inl ((w64 (i8+1)),(ZR.set l9 i8 (-1)))))) else (some (.inr l9)))
def ZbL (N:Nat)(a3:(List ZZ))(a2:Int)(a1:ZR):Option (((List ZZ))):=
 ((appI 104 a3 [(ZZ.mk a2 a1)]).bind λa0 =>
 (some a0))
def ZbK (N:Nat)(a3:(List ZZ))(a1:Int)(a0:ZR):Option (((List ZZ))):=
 ((appI 104 a3 [(ZZ.mk a1 a0)]).bind λa2 =>
 (some a2))
def Zbf (N:Nat)(r1:ZM×(List (ZV×Bool)))(a3:(List (ZV×Bool)))(a0:Int)(a7:Int)(a1:Int)(a6:Int):Option (((List (ZV×Bool)))×Bool):=
 ((idx r1.1.Periods a0).bind λa8 =>
 ((ZdD N (w64 (a7-a6)) a8).bind λa2 =>
 (((if (!(mhas a3 (ZV.mk a0 a2 a1))) then ((ZcA N r1.1 a0 a2 a1 0).bind λa4 =>
 (some (a4.1,(Zgv a3 (ZV.mk a0 a2 a1) a4.1)))) else (some ((ZiW a3 (ZV.mk a0 a2 a1) false),a3)))).bind λ(a5:Bool×(List (ZV×Bool))) =>
 (some (a5.2,a5.1)))))
def ZbH (N:Nat)(r1:ZM×(List (ZV×Bool)))(a5:ZZ)(a4:ZP)(a8:ZP)(a2:Int)(a3:(List ZZ))(a1:(List (ZV×Bool))):Option ((Int×(List ZZ)×(List (ZV×Bool)))⊕(((List ZZ)×(List (ZV×Bool)))⊕(Bool))):=
 (if (decide (a2<((List.length a8.Arms:Nat):Int))) then ((idx a8.Arms a2).bind λa0 =>
 (if (a0.By==(-1)) then ((a5.given.get a4.Stream).bind λag =>
 (((λ(s:(List ZZ)) (ae:Int) (ad:ZR)=>ZbK N s ae ad) a3 a0.Next (ZR.set a5.given a4.Stream a0.From)).bind λaf =>
 (some (.inl ((w64 (a2+1)),af,a1))))) else (((if (decide (a0.By≥0)) then ((Zcx N (λ(s:(List (ZV×Bool))) (ac:Int) (ab:Int) (aa:Int) (a9:Int)=>Zbf N r1 s ac ab aa a9) a4.Stream a5.given a0 a1).bind λa6=>(some ((!a6.2),a6.1))) else (some (false,a1)))).bind λ(a7:Bool×(List (ZV×Bool))) =>
 (if a7.1 then (some (.inr (.inr false))) else (some (.inl ((w64 (a2+1)),a3,a7.2))))))) else (some (.inr (.inl (a3,a1)))))
def ZbI (N:Nat)(a1_:(List ZP))(r1:ZM×(List (ZV×Bool)))(a0:(List ZZ))(a7:(List (ZV×Bool))):Option (((List ZZ)×(List (ZV×Bool)))⊕((Unit)⊕(Bool))):=
 (if (decide (((List.length a0:Nat):Int)>0)) then ((idx a0 (w64 (((List.length a0:Nat):Int)-1))).bind λa1 =>
 ((popI a0 (w64 (((List.length a0:Nat):Int)-1))).bind λa6 =>
 ((idx a1_ a1.choice).bind λa3 =>
 ((a1.given.get a3.Stream).bind λa9 =>
 (if (a9 != (-1)) then (some (.inr (.inr false))) else ((idx a1_ a1.choice).bind λa8 =>
 ((Zbi (λx:Int×(List ZZ)×(List (ZV×Bool))=>ZbH N r1 a1 a3 a8 x.1 x.2.1 x.2.2) N (0,a6,a7)).bind λa5=>match a5 with
 | (.inl a2)=>(some (.inl (a2.1,a2.2)))
 | (.inr a4)=>(some (.inr (.inr a4)))))))))) else (some (.inr (.inl ()))))
def Zdt (N:Nat)(a0_:ZM)(a1_:(List ZP)):Option (Bool):=
 ((Zb6 N a0_).bind λr1 =>
 ((Zbi (λx:Int×ZR=>ZbJ N x.1 x.2) N (0,(ZR.mk 0 0 0 0 0 0 0 0 0 0 0 0))).bind λa5 =>
 (((λ(s:(List ZZ)) (a4:Int) (a3:ZR)=>ZbL N s a4 a3) [] 0 a5).bind λa0 =>
 ((Zbi (λx:(List ZZ)×(List (ZV×Bool))=>ZbI N a1_ r1 x.1 x.2) N (a0,r1.2)).bind λa2=>match a2 with
 | (.inl a6)=>(some true)
 | (.inr a1)=>(some a1)))))
def Zax (N:Nat)(a0_:ZM)(a1_:(List ZP)):Option (Int):=
 ((Zc1 N a0_).bind λr1 =>
 (if (r1 != 0) then (some r1) else ((ZcQ N a0_ a1_).bind λr3 =>
 (if (!r3) then (some 350) else ((Zdt N a0_ a1_).bind λr5 =>
 (if (!r5) then (some 351) else (some 0)))))))
def ZaT (N:Nat)(a0_:(List Int)):Option ((List Int)):=
 ((neL a0_).bind λu1 =>
 ((appI 8 [] a0_).bind λl4 =>
 (some l4)))
def Zce (N:Nat)(a0_:ZM)(a2_:(List Int))(i4:Int):Option ((Int)⊕((Unit)⊕(Int×Int×Int))):=
 (if (decide (i4<((List.length a2_:Nat):Int))) then ((idx a2_ i4).bind λa0 =>
 (((if (decide (a0<0)) then (some true) else ((idx a0_.Periods i4).bind λa2=>(some (decide (a0≥a2)))))).bind λ(a1:Bool) =>
 (if a1 then (some (.inr (.inr (0,0,2)))) else (some (.inl (w64 (i4+1))))))) else (some (.inr (.inl ()))))
def Zcc (N:Nat)(a0_:ZM)(a6:(List Int))(a5:Int)(a0:Int)(a1:(List Int)):Option ((Int×(List Int))⊕(((List Int)))):=
 (if (decide (a0<((List.length a6:Nat):Int))) then ((idx a1 a0).bind λa4 =>
 ((idx a0_.Periods a0).bind λa3 =>
 ((ZdD N (w64 (a4-a5)) a3).bind λa2 =>
 ((idx a1 a0).bind λa7 =>
 (some (.inl ((w64 (a0+1)),(List.set a1 (Int.toNat a0) a2)))))))) else (some (.inr a1)))
def Zcd (N:Nat)(a0_:ZM)(a1_:(List ZP))(a4:Int)(a1:(List Int)):Option ((Int×(List Int))⊕((Int×Int))):=
 ((idx a1_ a4).bind λa3 =>
 ((idx a1 a3.Stream).bind λa2 =>
 ((idx a1_ a4).bind λa6 =>
 ((ZeN N a6 a2).bind λa0 =>
 (if (a0.By==(-2)) then ((Zbi (λx:Int×(List Int)=>Zcc N a0_ a1 a2 x.1 x.2) N (0,a1)).bind λa5 =>
 (some (.inl (a4,a5)))) else (if (a0.By==(-1)) then (some (.inl (a0.Next,a1))) else (some (.inr (a3.Stream,a0.By)))))))))
def Zbv (N:Nat)(a0_:ZM)(a1_:(List ZP))(a2_:(List Int)):Option (Int×Int×Int):=
 ((Zax N a0_ a1_).bind λr1 =>
 (if (r1 != 0) then (some (0,0,r1)) else (if (((List.length a2_:Nat):Int)!=((List.length a0_.Periods:Nat):Int)) then (some (0,0,2)) else ((Zbi (λx:Int=>Zce N a0_ a2_ x) N 0).bind λa3=>match a3 with
 | (.inl a4)=>((ZaT N a2_).bind λa2 =>
 ((Zbi (λx:Int×(List Int)=>Zcd N a0_ a1_ x.1 x.2) N (0,a2)).bind λa0 =>
 (some (a0.1,a0.2,0))))
 | (.inr a1)=>(some a1)))))
def Zdw (N:Nat):Option (Bool):=
 ((ZcC N).bind λr1 =>
 ((Z6 N 0 ([(ZQ.mk 0 1 (-1) 1),(ZQ.mk 1 2 (-2) 0)])).bind λr2 =>
 ((Z6 N 1 ([(ZQ.mk 0 2 0 0)])).bind λr3 =>
 ((Z6 N 0 ([(ZQ.mk 0 2 1 0)])).bind λr4 =>
 ((Z6 N 0 ([(ZQ.mk 0 1 (-1) 1),(ZQ.mk 1 2 (-1) 1)])).bind λr5 =>
 ((Z6 N 1 ([(ZQ.mk 0 2 0 0)])).bind λr6 =>
 ((Z6 N 0 ([(ZQ.mk 0 1 (-1) 1),(ZQ.mk 1 2 (-2) 0)])).bind λr7 =>
 ((Z6 N 1 ([(ZQ.mk 0 1 0 0)])).bind λr8 =>
 ((Zbv N r1 ([r2,r3]) ([1,1])).bind λr9 =>
 ((((Zax N r1 ([r2,r3])).bind λa3=>(if (a3==0) then ((Zax N r1 ([r4])).bind λa2=>(if (a2==351) then ((Zax N r1 ([r5,r6])).bind λa1=>(if (a1==350) then ((Zax N r1 ([r7,r8])).bind λa0=>(if (a0==350) then (if (r9.1==1) then (if (r9.2.1==0) then (some (r9.2.2==0)) else (some false)) else (some false)) else (some false))) else (some false))) else (some false))) else (some false)))).bind λ(a4:Bool) =>
 (some a4)))))))))))
def ZaX (N:Nat)(r1:ZM)(r2:ZP)(r3:ZP)(r4:ZP)(r5:ZP)(r6:ZP)(r7:ZP)(r8:ZP)(r9:ZP)(a8:ZP)(a7:ZP)(a6:ZP)(a5:ZP)(a4:ZP)(a3:ZP)(a2:ZP)(i17:Int):Option ((Int)⊕((Unit)⊕(Bool))):=
 (if (decide (i17<((List.length [[],[r4],[r5],[r6],[r7],[r8],[r9],[a8],[a7,r3],[a6],[r2],[a5],[a4,r3],[a3,r3],[r2,a2],[r2,r3,r3],(List.replicate 2001 (ZP.mk 0 ([])))]:Nat):Int))) then ((idx [[],[r4],[r5],[r6],[r7],[r8],[r9],[a8],[a7,r3],[a6],[r2],[a5],[a4,r3],[a3,r3],[r2,a2],[r2,r3,r3],(List.replicate 2001 (ZP.mk 0 ([])))] i17).bind λab =>
 ((Zbv N r1 ab ([])).bind λa1 =>
 ((((idx [[],[r4],[r5],[r6],[r7],[r8],[r9],[a8],[a7,r3],[a6],[r2],[a5],[a4,r3],[a3,r3],[r2,a2],[r2,r3,r3],(List.replicate 2001 (ZP.mk 0 ([])))] i17).bind λaa=>((Zax N r1 aa).bind λa0=>(if (a0 != 350) then (some true) else (some (a1.2.2 != 350)))))).bind λ(a9:Bool) =>
 (if a9 then (some (.inr (.inr false))) else (some (.inl (w64 (i17+1)))))))) else (some (.inr (.inl ()))))
def law25_ProofKnown (N:Nat):Option (Bool):=
 ((ZcC N).bind λr1 =>
 ((Z6 N 0 ([(ZQ.mk 0 1 (-1) 1),(ZQ.mk 1 2 (-2) 0)])).bind λr2 =>
 ((Z6 N 1 ([(ZQ.mk 0 2 0 0)])).bind λr3 =>
 ((Z6 N 0 ([])).bind λr4 =>
 ((Z6 N 2 ([(ZQ.mk 0 2 0 0)])).bind λr5 =>
 ((Z6 N (-1) ([(ZQ.mk 0 2 0 0)])).bind λr6 =>
 ((Z6 N 0 ([(ZQ.mk 0 3 1 0)])).bind λr7 =>
 ((Z6 N 0 ([(ZQ.mk 0 1 1 0),(ZQ.mk 1 1 1 0),(ZQ.mk 1 2 1 0)])).bind λr8 =>
 ((Z6 N 0 ([(ZQ.mk 0 2 2 0)])).bind λr9 =>
 ((Z6 N 0 ([(ZQ.mk 0 2 (-3) 0)])).bind λap =>
 ((Z6 N 0 ([(ZQ.mk 0 2 (-1) 1)])).bind λao =>
 ((Z6 N 0 ([(ZQ.mk 0 1 (-1) 0),(ZQ.mk 1 2 (-2) 0)])).bind λan =>
 ((Z6 N 0 ([(ZQ.mk 0 2 (-2) 0)])).bind λam =>
 ((Z6 N 0 ([(ZQ.mk 0 1 1 0),(ZQ.mk 1 2 (-2) 1)])).bind λal =>
 ((Z6 N 0 ([(ZQ.mk 0 2 1 1)])).bind λak =>
 ((Z6 N 1 ([(ZQ.mk 0 1 0 0),(ZQ.mk 1 2 (-2) 0)])).bind λaj =>
 ((Zbi (λx:Int=>ZaX N r1 r2 r3 r4 r5 r6 r7 r8 r9 ap ao an am al ak aj x) N 0).bind λaf=>match af with
 | (.inl aq)=>((Z6 N 0 ([(ZQ.mk 0 2 0 0)])).bind λa2 =>
 ((Z6 N 0 ([(ZQ.mk 0 3 0 0)])).bind λa1 =>
 ((Zbv N r1 ([r2,r3]) ([0])).bind λad =>
 ((Zbv N r1 ([r2,r3]) ([0,2])).bind λac =>
 ((Zbv N r1 ([r2,a2]) ([])).bind λab =>
 ((Zbv N (ZM.mk ([3]) ([(Zak.mk 0 0 0 2),(Zak.mk 0 0 1 1)])) ([a1]) ([2])).bind λa0 =>
 ((Zbv N (ZM.mk ([0]) ([])) ([]) ([])).bind λaa =>
 ((((Zax N r1 ([r2,a2])).bind λa9=>(if (a9==351) then ((Zax N (ZM.mk ([2,2]) ([(Zak.mk 0 0 0 1),(Zak.mk 1 0 0 1)])) ([r2,r3])).bind λa8=>(if (a8==351) then ((Zax N r1 ([r3])).bind λa7=>(if (a7==351) then ((Zax N (ZM.mk ([0]) ([])) ([r2,r3])).bind λa6=>(if (a6==340) then ((Zax N (ZM.mk ([]) ([])) ([r2,r3])).bind λa5=>(some (a5==350))) else (some false))) else (some false))) else (some false))) else (some false)))).bind λ(ai:Bool) =>
 ((((Zdw N).bind λa4=>(if a4 then (if (ad.2.2==2) then (if (ac.2.2==2) then (if (ab.2.2==351) then (if (a0.1==0) then (if (a0.2.1==0) then (if (a0.2.2==0) then (if (aa.2.2==340) then ((Zax N (ZM.mk ([3]) ([(Zak.mk 0 0 0 2),(Zak.mk 0 0 1 1)])) ([a1])).bind λa3=>(if (a3==0) then (some ai) else (some false))) else (some false)) else (some false)) else (some false)) else (some false)) else (some false)) else (some false)) else (some false)) else (some false)))).bind λ(ag:Bool) =>
 (some ag))))))))))
 | (.inr ae)=>(some ae))))))))))))))))))
end Go.Sh

