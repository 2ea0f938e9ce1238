/- Part of the proof. -/
import Derived.Test.YtddgnfnfojoljaaProofReasonsE26
set_option linter.all false
namespace Go.Sh
open Go Go.Eng
set_option maxRecDepth 100000
structure Zjf where
 x0:Int
 x1:Int
 x2:Int
 x3:Int
def Ze4 (v:Zjf):List PC:=[.int .u8 v.x0,.int .u8 v.x1,.int .u8 v.x2,.int .u8 v.x3]
structure ZbG where
 Periods:(List Int)
 Uses:(List Zjf)
def ZkL (v:ZbG):List PC:=[.sl 1 false (List.map (eI .u8) v.Periods),.sl 4 false (List.map Ze4 v.Uses)]
structure Zax where
 From:Int
 To:Int
 By:Int
 Next:Int
def Zah (v:Zax):List PC:=[.int .i64 v.From,.int .i64 v.To,.int .i64 v.By,.int .i64 v.Next]
structure Z7 where
 Stream:Int
 Arms:(List Zax)
def Zab (v:Z7):List PC:=[.int .i64 v.Stream,.sl 4 false (List.map Zah v.Arms)]
structure ZaV where
 Choice:Int
 Arm:Int
 What:Int
 N_:Int
def ZlI (v:ZaV):List PC:=[.int .u8 v.Choice,.int .u8 v.Arm,.int .u8 v.What,.int .i64 v.N_]
structure ZaJ where
 Stream:Int
 Port:Int
 From:Int
 Long:Int
def ZaF (v:ZaJ):List PC:=[.int .i64 v.Stream,.int .i64 v.Port,.int .i64 v.From,.int .i64 v.Long]
structure Z8 where
 Periods:(List Int)
 Uses:(List ZaJ)
structure ZbN where
 x0:(List Z7)
 x1:(List Z7)
 x2:(List Z7)
 x3:(List Z7)
structure Zba where
 x0:Int
 x1:Int
 x2:Int
 x3:Int
def ZcE (v:Zba):List PC:=[.int .i64 v.x0,.int .i64 v.x1,.int .i64 v.x2,.int .i64 v.x3]
structure Zad where
 x0:Int
 x1:Int
 x2:Int
 x3:Int
 x4:Int
 x5:Int
 x6:Int
 x7:Int
 x8:Int
 x9:Int
 x10:Int
 x11:Int
def Zi0 (v:Zad):List PC:=[.int .i64 v.x0,.int .i64 v.x1,.int .i64 v.x2,.int .i64 v.x3,.int .i64 v.x4,.int .i64 v.x5,.int .i64 v.x6,.int .i64 v.x7,.int .i64 v.x8,.int .i64 v.x9,.int .i64 v.x10,.int .i64 v.x11]
structure Zaj where
 Period:Int
 From:Int
 Long:Int
def ZaZ (v:Zaj):List PC:=[.int .i64 v.Period,.int .i64 v.From,.int .i64 v.Long]
structure Zam where
 i:Int
 x_:Int
 j:Int deriving DecidableEq
structure Zal where
 choice:Int
 given:Zad
def Zag (v:Zal):List PC:=[.int .i64 v.choice]++Zi0 v.given
abbrev Z5 (f:Bool) (l:List Z7):AV:=.p (.sl 2 f (List.map Zab l))
abbrev ZbE (f:Bool) (l:List Int):AV:=.p (.sl 1 f (List.map (eI .u8) l))
abbrev Zaf (f:Bool) (l:List Int):AV:=.p (.sl 1 f (List.map eI64 l))
abbrev Zai (f:Bool) (l:List ZaJ):AV:=.p (.sl 4 f (List.map ZaF l))
abbrev Zgi (f:Bool) (l:List Zjf):AV:=.p (.sl 4 f (List.map Ze4 l))
abbrev Zbz (f:Bool) (l:List Zba):AV:=.p (.sl 4 f (List.map ZcE l))
abbrev Zak (f:Bool) (l:List Zax):AV:=.p (.sl 4 f (List.map Zah l))
abbrev Zcs (f:Bool) (l:List Zal):AV:=.p (.sl 13 f (List.map Zag l))
abbrev ZaX (f:Bool) (l:List Zaj):AV:=.p (.sl 3 f (List.map ZaZ l))
abbrev ZgT (v:Zjf):List AV:=[.p (.int .u8 v.x0),.p (.int .u8 v.x1),.p (.int .u8 v.x2),.p (.int .u8 v.x3)]
abbrev ZaW (v:ZbG):List AV:=[ZbE false v.Periods,Zgi false v.Uses]
abbrev ZaH (v:Zax):List AV:=[iv v.From,iv v.To,iv v.By,iv v.Next]
abbrev ZbB (v:Z7):List AV:=[iv v.Stream,Zak false v.Arms]
abbrev ZaG (v:ZaV):List AV:=[.p (.int .u8 v.Choice),.p (.int .u8 v.Arm),.p (.int .u8 v.What),iv v.N_]
abbrev ZaT (v:ZaJ):List AV:=[iv v.Stream,iv v.Port,iv v.From,iv v.Long]
abbrev Z4 (v:Z8):List AV:=[Zaf false v.Periods,Zai false v.Uses]
abbrev ZaP (v:ZbN):List AV:=[Z5 false v.x0,Z5 false v.x1,Z5 false v.x2,Z5 false v.x3]
abbrev Zaq (v:Zad):List AV:=[iv v.x0,iv v.x1,iv v.x2,iv v.x3,iv v.x4,iv v.x5,iv v.x6,iv v.x7,iv v.x8,iv v.x9,iv v.x10,iv v.x11]
def Zad.l (v:Zad):List Int:=[v.x0,v.x1,v.x2,v.x3,v.x4,v.x5,v.x6,v.x7,v.x8,v.x9,v.x10,v.x11]
def Zad.ofL (l:List Int):Zad:=⟨l.getD 0 0,l.getD 1 0,l.getD 2 0,l.getD 3 0,l.getD 4 0,l.getD 5 0,l.getD 6 0,l.getD 7 0,l.getD 8 0,l.getD 9 0,l.getD 10 0,l.getD 11 0⟩
def Zad.get (v:Zad)(i:Int):Option Int:=idx v.l i
def Zad.set (v:Zad)(i:Int)(x:Int):Zad:=Zad.ofL (v.l.set i.toNat x)
theorem Zad.l_ofL (l:List Int)(h:l.length=12):(Zad.ofL l).l=l:=ZpH 12 0 l h rfl
theorem Zad.l_set (v:Zad)(i:Int)(x:Int):(v.set i x).l=v.l.set i.toNat x:=Zad.l_ofL _ (by rw [ZI];rfl)
theorem Zad.c_set (v:Zad)(i:Int)(x:Int):Zaq (v.set i x)=(v.l.set i.toNat x).map (λx=>iv x):=by rw [← Zad.l_set];rfl
abbrev Zbm (v:Zaj):List AV:=[iv v.Period,iv v.From,iv v.Long]
def Zae (v:Zam):List Int:=[v.i,v.x_,v.j]
instance:KeyE Zam 3 Zae:=⟨λ_=>rfl,λx y h=>by cases x;cases y;simpa [Zae] using h⟩
abbrev Zdk (v:Zal):List AV:=([iv v.choice]++(Zaq v.given))
def Za4 (N:Nat)(a0_:ZbG)(i3:Int)(l4:(List Int)):Option ((Int×(List Int))⊕(((List Int)))):=
 (if ((decide (i3<((List.length a0_.Periods:Nat):Int)))&&(decide (i3<5))) then ((idx a0_.Periods i3).bind λa2 =>
 ((idx [4,6,8,12,3,5,10,24] (Int.tmod a2 8)).bind λa1 =>
 ((appI 8 l4 [a1]).bind λa0 =>
 (some (.inl ((w64 (i3+1)),a0)))))) else (some (.inr l4)))
def Za3 (N:Nat)(a0_:ZbG)(a4:(List Int))(a2:Int)(a8:(List ZaJ)):Option ((Int×(List ZaJ))⊕(((List ZaJ)))):=
 (((if (decide (a2<((List.length a0_.Uses:Nat):Int))) then (if (decide (a2<12)) then (some (decide (((List.length a4:Nat):Int)>0))) else (some false)) else (some false))).bind λ(aa:Bool) =>
 (if aa then ((idx a0_.Uses a2).bind λa0 =>
 ((remI (w64 (a0.x0)) ((List.length a4:Nat):Int)).bind λa3 =>
 ((idx a4 a3).bind λa1 =>
 ((remI (w64 (a0.x2)) a1).bind λa7 =>
 ((remI (w64 (a0.x3)) a1).bind λa6 =>
 ((remI (Int.tmod a6 4) a1).bind λa5 =>
 ((appI 32 a8 [(ZaJ.mk a3 (w64 ((Int.tmod a0.x1 4))) a7 (w64 (1+a5)))]).bind λa9 =>
 (some (.inl ((w64 (a2+1)),a9)))))))))) else (some (.inr a8))))
def ZbF (N:Nat)(a0_:ZbG):Option (Z8):=
 ((ZaO (λx:Int×(List Int)=>Za4 N a0_ x.1 x.2) N (0,[])).bind λa0 =>
 ((ZaO (λx:Int×(List ZaJ)=>Za3 N a0_ a0 x.1 x.2) N (0,[])).bind λa1 =>
 (some (Z8.mk a0 a1))))
def ZcV (N:Nat)(a0_:Z8)(a1_:(List Int))(i3:Int)(l4:(List Int)):Option ((Int×(List Int))⊕(((List Int)))):=
 (if (decide (i3<((List.length a0_.Periods:Nat):Int))) then (((if (decide (i3<((List.length a1_:Nat):Int))) then ((idx a1_ i3).bind λa4 =>
 ((idx a0_.Periods i3).bind λa3 =>
 ((remI (w64 (a4)) a3).bind λa0 =>
 (some a0)))) else (some 0))).bind λ(a2:Int) =>
 ((appI 8 l4 [a2]).bind λa1 =>
 (some (.inl ((w64 (i3+1)),a1))))) else (some (.inr l4)))
def Zdc (N:Nat)(a0_:Z8)(a1_:(List Int)):Option ((List Int)):=
 ((ZaO (λx:Int×(List Int)=>ZcV N a0_ a1_ x.1 x.2) N (0,[])).bind λa0 =>
 (some a0))
def Zgp (N:Nat):Option (Z8):=
 (some (Z8.mk ([2,2]) ([(ZaJ.mk 0 0 0 1),(ZaJ.mk 1 0 0 2)])))
def ZdB (N:Nat)(a1_:(List Zba))(i3:Int)(l4:(List Zax)):Option ((Int×(List Zax))⊕(((List Zax)))):=
 (if (decide (i3<((List.length a1_:Nat):Int))) then ((idx a1_ i3).bind λa4 =>
 ((idx a1_ i3).bind λa3 =>
 ((idx a1_ i3).bind λa2 =>
 ((idx a1_ i3).bind λa1 =>
 ((appI 32 l4 [(Zax.mk a4.x0 a3.x1 a2.x2 a1.x3)]).bind λa0 =>
 (some (.inl ((w64 (i3+1)),a0)))))))) else (some (.inr l4)))
def ZbU (N:Nat)(a0_:Int)(a1_:(List Zba)):Option (Z7):=
 ((ZaO (λx:Int×(List Zax)=>ZdB N a1_ x.1 x.2) N (0,[])).bind λa0 =>
 (some (Z7.mk a0_ a0)))
def Zdf (N:Nat)(a0_:(List Z7))(i3:Int)(l4:(List Z7)):Option ((Int×(List Z7))⊕(((List Z7)))):=
 (if ((decide (i3<((List.length a0_:Nat):Int)))&&(decide (i3<40))) then ((idx a0_ i3).bind λa4 =>
 ((idx a0_ i3).bind λa3 =>
 ((idx a0_ i3).bind λa0 =>
 ((subI a3.Arms 0 (if 30<((List.length a0.Arms:Nat):Int) then 30 else ((List.length a0.Arms:Nat):Int))).bind λa2 =>
 ((appI 32 l4 [(Z7.mk a4.Stream a2)]).bind λa1 =>
 (some (.inl ((w64 (i3+1)),a1)))))))) else (some (.inr l4)))
def Zez (N:Nat)(a0_:(List Z7)):Option ((List Z7)):=
 ((ZaO (λx:Int×(List Z7)=>Zdf N a0_ x.1 x.2) N (0,[])).bind λa0 =>
 (some a0))
def Zdd (N:Nat)(a0_:Z7)(a1_:Int)(i1:Int):Option ((Int)⊕((Int×Int×Int×Int))):=
 (if (decide (i1<((List.length a0_.Arms:Nat):Int))) then ((idx a0_.Arms i1).bind λa0 =>
 (if (decide (a1_<a0.To)) then (some (.inr (a0.From,a0.To,a0.By,a0.Next))) else (some (.inl (w64 (i1+1)))))) else (some (.inr (0,0,0,0))))
def Zfz (N:Nat)(a0_:Z7)(a1_:Int):Option (Zax):=
 ((ZaO (λx:Int=>Zdd N a0_ a1_ x) N 0).bind λa0 =>
 (some (Zax.mk a0.1 a0.2.1 a0.2.2.1 a0.2.2.2)))
def ZeZ (N:Nat)(a0_:Int)(a1_:Int):Option (Int):=
 ((remI a0_ a1_).bind λm1 =>
 ((remI (w64 (m1+a1_)) a1_).bind λm2 =>
 (some m2)))
def Zdb (N:Nat)(a0_:Z7)(a1_:Int)(i1:Int):Option ((Int)⊕((Int))):=
 ((idx a0_.Arms i1).bind λa0 =>
 (if (decide (a0.To<=a1_)) then (some (.inl (w64 (i1+1)))) else (some (.inr i1))))
def Zet (N:Nat)(a0_:Z7)(a1_:Int):Option (Zax):=
 ((ZaO (λx:Int=>Zdb N a0_ a1_ x) N 0).bind λa0 =>
 ((idx a0_.Arms a0).bind λa1 =>
 (some a1)))
def ZdP (N:Nat)(a0_:Z8)(a1_:Int)(a2_:Int):Option (Bool):=
 (((if (decide (a2_≥0)) then ((idx a0_.Periods a1_).bind λe2=>(some (decide (a2_<e2)))) else (some false))).bind λ(j4:Bool) =>
 (some j4))
def Zdv (N:Nat)(a0_:Z8):Option (Z8×(List (Zam×Bool))):=
 (some (a0_,[]))
def ZbP {σ:Type}(N:Nat)(y_:σ->Int->Int->Int->Int->Option (σ×Bool))(a1_:Int)(a2_:Zad)(a3_:Zax)(i8:Int)(g9:σ):Option ((Int×σ)⊕((σ)⊕(σ×Bool))):=
 (if (decide (i8<a3_.To)) then ((a2_.get a3_.By).bind λa2 =>
 (((if (a3_.By==a1_) then (some i8) else (some a2))).bind λ(a1:Int) =>
 ((y_ g9 a1_ i8 a3_.By a1).bind λa0 =>
 (if (!a0.2) then (some (.inr (.inr (a0.1,false)))) else (some (.inl ((w64 (i8+1)),a0.1))))))) else (some (.inr (.inl g9))))
def Zdu {σ:Type}(N:Nat)(y_:σ->Int->Int->Int->Int->Option (σ×Bool))(a1_:Int)(a2_:Zad)(a3_:Zax)(s_:σ):Option (σ×Bool):=
 (((if (a3_.By != a1_) then ((a2_.get a3_.By).bind λe2=>(some (e2==(-1)))) else (some false))).bind λ(j4:Bool) =>
 (if j4 then (some (s_,false)) else ((ZaO (λx:Int×σ=>ZbP N y_ a1_ a2_ a3_ x.1 x.2) N (a3_.From,s_)).bind λa2=>match a2 with
 | (.inl a1)=>(some (a1,true))
 | (.inr a0)=>(some a0))))
def ZcL (N:Nat)(a0_:(List Int))(i1:Int)(a4:Bool)(a0:Int):Option ((Bool×Int)⊕((Bool))):=
 (if (decide (a0<((List.length a0_:Nat):Int))) then (((if a4 then ((idx a0_ a0).bind λa3=>((remI i1 a3).bind λa1=>(if (a1==0) then (some true) else (some false)))) else (some false))).bind λ(a2:Bool) =>
 (some (.inl (a2,(w64 (a0+1)))))) else (some (.inr a4)))
def Zcc (N:Nat)(a0_:(List Int))(i1:Int):Option ((Int)⊕((Unit)⊕(Int))):=
 (if (decide (i1<=960)) then ((ZaO (λx:Bool×Int=>ZcL N a0_ i1 x.1 x.2) N (true,0)).bind λa0 =>
 (if a0 then (some (.inr (.inr i1))) else (some (.inl (w64 (i1+1)))))) else (some (.inr (.inl ()))))
def Zfw (N:Nat)(a0_:(List Int)):Option (Int):=
 ((ZaO (λx:Int=>Zcc N a0_ x) N 1).bind λa1=>match a1 with
 | (.inl a2)=>(some 0)
 | (.inr a0)=>(some a0))
def ZcT (N:Nat)(a0_:Z8)(a1_:(List Z7))(a2_:Int)(e1:Z7)(i2:Int)(i3:Int):Option ((Int×Int)⊕((Int)⊕(Bool))):=
 (if (decide (i3<((List.length e1.Arms:Nat):Int))) then ((idx e1.Arms i3).bind λa0 =>
 (((if (a0.From != i2) then (some true) else (if (decide (a0.To<=a0.From)) then (some true) else ((idx a1_ a2_).bind λa3=>((idx a0_.Periods a3.Stream).bind λa2=>(if (decide (a0.To>a2)) then (some true) else (if (decide (a0.By<(-2))) then (some true) else (some (decide (a0.By≥((List.length a0_.Periods:Nat):Int))))))))))).bind λ(a1:Bool) =>
 (if a1 then (some (.inr (.inr false))) else (if (a0.By==(-1)) then (if ((a0.To != (w64 (a0.From+1)))||((decide (a0.Next<=a2_))||(decide (a0.Next≥((List.length a1_:Nat):Int))))) then (some (.inr (.inr false))) else (some (.inl (a0.To,(w64 (i3+1)))))) else (if (a0.By==(-2)) then (if ((a2_ != 0)||((a0.From==0)||(a0.Next != 0))) then (some (.inr (.inr false))) else (some (.inl (a0.To,(w64 (i3+1)))))) else (if (a0.Next != 0) then (some (.inr (.inr false))) else (some (.inl (a0.To,(w64 (i3+1))))))))))) else (some (.inr (.inl i2))))
def ZeW (N:Nat)(a0_:Z8)(a1_:(List Z7))(a2_:Int):Option (Bool):=
 ((idx a1_ a2_).bind λe1 =>
 ((ZaO (λx:Int×Int=>ZcT N a0_ a1_ a2_ e1 x.1 x.2) N (0,0)).bind λa2=>match a2 with
 | (.inl a1)=>(((if (decide (((List.length e1.Arms:Nat):Int)>0)) then ((idx a1_ a2_).bind λa5=>((idx a0_.Periods a5.Stream).bind λa4=>(some (a1==a4)))) else (some false))).bind λ(a3:Bool) =>
 (some a3))
 | (.inr a0)=>(some a0)))
def ZdY (N:Nat)(a0_:Z8)(a1_:Int)(a2_:Int):Option (Bool):=
 (((if (decide (a1_≥0)) then (if (decide (a1_<((List.length a0_.Periods:Nat):Int))) then (if (decide (a2_≥0)) then ((idx a0_.Periods a1_).bind λe4=>(some (decide (a2_<e4)))) else (some false)) else (some false)) else (some false))).bind λ(j8:Bool) =>
 (some j8))
def ZfS (N:Nat)(a0_:Z8)(a1_:Int)(a2_:Int):Option (Z8×Int×Int):=
 (some (a0_,a1_,a2_))
def ZcW (N:Nat)(a0_:Z8)(a1_:ZaJ)(a2_:Int):Option (Zaj):=
 ((idx a0_.Periods a1_.Stream).bind λe1 =>
 ((remI (w64 (a1_.From+a2_)) e1).bind λm2 =>
 (some (Zaj.mk e1 m2 a1_.Long))))
def Zc4 (N:Nat)(a0_:Z8)(a1_:(List Z7))(a2_:Int)(a3_:Zax):Option (Bool):=
 (if (a3_.By==(-1)) then (some ((a3_.To==(w64 (a3_.From+1)))&&((decide (a3_.Next>a2_))&&(decide (a3_.Next<((List.length a1_:Nat):Int)))))) else (if (a3_.Next != 0) then (some false) else (if (a3_.By==(-2)) then (some ((a2_==0)&&(a3_.From != 0))) else (some ((decide (a3_.By≥0))&&(decide (a3_.By<((List.length a0_.Periods:Nat):Int))))))))
def ZfQ (N:Nat)(a0_:Z8)(a1_:Int)(a2_:Int):Option (Zaj):=
 ((idx a0_.Uses a1_).bind λe1 =>
 ((idx a0_.Periods e1.Stream).bind λe2 =>
 ((idx a0_.Uses a1_).bind λe3 =>
 ((remI (w64 (e3.From+a2_)) e2).bind λm4 =>
 ((idx a0_.Uses a1_).bind λe5 =>
 (some (Zaj.mk e2 m4 e5.Long)))))))
def Zb4 {σ:Type}(N:Nat)(y_:σ->ZaJ->ZaJ->Option (σ×Bool))(c0_:Z8)(c2_:Int)(i4:Int)(a5:ZaJ)(a1:Int)(a3:σ):Option ((Int×σ)⊕((σ)⊕(σ))):=
 (if (decide (a1<((List.length c0_.Uses:Nat):Int))) then ((idx c0_.Uses a1).bind λa2 =>
 (((if (a1==i4) then (some true) else (if (a2.Stream != c2_) then (some true) else (some (a2.Port != a5.Port))))).bind λ(a4:Bool) =>
 (if a4 then (some (.inl ((w64 (a1+1)),a3))) else ((y_ a3 a5 a2).bind λa0 =>
 (if (!a0.2) then (some (.inr (.inr a0.1))) else (some (.inl ((w64 (a1+1)),a0.1)))))))) else (some (.inr (.inl a3))))
def Zb5 {σ:Type}(N:Nat)(y_:σ->ZaJ->ZaJ->Option (σ×Bool))(c0_:Z8)(c1_:Int)(c2_:Int)(i4:Int)(g5:σ):Option ((Int×σ)⊕((σ)⊕(σ))):=
 (if (decide (i4<((List.length c0_.Uses:Nat):Int))) then ((idx c0_.Uses i4).bind λa3 =>
 (if (a3.Stream != c1_) then (some (.inl ((w64 (i4+1)),g5))) else ((ZaO (λx:Int×σ=>Zb4 N y_ c0_ c2_ i4 a3 x.1 x.2) N (0,g5)).bind λa2=>match a2 with
 | (.inl a1)=>(some (.inl ((w64 (i4+1)),a1)))
 | (.inr a0)=>(some (.inr (.inr a0)))))) else (some (.inr (.inl g5))))
def Zd0 {σ:Type}(N:Nat)(y_:σ->ZaJ->ZaJ->Option (σ×Bool))(c0_:Z8)(c1_:Int)(c2_:Int)(s_:σ):Option (σ):=
 ((ZaO (λx:Int×σ=>Zb5 N y_ c0_ c1_ c2_ x.1 x.2) N (0,s_)).bind λa2=>match a2 with
 | (.inl a1)=>(some a1)
 | (.inr a0)=>(some a0))
def Zcf (N:Nat)(a0_:Zaj):Option (Int):=
 (if ((decide (a0_.Period<1))||((decide (a0_.Period>960))||((decide (a0_.From<0))||(decide (a0_.From≥a0_.Period))))) then (some 330) else (if ((decide (a0_.Long<1))||(decide (a0_.Long>a0_.Period))) then (some 330) else (some 0)))
def Zbb (N:Nat)(a0_:(List Zaj))(i2:Int):Option ((Int)⊕((Unit)⊕(Int))):=
 (if (decide (i2<((List.length a0_:Nat):Int))) then ((idx a0_ i2).bind λa1 =>
 ((Zcf N a1).bind λa0 =>
 (if (a0 != 0) then (some (.inr (.inr a0))) else (some (.inl (w64 (i2+1))))))) else (some (.inr (.inl ()))))
def Zco (N:Nat)(a0_:(List Zaj)):Option (Int):=
 (if (decide (((List.length a0_:Nat):Int)>32)) then (some 3) else ((ZaO (λx:Int=>Zbb N a0_ x) N 0).bind λa1=>match a1 with
 | (.inl a2)=>(some 0)
 | (.inr a0)=>(some a0)))
def Zcd (N:Nat)(a0_:Int)(a1_:Int)(i1:Int):Option ((Int)⊕((Unit)⊕(Int))):=
 (if (decide (i1>1)) then ((((remI a0_ i1).bind λa1=>(if (a1==0) then ((remI a1_ i1).bind λa0=>(some (a0==0))) else (some false)))).bind λ(a2:Bool) =>
 (if a2 then (some (.inr (.inr i1))) else (some (.inl (w64 (i1-1)))))) else (some (.inr (.inl ()))))
def Zfy (N:Nat)(a0_:Int)(a1_:Int):Option (Int):=
 ((ZaO (λx:Int=>Zcd N a0_ a1_ x) N a0_).bind λa1=>match a1 with
 | (.inl a2)=>(some 1)
 | (.inr a0)=>(some a0))
def Zfx (N:Nat)(a0_:Int)(a1_:Int):Option (Int):=
 ((remI a0_ a1_).bind λm1 =>
 (((if (decide (m1<0)) then (some (w64 (m1+a1_))) else (some m1))).bind λ(a0:Int) =>
 (some a0)))
def Zes (N:Nat)(a0_:Int)(a1_:Int):Option (Int):=
 ((remI a0_ a1_).bind λm1 =>
 ((remI (w64 (m1+a1_)) a1_).bind λm2 =>
 (some m2)))
def ZbV (N:Nat)(i1:Int)(i2:Int):Option ((Int×Int)⊕((Int))):=
 (if (i2 != 0) then ((remI i1 i2).bind λa0 =>
 (some (.inl (i2,a0)))) else (some (.inr i1)))
def ZdK (N:Nat)(a0_:Int)(a1_:Int):Option (Int):=
 ((ZaO (λx:Int×Int=>ZbV N x.1 x.2) N (a0_,a1_)).bind λa0 =>
 (some a0))
def Zcx (N:Nat)(a0_:Z8)(i4:Int):Option ((Int)⊕((Unit)⊕(Bool))):=
 (if (decide (i4<((List.length a0_.Periods:Nat):Int))) then ((((idx a0_.Periods i4).bind λa2=>(if (decide (a2<1)) then (some true) else ((idx a0_.Periods i4).bind λa1=>(some (decide (a1>240))))))).bind λ(a0:Bool) =>
 (if a0 then (some (.inr (.inr false))) else (some (.inl (w64 (i4+1)))))) else (some (.inr (.inl ()))))
def Zcw (N:Nat)(a0_:Z8)(a1:Int):Option ((Int)⊕((Unit)⊕(Bool))):=
 (if (decide (a1<((List.length a0_.Uses:Nat):Int))) then ((idx a0_.Uses a1).bind λa0 =>
 (if ((decide (a0.Stream<0))||((decide (a0.Stream≥((List.length a0_.Periods:Nat):Int)))||((decide (a0.Port<0))||(decide (a0.Port≥48))))) then (some (.inr (.inr false))) else (((if (decide (a0.From<0)) then (some true) else ((idx a0_.Periods a0.Stream).bind λa4=>(if (decide (a0.From≥a4)) then (some true) else (if (decide (a0.Long<1)) then (some true) else ((idx a0_.Periods a0.Stream).bind λa3=>(some (decide (a0.Long>a3))))))))).bind λ(a2:Bool) =>
 (if a2 then (some (.inr (.inr false))) else (some (.inl (w64 (a1+1)))))))) else (some (.inr (.inl ()))))
def Zeu (N:Nat)(a0_:Z8):Option (Bool):=
 (if ((decide (((List.length a0_.Periods:Nat):Int)>12))||(decide (((List.length a0_.Uses:Nat):Int)>192))) then (some false) else ((ZaO (λx:Int=>Zcx N a0_ x) N 0).bind λa4=>match a4 with
 | (.inl a6)=>((ZaO (λx:Int=>Zcw N a0_ x) N 0).bind λa3=>match a3 with
 | (.inl a5)=>((Zfw N a0_.Periods).bind λa0 =>
 (some (decide (a0>0))))
 | (.inr a2)=>(some a2))
 | (.inr a1)=>(some a1)))
def ZcU (N:Nat)(a0_:Z8)(a1_:(List Z7))(i4:Int):Option ((Int)⊕((Unit)⊕(Bool))):=
 (if (decide (i4<((List.length a1_:Nat):Int))) then ((((idx a1_ i4).bind λa3=>(if (decide (a3.Stream<0)) then (some true) else ((idx a1_ i4).bind λa2=>(if (decide (a2.Stream≥((List.length a0_.Periods:Nat):Int))) then (some true) else ((ZeW N a0_ a1_ i4).bind λa0=>(some (!a0)))))))).bind λ(a1:Bool) =>
 (if a1 then (some (.inr (.inr false))) else (some (.inl (w64 (i4+1)))))) else (some (.inr (.inl ()))))
def Zcj (N:Nat)(a1_:(List Z7))(a3:Int)(a1:Int)(a0:(List Int)):Option ((Int×(List Int))⊕(((List Int)))):=
 ((idx a1_ a3).bind λa9 =>
 (if (decide (a1<((List.length a9.Arms:Nat):Int))) then ((((idx a1_ a3).bind λa8 =>
 ((idx a8.Arms a1).bind λa7 =>
 (if (a7.By==(-1)) then ((idx a1_ a3).bind λa6 =>
 ((idx a6.Arms a1).bind λa2 =>
 ((idx a0 a2.Next).bind λa5 =>
 ((idx a0 a2.Next).bind λaa =>
 (some (List.set a0 (Int.toNat a2.Next) (w64 (a5+1)))))))) else (some a0))))).bind λ(a4:(List Int)) =>
 (some (.inl ((w64 (a1+1)),a4)))) else (some (.inr a0))))
def Zck (N:Nat)(a1_:(List Z7))(a0:Int)(a2:(List Int)):Option ((Int×(List Int))⊕(((List Int)))):=
 (if (decide (a0<((List.length a1_:Nat):Int))) then ((ZaO (λx:Int×(List Int)=>Zcj N a1_ a0 x.1 x.2) N (0,a2)).bind λa1 =>
 (some (.inl ((w64 (a0+1)),a1)))) else (some (.inr a2)))
def Zci (N:Nat)(a1_:(List Z7))(a1:(List Int))(a0:Int):Option ((Int)⊕((Unit)⊕(Bool))):=
 (if (decide (a0<((List.length a1_:Nat):Int))) then ((idx a1 a0).bind λa2 =>
 (if (a2 != 1) then (some (.inr (.inr false))) else (some (.inl (w64 (a0+1)))))) else (some (.inr (.inl ()))))
def ZeY (N:Nat)(a0_:Z8)(a1_:(List Z7)):Option (Bool):=
 (if ((decide (((List.length a1_:Nat):Int)<1))||(decide (((List.length a1_:Nat):Int)>2000))) then (some false) else ((ZaO (λx:Int=>ZcU N a0_ a1_ x) N 0).bind λa4=>match a4 with
 | (.inl a7)=>((ZgK 8 ((List.length a1_:Nat):Int) ((List.length a1_:Nat):Int) 0).bind λa5 =>
 ((ZaO (λx:Int×(List Int)=>Zck N a1_ x.1 x.2) N (0,a5)).bind λa3 =>
 ((ZaO (λx:Int=>Zci N a1_ a3 x) N 1).bind λa2=>match a2 with
 | (.inl a6)=>(some true)
 | (.inr a1)=>(some a1))))
 | (.inr a0)=>(some a0)))
def ZbO (N:Nat)(a0_:Z8)(a1_:(List Int))(i2:Int):Option ((Int)⊕((Unit)⊕(Bool))):=
 (if (decide (i2<((List.length a1_:Nat):Int))) then ((idx a1_ i2).bind λa1 =>
 ((ZdY N a0_ i2 a1).bind λa0 =>
 (if (!a0) then (some (.inr (.inr false))) else (some (.inl (w64 (i2+1))))))) else (some (.inr (.inl ()))))
def Zdt (N:Nat)(a0_:Z8)(a1_:(List Int)):Option (Bool):=
 (if (((List.length a1_:Nat):Int)!=((List.length a0_.Periods:Nat):Int)) then (some false) else ((ZaO (λx:Int=>ZbO N a0_ a1_ x) N 0).bind λa1=>match a1 with
 | (.inl a2)=>(some true)
 | (.inr a0)=>(some a0)))
def ZcC (N:Nat)(a0_:Z8)(a1_:(List Z7))(a2_:Int)(e2:Int)(e3:Z7)(i4:Int)(i5:Int):Option ((Int×Int)⊕((Int)⊕(Bool))):=
 (if (decide (i5<((List.length e3.Arms:Nat):Int))) then ((idx e3.Arms i5).bind λa0 =>
 (((if (a0.From != i4) then (some true) else (if (decide (a0.To<=a0.From)) then (some true) else (if (decide (a0.To>e2)) then (some true) else ((Zc4 N a0_ a1_ a2_ a0).bind λa1=>(some (!a1))))))).bind λ(a2:Bool) =>
 (if a2 then (some (.inr (.inr false))) else (some (.inl (a0.To,(w64 (i5+1)))))))) else (some (.inr (.inl i4))))
def Zew (N:Nat)(a0_:Z8)(a1_:(List Z7))(a2_:Int):Option (Bool):=
 ((idx a1_ a2_).bind λe1 =>
 ((idx a0_.Periods e1.Stream).bind λe2 =>
 ((idx a1_ a2_).bind λe3 =>
 ((ZaO (λx:Int×Int=>ZcC N a0_ a1_ a2_ e2 e3 x.1 x.2) N (0,0)).bind λa2=>match a2 with
 | (.inl a1)=>(some (a1==e2))
 | (.inr a0)=>(some a0)))))
def Za1 (N:Nat)(a0_:Zaj)(a1_:Zaj)(r1:Int)(i2:Int):Option ((Int)⊕((Unit)⊕(Bool))):=
 (if (decide (i2<a0_.Long)) then ((Zfx N (w64 ((w64 (a1_.From-a0_.From))-i2)) r1).bind λa0 =>
 (if (a0==0) then (some (.inr (.inr false))) else (some (.inl (w64 (i2+1)))))) else (some (.inr (.inl ()))))
def ZcA (N:Nat)(a0_:Zaj)(a1_:Zaj):Option (Bool):=
 ((Zfy N a0_.Period a1_.Period).bind λr1 =>
 ((ZaO (λx:Int=>Za1 N a0_ a1_ r1 x) N (w64 (1-a1_.Long))).bind λa1=>match a1 with
 | (.inl a2)=>(some true)
 | (.inr a0)=>(some a0)))
def Zbf (N:Nat)(a0_:Int)(a1_:(List Int))(i1:Int)(i2:Int):Option ((Int×Int)⊕((Int))):=
 (if (decide (i2<((List.length a1_:Nat):Int))) then ((idx a1_ i2).bind λa0 =>
 ((ZdK N i1 a0).bind λa2 =>
 ((quoI .i64 i1 a2).bind λa1 =>
 (if (decide ((w64 (a1*a0))>a0_)) then (some (.inr (w64 (a1*a0)))) else (some (.inl ((w64 (a1*a0)),(w64 (i2+1))))))))) else (some (.inr i1)))
def ZdX (N:Nat)(a0_:Int)(a1_:(List Int)):Option (Int):=
 ((ZaO (λx:Int×Int=>Zbf N a0_ a1_ x.1 x.2) N (1,0)).bind λa0 =>
 (some a0))
def ZdW (N:Nat)(a0_:Zaj)(a1_:Zaj):Option (Int×Int×Int):=
 ((ZdK N a0_.Period a1_.Period).bind λr1 =>
 (some (a0_.Long,(w64 (r1-a1_.Long)),r1)))
def ZbJ (N:Nat)(a4:Z7)(a2:Int)(a1:(List Int)):Option ((Int×(List Int))⊕(((List Int)))):=
 (if (decide (a2<((List.length a4.Arms:Nat):Int))) then ((((idx a4.Arms a2).bind λa0 =>
 (if (a0.By==(-1)) then ((idx a1 a0.Next).bind λa5 =>
 ((idx a1 a0.Next).bind λa6 =>
 (some (List.set a1 (Int.toNat a0.Next) (w64 (a5+1)))))) else (some a1)))).bind λ(a3:(List Int)) =>
 (some (.inl ((w64 (a2+1)),a3)))) else (some (.inr a1)))
def ZbK (N:Nat)(a0_:Z8)(a1_:(List Z7))(i9:Int)(a4:(List Int)):Option ((Int×(List Int))⊕(((List Int))⊕(Bool))):=
 (if (decide (i9<((List.length a1_:Nat):Int))) then ((idx a1_ i9).bind λa0 =>
 (((if (decide (a0.Stream<0)) then (some true) else (if (decide (a0.Stream≥((List.length a0_.Periods:Nat):Int))) then (some true) else ((Zew N a0_ a1_ i9).bind λa2=>(some (!a2)))))).bind λ(a3:Bool) =>
 (if a3 then (some (.inr (.inr false))) else ((ZaO (λx:Int×(List Int)=>ZbJ N a0 x.1 x.2) N (0,a4)).bind λa1 =>
 (some (.inl ((w64 (i9+1)),a1))))))) else (some (.inr (.inl a4))))
def Zb2 (N:Nat)(a1:List Int)(a0:Int):Option ((Int)⊕((Unit)⊕(Bool))):=
 (if (decide (a0<((List.length a1:Nat):Int))) then ((idx a1 a0).bind λa2 =>
 (if (a2 != 1) then (some (.inr (.inr false))) else (some (.inl (w64 (a0+1)))))) else (some (.inr (.inl ()))))
def ZdZ (N:Nat)(a0_:Z8)(a1_:(List Z7)):Option (Bool):=
 (if ((decide (((List.length a1_:Nat):Int)<1))||(decide (((List.length a1_:Nat):Int)>2000))) then (some false) else ((ZgK 8 ((List.length a1_:Nat):Int) ((List.length a1_:Nat):Int) 0).bind λl6 =>
 ((ZaO (λx:Int×(List Int)=>ZbK N a0_ a1_ x.1 x.2) N (0,l6)).bind λa4=>match a4 with
 | (.inl a0)=>((subI a0 1 ((List.length a0:Nat):Int)).bind λa5 =>
 ((ZaO (λx:Int=>Zb2 N a5 x) N 0).bind λa3=>match a3 with
 | (.inl a6)=>(some true)
 | (.inr a2)=>(some a2)))
 | (.inr a1)=>(some a1))))
def Zcy (N:Nat)(a0_:Z8)(a1_:Int)(a2_:Int)(a3_:Int)(a4_:Int)(i1:Int)(a0:Int):Option ((Int)⊕((Unit)⊕(Bool))):=
 (if (decide (a0<((List.length a0_.Uses:Nat):Int))) then (((if (i1 != a0) then ((idx a0_.Uses i1).bind λa8=>(if (a8.Stream==a1_) then ((idx a0_.Uses a0).bind λa7=>(if (a7.Stream==a3_) then ((idx a0_.Uses i1).bind λa6=>((idx a0_.Uses a0).bind λa5=>(if (a6.Port==a5.Port) then ((ZfQ N a0_ i1 a2_).bind λa3=>((ZfQ N a0_ a0 a4_).bind λa2=>((ZcA N a3 a2).bind λa1=>(some (!a1))))) else (some false)))) else (some false))) else (some false))) else (some false))).bind λ(a4:Bool) =>
 (if a4 then (some (.inr (.inr true))) else (some (.inl (w64 (a0+1)))))) else (some (.inr (.inl ()))))
def Zcz (N:Nat)(a0_:Z8)(a1_:Int)(a2_:Int)(a3_:Int)(a4_:Int)(i1:Int):Option ((Int)⊕((Unit)⊕(Bool))):=
 (if (decide (i1<((List.length a0_.Uses:Nat):Int))) then ((ZaO (λx:Int=>Zcy N a0_ a1_ a2_ a3_ a4_ i1 x) N 0).bind λa1=>match a1 with
 | (.inl a2)=>(some (.inl (w64 (i1+1))))
 | (.inr a0)=>(some (.inr (.inr a0)))) else (some (.inr (.inl ()))))
def ZdO (N:Nat)(a0_:Z8)(a1_:Int)(a2_:Int)(a3_:Int)(a4_:Int):Option (Bool):=
 ((ZaO (λx:Int=>Zcz N a0_ a1_ a2_ a3_ a4_ x) N 0).bind λa1=>match a1 with
 | (.inl a2)=>(some false)
 | (.inr a0)=>(some a0))
def Zbt (N:Nat)(a0_:(List Zaj))(i8:Int)(l9:(List Int)):Option ((Int×(List Int))⊕(((List Int)))):=
 (if (decide (i8<((List.length a0_:Nat):Int))) then ((idx a0_ i8).bind λa0 =>
 ((idx l9 i8).bind λa1 =>
 (some (.inl ((w64 (i8+1)),(List.set l9 (Int.toNat i8) a0.Period)))))) else (some (.inr l9)))
def Zdp (N:Nat)(a0_:(List Zaj)):Option (Int×Int):=
 ((Zco N a0_).bind λr1 =>
 (if (r1 != 0) then (some (0,r1)) else ((ZgK 8 ((List.length a0_:Nat):Int) ((List.length a0_:Nat):Int) 0).bind λl5 =>
 ((ZaO (λx:Int×(List Int)=>Zbt N a0_ x.1 x.2) N (0,l5)).bind λa1 =>
 ((ZdX N 960 a1).bind λa0 =>
 (if (decide (a0>960)) then (some (0,6)) else (some (a0,0))))))))
def Zdo (N:Nat)(a0_:Zaj)(a1_:Zaj):Option (Bool):=
 (if ((a0_.Period==a1_.Period)&&((a0_.From==a1_.From)&&((a0_.Long==a1_.Long)&&true))) then (some false) else ((ZdW N a0_ a1_).bind λr2 =>
 ((Zes N (w64 (a1_.From-a0_.From)) r2.2.2).bind λr3 =>
 (some ((decide (r2.1<=r3))&&(decide (r3<=r2.2.1)))))))
def Zds (l:List Zax)(b:Int):Option Bool :=
 if (b != -1) then (if decide (((List.length l:Nat):Int)>0) then (idx l (w64 (((List.length l:Nat):Int)-1))).bind λe=>some (e.By==b) else some false) else some false
def Zcg (N:Nat)(p:Z8)(i x:Int)(all:List Int)(j b:Int):Option ((Int×Int)⊕Int):=
 if ((decide (j<=i))&&(b == -1)) then ((idx all j).bind λe=>(ZdO N p i x j e).bind λm=>(if m then some j else some b).bind λb'=>some (.inl (w64 (j+1),b'))) else some (.inr b)
def Zch (N:Nat)(rec_:Z8->List Z7->List Int->Option (List Z7×Bool))(p:Z8)(given:List Int)(i c:Int)(x:Int)(f:List Z7):Option ((Int×List Z7)⊕(List Z7⊕(List Z7×Bool))):=
 (idx p.Periods i).bind λe =>
 if decide (x<e) then (appI 8 [] given).bind λg=>(appI 8 g [x]).bind λall =>
  (ZaO (λy:Int×Int=>Zcg N p i x all y.1 y.2) N (0,-1)).bind λb0 =>
  (if ((c==0)&&(decide (x>0))) then some (-2) else some b0).bind λb =>
  (idx f c).bind λfc=>(Zds fc.Arms b).bind λis =>
  if is then (idx fc.Arms (w64 (((List.length fc.Arms:Nat):Int)-1))).bind λla=>some (.inl (w64 (x+1),f.set c.toNat ⟨fc.Stream,fc.Arms.set (w64 (((List.length fc.Arms:Nat):Int)-1)).toNat { la with To:=w64 (x+1) }⟩))
  else (if (b == -1) then (rec_ p f all).bind λr=>if (!r.2) then some (.inr (r.1,0)) else some (.inl (r.1,((List.length f:Nat):Int))) else some (.inl (f,0))).bind λ(q:(List Z7×Int)⊕(List Z7×Int))=>match q with
   | .inr _=>some (.inr (.inr ([],false)))
   | .inl q=>(idx q.1 c).bind λfd=>(appI 32 fd.Arms [⟨x,w64 (x+1),b,q.2⟩]).bind λl=>some (.inl (w64 (x+1),q.1.set c.toNat ⟨fd.Stream,l⟩))
 else some (.inr (.inl f))
def ZcJ (N:Nat)(rec_:Z8->List Z7->List Int->Option (List Z7×Bool))(p:Z8)(f:List Z7)(given:List Int):Option (List Z7×Bool):=
 if ((((List.length given:Nat):Int)==((List.length p.Periods:Nat):Int))||(decide (((List.length f:Nat):Int)≥2000))) then some ([],false)
 else (appI 32 f [⟨((List.length given:Nat):Int),[]⟩]).bind λf1 =>
  (ZaO (λy:Int×List Z7=>Zch N rec_ p given ((List.length given:Nat):Int) ((List.length f:Nat):Int) y.1 y.2) N (0,f1)).bind λo=>match o with
  | .inl f2=>some (f2,true)
  | .inr q=>some q
def ZdM:Nat->Z8->List Z7->List Int->Option (List Z7×Bool)
 | 0=>λ_ _ _=>none
 | N+1=>λp f given=>ZcJ N (ZdM N) p f given
def ZeX (N:Nat)(p:Z8):Option (List Z7×Bool):=
 if (((List.length p.Periods:Nat):Int)==0) then some ([],false) else (ZdM N p [] []).bind λr=>some (r.1,r.2)
def Zbu (f:List Z7)(i:Int)(out:List Z7):Option ((Int×List Z7)⊕List Z7):=
 if decide (i<((List.length f:Nat):Int)) then (idx f i).bind λe=>(appI 32 [] e.Arms).bind λl=>(appI 32 out [⟨e.Stream,l⟩]).bind λout'=>some (.inl (w64 (i+1),out')) else some (.inr out)
def Zeb (b:ZaV)(out:List Z7)(c k m:Int)(fc:Z7):Option (List Z7):=
 if (m==1) then (idx fc.Arms k).bind λe=>some (out.set c.toNat ⟨fc.Stream,fc.Arms.set k.toNat { e with From:=b.N_ }⟩)
 else if (m==2) then (idx fc.Arms k).bind λe=>some (out.set c.toNat ⟨fc.Stream,fc.Arms.set k.toNat { e with To:=b.N_ }⟩)
 else if (m==3) then (idx fc.Arms k).bind λe=>some (out.set c.toNat ⟨fc.Stream,fc.Arms.set k.toNat { e with By:=b.N_ }⟩)
 else if (m==4) then (idx fc.Arms k).bind λe=>some (out.set c.toNat ⟨fc.Stream,fc.Arms.set k.toNat { e with Next:=b.N_ }⟩)
 else if (m==5) then (idx fc.Arms k).bind λ_=>(appI 32 (fc.Arms.take k.toNat) (fc.Arms.drop (k.toNat+1))).bind λl=>(if w64 (k+1)=k+1 then some l else none).bind λl=>some (out.set c.toNat ⟨fc.Stream,l⟩)
 else if (m==6) then
  (if decide (w64 (k+1)<((List.length fc.Arms:Nat):Int)) then (idx fc.Arms k).bind λe=>(idx (fc.Arms.set k.toNat { e with To:=b.N_ }) (w64 (k+1))).bind λe' =>
   some (out.set c.toNat ⟨fc.Stream,(fc.Arms.set k.toNat { e with To:=b.N_ }).set (w64 (k+1)).toNat { e' with From:=b.N_ }⟩) else some out)
 else appI 32 out [fc]
def Zcn (N:Nat)(b:ZaV)(f:List Z7):Option (List Z7):=
 (ZaO (λx:Int×List Z7=>Zbu f x.1 x.2) N (0,[])).bind λout =>
 if (((List.length out:Nat):Int)==0) then some out else
 (remI (w64 b.Choice) ((List.length out:Nat):Int)).bind λc=>(idx out c).bind λfc =>
 (remI b.What 8).bind λm =>
 if ((m==0)||(((List.length fc.Arms:Nat):Int)==0)) then some (out.set c.toNat ⟨b.N_,fc.Arms⟩) else
 (remI (w64 b.Arm) ((List.length fc.Arms:Nat):Int)).bind λk=>Zeb b out c k m fc
def Zbp (N:Nat)(a0_:Z8)(a3_:Zad)(e1:Z7)(a0:Zax)(a1:Int):Option ((Int)⊕((Unit)⊕(Bool))):=
 (if ((decide (a1<a0.To))&&(decide (a0.By≥0))) then ((a3_.get a0.By).bind λa5 =>
 (((if (a0.By==e1.Stream) then (some a1) else (some a5))).bind λ(a2:Int) =>
 (((if (decide (a2<0)) then (some true) else ((ZdO N a0_ e1.Stream a1 a0.By a2).bind λa3=>(some (!a3))))).bind λ(a4:Bool) =>
 (if a4 then (some (.inr (.inr false))) else (some (.inl (w64 (a1+1)))))))) else (some (.inr (.inl ()))))
def Zcu (N:Nat)(rec_:Z8->((List Z7))->Int->Zad->Option (Bool))(a0_:Z8)(a1_:(List Z7))(a2_:Int)(a3_:Zad)(e1:Z7)(i4:Int):Option ((Int)⊕((Unit)⊕(Bool))):=
 ((idx a1_ a2_).bind λa5 =>
 (if (decide (i4<((List.length a5.Arms:Nat):Int))) then ((idx a1_ a2_).bind λa4 =>
 ((idx a4.Arms i4).bind λa0 =>
 (if (a0.By==(-1)) then ((a3_.get e1.Stream).bind λa7 =>
 ((rec_ a0_ a1_ a0.Next (Zad.set a3_ e1.Stream a0.From)).bind λa3 =>
 (if (!a3) then (some (.inr (.inr false))) else (some (.inl (w64 (i4+1))))))) else ((ZaO (λx:Int=>Zbp N a0_ a3_ e1 a0 x) N a0.From).bind λa2=>match a2 with
 | (.inl a6)=>(some (.inl (w64 (i4+1))))
 | (.inr a1)=>(some (.inr (.inr a1))))))) else (some (.inr (.inl ())))))
def Zdr (N:Nat)(rec_:Z8->((List Z7))->Int->Zad->Option (Bool))(a0_:Z8)(a1_:(List Z7))(a2_:Int)(a3_:Zad):Option (Bool):=
 ((idx a1_ a2_).bind λe1 =>
 ((a3_.get e1.Stream).bind λe2 =>
 (if (decide (e2≥0)) then (some false) else ((ZaO (λx:Int=>Zcu N rec_ a0_ a1_ a2_ a3_ e1 x) N 0).bind λa1=>match a1 with
 | (.inl a2)=>(some true)
 | (.inr a0)=>(some a0)))))
def ZdL:Nat->Z8->((List Z7))->Int->Zad->Option (Bool)
 | 0=>λ_ _ _ _=>none
 | N+1=>λa0_ a1_ a2_ a3_=>Zdr N (ZdL N) a0_ a1_ a2_ a3_
def Zcl (N:Nat)(a0_:(List Int))(i6:Int)(l7:(List Zaj)):Option ((Int×(List Zaj))⊕(((List Zaj)))):=
 (if (decide (i6<((List.length a0_:Nat):Int))) then ((idx a0_ i6).bind λa0 =>
 ((idx l7 i6).bind λa1 =>
 (some (.inl ((w64 (i6+1)),(List.set l7 (Int.toNat i6) (Zaj.mk a0 0 1))))))) else (some (.inr l7)))
def Zej (N:Nat)(a0_:(List Int)):Option (Int×Int):=
 ((ZgK 24 ((List.length a0_:Nat):Int) ((List.length a0_:Nat):Int) (Zaj.mk 0 0 0)).bind λl3 =>
 ((ZaO (λx:Int×(List Zaj)=>Zcl N a0_ x.1 x.2) N (0,l3)).bind λa1 =>
 ((Zdp N a1).bind λa0 =>
 (some (a0.1,a0.2)))))
def Zdq (N:Nat)(a0_:Zaj)(a1_:Zaj):Option (Bool×Int):=
 ((Zcf N a0_).bind λr1 =>
 (if (r1 != 0) then (some (false,r1)) else ((Zcf N a1_).bind λr3 =>
 (if (r3 != 0) then (some (false,r3)) else ((Zdo N a0_ a1_).bind λr5 =>
 (some (r5,0)))))))
def Zd2 (N:Nat)(a0_:Z8)(a1_:(List Z7))(a2_:ZaV)(a3_:ZaV):Option (ZbN):=
 ((ZeX N a0_).bind λr1 =>
 (((if (!r1.2) then ((Zez N a1_).bind λa5 =>
 (some a5)) else (some r1.1))).bind λ(a0:(List Z7)) =>
 ((Zez N a1_).bind λa4 =>
 ((Zcn N a2_ a0).bind λa3 =>
 ((Zcn N a2_ a0).bind λa2 =>
 ((Zcn N a3_ a2).bind λa1 =>
 (some (ZbN.mk a4 a0 a3 a1))))))))
def Zcv (N:Nat)(i5:Int)(l6:Zad):Option ((Int×Zad)⊕((Zad))):=
 (if (decide (i5<12)) then ((l6.get i5).bind λa0 =>
 (some (.inl ((w64 (i5+1)),(Zad.set l6 i5 (-1)))))) else (some (.inr l6)))
def ZdN (N:Nat)(a0_:Z8)(a1_:(List Z7)):Option (Int):=
 ((Zeu N a0_).bind λr1 =>
 (if (!r1) then (some 340) else ((ZeY N a0_ a1_).bind λr3 =>
 (if (!r3) then (some 350) else ((ZaO (λx:Int×Zad=>Zcv N x.1 x.2) N (0,(Zad.mk 0 0 0 0 0 0 0 0 0 0 0 0))).bind λa1 =>
 ((ZdL N a0_ a1_ 0 a1).bind λa0 =>
 (if (!a0) then (some 351) else (some 0))))))))
def Zcb (N:Nat)(a0_:Z8)(a2:Int)(a0:Int)(a1:(List Int)):Option ((Int×(List Int))⊕(((List Int)))):=
 (if (decide (a0<((List.length a1:Nat):Int))) then ((idx a1 a0).bind λa6 =>
 ((idx a0_.Periods a0).bind λa5 =>
 ((idx a0_.Periods a0).bind λa4 =>
 ((remI (w64 ((w64 (a6+(w64 (a5*a2))))-a2)) a4).bind λa3 =>
 ((idx a1 a0).bind λa7 =>
 (some (.inl ((w64 (a0+1)),(List.set a1 (Int.toNat a0) a3))))))))) else (some (.inr a1)))
def ZcK (N:Nat)(a0_:Z8)(a1_:(List Z7))(i10:Int)(a7:(List Int)):Option ((Int×(List Int))⊕((Int×Int×Int))):=
 ((idx a1_ i10).bind λa3 =>
 ((idx a1_ i10).bind λa9 =>
 ((idx a7 a3.Stream).bind λa8 =>
 ((Zet N a9 a8).bind λa2 =>
 (((if (a2.By==(-2)) then ((idx a7 a3.Stream).bind λa6 =>
 ((ZaO (λx:Int×(List Int)=>Zcb N a0_ a6 x.1 x.2) N (0,a7)).bind λa4 =>
 ((idx a1_ i10).bind λa5 =>
 ((Zet N a5 0).bind λa0 =>
 (some (a0.From,a0.To,a0.By,a0.Next,a4)))))) else (some (a2.From,a2.To,a2.By,a2.Next,a7)))).bind λ(a1:Int×Int×Int×Int×(List Int)) =>
 (if (a1.2.2.1 != (-1)) then (some (.inr (a3.Stream,a1.2.2.1,0))) else (some (.inl (a1.2.2.2.1,a1.2.2.2.2)))))))))
def Zcp (N:Nat)(a0_:Z8)(a1_:(List Z7))(a2_:(List Int)):Option (Int×Int×Int):=
 ((ZdN N a0_ a1_).bind λr1 =>
 (if (r1 != 0) then (some (0,0,r1)) else ((Zdt N a0_ a2_).bind λr3 =>
 (if (!r3) then (some (0,0,2)) else ((appI 8 [] a2_).bind λl7 =>
 ((ZaO (λx:Int×(List Int)=>ZcK N a0_ a1_ x.1 x.2) N (0,l7)).bind λa0 =>
 (some a0)))))))
def ZcY (N:Nat)(a0_:Z8)(i4:Int):Option ((Int)⊕((Unit)⊕(Int))):=
 (if (decide (i4<((List.length a0_.Periods:Nat):Int))) then ((idx a0_.Periods i4).bind λa0 =>
 (if ((decide (a0<1))||(decide (a0>240))) then (some (.inr (.inr 340))) else (some (.inl (w64 (i4+1)))))) else (some (.inr (.inl ()))))
def ZcX (N:Nat)(a0_:Z8)(a2:Int):Option ((Int)⊕((Unit)⊕(Int))):=
 (if (decide (a2<((List.length a0_.Uses:Nat):Int))) then ((idx a0_.Uses a2).bind λa0 =>
 (if ((decide (a0.Stream<0))||((decide (a0.Stream≥((List.length a0_.Periods:Nat):Int)))||((decide (a0.Port<0))||(decide (a0.Port≥48))))) then (some (.inr (.inr 340))) else ((idx a0_.Periods a0.Stream).bind λa1 =>
 (if ((decide (a0.From<0))||((decide (a0.From≥a1))||((decide (a0.Long<1))||(decide (a0.Long>a1))))) then (some (.inr (.inr 340))) else (some (.inl (w64 (a2+1)))))))) else (some (.inr (.inl ()))))
def Zek (N:Nat)(a0_:Z8):Option (Int):=
 (if ((decide (((List.length a0_.Periods:Nat):Int)>12))||(decide (((List.length a0_.Uses:Nat):Int)>192))) then (some 340) else ((ZaO (λx:Int=>ZcY N a0_ x) N 0).bind λa4=>match a4 with
 | (.inl a6)=>((Zej N a0_.Periods).bind λa3 =>
 (if (a3.2 != 0) then (some 340) else ((ZaO (λx:Int=>ZcX N a0_ x) N 0).bind λa2=>match a2 with
 | (.inl a5)=>(some 0)
 | (.inr a1)=>(some a1))))
 | (.inr a0)=>(some a0)))
def Zbh (N:Nat)(a0_:Z8)(a2_:Int)(a4_:Int)(b18:Bool)(a1:ZaJ)(a0:ZaJ):Option ((Bool)×Nat):=
 (if ((a1.Stream==a0.Stream)&&((a1.Port==a0.Port)&&((a1.From==a0.From)&&((a1.Long==a0.Long)&&true)))) then (some (true,1)) else ((ZcW N a0_ a1 a2_).bind λa4 =>
 ((ZcW N a0_ a0 a4_).bind λa3 =>
 ((Zdq N a4 a3).bind λa2 =>
 (if (!a2.1) then (some (true,1)) else (some (b18,0)))))))
def Zdw (N:Nat)(a0_:Z8)(a1_:Int)(a2_:Int)(a3_:Int)(a4_:Int):Option (Bool):=
 ((ZfS N a0_ a1_ a3_).bind λa1 =>
 ((Zd0 N (λ(s:(Bool)×Nat) (a3:ZaJ) (a2:ZaJ)=>Zid (λv:Bool=>Zbh N a0_ a2_ a4_ v a3 a2) s) a1.1 a1.2.1 a1.2.2 (false,0)).bind λa0 =>
 (if (a0.2==0) then (some false) else (if (a0.2==1) then (some a0.1) else none))))
def Zdx (N:Nat)(a0_:Z8)(a1_:Int)(a2_:Int)(a3_:Int)(a4_:Int):Option (Bool×Int):=
 ((Zek N a0_).bind λr1 =>
 (if (r1 != 0) then (some (false,r1)) else (if ((decide (a1_<0))||((decide (a1_≥((List.length a0_.Periods:Nat):Int)))||((decide (a3_<0))||(decide (a3_≥((List.length a0_.Periods:Nat):Int)))))) then (some (false,2)) else ((((ZdP N a0_ a1_ a2_).bind λa2=>(if (!a2) then (some true) else ((ZdP N a0_ a3_ a4_).bind λa1=>(if (!a1) then (some true) else (if (a1_==a3_) then (some (a2_ != a4_)) else (some false))))))).bind λ(a3:Bool) =>
 (if a3 then (some (false,2)) else ((Zdw N a0_ a1_ a2_ a3_ a4_).bind λa0 =>
 (some (a0,0))))))))
def Zc1 (N:Nat)(i8:Int)(l9:Zad):Option ((Int×Zad)⊕((Zad))):=
 (if (decide (i8<12)) then ((l9.get i8).bind λa0 =>
 (some (.inl ((w64 (i8+1)),(Zad.set l9 i8 (-1)))))) else (some (.inr l9)))
def Zc3 (N:Nat)(a3:(List Zal))(a2:Int)(a1:Zad):Option (((List Zal))):=
 ((appI 104 a3 [(Zal.mk a2 a1)]).bind λa0 =>
 (some a0))
def Zc2 (N:Nat)(a3:(List Zal))(a1:Int)(a0:Zad):Option (((List Zal))):=
 ((appI 104 a3 [(Zal.mk a1 a0)]).bind λa2 =>
 (some a2))
def Zbq (N:Nat)(r1:Z8×(List (Zam×Bool)))(a3:(List (Zam×Bool)))(a0:Int)(a7:Int)(a1:Int)(a6:Int):Option (((List (Zam×Bool)))×Bool):=
 ((idx r1.1.Periods a0).bind λa8 =>
 ((ZeZ N (w64 (a7-a6)) a8).bind λa2 =>
 (((if (!(mhas a3 (Zam.mk a0 a2 a1))) then ((Zdx N r1.1 a0 a2 a1 0).bind λa4 =>
 (some (a4.1,(Zgn a3 (Zam.mk a0 a2 a1) a4.1)))) else (some ((Zn7 a3 (Zam.mk a0 a2 a1) false),a3)))).bind λ(a5:Bool×(List (Zam×Bool))) =>
 (some (a5.2,a5.1)))))
def ZbW (N:Nat)(r1:Z8×(List (Zam×Bool)))(a5:Zal)(a4:Z7)(a8:Z7)(a2:Int)(a3:(List Zal))(a1:(List (Zam×Bool))):Option ((Int×(List Zal)×(List (Zam×Bool)))⊕(((List Zal)×(List (Zam×Bool)))⊕(Bool))):=
 (if (decide (a2<((List.length a8.Arms:Nat):Int))) then ((idx a8.Arms a2).bind λa0 =>
 (if (a0.By==(-1)) then ((a5.given.get a4.Stream).bind λag =>
 (((λ(s:(List Zal)) (ae:Int) (ad:Zad)=>Zc2 N s ae ad) a3 a0.Next (Zad.set a5.given a4.Stream a0.From)).bind λaf =>
 (some (.inl ((w64 (a2+1)),af,a1))))) else (((if (decide (a0.By≥0)) then ((Zdu N (λ(s:(List (Zam×Bool))) (ac:Int) (ab:Int) (aa:Int) (a9:Int)=>Zbq N r1 s ac ab aa a9) a4.Stream a5.given a0 a1).bind λa6=>(some ((!a6.2),a6.1))) else (some (false,a1)))).bind λ(a7:Bool×(List (Zam×Bool))) =>
 (if a7.1 then (some (.inr (.inr false))) else (some (.inl ((w64 (a2+1)),a3,a7.2))))))) else (some (.inr (.inl (a3,a1)))))
def ZbX (N:Nat)(a1_:(List Z7))(r1:Z8×(List (Zam×Bool)))(a0:(List Zal))(a7:(List (Zam×Bool))):Option (((List Zal)×(List (Zam×Bool)))⊕((Unit)⊕(Bool))):=
 (if (decide (((List.length a0:Nat):Int)>0)) then ((idx a0 (w64 (((List.length a0:Nat):Int)-1))).bind λa1 =>
 ((popI a0 (w64 (((List.length a0:Nat):Int)-1))).bind λa6 =>
 ((idx a1_ a1.choice).bind λa3 =>
 ((a1.given.get a3.Stream).bind λa9 =>
 (if (a9 != (-1)) then (some (.inr (.inr false))) else ((idx a1_ a1.choice).bind λa8 =>
 ((ZaO (λx:Int×(List Zal)×(List (Zam×Bool))=>ZbW N r1 a1 a3 a8 x.1 x.2.1 x.2.2) N (0,a6,a7)).bind λa5=>match a5 with
 | (.inl a2)=>(some (.inl (a2.1,a2.2)))
 | (.inr a4)=>(some (.inr (.inr a4)))))))))) else (some (.inr (.inl ()))))
def Zev (N:Nat)(a0_:Z8)(a1_:(List Z7)):Option (Bool):=
 ((Zdv N a0_).bind λr1 =>
 ((ZaO (λx:Int×Zad=>Zc1 N x.1 x.2) N (0,(Zad.mk 0 0 0 0 0 0 0 0 0 0 0 0))).bind λa5 =>
 (((λ(s:(List Zal)) (a4:Int) (a3:Zad)=>Zc3 N s a4 a3) [] 0 a5).bind λa0 =>
 ((ZaO (λx:(List Zal)×(List (Zam×Bool))=>ZbX N a1_ r1 x.1 x.2) N (a0,r1.2)).bind λa2=>match a2 with
 | (.inl a6)=>(some true)
 | (.inr a1)=>(some a1)))))
def ZbY (N:Nat)(a0_:Z8)(a1_:(List Z7)):Option (Int):=
 ((Zek N a0_).bind λr1 =>
 (if (r1 != 0) then (some r1) else ((ZdZ N a0_ a1_).bind λr3 =>
 (if (!r3) then (some 350) else ((Zev N a0_ a1_).bind λr5 =>
 (if (!r5) then (some 351) else (some 0)))))))
def Zbd (N:Nat)(a0_:(List Int)):Option ((List Int)):=
 ((neL a0_).bind λu1 =>
 ((appI 8 [] a0_).bind λl4 =>
 (some l4)))
def Zde (N:Nat)(a0_:Z8)(a2_:(List Int))(i4:Int):Option ((Int)⊕((Unit)⊕(Int×Int×Int))):=
 (if (decide (i4<((List.length a2_:Nat):Int))) then ((idx a2_ i4).bind λa0 =>
 (((if (decide (a0<0)) then (some true) else ((idx a0_.Periods i4).bind λa2=>(some (decide (a0≥a2)))))).bind λ(a1:Bool) =>
 (if a1 then (some (.inr (.inr (0,0,2)))) else (some (.inl (w64 (i4+1))))))) else (some (.inr (.inl ()))))
def ZcM (N:Nat)(a0_:Z8)(a6:(List Int))(a5:Int)(a0:Int)(a1:(List Int)):Option ((Int×(List Int))⊕(((List Int)))):=
 (if (decide (a0<((List.length a6:Nat):Int))) then ((idx a1 a0).bind λa4 =>
 ((idx a0_.Periods a0).bind λa3 =>
 ((ZeZ N (w64 (a4-a5)) a3).bind λa2 =>
 ((idx a1 a0).bind λa7 =>
 (some (.inl ((w64 (a0+1)),(List.set a1 (Int.toNat a0) a2)))))))) else (some (.inr a1)))
def ZcN (N:Nat)(a0_:Z8)(a1_:(List Z7))(a4:Int)(a1:(List Int)):Option ((Int×(List Int))⊕((Int×Int))):=
 ((idx a1_ a4).bind λa3 =>
 ((idx a1 a3.Stream).bind λa2 =>
 ((idx a1_ a4).bind λa6 =>
 ((Zfz N a6 a2).bind λa0 =>
 (if (a0.By==(-2)) then ((ZaO (λx:Int×(List Int)=>ZcM N a0_ a1 a2 x.1 x.2) N (0,a1)).bind λa5 =>
 (some (.inl (a4,a5)))) else (if (a0.By==(-1)) then (some (.inl (a0.Next,a1))) else (some (.inr (a3.Stream,a0.By)))))))))
def Zb3 (N:Nat)(a0_:Z8)(a1_:(List Z7))(a2_:(List Int)):Option (Int×Int×Int):=
 ((ZbY N a0_ a1_).bind λr1 =>
 (if (r1 != 0) then (some (0,0,r1)) else (if (((List.length a2_:Nat):Int)!=((List.length a0_.Periods:Nat):Int)) then (some (0,0,2)) else ((ZaO (λx:Int=>Zde N a0_ a2_ x) N 0).bind λa3=>match a3 with
 | (.inl a4)=>((Zbd N a2_).bind λa2 =>
 ((ZaO (λx:Int×(List Int)=>ZcN N a0_ a1_ x.1 x.2) N (0,a2)).bind λa0 =>
 (some (a0.1,a0.2,0))))
 | (.inr a1)=>(some a1)))))
def Zey (N:Nat):Option (Bool):=
 ((Zgp N).bind λr1 =>
 ((ZbU N 0 ([(Zba.mk 0 1 (-1) 1),(Zba.mk 1 2 (-2) 0)])).bind λr2 =>
 ((ZbU N 1 ([(Zba.mk 0 2 0 0)])).bind λr3 =>
 ((ZbU N 0 ([(Zba.mk 0 2 1 0)])).bind λr4 =>
 ((ZbU N 0 ([(Zba.mk 0 1 (-1) 1),(Zba.mk 1 2 (-1) 1)])).bind λr5 =>
 ((ZbU N 1 ([(Zba.mk 0 2 0 0)])).bind λr6 =>
 ((ZbU N 0 ([(Zba.mk 0 1 (-1) 1),(Zba.mk 1 2 (-2) 0)])).bind λr7 =>
 ((ZbU N 1 ([(Zba.mk 0 1 0 0)])).bind λr8 =>
 ((Zb3 N r1 ([r2,r3]) ([1,1])).bind λr9 =>
 ((((ZbY N r1 ([r2,r3])).bind λa3=>(if (a3==0) then ((ZbY N r1 ([r4])).bind λa2=>(if (a2==351) then ((ZbY N r1 ([r5,r6])).bind λa1=>(if (a1==350) then ((ZbY N r1 ([r7,r8])).bind λa0=>(if (a0==350) then (if (r9.1==1) then (if (r9.2.1==0) then (some (r9.2.2==0)) else (some false)) else (some false)) else (some false))) else (some false))) else (some false))) else (some false)))).bind λ(a4:Bool) =>
 (some a4)))))))))))
def ZcG (N:Nat)(a0_:ZbG)(a1_:(List Z7))(a2_:ZaV)(a3_:(List Int))(a4_:(List Int)):Option (Bool):=
 ((ZbF N a0_).bind λr1 =>
 ((Zd2 N r1 a1_ a2_ a2_).bind λr2 =>
 ((Zdc N r1 a3_).bind λr3 =>
 ((Zb3 N r1 r2.x0 r3).bind λr4 =>
 ((Zcp N r1 r2.x0 r3).bind λr5 =>
 (if ((r4.1 != r5.1)||((r4.2.1 != r5.2.1)||(r4.2.2 != r5.2.2))) then (some false) else ((Zb3 N r1 r2.x0 a4_).bind λad =>
 ((Zcp N r1 r2.x0 a4_).bind λac =>
 (if ((ad.1 != ac.1)||((ad.2.1 != ac.2.1)||(ad.2.2 != ac.2.2))) then (some false) else ((Zdc N r1 a3_).bind λag =>
 ((Zb3 N r1 r2.x1 ag).bind λab =>
 ((Zcp N r1 r2.x1 ag).bind λaa =>
 (if ((ab.1 != aa.1)||((ab.2.1 != aa.2.1)||(ab.2.2 != aa.2.2))) then (some false) else ((Zb3 N r1 r2.x1 a4_).bind λa9 =>
 ((Zcp N r1 r2.x1 a4_).bind λa8 =>
 (if ((a9.1 != a8.1)||((a9.2.1 != a8.2.1)||(a9.2.2 != a8.2.2))) then (some false) else ((Zdc N r1 a3_).bind λaf =>
 ((Zb3 N r1 r2.x2 af).bind λa7 =>
 ((Zcp N r1 r2.x2 af).bind λa6 =>
 (if ((a7.1 != a6.1)||((a7.2.1 != a6.2.1)||(a7.2.2 != a6.2.2))) then (some false) else ((Zb3 N r1 r2.x2 a4_).bind λa5 =>
 ((Zcp N r1 r2.x2 a4_).bind λa4 =>
 (if ((a5.1 != a4.1)||((a5.2.1 != a4.2.1)||(a5.2.2 != a4.2.2))) then (some false) else ((Zdc N r1 a3_).bind λae =>
 ((Zb3 N r1 r2.x3 ae).bind λa3 =>
 ((Zcp N r1 r2.x3 ae).bind λa2 =>
 (if ((a3.1 != a2.1)||((a3.2.1 != a2.2.1)||(a3.2.2 != a2.2.2))) then (some false) else ((Zb3 N r1 r2.x3 a4_).bind λa1 =>
 ((Zcp N r1 r2.x3 a4_).bind λa0 =>
 (if ((a1.1 != a0.1)||((a1.2.1 != a0.2.1)||(a1.2.2 != a0.2.2))) then (some false) else ((Zey N).bind λai =>
 (some ai))))))))))))))))))))))))))))))))
end Go.Sh

