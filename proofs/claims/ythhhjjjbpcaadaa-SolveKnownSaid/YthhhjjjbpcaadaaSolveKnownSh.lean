/- Part of the proof. -/
import Derived.Test.YthhhjjjbpcaadaaSolveKnownE18
set_option linter.all false
namespace Go.Sh
open Go Go.Eng
set_option maxRecDepth 100000
structure Z2 where
 Stream:Int
 Port:Int
 From:Int
 Long:Int
def Zbd (v:Z2):List PC:=[.int .i64 v.Stream,.int .i64 v.Port,.int .i64 v.From,.int .i64 v.Long]
structure ZT where
 Periods:(List Int)
 Uses:(List Z2)
structure Zam where
 From:Int
 To:Int
 By:Int
 Next:Int
def Zao (v:Zam):List PC:=[.int .i64 v.From,.int .i64 v.To,.int .i64 v.By,.int .i64 v.Next]
structure ZY where
 Stream:Int
 Arms:(List Zam)
def Zab (v:ZY):List PC:=[.int .i64 v.Stream,.sl 4 false (List.map Zao v.Arms)]
structure Zah where
 Period:Int
 From:Int
 Long:Int
def Zau (v:Zah):List PC:=[.int .i64 v.Period,.int .i64 v.From,.int .i64 v.Long]
structure Zfw where
 i:Int
 x_:Int
 j:Int deriving DecidableEq
structure ZaH where
 i:Int
 x_:Int
 j:Int deriving DecidableEq
abbrev Zad (f:Bool) (l:List Int):AV:=.p (.sl 1 f (List.map eI64 l))
abbrev Zaa (f:Bool) (l:List Z2):AV:=.p (.sl 4 f (List.map Zbd l))
abbrev Z1 (f:Bool) (l:List ZY):AV:=.p (.sl 2 f (List.map Zab l))
abbrev ZaO (f:Bool) (l:List Zam):AV:=.p (.sl 4 f (List.map Zao l))
abbrev Zar (f:Bool) (l:List Zah):AV:=.p (.sl 3 f (List.map Zau l))
abbrev Zan (v:Z2):List AV:=[iv v.Stream,iv v.Port,iv v.From,iv v.Long]
abbrev ZR (v:ZT):List AV:=[Zad false v.Periods,Zaa false v.Uses]
abbrev Za3 (v:Zam):List AV:=[iv v.From,iv v.To,iv v.By,iv v.Next]
abbrev ZaU (v:Zah):List AV:=[iv v.Period,iv v.From,iv v.Long]
def ZdK (v:Zfw):List Int:=[v.i,v.x_,v.j]
instance:KeyE Zfw 3 ZdK:=⟨λ_=>rfl,λx y h=>by cases x;cases y;simpa [ZdK] using h⟩
def Zbi (v:ZaH):List Int:=[v.i,v.x_,v.j]
instance:KeyE ZaH 3 Zbi:=⟨λ_=>rfl,λx y h=>by cases x;cases y;simpa [Zbi] using h⟩
def ZaL (N:Nat)(a0_:(List Int))(a1_:(List Int))(i2:Int):Option ((Int)⊕((Unit)⊕(Bool))):=
 (if (decide (i2<((List.length a0_:Nat):Int))) then ((idx a0_ i2).bind λa1 =>
 ((idx a1_ i2).bind λa0 =>
 (if (a1 != a0) then (some (.inr (.inr false))) else (some (.inl (w64 (i2+1))))))) else (some (.inr (.inl ()))))
def Za9 (N:Nat)(a0_:(List Int))(a1_:(List Int)):Option (Bool):=
 (if (((List.length a0_:Nat):Int)!=((List.length a1_:Nat):Int)) then (some false) else ((Zcq (λx:Int=>ZaL N a0_ a1_ x) N 0).bind λa1=>match a1 with
 | (.inl a2)=>(some true)
 | (.inr a0)=>(some a0)))
def ZbT (N:Nat)(a0_:(List ZY))(a1_:(List ZY))(i2:Int)(a2:Int):Option ((Int)⊕((Unit)⊕(Bool))):=
 ((idx a0_ i2).bind λa5 =>
 (if (decide (a2<((List.length a5.Arms:Nat):Int))) then ((idx a0_ i2).bind λa4 =>
 ((idx a4.Arms a2).bind λa1 =>
 ((idx a1_ i2).bind λa3 =>
 ((idx a3.Arms a2).bind λa0 =>
 (if (!((a1.From==a0.From)&&((a1.To==a0.To)&&((a1.By==a0.By)&&((a1.Next==a0.Next)&&true))))) then (some (.inr (.inr false))) else (some (.inl (w64 (a2+1))))))))) else (some (.inr (.inl ())))))
def ZbU (N:Nat)(a0_:(List ZY))(a1_:(List ZY))(i2:Int):Option ((Int)⊕((Unit)⊕(Bool))):=
 (if (decide (i2<((List.length a0_:Nat):Int))) then ((((idx a0_ i2).bind λa6=>((idx a1_ i2).bind λa5=>(if (a6.Stream != a5.Stream) then (some true) else ((idx a0_ i2).bind λa4=>((idx a1_ i2).bind λa3=>(some (((List.length a4.Arms:Nat):Int)!=((List.length a3.Arms:Nat):Int))))))))).bind λ(a2:Bool) =>
 (if a2 then (some (.inr (.inr false))) else ((Zcq (λx:Int=>ZbT N a0_ a1_ i2 x) N 0).bind λa1=>match a1 with
 | (.inl a7)=>(some (.inl (w64 (i2+1))))
 | (.inr a0)=>(some (.inr (.inr a0)))))) else (some (.inr (.inl ()))))
def Zcn (N:Nat)(a0_:(List ZY))(a1_:(List ZY)):Option (Bool):=
 (if (((List.length a0_:Nat):Int)!=((List.length a1_:Nat):Int)) then (some false) else ((Zcq (λx:Int=>ZbU N a0_ a1_ x) N 0).bind λa1=>match a1 with
 | (.inl a2)=>(some true)
 | (.inr a0)=>(some a0)))
def ZbG (N:Nat)(a0_:Int)(a1_:Int)(a2_:Int):Option (ZT):=
 (some (ZT.mk ([4,4,4]) ([(Z2.mk 0 0 0 a0_),(Z2.mk 1 0 0 a1_),(Z2.mk 2 0 0 a2_)])))
def ZcB (N:Nat)(a0_:ZT)(a1_:Int)(a2_:Int):Option (Bool):=
 (((if (decide (a2_≥0)) then ((idx a0_.Periods a1_).bind λe2=>(some (decide (a2_<e2)))) else (some false))).bind λ(j4:Bool) =>
 (some j4))
def Zgw (N:Nat)(a0_:(List Int))(i1:Int)(a4:Bool)(a0:Int):Option ((Bool×Int)⊕((Bool))):=
 (if (decide (a0<((List.length a0_:Nat):Int))) then (((if a4 then ((idx a0_ a0).bind λa3=>((remI i1 a3).bind λa1=>(if (a1==0) then (some true) else (some false)))) else (some false))).bind λ(a2:Bool) =>
 (some (.inl (a2,(w64 (a0+1)))))) else (some (.inr a4)))
def Zgx (N:Nat)(a0_:(List Int))(i1:Int):Option ((Int)⊕((Unit)⊕(Int))):=
 (if (decide (i1<=960)) then ((Zcq (λx:Bool×Int=>Zgw N a0_ i1 x.1 x.2) N (true,0)).bind λa0 =>
 (if a0 then (some (.inr (.inr i1))) else (some (.inl (w64 (i1+1)))))) else (some (.inr (.inl ()))))
def Zkk (N:Nat)(a0_:(List Int)):Option (Int):=
 ((Zcq (λx:Int=>Zgx N a0_ x) N 1).bind λa1=>match a1 with
 | (.inl a2)=>(some 0)
 | (.inr a0)=>(some a0))
def ZdY (N:Nat)(a0_:ZT)(a1_:Int)(a2_:Int):Option (ZT×Int×Int):=
 (some (a0_,a1_,a2_))
def ZbV (N:Nat)(a0_:ZT)(a1_:Z2)(a2_:Int):Option (Zah):=
 ((idx a0_.Periods a1_.Stream).bind λe1 =>
 ((remI (w64 (a1_.From+a2_)) e1).bind λm2 =>
 (some (Zah.mk e1 m2 a1_.Long))))
def Zby {σ:Type}(N:Nat)(y_:σ->Z2->Z2->Option (σ×Bool))(c0_:ZT)(c2_:Int)(i4:Int)(a5:Z2)(a1:Int)(a3:σ):Option ((Int×σ)⊕((σ)⊕(σ))):=
 (if (decide (a1<((List.length c0_.Uses:Nat):Int))) then ((idx c0_.Uses a1).bind λa2 =>
 (((if (a1==i4) then (some true) else (if (a2.Stream != c2_) then (some true) else (some (a2.Port != a5.Port))))).bind λ(a4:Bool) =>
 (if a4 then (some (.inl ((w64 (a1+1)),a3))) else ((y_ a3 a5 a2).bind λa0 =>
 (if (!a0.2) then (some (.inr (.inr a0.1))) else (some (.inl ((w64 (a1+1)),a0.1)))))))) else (some (.inr (.inl a3))))
def Zbz {σ:Type}(N:Nat)(y_:σ->Z2->Z2->Option (σ×Bool))(c0_:ZT)(c1_:Int)(c2_:Int)(i4:Int)(g5:σ):Option ((Int×σ)⊕((σ)⊕(σ))):=
 (if (decide (i4<((List.length c0_.Uses:Nat):Int))) then ((idx c0_.Uses i4).bind λa3 =>
 (if (a3.Stream != c1_) then (some (.inl ((w64 (i4+1)),g5))) else ((Zcq (λx:Int×σ=>Zby N y_ c0_ c2_ i4 a3 x.1 x.2) N (0,g5)).bind λa2=>match a2 with
 | (.inl a1)=>(some (.inl ((w64 (i4+1)),a1)))
 | (.inr a0)=>(some (.inr (.inr a0)))))) else (some (.inr (.inl g5))))
def ZcQ {σ:Type}(N:Nat)(y_:σ->Z2->Z2->Option (σ×Bool))(c0_:ZT)(c1_:Int)(c2_:Int)(s_:σ):Option (σ):=
 ((Zcq (λx:Int×σ=>Zbz N y_ c0_ c1_ c2_ x.1 x.2) N (0,s_)).bind λa2=>match a2 with
 | (.inl a1)=>(some a1)
 | (.inr a0)=>(some a0))
def Zbx (N:Nat)(a0_:Zah):Option (Int):=
 (if ((decide (a0_.Period<1))||((decide (a0_.Period>960))||((decide (a0_.From<0))||(decide (a0_.From≥a0_.Period))))) then (some 330) else (if ((decide (a0_.Long<1))||(decide (a0_.Long>a0_.Period))) then (some 330) else (some 0)))
def ZaY (N:Nat)(a0_:(List Zah))(i2:Int):Option ((Int)⊕((Unit)⊕(Int))):=
 (if (decide (i2<((List.length a0_:Nat):Int))) then ((idx a0_ i2).bind λa1 =>
 ((Zbx N a1).bind λa0 =>
 (if (a0 != 0) then (some (.inr (.inr a0))) else (some (.inl (w64 (i2+1))))))) else (some (.inr (.inl ()))))
def ZbM (N:Nat)(a0_:(List Zah)):Option (Int):=
 (if (decide (((List.length a0_:Nat):Int)>32)) then (some 3) else ((Zcq (λx:Int=>ZaY N a0_ x) N 0).bind λa1=>match a1 with
 | (.inl a2)=>(some 0)
 | (.inr a0)=>(some a0)))
def Zdr (N:Nat)(a0_:Int)(a1_:Int):Option (Int):=
 ((remI a0_ a1_).bind λm1 =>
 ((remI (w64 (m1+a1_)) a1_).bind λm2 =>
 (some m2)))
def ZbI (N:Nat)(i1:Int)(i2:Int):Option ((Int×Int)⊕((Int))):=
 (if (i2 != 0) then ((remI i1 i2).bind λa0 =>
 (some (.inl (i2,a0)))) else (some (.inr i1)))
def Zcx (N:Nat)(a0_:Int)(a1_:Int):Option (Int):=
 ((Zcq (λx:Int×Int=>ZbI N x.1 x.2) N (a0_,a1_)).bind λa0 =>
 (some a0))
def Zbw (N:Nat)(a0_:Int)(a1_:(List Int))(i1:Int)(i2:Int):Option ((Int×Int)⊕((Int))):=
 (if (decide (i2<((List.length a1_:Nat):Int))) then ((idx a1_ i2).bind λa0 =>
 ((Zcx N i1 a0).bind λa2 =>
 ((quoI .i64 i1 a2).bind λa1 =>
 (if (decide ((w64 (a1*a0))>a0_)) then (some (.inr (w64 (a1*a0)))) else (some (.inl ((w64 (a1*a0)),(w64 (i2+1))))))))) else (some (.inr i1)))
def ZcP (N:Nat)(a0_:Int)(a1_:(List Int)):Option (Int):=
 ((Zcq (λx:Int×Int=>Zbw N a0_ a1_ x.1 x.2) N (1,0)).bind λa0 =>
 (some a0))
def ZcO (N:Nat)(a0_:Zah)(a1_:Zah):Option (Int×Int×Int):=
 ((Zcx N a0_.Period a1_.Period).bind λr1 =>
 (some (a0_.Long,(w64 (r1-a1_.Long)),r1)))
def Zbr (N:Nat)(a0_:(List Zah))(i8:Int)(l9:(List Int)):Option ((Int×(List Int))⊕(((List Int)))):=
 (if (decide (i8<((List.length a0_:Nat):Int))) then ((idx a0_ i8).bind λa0 =>
 ((idx l9 i8).bind λa1 =>
 (some (.inl ((w64 (i8+1)),(List.set l9 (Int.toNat i8) a0.Period)))))) else (some (.inr l9)))
def Zcz (N:Nat)(a0_:(List Zah)):Option (Int×Int):=
 ((ZbM N a0_).bind λr1 =>
 (if (r1 != 0) then (some (0,r1)) else ((ZjF 8 ((List.length a0_:Nat):Int) ((List.length a0_:Nat):Int) 0).bind λl5 =>
 ((Zcq (λx:Int×(List Int)=>Zbr N a0_ x.1 x.2) N (0,l5)).bind λa1 =>
 ((ZcP N 960 a1).bind λa0 =>
 (if (decide (a0>960)) then (some (0,6)) else (some (a0,0))))))))
def Zcy (N:Nat)(a0_:Zah)(a1_:Zah):Option (Bool):=
 (if ((a0_.Period==a1_.Period)&&((a0_.From==a1_.From)&&((a0_.Long==a1_.Long)&&true))) then (some false) else ((ZcO N a0_ a1_).bind λr2 =>
 ((Zdr N (w64 (a1_.From-a0_.From)) r2.2.2).bind λr3 =>
 (some ((decide (r2.1<=r3))&&(decide (r3<=r2.2.1)))))))
def ZbW (N:Nat)(a0_:(List Int))(i6:Int)(l7:(List Zah)):Option ((Int×(List Zah))⊕(((List Zah)))):=
 (if (decide (i6<((List.length a0_:Nat):Int))) then ((idx a0_ i6).bind λa0 =>
 ((idx l7 i6).bind λa1 =>
 (some (.inl ((w64 (i6+1)),(List.set l7 (Int.toNat i6) (Zah.mk a0 0 1))))))) else (some (.inr l7)))
def ZdZ (N:Nat)(a0_:(List Int)):Option (Int×Int):=
 ((ZjF 24 ((List.length a0_:Nat):Int) ((List.length a0_:Nat):Int) (Zah.mk 0 0 0)).bind λl3 =>
 ((Zcq (λx:Int×(List Zah)=>ZbW N a0_ x.1 x.2) N (0,l3)).bind λa1 =>
 ((Zcz N a1).bind λa0 =>
 (some (a0.1,a0.2)))))
def ZcA (N:Nat)(a0_:Zah)(a1_:Zah):Option (Bool×Int):=
 ((Zbx N a0_).bind λr1 =>
 (if (r1 != 0) then (some (false,r1)) else ((Zbx N a1_).bind λr3 =>
 (if (r3 != 0) then (some (false,r3)) else ((Zcy N a0_ a1_).bind λr5 =>
 (some (r5,0)))))))
def ZbY (N:Nat)(a0_:ZT)(i4:Int):Option ((Int)⊕((Unit)⊕(Int))):=
 (if (decide (i4<((List.length a0_.Periods:Nat):Int))) then ((idx a0_.Periods i4).bind λa0 =>
 (if ((decide (a0<1))||(decide (a0>240))) then (some (.inr (.inr 340))) else (some (.inl (w64 (i4+1)))))) else (some (.inr (.inl ()))))
def ZbX (N:Nat)(a0_:ZT)(a2:Int):Option ((Int)⊕((Unit)⊕(Int))):=
 (if (decide (a2<((List.length a0_.Uses:Nat):Int))) then ((idx a0_.Uses a2).bind λa0 =>
 (if ((decide (a0.Stream<0))||((decide (a0.Stream≥((List.length a0_.Periods:Nat):Int)))||((decide (a0.Port<0))||(decide (a0.Port≥48))))) then (some (.inr (.inr 340))) else ((idx a0_.Periods a0.Stream).bind λa1 =>
 (if ((decide (a0.From<0))||((decide (a0.From≥a1))||((decide (a0.Long<1))||(decide (a0.Long>a1))))) then (some (.inr (.inr 340))) else (some (.inl (w64 (a2+1)))))))) else (some (.inr (.inl ()))))
def Zc2 (N:Nat)(a0_:ZT):Option (Int):=
 (if ((decide (((List.length a0_.Periods:Nat):Int)>12))||(decide (((List.length a0_.Uses:Nat):Int)>192))) then (some 340) else ((Zcq (λx:Int=>ZbY N a0_ x) N 0).bind λa4=>match a4 with
 | (.inl a6)=>((ZdZ N a0_.Periods).bind λa3 =>
 (if (a3.2 != 0) then (some 340) else ((Zcq (λx:Int=>ZbX N a0_ x) N 0).bind λa2=>match a2 with
 | (.inl a5)=>(some 0)
 | (.inr a1)=>(some a1))))
 | (.inr a0)=>(some a0)))
def Za2 (N:Nat)(a0_:ZT)(a2_:Int)(a4_:Int)(b18:Bool)(a1:Z2)(a0:Z2):Option ((Bool)×Nat):=
 (if ((a1.Stream==a0.Stream)&&((a1.Port==a0.Port)&&((a1.From==a0.From)&&((a1.Long==a0.Long)&&true)))) then (some (true,1)) else ((ZbV N a0_ a1 a2_).bind λa4 =>
 ((ZbV N a0_ a0 a4_).bind λa3 =>
 ((ZcA N a4 a3).bind λa2 =>
 (if (!a2.1) then (some (true,1)) else (some (b18,0)))))))
def ZcC (N:Nat)(a0_:ZT)(a1_:Int)(a2_:Int)(a3_:Int)(a4_:Int):Option (Bool):=
 ((ZdY N a0_ a1_ a3_).bind λa1 =>
 ((ZcQ N (λ(s:(Bool)×Nat) (a3:Z2) (a2:Z2)=>Zgj (λv:Bool=>Za2 N a0_ a2_ a4_ v a3 a2) s) a1.1 a1.2.1 a1.2.2 (false,0)).bind λa0 =>
 (if (a0.2==0) then (some false) else (if (a0.2==1) then (some a0.1) else none))))
def ZcD (N:Nat)(a0_:ZT)(a1_:Int)(a2_:Int)(a3_:Int)(a4_:Int):Option (Bool×Int):=
 ((Zc2 N a0_).bind λr1 =>
 (if (r1 != 0) then (some (false,r1)) else (if ((decide (a1_<0))||((decide (a1_≥((List.length a0_.Periods:Nat):Int)))||((decide (a3_<0))||(decide (a3_≥((List.length a0_.Periods:Nat):Int)))))) then (some (false,2)) else ((((ZcB N a0_ a1_ a2_).bind λa2=>(if (!a2) then (some true) else ((ZcB N a0_ a3_ a4_).bind λa1=>(if (!a1) then (some true) else (if (a1_==a3_) then (some (a2_ != a4_)) else (some false))))))).bind λ(a3:Bool) =>
 (if a3 then (some (false,2)) else ((ZcC N a0_ a1_ a2_ a3_ a4_).bind λa0 =>
 (some (a0,0))))))))
abbrev slvK:=List (ZaH×Bool)
def ZdC (N:Nat)(p:ZT)(known:slvK)(i x j y:Int):Option (Bool×slvK):=
 (idx p.Periods i).bind λper=>(remI (w64 (x-y)) per).bind λm1=>(remI (w64 (m1+per)) per).bind λm2 =>
 if (!(mhas known (ZaH.mk i m2 j))) then (ZcD N p i m2 j 0).bind λr=>some (r.1,Zhb known (ZaH.mk i m2 j) r.1) else some (Zib known (ZaH.mk i m2 j) false,known)
def ZbS (N:Nat)(p:ZT)(given:List Int)(i x:Int)(j:Int)(known:slvK):Option ((Int×slvK)⊕(slvK⊕(Int×slvK))):=
 if decide (j<i) then (idx given j).bind λy=>(ZdC N p known i x j y).bind λr=>if r.1 then some (.inr (.inr (j,r.2))) else some (.inl (w64 (j+1),r.2))
 else some (.inr (.inl known))
def ZdW (N:Nat)(p:ZT)(given:List Int)(known:slvK)(i x:Int):Option (Int×slvK):=
 (Zcq (λy:Int×slvK=>ZbS N p given i x y.1 y.2) N (0,known)).bind λo=>match o with
  | .inl k=>(ZdC N p k i x i x).bind λr=>if r.1 then some (i,r.2) else some (-1,r.2)
  | .inr q=>some q
def Zeb (l:List Zam)(b:Int):Option Bool :=
 if decide (((List.length l:Nat):Int)>0) then (if decide (b≥0) then (idx l (w64 (((List.length l:Nat):Int)-1))).bind λe=>some (e.By==b) else some false) else some false
def ZeM (f:List ZY)(c:Int)(z:Zam):Option (List ZY):=
 (idx f c).bind λfc=>(Zeb fc.Arms z.By).bind λis =>
  if is then (idx fc.Arms (w64 (((List.length fc.Arms:Nat):Int)-1))).bind λla=>some (f.set c.toNat ⟨fc.Stream,fc.Arms.set (w64 (((List.length fc.Arms:Nat):Int)-1)).toNat { la with To:=z.To }⟩)
  else (appI 32 fc.Arms [z]).bind λl=>some (f.set c.toNat ⟨fc.Stream,l⟩)
abbrev ZaV:=List ZY×List Int×slvK
def Zcb (N:Nat)(rec_:ZaV->Int->Option (Option (Bool×ZaV)))(p:ZT)(i c most:Int)(x:Int)(st:ZaV):Option ((Int×ZaV)⊕(ZaV⊕Option ZaV)):=
 if decide (x<most) then (ZdW N p st.2.1 st.2.2 i x).bind λb =>
  (if b.1 == -1 then (appI 8 st.2.1 [x]).bind λg =>
   if i==w64 (((List.length p.Periods:Nat):Int)-1) then some (.inr (some (st.1,g,b.2)))
   else (rec_ (st.1,g,b.2) (w64 (i+1))).bind λo=>match o with
    | none=>some (.inr none)
    | some (t,s2)=>if t then some (.inr (some s2)) else (popI s2.2.1 i).bind λg2=>some (.inl (((List.length st.1:Nat):Int),(s2.1,g2,s2.2.2)))
  else some (.inl (0,(st.1,st.2.1,b.2)))).bind λ(q:(Int×ZaV)⊕Option ZaV)=>match q with
   | .inr e=>some (.inr (.inr e))
   | .inl q=>(ZeM q.2.1 c ⟨x,w64 (x+1),b.1,q.1⟩).bind λf=>some (.inl (w64 (x+1),(f,q.2.2)))
 else some (.inr (.inl st))
def Zdp (N:Nat)(rec_:ZaV->Int->Option (Option (Bool×ZaV)))(p:ZT)(fuel:Int)(st:ZaV)(i:Int):Option (Option (Bool×ZaV)):=
 if decide (((List.length st.1:Nat):Int)>fuel) then some none
 else (appI 32 st.1 [⟨i,[]⟩]).bind λf1=>(idx p.Periods i).bind λper=>(if i==0 then some 1 else some per).bind λmost =>
  (Zcq (λy:Int×ZaV=>Zcb N rec_ p i ((List.length st.1:Nat):Int) most y.1 y.2) N (0,(f1,st.2))).bind λo=>match o with
   | .inl s2=>if decide (most<per) then (ZeM s2.1 ((List.length st.1:Nat):Int) ⟨most,per,-2,0⟩).bind λf=>some (some (false,(f,s2.2))) else some (some (false,s2))
   | .inr o=>match o with
    | none=>some none
    | some s2=>some (some (true,s2))
def ZdB:Nat->ZT->Int->ZaV->Int->Option (Option (Bool×ZaV))
 | 0=>λ_ _ _ _=>none
 | N+1=>λp fuel st i=>Zdp N (ZdB N p fuel) p fuel st i
def Zbt (N:Nat)(p:ZT)(fuel:Int):Option (List Int×List ZY×Int):=
 (Zc2 N p).bind λe=>if (e != 0) then some ([],[],e) else
 if ((decide (fuel<0))||(decide (fuel>1999))) then some ([],[],2) else
 if (((List.length p.Periods:Nat):Int)==0) then some ([],[],0) else
 (ZdB N p fuel ([],[],[]) 0).bind λo=>match o with
  | none=>some ([],[],8)
  | some (t,st)=>if t then some (st.2.1,[],0) else some ([],st.1,4)
def ZaZ (N:Nat)(a0_:ZT)(a1_:Int)(a2_:(List Int)):Option (Bool):=
 ((Zbt N a0_ a1_).bind λr1 =>
 (((if (r1.2.2==0) then (if (((List.length r1.2.1:Nat):Int)==0) then ((Za9 N r1.1 a2_).bind λr4=>(some r4)) else (some false)) else (some false))).bind λ(j7:Bool) =>
 (some j7)))
def Za0 (N:Nat)(a0_:ZT)(a1_:Int)(a2_:Int):Option (Bool):=
 ((Zbt N a0_ a1_).bind λr1 =>
 (some ((r1.2.2==a2_)&&((((List.length r1.1:Nat):Int)==0)&&((decide (((List.length r1.2.1:Nat):Int)>0))==(r1.2.2==4))))))
def Zdx (N:Nat):Option (Bool):=
 ((ZbG N 2 1 1).bind λr1 =>
 ((ZbG N 2 2 1).bind λr2 =>
 ((Zbt N r2 2).bind λr3 =>
 ((((ZaZ N r1 9 ([0,2,3])).bind λr4=>(if r4 then ((Za0 N r1 1 8).bind λr6=>(if r6 then ((ZaZ N r1 2 ([0,2,3])).bind λr8=>(if r8 then (if (r3.2.2==4) then ((Zcn N r3.2.1 ([(ZY.mk 0 ([(Zam.mk 0 1 (-1) 1),(Zam.mk 1 4 (-2) 0)])),(ZY.mk 1 ([(Zam.mk 0 2 0 0),(Zam.mk 2 3 (-1) 2),(Zam.mk 3 4 0 0)])),(ZY.mk 2 ([(Zam.mk 0 2 0 0),(Zam.mk 2 4 1 0)]))])).bind λa2=>(if a2 then ((Za0 N r2 1 8).bind λa1=>(if a1 then ((Za0 N r2 2000 2).bind λa0=>(some a0)) else (some false))) else (some false))) else (some false)) else (some false))) else (some false))) else (some false)))).bind λ(a3:Bool) =>
 (some a3)))))
def law26_SolveKnown (N:Nat):Option (Bool):=
 ((Zbt N (ZT.mk ([3]) ([(Z2.mk 0 0 0 2),(Z2.mk 0 0 1 1)])) 0).bind λr1 =>
 ((Zbt N (ZT.mk ([1,1]) ([(Z2.mk 0 0 0 1),(Z2.mk 1 0 0 1)])) 1).bind λr2 =>
 ((((Zdx N).bind λr3=>(if r3 then ((ZaZ N (ZT.mk ([]) ([])) 0 ([])).bind λr5=>(if r5 then ((ZaZ N (ZT.mk ([3]) ([(Z2.mk 0 0 0 3)])) 0 ([0])).bind λr7=>(if r7 then (if (r1.2.2==4) then ((Zcn N r1.2.1 ([(ZY.mk 0 ([(Zam.mk 0 1 0 0),(Zam.mk 1 3 (-2) 0)]))])).bind λaa=>(if aa then (if (r2.2.2==4) then ((Zcn N r2.2.1 ([(ZY.mk 0 ([(Zam.mk 0 1 (-1) 1)])),(ZY.mk 1 ([(Zam.mk 0 1 0 0)]))])).bind λa9=>(if a9 then ((Za0 N (ZT.mk ([1,1]) ([(Z2.mk 0 0 0 1),(Z2.mk 1 0 0 1)])) 0 8).bind λa8=>(if a8 then ((Za0 N (ZT.mk ([0]) ([])) (-1) 340).bind λa7=>(if a7 then ((Za0 N (ZT.mk ([3]) ([(Z2.mk 0 0 0 3)])) (-1) 2).bind λa6=>(if a6 then ((ZaZ N (ZT.mk ([3]) ([(Z2.mk 0 0 0 3)])) 1999 ([0])).bind λa5=>(if a5 then ((ZaZ N (ZT.mk ([12,8,6]) ([(Z2.mk 0 0 0 3),(Z2.mk 1 1 0 8),(Z2.mk 2 0 0 1),(Z2.mk 2 2 0 6)])) 2 ([0,0,3])).bind λa4=>(if a4 then ((ZbG N 4 1 1).bind λa3=>((Za0 N a3 1 4).bind λa2=>(if a2 then ((ZbG N 2 1 1).bind λa1=>((ZaZ N a1 1999 ([0,2,3])).bind λa0=>(some a0))) else (some false)))) else (some false))) else (some false))) else (some false))) else (some false))) else (some false))) else (some false))) else (some false)) else (some false))) else (some false)) else (some false))) else (some false))) else (some false)))).bind λ(ab:Bool) =>
 (some ab))))
end Go.Sh

