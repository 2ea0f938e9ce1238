/- Part of the proof. -/
import Derived.Test.YthipedbbcjemhaaPlanKnownE26
namespace Go.Sh
open Go Go.Eng
set_option maxRecDepth 100000
structure Zx where
 Stream:Int
 Port:Int
 From:Int
 Long:Int
def Zj (v:Zx):List PC:=[.int .i64 v.Stream,.int .i64 v.Port,.int .i64 v.From,.int .i64 v.Long]
structure Zd where
 Periods:(List Int)
 Uses:(List Zx)
def Zag (v:Zd):List PC:=[.sl 1 false (List.map eI64 v.Periods),.sl 4 false (List.map Zj v.Uses)]
structure ZP where
 Period:Int
 From:Int
 Long:Int
def Zab (v:ZP):List PC:=[.int .i64 v.Period,.int .i64 v.From,.int .i64 v.Long]
structure Zdb where
 A:Int
 B:Int
 Per:Int
 Delay:Int
def ZL (v:Zdb):List PC:=[.int .i64 v.A,.int .i64 v.B,.int .i64 v.Per,.int .i64 v.Delay]
structure Zs where
 Nodes:Int
 Station:(List Bool)
 Links:(List Zdb)
structure ZW where
 Grid:Int
 Slack:Int
 Proc:Int
 Cap:Int
structure ZbH where
 Burst:Int
 Rate:Int
structure Zt where
 Id:Int
 Talker:Int
 Listener:Int
 Class:Int
 Size:Int
 Period:Int
 Bucket:ZbH
 Deadline:Int
 Routes:(List (List Int))
def Zae (v:Zt):List PC:=[.int .i64 v.Id,.int .i64 v.Talker,.int .i64 v.Listener,.int .i64 v.Class,.int .i64 v.Size,.int .i64 v.Period,.int .i64 v.Bucket.Burst,.int .i64 v.Bucket.Rate,.int .i64 v.Deadline,.sl 1 false (List.map (eSl 1 eI64) v.Routes)]
structure Z6 where
 Problem:Zd
 late:Bool
structure Z4 where
 Port:Int
 Early:Int
 Late:Int
 Open:Int
 Long:Int
def Zaf (v:Z4):List PC:=[.int .i64 v.Port,.int .i64 v.Early,.int .i64 v.Late,.int .i64 v.Open,.int .i64 v.Long]
structure ZaT where
 x0:Bool
 x1:Bool
 x2:Bool
 x3:Bool
 x4:Bool
 x5:Bool
 x6:Bool
 x7:Bool
 x8:Bool
 x9:Bool
 x10:Bool
 x11:Bool
 x12:Bool
 x13:Bool
 x14:Bool
 x15:Bool
 x16:Bool
 x17:Bool
 x18:Bool
 x19:Bool
 x20:Bool
 x21:Bool
 x22:Bool
 x23:Bool
structure ZK where
 Topo:Zs
structure Zl where
 x0:Bool
 x1:Bool
 x2:Bool
 x3:Bool
 x4:Bool
 x5:Bool
 x6:Bool
 x7:Bool
 x8:Bool
 x9:Bool
 x10:Bool
 x11:Bool
structure Zas where
 port:Int
 from_:Int
 to_:Int
abbrev Zi (f:Bool) (l:List Int):AV:=.p (.sl 1 f (List.map eI64 l))
abbrev Zw (f:Bool) (l:List Zx):AV:=.p (.sl 4 f (List.map Zj l))
abbrev ZX (f:Bool) (l:List Zt):AV:=.p (.sl 10 f (List.map Zae l))
abbrev s_eB (f:Bool) (l:List Bool):AV:=.p (.sl 1 f (List.map eB l))
abbrev Zk (f:Bool) (l:List Zdb):AV:=.p (.sl 4 f (List.map ZL l))
abbrev ZG (f:Bool) (l:List (List Int)):AV:=.p (.sl 1 f (List.map (eSl 1 eI64) l))
abbrev Z7 (f:Bool) (l:List ZP):AV:=.p (.sl 3 f (List.map Zab l))
abbrev Zar (f:Bool) (l:List Zd):AV:=.p (.sl 2 f (List.map Zag l))
abbrev ZaF (f:Bool) (l:List Z4):AV:=.p (.sl 5 f (List.map Zaf l))
abbrev ZM (v:Zx):List AV:=[iv v.Stream,iv v.Port,iv v.From,iv v.Long]
abbrev Ze (v:Zd):List AV:=[Zi false v.Periods,Zw false v.Uses]
abbrev ZaE (v:ZP):List AV:=[iv v.Period,iv v.From,iv v.Long]
abbrev Zav (v:Zdb):List AV:=[iv v.A,iv v.B,iv v.Per,iv v.Delay]
abbrev Zc (v:Zs):List AV:=[iv v.Nodes,s_eB false v.Station,Zk false v.Links]
abbrev Zg (v:ZW):List AV:=[iv v.Grid,iv v.Slack,iv v.Proc,iv v.Cap]
abbrev Zcg (v:ZbH):List AV:=[iv v.Burst,iv v.Rate]
abbrev Zf (v:Zt):List AV:=[iv v.Id,iv v.Talker,iv v.Listener,iv v.Class,iv v.Size,iv v.Period,iv v.Bucket.Burst,iv v.Bucket.Rate,iv v.Deadline,ZG false v.Routes]
abbrev ZaS (v:Z4):List AV:=[iv v.Port,iv v.Early,iv v.Late,iv v.Open,iv v.Long]
abbrev Z2 (v:ZaT):List AV:=[bv v.x0,bv v.x1,bv v.x2,bv v.x3,bv v.x4,bv v.x5,bv v.x6,bv v.x7,bv v.x8,bv v.x9,bv v.x10,bv v.x11,bv v.x12,bv v.x13,bv v.x14,bv v.x15,bv v.x16,bv v.x17,bv v.x18,bv v.x19,bv v.x20,bv v.x21,bv v.x22,bv v.x23]
def ZaT.l (v:ZaT):List Bool:=[v.x0,v.x1,v.x2,v.x3,v.x4,v.x5,v.x6,v.x7,v.x8,v.x9,v.x10,v.x11,v.x12,v.x13,v.x14,v.x15,v.x16,v.x17,v.x18,v.x19,v.x20,v.x21,v.x22,v.x23]
def ZaT.get (v:ZaT)(i:Int):Option Bool:=idx v.l i
abbrev Zr (v:Zl):List AV:=[bv v.x0,bv v.x1,bv v.x2,bv v.x3,bv v.x4,bv v.x5,bv v.x6,bv v.x7,bv v.x8,bv v.x9,bv v.x10,bv v.x11]
def Zl.l (v:Zl):List Bool:=[v.x0,v.x1,v.x2,v.x3,v.x4,v.x5,v.x6,v.x7,v.x8,v.x9,v.x10,v.x11]
def Zl.ofL (l:List Bool):Zl:=⟨l.getD 0 false,l.getD 1 false,l.getD 2 false,l.getD 3 false,l.getD 4 false,l.getD 5 false,l.getD 6 false,l.getD 7 false,l.getD 8 false,l.getD 9 false,l.getD 10 false,l.getD 11 false⟩
def Zl.get (v:Zl)(i:Int):Option Bool:=idx v.l i
def Zl.set (v:Zl)(i:Int)(x:Bool):Zl:=Zl.ofL (v.l.set i.toNat x)
theorem Zl.l_ofL (l:List Bool)(h:l.length=12):(Zl.ofL l).l=l:=Zlp 12 false l h rfl
theorem Zl.l_set (v:Zl)(i:Int)(x:Bool):(v.set i x).l=v.l.set i.toNat x:=Zl.l_ofL _ (by rw [List.length_set];rfl)
theorem Zl.c_set (v:Zl)(i:Int)(x:Bool):Zr (v.set i x)=(v.l.set i.toNat x).map (fun x=>bv x):=by rw [← Zl.l_set];rfl
abbrev ZS (v:Zas):List AV:=[iv v.port,iv v.from_,iv v.to_]
def ZZ (N:Nat)(a0_:Int)(a1_:Int)(a2_:Int)(a3_:Int):Option (Zd):=
 (some (Zd.mk ([4]) ([(Zx.mk a0_ a1_ a2_ a3_)])))
def ZeD (N:Nat):Option (Zs):=
 (some (Zs.mk 3 ([true,false,true]) ([(Zdb.mk 0 1 8 5),(Zdb.mk 1 2 8 5)])))
def ZU (N:Nat)(a0_:Int)(a1_:Int)(a2_:Int):Option (Zt):=
 (some (Zt.mk a0_ 0 2 7 100 a1_ (ZbH.mk 0 0) a2_ ([[0,2]])))
def Zb5 (N:Nat)(a0_:Zd)(a1_:Int)(a2_:Int):Option (Bool):=
 (((if (decide (a2_≥0)) then ((idx a0_.Periods a1_).bind fun e2=>(some (decide (a2_<e2)))) else (some false))).bind fun (j4:Bool) =>
 (some j4))
def ZiD (N:Nat)(a0_:Zd)(a1_:Int)(a2_:Int):Option (Bool):=
 (((if (decide (a1_≥0)) then (if (decide (a1_<((List.length a0_.Periods:Nat):Int))) then (if (decide (a2_≥0)) then ((idx a0_.Periods a1_).bind fun e4=>(some (decide (a2_<e4)))) else (some false)) else (some false)) else (some false))).bind fun (j8:Bool) =>
 (some j8))
def Zgq (N:Nat)(a0_:Zd)(a1_:(List Int))(i2:Int):Option ((Int)⊕((Unit)⊕(Bool))):=
 (if (decide (i2<((List.length a1_:Nat):Int))) then ((idx a1_ i2).bind fun a1 =>
 ((ZiD N a0_ i2 a1).bind fun a0 =>
 (if (!a0) then (some (.inr (.inr false))) else (some (.inl (w64 (i2+1))))))) else (some (.inr (.inl ()))))
def ZkZ (N:Nat)(a0_:Zd)(a1_:(List Int)):Option (Bool):=
 (if (((List.length a1_:Nat):Int)!=((List.length a0_.Periods:Nat):Int)) then (some false) else ((ZaK (fun x:Int=>Zgq N a0_ a1_ x) N 0).bind fun a1=>match a1 with
 | (.inl a2)=>(some true)
 | (.inr a0)=>(some a0)))
def ZcE (N:Nat)(a0_:Zd)(a1_:Zd)(i4:Int):Option ((Int)⊕((Unit)⊕(Bool))):=
 (if (decide (i4<((List.length a0_.Periods:Nat):Int))) then ((idx a0_.Periods i4).bind fun a1 =>
 ((idx a1_.Periods i4).bind fun a0 =>
 (if (a1 != a0) then (some (.inr (.inr false))) else (some (.inl (w64 (i4+1))))))) else (some (.inr (.inl ()))))
def ZcD (N:Nat)(a0_:Zd)(a1_:Zd)(a2:Int):Option ((Int)⊕((Unit)⊕(Bool))):=
 (if (decide (a2<((List.length a0_.Uses:Nat):Int))) then ((idx a0_.Uses a2).bind fun a1 =>
 ((idx a1_.Uses a2).bind fun a0 =>
 (if (!((a1.Stream==a0.Stream)&&((a1.Port==a0.Port)&&((a1.From==a0.From)&&((a1.Long==a0.Long)&&true))))) then (some (.inr (.inr false))) else (some (.inl (w64 (a2+1))))))) else (some (.inr (.inl ()))))
def ZfN (N:Nat)(a0_:Zd)(a1_:Zd):Option (Bool):=
 (if ((((List.length a0_.Periods:Nat):Int)!=((List.length a1_.Periods:Nat):Int))||(((List.length a0_.Uses:Nat):Int)!=((List.length a1_.Uses:Nat):Int))) then (some false) else ((ZaK (fun x:Int=>ZcE N a0_ a1_ x) N 0).bind fun a3=>match a3 with
 | (.inl a5)=>((ZaK (fun x:Int=>ZcD N a0_ a1_ x) N 0).bind fun a2=>match a2 with
 | (.inl a4)=>(some true)
 | (.inr a1)=>(some a1))
 | (.inr a0)=>(some a0)))
def ZiE (N:Nat)(a0_:(List Int))(i1:Int)(a4:Bool)(a0:Int):Option ((Bool×Int)⊕((Bool))):=
 (if (decide (a0<((List.length a0_:Nat):Int))) then (((if a4 then ((idx a0_ a0).bind fun a3=>((remI i1 a3).bind fun a1=>(if (a1==0) then (some true) else (some false)))) else (some false))).bind fun (a2:Bool) =>
 (some (.inl (a2,(w64 (a0+1)))))) else (some (.inr a4)))
def ZiF (N:Nat)(a0_:(List Int))(i1:Int):Option ((Int)⊕((Unit)⊕(Int))):=
 (if (decide (i1≤960)) then ((ZaK (fun x:Bool×Int=>ZiE N a0_ i1 x.1 x.2) N (true,0)).bind fun a0 =>
 (if a0 then (some (.inr (.inr i1))) else (some (.inl (w64 (i1+1)))))) else (some (.inr (.inl ()))))
def ZlA (N:Nat)(a0_:(List Int)):Option (Int):=
 ((ZaK (fun x:Int=>ZiF N a0_ x) N 1).bind fun a1=>match a1 with
 | (.inl a2)=>(some 0)
 | (.inr a0)=>(some a0))
def ZbW (N:Nat)(a0_:Zd)(a1_:Zx)(a2_:Int):Option (ZP):=
 ((idx a0_.Periods a1_.Stream).bind fun e1 =>
 ((remI (w64 (a1_.From+a2_)) e1).bind fun m2 =>
 (some (ZP.mk e1 m2 a1_.Long))))
def ZfP (N:Nat)(a0_:Zd)(a1_:Int)(a2_:Int):Option (Zd×Int×Int):=
 (some (a0_,a1_,a2_))
def Z5 (N:Nat)(a0_:Int)(a1_:Int)(a2_:Int):Option (Bool):=
 (some ((decide (a0_≥a1_))&&(decide (a0_≤a2_))))
def Zdv (N:Nat)(a0_:Int)(a1_:Int):Option (Int):=
 ((quoI .i64 a0_ a1_).bind fun q1 =>
 ((((remI a0_ a1_).bind fun a0 =>
 (if (decide (a0<0)) then (some (w64 (q1-1))) else (some q1)))).bind fun (a1:Int) =>
 (some a1)))
def ZbU {σ:Type}(N:Nat)(y_:σ→Zx→Zx→Option (σ×Bool))(c0_:Zd)(c2_:Int)(i4:Int)(a5:Zx)(a1:Int)(a3:σ):Option ((Int×σ)⊕((σ)⊕(σ))):=
 (if (decide (a1<((List.length c0_.Uses:Nat):Int))) then ((idx c0_.Uses a1).bind fun a2 =>
 (((if (a1==i4) then (some true) else (if (a2.Stream != c2_) then (some true) else (some (a2.Port != a5.Port))))).bind fun (a4:Bool) =>
 (if a4 then (some (.inl ((w64 (a1+1)),a3))) else ((y_ a3 a5 a2).bind fun a0 =>
 (if (!a0.2) then (some (.inr (.inr a0.1))) else (some (.inl ((w64 (a1+1)),a0.1)))))))) else (some (.inr (.inl a3))))
def ZbV {σ:Type}(N:Nat)(y_:σ→Zx→Zx→Option (σ×Bool))(c0_:Zd)(c1_:Int)(c2_:Int)(i4:Int)(g5:σ):Option ((Int×σ)⊕((σ)⊕(σ))):=
 (if (decide (i4<((List.length c0_.Uses:Nat):Int))) then ((idx c0_.Uses i4).bind fun a3 =>
 (if (a3.Stream != c1_) then (some (.inl ((w64 (i4+1)),g5))) else ((ZaK (fun x:Int×σ=>ZbU N y_ c0_ c2_ i4 a3 x.1 x.2) N (0,g5)).bind fun a2=>match a2 with
 | (.inl a1)=>(some (.inl ((w64 (i4+1)),a1)))
 | (.inr a0)=>(some (.inr (.inr a0)))))) else (some (.inr (.inl g5))))
def Zei {σ:Type}(N:Nat)(y_:σ→Zx→Zx→Option (σ×Bool))(c0_:Zd)(c1_:Int)(c2_:Int)(s_:σ):Option (σ):=
 ((ZaK (fun x:Int×σ=>ZbV N y_ c0_ c1_ c2_ x.1 x.2) N (0,s_)).bind fun a2=>match a2 with
 | (.inl a1)=>(some a1)
 | (.inr a0)=>(some a0))
def ZbP (N:Nat)(a0_:ZP):Option (Int):=
 (if ((decide (a0_.Period<1))||((decide (a0_.Period>960))||((decide (a0_.From<0))||(decide (a0_.From≥a0_.Period))))) then (some 330) else (if ((decide (a0_.Long<1))||(decide (a0_.Long>a0_.Period))) then (some 330) else (some 0)))
def ZaX (N:Nat)(a0_:(List ZP))(i2:Int):Option ((Int)⊕((Unit)⊕(Int))):=
 (if (decide (i2<((List.length a0_:Nat):Int))) then ((idx a0_ i2).bind fun a1 =>
 ((ZbP N a1).bind fun a0 =>
 (if (a0 != 0) then (some (.inr (.inr a0))) else (some (.inl (w64 (i2+1))))))) else (some (.inr (.inl ()))))
def Zcm (N:Nat)(a0_:(List ZP)):Option (Int):=
 (if (decide (((List.length a0_:Nat):Int)>32)) then (some 3) else ((ZaK (fun x:Int=>ZaX N a0_ x) N 0).bind fun a1=>match a1 with
 | (.inl a2)=>(some 0)
 | (.inr a0)=>(some a0)))
def Zcw (N:Nat)(a0_:Zs)(a2_:ZaT)(a2:Int)(a1:(List Bool)):Option ((Int×(List Bool))⊕(((List Bool)))):=
 (if (decide (a2<((List.length a0_.Links:Nat):Int))) then ((((idx a0_.Links a2).bind fun a0 =>
 ((((a2_.get a2).bind fun a7=>(if (!a7) then ((idx a1 a0.A).bind fun a6=>((idx a1 a0.B).bind fun a5=>(some (a6 != a5)))) else (some false)))).bind fun (a3:Bool) =>
 (if a3 then ((idx a1 a0.A).bind fun a9 =>
 ((idx (List.set a1 (Int.toNat a0.A) true) a0.B).bind fun a8 =>
 (some (List.set (List.set a1 (Int.toNat a0.A) true) (Int.toNat a0.B) true)))) else (some a1))))).bind fun (a4:(List Bool)) =>
 (some (.inl ((w64 (a2+1)),a4)))) else (some (.inr a1)))
def Zcx (N:Nat)(a0_:Zs)(a2_:ZaT)(i10:Int)(a1:(List Bool)):Option ((Int×(List Bool))⊕(((List Bool)))):=
 (if (decide (i10<a0_.Nodes)) then ((ZaK (fun x:Int×(List Bool)=>Zcw N a0_ a2_ x.1 x.2) N (0,a1)).bind fun a0 =>
 (some (.inl ((w64 (i10+1)),a0)))) else (some (.inr a1)))
def Zfx (N:Nat)(a0_:Zs)(a1_:Int)(a2_:ZaT):Option ((List Bool)):=
 ((ZiQ 1 a0_.Nodes a0_.Nodes false).bind fun l3 =>
 ((idx l3 a1_).bind fun e4 =>
 ((ZaK (fun x:Int×(List Bool)=>Zcx N a0_ a2_ x.1 x.2) N (0,(List.set l3 (Int.toNat a1_) true))).bind fun a0 =>
 (some a0))))
def Zdj (N:Nat)(c0_:Zt):Option (Bool):=
 ((Z5 N c0_.Id 1 4095).bind fun r2 =>
 (some r2))
def Zb7 (N:Nat)(a0_:Zs)(a1_:Int):Option (Bool):=
 ((((Z5 N a1_ 0 (w64 (a0_.Nodes-1))).bind fun r1=>(if r1 then ((idx a0_.Station a1_).bind fun e3=>(some e3)) else (some false)))).bind fun (j5:Bool) =>
 (some j5))
def Zdh (N:Nat)(c0_:Zt):Option (Bool):=
 ((Z5 N c0_.Size 84 1542).bind fun r2 =>
 (some r2))
def Zdg (N:Nat)(c0_:Zt):Option (Bool):=
 ((Z5 N c0_.Deadline 1 1099511627776).bind fun r2 =>
 (some r2))
def Zde (N:Nat)(c0_:Zt):Option (Bool):=
 ((Z5 N ((List.length c0_.Routes:Nat):Int) 1 2).bind fun r2 =>
 (some r2))
def ZdE (N:Nat)(a0_:Zs)(a1_:ZW)(a2_:Zt)(a3_:Int):Option (Zt×Int×Zs×ZW):=
 (some (a2_,a3_,a0_,a1_))
def Ze3 (N:Nat)(a0_:Int)(a1_:Int):Option (Int):=
 ((remI a0_ a1_).bind fun m1 =>
 ((remI (w64 (m1+a1_)) a1_).bind fun m2 =>
 (some m2)))
def Zb9 (N:Nat)(i1:Int)(i2:Int):Option ((Int×Int)⊕((Int))):=
 (if (i2 != 0) then ((remI i1 i2).bind fun a0 =>
 (some (.inl (i2,a0)))) else (some (.inr i1)))
def ZdJ (N:Nat)(a0_:Int)(a1_:Int):Option (Int):=
 ((ZaK (fun x:Int×Int=>Zb9 N x.1 x.2) N (a0_,a1_)).bind fun a0 =>
 (some a0))
def Zfg (N:Nat)(a0_:Zs)(a1_:Int):Option (Bool):=
 (some ((decide (a1_≥0))&&(decide (a1_<a0_.Nodes))))
def Zd5 (N:Nat)(a0_:Int)(c0_:Zs):Option (Bool):=
 ((idx c0_.Links a0_).bind fun e2 =>
 ((((idx c0_.Station e2.A).bind fun e4=>(if (!e4) then (some true) else ((idx c0_.Station e2.B).bind fun e8=>(some (!e8)))))).bind fun (j9:Bool) =>
 (some j9)))
def ZbI (N:Nat)(e2:Zdb)(l4:List Zdb)(i5:Int):Option ((Int)⊕((Unit)⊕(Bool))):=
 (if (decide (i5<((List.length l4:Nat):Int))) then ((idx l4 i5).bind fun a0 =>
 (if (if (e2.A==a0.A) then ((e2.B==a0.B)||((e2.A==a0.B)&&(e2.B==a0.A))) else ((e2.A==a0.B)&&(e2.B==a0.A))) then (some (.inr (.inr false))) else (some (.inl (w64 (i5+1)))))) else (some (.inr (.inl ()))))
def Zd4 (N:Nat)(a0_:Int)(c0_:Zs):Option (Bool):=
 ((idx c0_.Links a0_).bind fun e2 =>
 ((subI c0_.Links 0 a0_).bind fun l4 =>
 ((ZaK (fun x:Int=>ZbI N e2 l4 x) N 0).bind fun a1=>match a1 with
 | (.inl a2)=>(some true)
 | (.inr a0)=>(some a0))))
def Zd3 (N:Nat)(a0_:Int)(c0_:Zs):Option (Bool):=
 ((idx c0_.Links a0_).bind fun e2 =>
 (some ((decide (e2.Per≥1))&&((decide (e2.Per≤1000))&&((decide (e2.Delay≥0))&&(decide (e2.Delay≤10000)))))))
def Zam (N:Nat)(a0_:(List Bool))(a1_:Bool)(i1:Int):Option ((Int)⊕((Unit)⊕(Int))):=
 (if (decide (i1<((List.length a0_:Nat):Int))) then ((idx a0_ i1).bind fun a0 =>
 (if (a1_==a0) then (some (.inr (.inr i1))) else (some (.inl (w64 (i1+1)))))) else (some (.inr (.inl ()))))
def ZaV (N:Nat)(a0_:(List Bool))(a1_:Bool):Option (Int):=
 ((ZaK (fun x:Int=>Zam N a0_ a1_ x) N 0).bind fun a1=>match a1 with
 | (.inl a2)=>(some (-1))
 | (.inr a0)=>(some a0))
def Zbq (N:Nat)(a0_:Int)(a1_:Int)(a2_:Int):Option (Bool):=
 (some ((decide (a1_≤a0_))&&(decide (a0_≤a2_))))
def ZbM (N:Nat)(a1_:(List Int))(a2:Int)(a0:Int):Option ((Int)⊕((Unit)⊕(Bool))):=
 (if (decide (a0<((List.length a1_:Nat):Int))) then ((idx a1_ a0).bind fun a1 =>
 (if ((w64 (Int.tdiv a2 2))==(w64 (Int.tdiv a1 2))) then (some (.inr (.inr true))) else (some (.inl (w64 (a0+1)))))) else (some (.inr (.inl ()))))
def ZbN (N:Nat)(a0_:(List Int))(a1_:(List Int))(i1:Int):Option ((Int)⊕((Unit)⊕(Bool))):=
 (if (decide (i1<((List.length a0_:Nat):Int))) then ((idx a0_ i1).bind fun a2 =>
 ((ZaK (fun x:Int=>ZbM N a1_ a2 x) N 0).bind fun a1=>match a1 with
 | (.inl a3)=>(some (.inl (w64 (i1+1))))
 | (.inr a0)=>(some (.inr (.inr a0))))) else (some (.inr (.inl ()))))
def Zee (N:Nat)(a0_:(List Int))(a1_:(List Int)):Option (Bool):=
 ((ZaK (fun x:Int=>ZbN N a0_ a1_ x) N 0).bind fun a1=>match a1 with
 | (.inl a2)=>(some false)
 | (.inr a0)=>(some a0))
def Zbx {σ:Type}(N:Nat)(y_:σ→Z4→Option (σ×Bool))(c0_:Zt)(c2_:Zs)(c3_:ZW)(e3:(List Int))(i6:Int)(i7:Int)(i10:Int)(i11:Int)(i12:Int)(i8:Int)(g9:σ):Option ((Int×Int×Int×Int×Int×Int×σ)⊕((σ)⊕(σ))):=
 (if (decide (i6<((List.length e3:Nat):Int))) then ((idx e3 i6).bind fun a4 =>
 (((if (decide (i6>0)) then ((idx c2_.Links (w64 (Int.tdiv i7 2))).bind fun a2 =>
 ((quoI .i64 (w64 ((w64 ((w64 ((w64 ((w64 ((w64 (i12+i8))+a2.Delay))+c3_.Proc))+(w64 (2*c3_.Slack))))+c3_.Grid))-1)) c3_.Grid).bind fun a5 =>
 (some ((w64 ((w64 ((w64 ((w64 (i12+i8))+a2.Delay))+c3_.Proc))-(w64 (2*c3_.Slack)))),(w64 ((w64 ((w64 ((w64 (i12+i8))+a2.Delay))+c3_.Proc))+(w64 (2*c3_.Slack)))),(w64 (a5*c3_.Grid)))))) else (some (i10,i11,i12)))).bind fun (a0:Int×Int×Int) =>
 ((idx c2_.Links (w64 (Int.tdiv a4 2))).bind fun a3 =>
 ((y_ g9 (Z4.mk a4 a0.1 a0.2.1 a0.2.2 (w64 (c0_.Size*a3.Per)))).bind fun a1 =>
 (if (!a1.2) then (some (.inr (.inr a1.1))) else (some (.inl ((w64 (i6+1)),a4,a0.1,a0.2.1,a0.2.2,(w64 (c0_.Size*a3.Per)),a1.1)))))))) else (some (.inr (.inl g9))))
def ZcA {σ:Type}(N:Nat)(y_:σ→Z4→Option (σ×Bool))(c0_:Zt)(c1_:Int)(c2_:Zs)(c3_:ZW)(s_:σ):Option (σ):=
 ((idx c0_.Routes c1_).bind fun e3 =>
 ((ZaK (fun x:Int×Int×Int×Int×Int×Int×σ=>Zbx N y_ c0_ c2_ c3_ e3 x.1 x.2.1 x.2.2.1 x.2.2.2.1 x.2.2.2.2.1 x.2.2.2.2.2.1 x.2.2.2.2.2.2) N (0,0,0,0,0,0,s_)).bind fun a2=>match a2 with
 | (.inl a1)=>(some a1)
 | (.inr a0)=>(some a0)))
def ZbL (N:Nat)(a0_:ZK)(a1_:(List Int)):Option ((List Int)×ZK):=
 (some (a1_,a0_))
def ZaO {σ:Type}(N:Nat)(y_:σ→Int→Zas→Option (σ×Bool))(c0_:(List Int))(c1_:ZK)(i4:Int)(g5:σ):Option ((Int×σ)⊕((σ))):=
 (if (decide (i4<((List.length c0_:Nat):Int))) then ((idx c0_ i4).bind fun a1 =>
 (((if (decide (a1<0)) then (some true) else (some (decide (a1≥(w64 (2*((List.length c1_.Topo.Links:Nat):Int)))))))).bind fun (a4:Bool) =>
 (if a4 then (some (.inr g5)) else ((idx c1_.Topo.Links (w64 (Int.tdiv a1 2))).bind fun a2 =>
 (((if ((Int.tmod a1 2)==1) then (some (a2.B,a2.A)) else (some (a2.A,a2.B)))).bind fun (a3:Int×Int) =>
 ((y_ g5 i4 (Zas.mk a1 a3.1 a3.2)).bind fun a0 =>
 (if (!a0.2) then (some (.inr a0.1)) else (some (.inl ((w64 (i4+1)),a0.1)))))))))) else (some (.inr g5)))
def Zbm {σ:Type}(N:Nat)(y_:σ→Int→Zas→Option (σ×Bool))(c0_:(List Int))(c1_:ZK)(s_:σ):Option (σ):=
 ((ZaK (fun x:Int×σ=>ZaO N y_ c0_ c1_ x.1 x.2) N (0,s_)).bind fun a0 =>
 (some a0))
def Zau (N:Nat)(a0_:(List Int))(a1_:Int)(i1:Int):Option ((Int)⊕((Unit)⊕(Int))):=
 (if (decide (i1<((List.length a0_:Nat):Int))) then ((idx a0_ i1).bind fun a0 =>
 (if (a1_==a0) then (some (.inr (.inr i1))) else (some (.inl (w64 (i1+1)))))) else (some (.inr (.inl ()))))
def Zbe (N:Nat)(a0_:(List Int))(a1_:Int):Option (Int):=
 ((ZaK (fun x:Int=>Zau N a0_ a1_ x) N 0).bind fun a1=>match a1 with
 | (.inl a2)=>(some (-1))
 | (.inr a0)=>(some a0))
def Zbl (N:Nat)(a0_:ZW):Option (Int):=
 ((((Z5 N a0_.Grid 1 10000).bind fun r1=>(if (!r1) then (some true) else ((Z5 N a0_.Slack 0 1000).bind fun r4=>(some (!r4)))))).bind fun (j5:Bool) =>
 (if j5 then (some 320) else ((((Z5 N a0_.Proc 0 10000).bind fun r7=>(if (!r7) then (some true) else ((Z5 N a0_.Cap 1542 65536).bind fun a0=>(some (!a0)))))).bind fun (a1:Bool) =>
 (if a1 then (some 320) else (some 0)))))
def ZbO (N:Nat)(a0_:Int)(a1_:(List Int))(i1:Int)(i2:Int):Option ((Int×Int)⊕((Int))):=
 (if (decide (i2<((List.length a1_:Nat):Int))) then ((idx a1_ i2).bind fun a0 =>
 ((ZdJ N i1 a0).bind fun a2 =>
 ((quoI .i64 i1 a2).bind fun a1 =>
 (if (decide ((w64 (a1*a0))>a0_)) then (some (.inr (w64 (a1*a0)))) else (some (.inl ((w64 (a1*a0)),(w64 (i2+1))))))))) else (some (.inr i1)))
def Zeg (N:Nat)(a0_:Int)(a1_:(List Int)):Option (Int):=
 ((ZaK (fun x:Int×Int=>ZbO N a0_ a1_ x.1 x.2) N (1,0)).bind fun a0 =>
 (some a0))
def ZaJ (N:Nat)(a0_:(List Bool))(a1_:Bool):Option (Bool):=
 ((ZaV N a0_ a1_).bind fun r1 =>
 (some (decide (r1≥0))))
def Zdi (N:Nat)(c0_:Zs)(c1_:Zt):Option (Bool):=
 ((((Zb7 N c0_ c1_.Talker).bind fun r3=>(if r3 then ((Zb7 N c0_ c1_.Listener).bind fun r7=>(if r7 then (some (c1_.Talker != c1_.Listener)) else (some false))) else (some false)))).bind fun (a0:Bool) =>
 (some a0))
def Zes (N:Nat)(a0_:ZbH):Option (Int):=
 ((((Zbq N a0_.Burst 1 1048576).bind fun r1=>(if (!r1) then (some true) else ((Zbq N a0_.Rate 1 2097152).bind fun r4=>(some (!r4)))))).bind fun (j5:Bool) =>
 (if j5 then (some 130) else (some 0)))
def Zef (N:Nat)(a0_:ZP)(a1_:ZP):Option (Int×Int×Int):=
 ((ZdJ N a0_.Period a1_.Period).bind fun r1 =>
 (some (a0_.Long,(w64 (r1-a1_.Long)),r1)))
def Zd6 (N:Nat)(a0_:Int)(c0_:Zs):Option (Bool):=
 ((idx c0_.Links a0_).bind fun e2 =>
 ((((Zfg N c0_ e2.A).bind fun r4=>(if r4 then ((Zfg N c0_ e2.B).bind fun r7=>(if r7 then (some (e2.A != e2.B)) else (some false))) else (some false)))).bind fun (a0:Bool) =>
 (some a0)))
def ZaG (N:Nat)(a0_:ZK)(a3:Int)(a2:Int)(a1:Zl)(a8:Int)(a0:Zas):Option ((Int×Int×Zl)×Nat):=
 (if (a8==0) then ((a1.get a0.from_).bind fun ab =>
 (((Zl.set a1 a0.from_ true).get a0.to_).bind fun a7 =>
 (if a7 then (some ((a3,a2,(Zl.set a1 a0.from_ true)),1)) else (((Zl.set a1 a0.from_ true).get a0.to_).bind fun aa =>
 (some (((w64 (a3+1)),a0.to_,(Zl.set (Zl.set a1 a0.from_ true) a0.to_ true)),0)))))) else (((if (a0.from_ != a2) then (some true) else ((idx a0_.Topo.Station a2).bind fun a6=>(some a6)))).bind fun (a4:Bool) =>
 (if a4 then (some ((a3,a2,a1),1)) else ((a1.get a0.to_).bind fun a5 =>
 (if a5 then (some ((a3,a2,a1),1)) else ((a1.get a0.to_).bind fun a9 =>
 (some (((w64 (a3+1)),a0.to_,(Zl.set a1 a0.to_ true)),0))))))))
def Zby (N:Nat)(a0_:ZK)(a1_:(List Int)):Option (Bool):=
 (if ((decide (((List.length a1_:Nat):Int)<1))||(decide (((List.length a1_:Nat):Int)>8))) then (some false) else ((((ZbL N a0_ a1_).bind fun a1 =>
 ((Zbm N (fun (s:(Int×Int×Zl)×Nat) (a3:Int) (a2:Zas)=>Zf6 (fun v:Int×Int×Zl=>ZaG N a0_ v.1 v.2.1 v.2.2 a3 a2) s) a1.1 a1.2 ((0,0,(Zl.mk false false false false false false false false false false false false)),0)).bind fun a0 =>
 (if (a0.2==0) then (some a0.1.1) else (if (a0.2==1) then (some a0.1.1) else none))))).bind fun (a4:Int) =>
 (some (a4==((List.length a1_:Nat):Int)))))
def ZaH (N:Nat)(a3:(List Int))(x13:Int)(x14:Zas):Option ((List Int)):=
 (((if (x13==0) then ((appI 8 a3 [x14.from_]).bind fun a1 =>
 (some a1)) else (some a3))).bind fun (a2:(List Int)) =>
 ((appI 8 a2 [x14.to_]).bind fun a0 =>
 (some a0)))
def Za2 (N:Nat)(a0_:ZK)(a1_:(List Int)):Option ((List Int)):=
 ((ZiQ 8 0 (w64 (((List.length a1_:Nat):Int)+1)) 0).bind fun l3 =>
 ((ZbL N a0_ a1_).bind fun r7 =>
 ((Zbm N (fun (s:(List Int)) (x13:Int) (x14:Zas)=>Zd0 (fun v:(List Int)=>ZaH N v x13 x14) s) r7.1 r7.2 l3).bind fun a0 =>
 (some a0))))
def ZaQ (N:Nat)(a0_:(List Int))(a1_:Int):Option (Bool):=
 ((Zbe N a0_ a1_).bind fun r1 =>
 (some (decide (r1≥0))))
def ZcB (N:Nat)(a0_:ZK)(c0_:(List Int)):Option ((List Int)×Int):=
 ((Za2 N a0_ c0_).bind fun r2 =>
 (some (r2,0)))
def ZbA (N:Nat)(a0_:(List ZP))(i8:Int)(l9:(List Int)):Option ((Int×(List Int))⊕(((List Int)))):=
 (if (decide (i8<((List.length a0_:Nat):Int))) then ((idx a0_ i8).bind fun a0 =>
 ((idx l9 i8).bind fun a1 =>
 (some (.inl ((w64 (i8+1)),(List.set l9 (Int.toNat i8) a0.Period)))))) else (some (.inr l9)))
def ZdL (N:Nat)(a0_:(List ZP)):Option (Int×Int):=
 ((Zcm N a0_).bind fun r1 =>
 (if (r1 != 0) then (some (0,r1)) else ((ZiQ 8 ((List.length a0_:Nat):Int) ((List.length a0_:Nat):Int) 0).bind fun l5 =>
 ((ZaK (fun x:Int×(List Int)=>ZbA N a0_ x.1 x.2) N (0,l5)).bind fun a1 =>
 ((Zeg N 960 a1).bind fun a0 =>
 (if (decide (a0>960)) then (some (0,6)) else (some (a0,0))))))))
def ZdK (N:Nat)(a0_:ZP)(a1_:ZP):Option (Bool):=
 (if ((a0_.Period==a1_.Period)&&((a0_.From==a1_.From)&&((a0_.Long==a1_.Long)&&true))) then (some false) else ((Zef N a0_ a1_).bind fun r2 =>
 ((Ze3 N (w64 (a1_.From-a0_.From)) r2.2.2).bind fun r3 =>
 (some ((decide (r2.1≤r3))&&(decide (r3≤r2.2.1)))))))
def Zcv (N:Nat)(a0_:Zs)(i4:Int):Option ((Int)⊕((Unit)⊕(Bool))):=
 (if (decide (i4<((List.length a0_.Links:Nat):Int))) then ((Zd6 N i4 a0_).bind fun a3 =>
 (if (!a3) then (some (.inr (.inr false))) else ((Zd5 N i4 a0_).bind fun a2 =>
 (if (!a2) then (some (.inr (.inr false))) else ((Zd4 N i4 a0_).bind fun a1 =>
 (if (!a1) then (some (.inr (.inr false))) else ((Zd3 N i4 a0_).bind fun a0 =>
 (if (!a0) then (some (.inr (.inr false))) else (some (.inl (w64 (i4+1)))))))))))) else (some (.inr (.inl ()))))
def Zfw (N:Nat)(a0_:Zs):Option (Bool):=
 ((ZaK (fun x:Int=>Zcv N a0_ x) N 0).bind fun a1=>match a1 with
 | (.inl a2)=>(some true)
 | (.inr a0)=>(some a0))
def Zdf (N:Nat)(c0_:Zt):Option (Bool):=
 (if (c0_.Class==7) then ((((Z5 N c0_.Period 1 240).bind fun r4=>(if r4 then (some ((c0_.Bucket.Burst==0)&&((c0_.Bucket.Rate==0)&&true))) else (some false)))).bind fun (j8:Bool) =>
 (some j8)) else (if (c0_.Class==6) then (((if (c0_.Period==0) then ((Zes N c0_.Bucket).bind fun a0=>(if (a0==0) then (some (decide (c0_.Bucket.Burst≥c0_.Size))) else (some false))) else (some false))).bind fun (a1:Bool) =>
 (some a1)) else (some false)))
def ZaW (N:Nat)(r2:(List Int))(l3:List Int)(i4:Int):Option ((Int)⊕((Unit)⊕(Bool))):=
 (if (decide (i4<((List.length l3:Nat):Int))) then ((idx l3 i4).bind fun a1 =>
 ((ZaQ N r2 a1).bind fun a0 =>
 (if a0 then (some (.inr (.inr true))) else (some (.inl (w64 (i4+1))))))) else (some (.inr (.inl ()))))
def Zbz (N:Nat)(a0_:ZK)(a1_:(List Int))(a2_:(List Int)):Option (Bool):=
 ((Za2 N a0_ a1_).bind fun r1 =>
 ((Za2 N a0_ a2_).bind fun r2 =>
 ((subI r1 1 (w64 (((List.length r1:Nat):Int)-1))).bind fun l3 =>
 ((ZaK (fun x:Int=>ZaW N r2 l3 x) N 0).bind fun a1=>match a1 with
 | (.inl a2)=>(some false)
 | (.inr a0)=>(some a0)))))
def ZcF (N:Nat)(a0_:(List Int))(i6:Int)(l7:(List ZP)):Option ((Int×(List ZP))⊕(((List ZP)))):=
 (if (decide (i6<((List.length a0_:Nat):Int))) then ((idx a0_ i6).bind fun a0 =>
 ((idx l7 i6).bind fun a1 =>
 (some (.inl ((w64 (i6+1)),(List.set l7 (Int.toNat i6) (ZP.mk a0 0 1))))))) else (some (.inr l7)))
def Zdw (N:Nat)(a0_:(List Int)):Option (Int×Int):=
 ((ZiQ 24 ((List.length a0_:Nat):Int) ((List.length a0_:Nat):Int) (ZP.mk 0 0 0)).bind fun l3 =>
 ((ZaK (fun x:Int×(List ZP)=>ZcF N a0_ x.1 x.2) N (0,l3)).bind fun a1 =>
 ((ZdL N a1).bind fun a0 =>
 (some (a0.1,a0.2)))))
def Za0 (N:Nat)(a0_:Z6)(i5:Int)(m5:(List (Int×(List Zx)))):Option ((Int×(List (Int×(List Zx))))⊕((List (Int×(List Zx))))):=
 (if (decide (i5<((List.length a0_.Problem.Uses:Nat):Int))) then ((idx a0_.Problem.Uses i5).bind fun a0 =>
 ((appI 32 (Zhv m5 a0.Port []) [a0]).bind fun a1 =>
 (some (.inl ((w64 (i5+1)),(ZcJ m5 a0.Port a1)))))) else (some (.inr m5)))
def ZaZ (N:Nat)(a0_:Z6)(r2:Int×Int)(us_:(List Zx))(a2:Int)(a0:Int):Option ((Int×Int)⊕((Int))):=
 (if (decide (a0<((List.length us_:Nat):Int))) then ((idx us_ a0).bind fun a4 =>
 ((idx a0_.Problem.Periods a4.Stream).bind fun a3 =>
 ((quoI .i64 r2.1 a3).bind fun a1 =>
 (some (.inl ((w64 (a2+a1)),(w64 (a0+1)))))))) else (some (.inr a2)))
def Zba (N:Nat)(a0_:Z6)(r2:Int×Int)(us_:(List Zx)):Option Bool :=
 ((ZaK (fun x:Int×Int=>ZaZ N a0_ r2 us_ x.1 x.2) N (0,0)).bind fun a0 =>
 (some (decide (a0>63))))
def ZaY (N:Nat)(a0_:Z6)(a0:Int):Option ((Int)⊕((Unit)⊕(Int))):=
 (if (decide (a0<((List.length a0_.Problem.Uses:Nat):Int))) then ((idx a0_.Problem.Uses a0).bind fun a1 =>
 ((idx a0_.Problem.Periods a1.Stream).bind fun a2 =>
 (if (decide (a1.Long>a2)) then (some (.inr (.inr 341))) else (some (.inl (w64 (a0+1))))))) else (some (.inr (.inl ()))))
def Zcp (N:Nat)(a0_:Z6):Option (Int):=
 ((Zdw N a0_.Problem.Periods).bind fun r2 =>
 (if (r2.2 != 0) then (some r2.2) else ((ZaK (fun x:Int×(List (Int×(List Zx)))=>Za0 N a0_ x.1 x.2) N (0,[])).bind fun a3 =>
 ((rgF (Zba N a0_ r2) a3).bind fun a2 =>
 (if a2 then (some 7) else ((ZaK (fun x:Int=>ZaY N a0_ x) N 0).bind fun a1=>match a1 with
 | (.inl a4)=>(if a0_.late then (some 342) else (some 0))
 | (.inr a0)=>(some a0)))))))
def ZdM (N:Nat)(a0_:ZP)(a1_:ZP):Option (Bool×Int):=
 ((ZbP N a0_).bind fun r1 =>
 (if (r1 != 0) then (some (false,r1)) else ((ZbP N a1_).bind fun r3 =>
 (if (r3 != 0) then (some (false,r3)) else ((ZdK N a0_ a1_).bind fun r5 =>
 (some (r5,0)))))))
def Zcz (N:Nat)(a0_:Zs)(i16:Int)(a2:(List Int)):Option ((Int×(List Int))⊕(((List Int)))):=
 (if (decide (i16<((List.length a0_.Links:Nat):Int))) then ((idx a0_.Links i16).bind fun a0 =>
 ((idx a2 a0.A).bind fun a1 =>
 ((idx a2 a0.A).bind fun a5 =>
 ((idx (List.set a2 (Int.toNat a0.A) (w64 (a1+1))) a0.B).bind fun a3 =>
 ((idx (List.set a2 (Int.toNat a0.A) (w64 (a1+1))) a0.B).bind fun a4 =>
 (some (.inl ((w64 (i16+1)),(List.set (List.set a2 (Int.toNat a0.A) (w64 (a1+1))) (Int.toNat a0.B) (w64 (a3+1))))))))))) else (some (.inr a2)))
def Zcy (N:Nat)(a0_:Zs)(a1:(List Int))(a0:Int):Option ((Int)⊕((Unit)⊕(Int))):=
 (if (decide (a0<((List.length a0_.Station:Nat):Int))) then ((idx a0_.Station a0).bind fun a5 =>
 (((if a5 then ((idx a1 a0).bind fun a4=>(if (decide (a4<1)) then (some true) else ((idx a1 a0).bind fun a3=>(some (decide (a3>2)))))) else (some false))).bind fun (a2:Bool) =>
 (if a2 then (some (.inr (.inr 260))) else (some (.inl (w64 (a0+1))))))) else (some (.inr (.inl ()))))
def Zdn (N:Nat)(a0_:Zs):Option (Int):=
 (if ((decide (a0_.Nodes<2))||((decide (a0_.Nodes>12))||(((List.length a0_.Station:Nat):Int)!=a0_.Nodes))) then (some 260) else (((if (decide (((List.length a0_.Links:Nat):Int)>24)) then (some true) else ((Zfw N a0_).bind fun r8=>(some (!r8))))).bind fun (j9:Bool) =>
 (if j9 then (some 260) else ((ZiQ 8 a0_.Nodes a0_.Nodes 0).bind fun a6 =>
 ((ZaK (fun x:Int×(List Int)=>Zcz N a0_ x.1 x.2) N (0,a6)).bind fun a4 =>
 ((ZaK (fun x:Int=>Zcy N a0_ a4 x) N 0).bind fun a3=>match a3 with
 | (.inl a5)=>((Zfx N a0_ 0 (ZaT.mk false false false false false false false false false false false false false false false false false false false false false false false false)).bind fun a1 =>
 ((ZaJ N a1 false).bind fun a0 =>
 (if a0 then (some 260) else (some 0))))
 | (.inr a2)=>(some a2)))))))
def ZcC (N:Nat)(a0_:ZK)(c0_:(List Int))(c1_:(List Int)):Option (Bool×Int):=
 ((Zby N a0_ c0_).bind fun r2 =>
 (if (!r2) then (some (false,310)) else ((((Zee N c1_ c0_).bind fun r6=>(if (!r6) then ((Zbz N a0_ c1_ c0_).bind fun a1=>(if (!a1) then ((Zbz N a0_ c0_ c1_).bind fun a0=>(some (!a0))) else (some false))) else (some false)))).bind fun (a2:Bool) =>
 (some (a2,0)))))
def ZdI (N:Nat)(a0_:Zs)(a1_:(List Int)):Option (Int):=
 ((Zdn N a0_).bind fun r1 =>
 (if (r1 != 0) then (some r1) else ((Zby N (ZK.mk a0_) a1_).bind fun r3 =>
 (if (!r3) then (some 310) else (some 0)))))
def Zdl (N:Nat)(a0_:Zs)(a1_:(List Int))(a2_:ZK→Option ((List Int)×Int)):Option ((List Int)×Int):=
 ((ZdI N a0_ a1_).bind fun r1 =>
 (if (r1 != 0) then (some ([],r1)) else ((a2_ (ZK.mk a0_)).bind fun r3 =>
 (some (r3.1,r3.2)))))
def ZcI (N:Nat)(a0_:Zd)(i4:Int):Option ((Int)⊕((Unit)⊕(Int))):=
 (if (decide (i4<((List.length a0_.Periods:Nat):Int))) then ((idx a0_.Periods i4).bind fun a0 =>
 (if ((decide (a0<1))||(decide (a0>240))) then (some (.inr (.inr 340))) else (some (.inl (w64 (i4+1)))))) else (some (.inr (.inl ()))))
def ZcH (N:Nat)(a0_:Zd)(a2:Int):Option ((Int)⊕((Unit)⊕(Int))):=
 (if (decide (a2<((List.length a0_.Uses:Nat):Int))) then ((idx a0_.Uses a2).bind fun a0 =>
 (if ((decide (a0.Stream<0))||((decide (a0.Stream≥((List.length a0_.Periods:Nat):Int)))||((decide (a0.Port<0))||(decide (a0.Port≥48))))) then (some (.inr (.inr 340))) else ((idx a0_.Periods a0.Stream).bind fun a1 =>
 (if ((decide (a0.From<0))||((decide (a0.From≥a1))||((decide (a0.Long<1))||(decide (a0.Long>a1))))) then (some (.inr (.inr 340))) else (some (.inl (w64 (a2+1)))))))) else (some (.inr (.inl ()))))
def Zb6 (N:Nat)(a0_:Zd):Option (Int):=
 (if ((decide (((List.length a0_.Periods:Nat):Int)>12))||(decide (((List.length a0_.Uses:Nat):Int)>192))) then (some 340) else ((ZaK (fun x:Int=>ZcI N a0_ x) N 0).bind fun a4=>match a4 with
 | (.inl a6)=>((Zdw N a0_.Periods).bind fun a3 =>
 (if (a3.2 != 0) then (some 340) else ((ZaK (fun x:Int=>ZcH N a0_ x) N 0).bind fun a2=>match a2 with
 | (.inl a5)=>(some 0)
 | (.inr a1)=>(some a1))))
 | (.inr a0)=>(some a0)))
def Zdx (N:Nat)(a0_:Zd)(a1_:Int)(a2_:Int):Option (ZP×Int):=
 ((Zb6 N a0_).bind fun r1 =>
 (if (r1 != 0) then (some ((ZP.mk 0 0 0),r1)) else (((if (decide (a1_<0)) then (some true) else (if (decide (a1_≥((List.length a0_.Uses:Nat):Int))) then (some true) else ((idx a0_.Uses a1_).bind fun e7=>((Zb5 N a0_ e7.Stream a2_).bind fun r8=>(some (!r8))))))).bind fun (j9:Bool) =>
 (if j9 then (some ((ZP.mk 0 0 0),2)) else ((idx a0_.Uses a1_).bind fun a1 =>
 ((ZbW N a0_ a1 a2_).bind fun a0 =>
 (some (a0,0))))))))
def Za4 (N:Nat)(a0_:Zd)(a2_:Int)(a4_:Int)(b18:Bool)(x16:Zx)(x17:Zx):Option ((Bool)×Nat):=
 (if ((x16.Stream==x17.Stream)&&((x16.Port==x17.Port)&&((x16.From==x17.From)&&((x16.Long==x17.Long)&&true)))) then (some (true,1)) else ((ZbW N a0_ x16 a2_).bind fun a2 =>
 ((ZbW N a0_ x17 a4_).bind fun a1 =>
 ((ZdM N a2 a1).bind fun a0 =>
 (if (!a0.1) then (some (true,1)) else (some (b18,0)))))))
def ZcG (N:Nat)(a0_:Zd)(a1_:Int)(a2_:Int)(a3_:Int)(a4_:Int):Option (Bool):=
 ((ZfP N a0_ a1_ a3_).bind fun a1 =>
 ((Zei N (fun (s:(Bool)×Nat) (x16:Zx) (x17:Zx)=>Zf6 (fun v:Bool=>Za4 N a0_ a2_ a4_ v x16 x17) s) a1.1 a1.2.1 a1.2.2 (false,0)).bind fun a0 =>
 (if (a0.2==0) then (some false) else (if (a0.2==1) then (some a0.1) else none))))
def Zdk (N:Nat)(a0_:Zs)(a1_:(List Int))(a2_:ZK→Option (Bool×Int)):Option (Bool×Int):=
 ((ZdI N a0_ a1_).bind fun r1 =>
 (if (r1 != 0) then (some (false,r1)) else ((a2_ (ZK.mk a0_)).bind fun r3 =>
 (some (r3.1,r3.2)))))
def Ze1 (N:Nat)(a0_:Zs)(a1_:(List Int)):Option ((List Int)×Int):=
 ((Zdl N a0_ a1_ (fun x0=>ZcB N x0 a1_)).bind fun r4 =>
 (some (r4.1,r4.2)))
def Zbp (N:Nat)(a0_:Zd)(a1_:Int)(a2_:Int)(a3_:Int)(a4_:Int):Option (Bool×Int):=
 ((Zb6 N a0_).bind fun r1 =>
 (if (r1 != 0) then (some (false,r1)) else (if ((decide (a1_<0))||((decide (a1_≥((List.length a0_.Periods:Nat):Int)))||((decide (a3_<0))||(decide (a3_≥((List.length a0_.Periods:Nat):Int)))))) then (some (false,2)) else ((((Zb5 N a0_ a1_ a2_).bind fun a2=>(if (!a2) then (some true) else ((Zb5 N a0_ a3_ a4_).bind fun a1=>(if (!a1) then (some true) else (if (a1_==a3_) then (some (a2_ != a4_)) else (some false))))))).bind fun (a3:Bool) =>
 (if a3 then (some (false,2)) else ((ZcG N a0_ a1_ a2_ a3_ a4_).bind fun a0 =>
 (some (a0,0))))))))
def Zc6 (N:Nat)(a0_:Zd)(a1_:(List Int))(i4:Int):Option ((Int)⊕((Unit)⊕(Bool×Int))):=
 (if (decide (i4<((List.length a1_:Nat):Int))) then ((idx a1_ i4).bind fun a1 =>
 ((Zb5 N a0_ i4 a1).bind fun a0 =>
 (if (!a0) then (some (.inr (.inr (false,2)))) else (some (.inl (w64 (i4+1))))))) else (some (.inr (.inl ()))))
def Zc4 (N:Nat)(a0_:Zd)(a5:Int)(a4:Int)(a1:List Int)(a0:Int):Option ((Int)⊕((Unit)⊕(Bool×Int))):=
 (if (decide (a0<((List.length a1:Nat):Int))) then ((idx a1 a0).bind fun a3 =>
 ((ZcG N a0_ a0 a3 a5 a4).bind fun a2 =>
 (if a2 then (some (.inr (.inr (false,0)))) else (some (.inl (w64 (a0+1))))))) else (some (.inr (.inl ()))))
def Zc5 (N:Nat)(a0_:Zd)(a1_:(List Int))(a0:Int):Option ((Int)⊕((Unit)⊕(Bool×Int))):=
 (if (decide (a0<((List.length a1_:Nat):Int))) then ((idx a1_ a0).bind fun a4 =>
 ((subI a1_ 0 (w64 (a0+1))).bind fun a3 =>
 ((ZaK (fun x:Int=>Zc4 N a0_ a0 a4 a3 x) N 0).bind fun a2=>match a2 with
 | (.inl a5)=>(some (.inl (w64 (a0+1))))
 | (.inr a1)=>(some (.inr (.inr a1)))))) else (some (.inr (.inl ()))))
def Zdy (N:Nat)(a0_:Zd)(a1_:(List Int)):Option (Bool×Int):=
 ((Zb6 N a0_).bind fun r1 =>
 (if (r1 != 0) then (some (false,r1)) else (if (((List.length a1_:Nat):Int)!=((List.length a0_.Periods:Nat):Int)) then (some (false,2)) else ((ZaK (fun x:Int=>Zc6 N a0_ a1_ x) N 0).bind fun a3=>match a3 with
 | (.inl a5)=>((ZaK (fun x:Int=>Zc5 N a0_ a1_ x) N 0).bind fun a2=>match a2 with
 | (.inl a4)=>(some (true,0))
 | (.inr a1)=>(some a1))
 | (.inr a0)=>(some a0)))))
def Zdz (N:Nat)(a0_:Zd):Option (Int×Int):=
 ((Zb6 N a0_).bind fun r1 =>
 (if (r1 != 0) then (some (0,r1)) else ((Zdw N a0_.Periods).bind fun r3 =>
 (some (r3.1,r3.2)))))
def ZbF (N:Nat)(a0_:Zd)(a1_:(List Int)):Option (Bool):=
 ((Zdy N a0_ a1_).bind fun r1 =>
 (some (r1.1&&(r1.2==0))))
def Za5 (N:Nat)(a0_:Zd)(a1_:Int)(a2_:Int):Option (Bool):=
 ((Zbp N a0_ 0 a1_ 1 a2_).bind fun r1 =>
 (some (r1.1&&(r1.2==0))))
def Ze2 (N:Nat)(a0_:Zs)(a1_:(List Int))(a2_:(List Int)):Option (Bool×Int):=
 ((Zdk N a0_ a1_ (fun x0=>ZcC N x0 a2_ a1_)).bind fun r6 =>
 (some (r6.1,r6.2)))
def ZfK (N:Nat)(a0_:Zs)(a1_:(List Int)):Option (Int×Int×Int):=
 ((Ze1 N a0_ a1_).bind fun r1 =>
 (if (r1.2 != 0) then (some (0,0,r1.2)) else ((idx r1.1 0).bind fun e3 =>
 ((idx r1.1 (w64 (((List.length r1.1:Nat):Int)-1))).bind fun e4 =>
 (some (e3,e4,0))))))
def Zd8 (N:Nat)(a0_:Zs)(a1_:(List Int))(a2_:Int)(a3_:Int):Option (Bool):=
 ((ZfK N a0_ a1_).bind fun r1 =>
 (some ((r1.2.2==0)&&((r1.1==a2_)&&(r1.2.1==a3_)))))
def Zdc (N:Nat)(c0_:Zt)(c1_:Zs):Option (Bool):=
 (if (decide (((List.length c0_.Routes:Nat):Int)<2)) then (some true) else ((idx c0_.Routes 0).bind fun e5 =>
 ((idx c0_.Routes 1).bind fun e7 =>
 ((Ze2 N c1_ e5 e7).bind fun r8 =>
 (some ((r8.2==0)&&r8.1))))))
def Zbj (N:Nat)(c0_:Zt)(c1_:Zs)(i2:Int):Option ((Int)⊕((Unit)⊕(Bool))):=
 (if (decide (i2<((List.length c0_.Routes:Nat):Int))) then ((idx c0_.Routes i2).bind fun a1 =>
 ((Zd8 N c1_ a1 c0_.Talker c0_.Listener).bind fun a0 =>
 (if (!a0) then (some (.inr (.inr false))) else (some (.inl (w64 (i2+1))))))) else (some (.inr (.inl ()))))
def Zdd (N:Nat)(c0_:Zt)(c1_:Zs):Option (Bool):=
 ((ZaK (fun x:Int=>Zbj N c0_ c1_ x) N 0).bind fun a1=>match a1 with
 | (.inl a2)=>(some true)
 | (.inr a0)=>(some a0))
def ZcV (N:Nat)(a0_:Zs)(a1_:Zt):Option (Bool):=
 ((Zdj N  a1_).bind fun r8 =>
 (if (!r8) then (some false) else ((Zdi N  a0_ a1_).bind fun a6 =>
 (if (!a6) then (some false) else ((Zdh N  a1_).bind fun a5 =>
 (if (!a5) then (some false) else ((Zdg N  a1_).bind fun a4 =>
 (if (!a4) then (some false) else ((Zdf N  a1_).bind fun a3 =>
 (if (!a3) then (some false) else ((Zde N  a1_).bind fun a2 =>
 (if (!a2) then (some false) else ((Zdd N  a1_ a0_).bind fun a1 =>
 (if (!a1) then (some false) else ((Zdc N  a1_ a0_).bind fun a0 =>
 (if (!a0) then (some false) else (some true)))))))))))))))))
def Zew (N:Nat)(a0_:Zs)(a1_:ZW)(a2_:Zt)(a3_:Int):Option (Int):=
 ((Zdn N a0_).bind fun r1 =>
 (if (r1 != 0) then (some r1) else ((Zbl N a1_).bind fun r3 =>
 (if (r3 != 0) then (some r3) else ((ZcV N a0_ a2_).bind fun r5 =>
 (if (!r5) then (some 321) else (((if (a2_.Class != 7) then (some true) else ((Z5 N a3_ 0 (w64 (((List.length a2_.Routes:Nat):Int)-1))).bind fun r9=>(some (!r9))))).bind fun (a0:Bool) =>
 (if a0 then (some 2) else (some 0)))))))))
def Za9 (N:Nat)(a0_:Zs)(a1_:(List Zt))(i4:Int):Option ((Int)⊕((Unit)⊕(Int))):=
 (if (decide (i4<((List.length a1_:Nat):Int))) then ((idx a1_ i4).bind fun a1 =>
 ((ZcV N a0_ a1).bind fun a0 =>
 (if (!a0) then (some (.inr (.inr 321))) else (some (.inl (w64 (i4+1))))))) else (some (.inr (.inl ()))))
def Za8 (N:Nat)(a1_:(List Zt))(a1:Int)(a2:(List (Int×Bool))):Option ((Int×(List (Int×Bool)))⊕((Unit)⊕(Int))):=
 (if (decide (a1<((List.length a1_:Nat):Int))) then ((idx a1_ a1).bind fun a0 =>
 (if (Zhv a2 a0.Id false) then (some (.inr (.inr 322))) else (some (.inl ((w64 (a1+1)),(ZcJ a2 a0.Id true)))))) else (some (.inr (.inl ()))))
def ZbJ (N:Nat)(a0_:Zs)(a1_:(List Zt)):Option (Int):=
 ((Zdn N a0_).bind fun r1 =>
 (if (r1 != 0) then (some r1) else (if (decide (((List.length a1_:Nat):Int)>12)) then (some 3) else ((ZaK (fun x:Int=>Za9 N a0_ a1_ x) N 0).bind fun a3=>match a3 with
 | (.inl a5)=>((ZaK (fun x:Int×(List (Int×Bool))=>Za8 N a1_ x.1 x.2) N (0,[])).bind fun a2=>match a2 with
 | (.inl a4)=>(some 0)
 | (.inr a1)=>(some a1))
 | (.inr a0)=>(some a0)))))
def Zbt (N:Nat)(a1:(List Z4))(x12:Z4):Option ((List Z4)):=
 ((appI 40 a1 [x12]).bind fun a0 =>
 (some a0))
def Ze0 (N:Nat)(a0_:Zs)(a1_:ZW)(a2_:Zt)(a3_:Int):Option ((List Z4)×Int):=
 ((Zew N a0_ a1_ a2_ a3_).bind fun r1 =>
 (if (r1 != 0) then (some ([],r1)) else ((ZdE N a0_ a1_ a2_ a3_).bind fun r5 =>
 ((ZcA N (fun (s:(List Z4)) (x12:Z4)=>Zd0 (fun v:(List Z4)=>Zbt N v x12) s) r5.1 r5.2.1 r5.2.2.1 r5.2.2.2 []).bind fun a0 =>
 (some (a0,0))))))
def Zbs (N:Nat)(a0_:Zs)(a1_:ZW)(i22:Int)(x21:Z4):Option (Int):=
 ((idx a0_.Links (w64 (Int.tdiv x21.Port 2))).bind fun a0 =>
 (some (w64 ((w64 ((w64 (x21.Open+x21.Long))+a0.Delay))+a1_.Proc))))
def ZeZ (N:Nat)(a0_:Zs)(a1_:ZW)(a2_:Zt)(a3_:Int):Option (Int×Int):=
 ((Zew N a0_ a1_ a2_ a3_).bind fun r7 =>
 (if (r7 != 0) then (some (0,r7)) else ((ZdE N a0_ a1_ a2_ a3_).bind fun a0 =>
 ((ZcA N (fun (s:Int) (x21:Z4)=>Zd0 (fun v:Int=>Zbs N a0_ a1_ v x21) s) a0.1 a0.2.1 a0.2.2.1 a0.2.2.2 0).bind fun a1 =>
 (some (a1,0))))))
def Zbn (N:Nat)(a0_:Z6)(a2_:ZW)(a3_:Zt)(a3:(List Z4)×Int)(a2:Int)(a6:(List Zx)):Option ((Int×(List Zx))⊕(((List Zx)))):=
 (if (decide (a2<((List.length a3.1:Nat):Int))) then ((idx a3.1 a2).bind fun a0 =>
 ((Zdv N a0.Early a2_.Grid).bind fun a1 =>
 ((Zdv N (w64 ((w64 ((w64 (a0.Open+a0.Long))+a2_.Grid))-1)) a2_.Grid).bind fun a5 =>
 ((Zdv N a1 a3_.Period).bind fun a4 =>
 ((appI 32 a6 [(Zx.mk ((List.length a0_.Problem.Periods:Nat):Int) a0.Port (w64 (a1-(w64 (a4*a3_.Period)))) (w64 (a5-a1)))]).bind fun a7 =>
 (some (.inl ((w64 (a2+1)),a7)))))))) else (some (.inr a6)))
def Zbo (N:Nat)(a0_:Z6)(a1_:Zs)(a2_:ZW)(a3_:Zt)(l6:List Int)(i11:Int)(b12:Bool)(a4:(List Zx)):Option ((Int×Bool×(List Zx))⊕((Bool×(List Zx))⊕(Int×Z6))):=
 (if (decide (i11<((List.length a3_.Routes:Nat):Int))) then ((Ze0 N a1_ a2_ a3_ i11).bind fun a2 =>
 (if (a2.2 != 0) then (some (.inr (.inr (a2.2,(Z6.mk (Zd.mk l6 a4) b12))))) else ((ZaK (fun x:Int×(List Zx)=>Zbn N a0_ a2_ a3_ a2 x.1 x.2) N (0,a4)).bind fun a1 =>
 ((ZeZ N a1_ a2_ a3_ i11).bind fun a0 =>
 (if (a0.2 != 0) then (some (.inr (.inr (a0.2,(Z6.mk (Zd.mk l6 a1) b12))))) else (((if b12 then (some true) else (some (decide ((w64 (a0.1+(w64 (2*a2_.Slack))))>a3_.Deadline))))).bind fun (a3:Bool) =>
 (some (.inl ((w64 (i11+1)),a3,a1))))))))) else (some (.inr (.inl (b12,a4)))))
def Zdm (N:Nat)(a0_:Z6)(a1_:Zs)(a2_:ZW)(a3_:Zt):Option (Int×Z6):=
 ((appI 8 a0_.Problem.Periods [a3_.Period]).bind fun l6 =>
 ((ZaK (fun x:Int×Bool×(List Zx)=>Zbo N a0_ a1_ a2_ a3_ l6 x.1 x.2.1 x.2.2) N (0,a0_.late,a0_.Problem.Uses)).bind fun a2=>match a2 with
 | (.inl a0)=>(some (0,(Z6.mk (Zd.mk l6 a0.2) a0.1)))
 | (.inr a1)=>(some a1)))
def Zey (N:Nat)(a0_:Zs)(a1_:ZW)(a2_:(List Zt))(i12:Int)(b13:Bool)(a3:(List Int))(a2:(List Zx)):Option ((Int×Bool×(List Int)×(List Zx))⊕((Bool×(List Int)×(List Zx))⊕(Zd×Int))):=
 (if (decide (i12<((List.length a2_:Nat):Int))) then ((idx a2_ i12).bind fun a1 =>
 (if (a1.Class != 7) then (some (.inl ((w64 (i12+1)),b13,a3,a2))) else ((Zdm N (Z6.mk (Zd.mk a3 a2) b13) a0_ a1_ a1).bind fun a0 =>
 (if (a0.1 != 0) then (some (.inr (.inr ((Zd.mk ([]) ([])),a0.1)))) else (some (.inl ((w64 (i12+1)),a0.2.late,a0.2.Problem.Periods,a0.2.Problem.Uses))))))) else (some (.inr (.inl (b13,a3,a2)))))
def ZgW (N:Nat)(a0_:Zs)(a1_:ZW)(a2_:(List Zt)):Option (Zd×Int):=
 ((ZbJ N a0_ ([])).bind fun r1 =>
 (if (r1 != 0) then (some ((Zd.mk ([]) ([])),r1)) else ((Zbl N a1_).bind fun r3 =>
 (if (r3 != 0) then (some ((Zd.mk ([]) ([])),r3)) else ((ZbJ N a0_ a2_).bind fun r5 =>
 (if (r5 != 0) then (some ((Zd.mk ([]) ([])),r5)) else ((ZaK (fun x:Int×Bool×(List Int)×(List Zx)=>Zey N a0_ a1_ a2_ x.1 x.2.1 x.2.2.1 x.2.2.2) N (0,false,[],[])).bind fun a3=>match a3 with
 | (.inl a0)=>((Zcp N (Z6.mk (Zd.mk a0.2.1 a0.2.2) a0.1)).bind fun a1 =>
 (if (a1 != 0) then (some ((Zd.mk ([]) ([])),a1)) else (some ((Zd.mk a0.2.1 a0.2.2),0))))
 | (.inr a2)=>(some a2))))))))
def ZbD (N:Nat)(a0_:(List Zt)):Option (Zd×Int):=
 ((ZeD N).bind fun r1 =>
 ((ZgW N r1 (ZW.mk 100 2 10 8000) a0_).bind fun r2 =>
 (some (r2.1,r2.2))))
def Ze8 (N:Nat):Option (Bool):=
 ((ZU N 1 20 10000).bind fun r1 =>
 ((ZbD N ([r1])).bind fun r2 =>
 ((ZU N 1 8 10000).bind fun r3 =>
 ((ZbD N ([r3])).bind fun r4 =>
 ((ZU N 1 20 1718).bind fun r5 =>
 ((ZbD N ([r5])).bind fun r6 =>
 ((ZU N 1 20 10000).bind fun r7 =>
 ((ZU N 2 30 10000).bind fun r8 =>
 ((ZbD N ([r7,r8])).bind fun r9 =>
 ((ZU N 1 40 10000).bind fun ad =>
 ((ZU N 2 40 10000).bind fun ac =>
 ((ZbD N ([ad,ac])).bind fun a0 =>
 ((ZbD N ([])).bind fun a3 =>
 ((Zdz N r9.1).bind fun a2 =>
 ((Zdz N a3.1).bind fun a1 =>
 (((if (r2.2 != 0) then (some true) else (if (r9.2 != 0) then (some true) else (if (a0.2 != 0) then (some true) else (if (a3.2 != 0) then (some true) else (if (a2.2 != 0) then (some true) else (if (a1.2 != 0) then (some true) else ((ZfN N r2.1 (Zd.mk ([20]) ([(Zx.mk 0 0 0 8),(Zx.mk 0 2 8 9)]))).bind fun ab=>(some (!ab)))))))))).bind fun (ag:Bool) =>
 (if ag then (some false) else ((((Za5 N r9.1 0 8).bind fun aa=>(if aa then ((Za5 N r9.1 0 9).bind fun a9=>(if a9 then ((Za5 N r9.1 0 10).bind fun a8=>(if a8 then ((Za5 N r9.1 0 2).bind fun a7=>(some a7)) else (some false))) else (some false))) else (some false)))).bind fun (af:Bool) =>
 (((if (r4.2==341) then (if (r6.2==342) then (if af then ((ZbF N a0.1 ([0,9])).bind fun a6=>(if a6 then ((ZbF N a0.1 ([0,8])).bind fun a5=>(if (!a5) then ((ZbF N a0.1 ([35,4])).bind fun a4=>(if a4 then (if (a2.1==60) then (some (a1.1==1)) else (some false)) else (some false))) else (some false))) else (some false))) else (some false)) else (some false)) else (some false))).bind fun (ae:Bool) =>
 (some ae))))))))))))))))))))
def Zbc (N:Nat)(r1:Zd)(r2:Zd)(r3:Zd)(r4:Zd)(r5:Zd)(r6:Zd)(r7:Zd)(r8:Zd)(i9:Int):Option ((Int)⊕((Unit)⊕(Bool))):=
 (if (decide (i9<((List.length [r1,r2,r3,r4,r5,r6,r7,r8,(Zd.mk ([0]) ([])),(Zd.mk ([241]) ([])),(Zd.mk ([31,32]) ([])),(Zd.mk (List.replicate 13 0) ([])),(Zd.mk ([1]) (List.replicate 193 (Zx.mk 0 0 0 0)))]:Nat):Int))) then ((idx [r1,r2,r3,r4,r5,r6,r7,r8,(Zd.mk ([0]) ([])),(Zd.mk ([241]) ([])),(Zd.mk ([31,32]) ([])),(Zd.mk (List.replicate 13 0) ([])),(Zd.mk ([1]) (List.replicate 193 (Zx.mk 0 0 0 0)))] i9).bind fun aa =>
 ((Zdx N aa 0 0).bind fun a4 =>
 ((idx [r1,r2,r3,r4,r5,r6,r7,r8,(Zd.mk ([0]) ([])),(Zd.mk ([241]) ([])),(Zd.mk ([31,32]) ([])),(Zd.mk (List.replicate 13 0) ([])),(Zd.mk ([1]) (List.replicate 193 (Zx.mk 0 0 0 0)))] i9).bind fun a9 =>
 ((Zbp N a9 0 0 0 0).bind fun a3 =>
 ((idx [r1,r2,r3,r4,r5,r6,r7,r8,(Zd.mk ([0]) ([])),(Zd.mk ([241]) ([])),(Zd.mk ([31,32]) ([])),(Zd.mk (List.replicate 13 0) ([])),(Zd.mk ([1]) (List.replicate 193 (Zx.mk 0 0 0 0)))] i9).bind fun a8 =>
 ((Zdy N a8 ([0])).bind fun a2 =>
 ((idx [r1,r2,r3,r4,r5,r6,r7,r8,(Zd.mk ([0]) ([])),(Zd.mk ([241]) ([])),(Zd.mk ([31,32]) ([])),(Zd.mk (List.replicate 13 0) ([])),(Zd.mk ([1]) (List.replicate 193 (Zx.mk 0 0 0 0)))] i9).bind fun a7 =>
 ((Zdz N a7).bind fun a1 =>
 ((((idx [r1,r2,r3,r4,r5,r6,r7,r8,(Zd.mk ([0]) ([])),(Zd.mk ([241]) ([])),(Zd.mk ([31,32]) ([])),(Zd.mk (List.replicate 13 0) ([])),(Zd.mk ([1]) (List.replicate 193 (Zx.mk 0 0 0 0)))] i9).bind fun a6=>((Zb6 N a6).bind fun a0=>(if (a0 != 340) then (some true) else (if (a4.2 != 340) then (some true) else (if (a3.2 != 340) then (some true) else (if (a2.2 != 340) then (some true) else (some (a1.2 != 340))))))))).bind fun (a5:Bool) =>
 (if a5 then (some (.inr (.inr false))) else (some (.inl (w64 (i9+1)))))))))))))) else (some (.inr (.inl ()))))
def law24_PlanKnown (N:Nat):Option (Bool):=
 ((ZZ N 1 0 0 1).bind fun r1 =>
 ((ZZ N (-1) 0 0 1).bind fun r2 =>
 ((ZZ N 0 48 0 1).bind fun r3 =>
 ((ZZ N 0 (-1) 0 1).bind fun r4 =>
 ((ZZ N 0 0 4 1).bind fun r5 =>
 ((ZZ N 0 0 (-1) 1).bind fun r6 =>
 ((ZZ N 0 0 0 0).bind fun r7 =>
 ((ZZ N 0 0 0 5).bind fun r8 =>
 ((ZaK (fun x:Int=>Zbc N r1 r2 r3 r4 r5 r6 r7 r8 x) N 0).bind fun ar=>match ar with
 | (.inl aw)=>((ZZ N 0 47 3 2).bind fun a0 =>
 ((Zdx N a0 0 3).bind fun a1 =>
 ((Zdx N a0 0 4).bind fun ap =>
 ((Zdx N a0 1 0).bind fun ao =>
 ((Zbp N a0 0 1 0 2).bind fun an =>
 ((Zbp N a0 0 0 1 0).bind fun am =>
 ((Zdy N a0 ([])).bind fun al =>
 ((Zdy N a0 ([4])).bind fun ak =>
 ((ZgW N (Zs.mk 0 ([]) ([])) (ZW.mk 0 0 0 0) ([])).bind fun aj =>
 ((ZeD N).bind fun ai =>
 ((ZgW N ai (ZW.mk 0 0 0 0) (List.replicate 13 (Zt.mk 0 0 0 0 0 0 (ZbH.mk 0 0) 0 ([])))).bind fun ag =>
 ((ZiQ 96 13 13 (Zt.mk 0 0 0 0 0 0 (ZbH.mk 0 0) 0 ([]))).bind fun au =>
 ((ZbD N au).bind fun af =>
 ((ZU N 1 40 9).bind fun ae =>
 ((ZU N 1 40 9).bind fun ad =>
 ((ZbD N ([ae,ad])).bind fun ac =>
 ((ZU N 1 31 9).bind fun ab =>
 ((ZU N 2 32 9).bind fun aa =>
 ((ZbD N ([ab,aa])).bind fun a9 =>
 ((ZU N 1 3 9).bind fun a8 =>
 ((ZU N 2 200 9).bind fun a7 =>
 ((ZbD N ([a8,a7])).bind fun a6 =>
 ((((Ze8 N).bind fun a5=>(if a5 then (if ((a1.1.Period==4)&&((a1.1.From==2)&&((a1.1.Long==2)&&true))) then (if (a1.2==0) then (if (ap.2==2) then (if (ao.2==2) then (if (an.2==2) then (if (am.2==2) then (if (al.2==2) then (if (ak.2==2) then ((ZbF N (Zd.mk ([4]) ([(Zx.mk 0 0 0 1),(Zx.mk 0 0 0 2)])) ([0])).bind fun a4=>(if (!a4) then ((ZbF N a0 ([3])).bind fun a3=>(if a3 then ((ZbF N (Zd.mk ([]) ([])) ([])).bind fun a2=>(if a2 then (some ((aj.2==260)&&((ag.2==320)&&((af.2==3)&&((ac.2==322)&&((a9.2==6)&&(a6.2==7))))))) else (some false))) else (some false))) else (some false))) else (some false)) else (some false)) else (some false)) else (some false)) else (some false)) else (some false)) else (some false)) else (some false)) else (some false)))).bind fun (av:Bool) =>
 (some av))))))))))))))))))))))))
 | (.inr aq)=>(some aq))))))))))
end Go.Sh

