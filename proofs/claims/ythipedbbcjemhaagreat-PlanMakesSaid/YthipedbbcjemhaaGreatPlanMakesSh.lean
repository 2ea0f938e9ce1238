/- Part of the proof. -/
import Derived.Test.YthipedbbcjemhaaGreatPlanMakesE26
set_option linter.all false
namespace Go.Sh
open Go Go.Eng
set_option maxRecDepth 100000
structure Zbi where
 Bridges:Int
 Stations:Int
 Chords:(List Int)
 Homes:(List Int)
 Pers:(List Int)
 Delays:(List Int)
def ZoV (v:Zbi):List PC:=[.int .u8 v.Bridges,.int .u8 v.Stations,.sl 1 false (List.map (eI .u8) v.Chords),.sl 1 false (List.map (eI .u8) v.Homes),.sl 1 false (List.map (eI .u8) v.Pers),.sl 1 false (List.map (eI .u8) v.Delays)]
structure ZbN where
 Reserved:Bool
 Two:Bool
 Node:Int
 Way:Int
 Size:Int
 Period:Int
 Burst:Int
 Rate:Int
def Zfn (v:ZbN):List PC:=[.bool v.Reserved,.bool v.Two,.int .u8 v.Node,.int .u8 v.Way,.int .u8 v.Size,.int .u8 v.Period,.int .u8 v.Burst,.int .u16 v.Rate]
structure Zlf where
 x0:Int
 x1:Int
 x2:Int
def Zsw (v:Zlf):List PC:=[.int .u8 v.x0,.int .u8 v.x1,.int .u8 v.x2]
structure Zhc where
 x0:Int
 x1:Int
 x2:Int
 x3:Int
def ZrK (v:Zhc):List PC:=[.int .u16 v.x0,.int .u16 v.x1,.int .u16 v.x2,.int .u16 v.x3]
structure ZaF where
 A:Int
 B:Int
 Per:Int
 Delay:Int
def Zat (v:ZaF):List PC:=[.int .i64 v.A,.int .i64 v.B,.int .i64 v.Per,.int .i64 v.Delay]
structure Zag where
 Nodes:Int
 Station:(List Bool)
 Links:(List ZaF)
structure Zez where
 Burst:Int
 Rate:Int
structure Zah where
 Id:Int
 Talker:Int
 Listener:Int
 Class:Int
 Size:Int
 Period:Int
 Bucket:Zez
 Deadline:Int
 Routes:(List (List Int))
def Zar (v:Zah):List PC:=[.int .i64 v.Id,.int .i64 v.Talker,.int .i64 v.Listener,.int .i64 v.Class,.int .i64 v.Size,.int .i64 v.Period,.int .i64 v.Bucket.Burst,.int .i64 v.Bucket.Rate,.int .i64 v.Deadline,.sl 1 false (List.map (eSl 1 eI64) v.Routes)]
structure ZaE where
 Grid:Int
 Slack:Int
 Proc:Int
 Cap:Int
structure ZaB where
 Stream:Int
 Port:Int
 From:Int
 Long:Int
def Zap (v:ZaB):List PC:=[.int .i64 v.Stream,.int .i64 v.Port,.int .i64 v.From,.int .i64 v.Long]
structure Zaw where
 Periods:(List Int)
 Uses:(List ZaB)
structure ZaQ where
 Port:Int
 Early:Int
 Late:Int
 Open:Int
 Long:Int
def ZaZ (v:ZaQ):List PC:=[.int .i64 v.Port,.int .i64 v.Early,.int .i64 v.Late,.int .i64 v.Open,.int .i64 v.Long]
structure ZbC where
 Problem:Zaw
 late:Bool
structure ZaL where
 Period:Int
 From:Int
 Long:Int
def ZbJ (v:ZaL):List PC:=[.int .i64 v.Period,.int .i64 v.From,.int .i64 v.Long]
structure Zc3 where
 x0:Bool
 x1:Bool
 x2:Bool
 x3:Bool
 x4:Bool
 x5:Bool
 x6:Bool
 x7:Bool
 x8:Bool
 x9:Bool
 x10:Bool
 x11:Bool
 x12:Bool
 x13:Bool
 x14:Bool
 x15:Bool
 x16:Bool
 x17:Bool
 x18:Bool
 x19:Bool
 x20:Bool
 x21:Bool
 x22:Bool
 x23:Bool
structure Za7 where
 Topo:Zag
structure Zau where
 x0:Bool
 x1:Bool
 x2:Bool
 x3:Bool
 x4:Bool
 x5:Bool
 x6:Bool
 x7:Bool
 x8:Bool
 x9:Bool
 x10:Bool
 x11:Bool
structure ZbU where
 port:Int
 from_:Int
 to_:Int
abbrev ZbL (f:Bool) (l:List ZbN):AV:=.p (.sl 8 f (List.map Zfn l))
abbrev s_eB (f:Bool) (l:List Bool):AV:=.p (.sl 1 f (List.map eB l))
abbrev Zae (f:Bool) (l:List ZaF):AV:=.p (.sl 4 f (List.map Zat l))
abbrev Zaf (f:Bool) (l:List Zah):AV:=.p (.sl 10 f (List.map Zar l))
abbrev Zad (f:Bool) (l:List Int):AV:=.p (.sl 1 f (List.map eI64 l))
abbrev Zas (f:Bool) (l:List ZaB):AV:=.p (.sl 4 f (List.map Zap l))
abbrev Zhd (f:Bool) (l:List Int):AV:=.p (.sl 1 f (List.map (eI .u8) l))
abbrev Zaq (f:Bool) (l:List (List Int)):AV:=.p (.sl 1 f (List.map (eSl 1 eI64) l))
abbrev ZbE (f:Bool) (l:List ZaL):AV:=.p (.sl 3 f (List.map ZbJ l))
abbrev Zbg (f:Bool) (l:List ZaQ):AV:=.p (.sl 5 f (List.map ZaZ l))
abbrev ZaH (v:Zbi):List AV:=[.p (.int .u8 v.Bridges),.p (.int .u8 v.Stations),Zhd false v.Chords,Zhd false v.Homes,Zhd false v.Pers,Zhd false v.Delays]
abbrev ZaP (v:ZbN):List AV:=[bv v.Reserved,bv v.Two,.p (.int .u8 v.Node),.p (.int .u8 v.Way),.p (.int .u8 v.Size),.p (.int .u8 v.Period),.p (.int .u8 v.Burst),.p (.int .u16 v.Rate)]
abbrev ZsB (v:Zlf):List AV:=[.p (.int .u8 v.x0),.p (.int .u8 v.x1),.p (.int .u8 v.x2)]
abbrev ZbW (v:Zhc):List AV:=[.p (.int .u16 v.x0),.p (.int .u16 v.x1),.p (.int .u16 v.x2),.p (.int .u16 v.x3)]
abbrev Za0 (v:ZaF):List AV:=[iv v.A,iv v.B,iv v.Per,iv v.Delay]
abbrev Zac (v:Zag):List AV:=[iv v.Nodes,s_eB false v.Station,Zae false v.Links]
abbrev Zf1 (v:Zez):List AV:=[iv v.Burst,iv v.Rate]
abbrev Zai (v:Zah):List AV:=[iv v.Id,iv v.Talker,iv v.Listener,iv v.Class,iv v.Size,iv v.Period,iv v.Bucket.Burst,iv v.Bucket.Rate,iv v.Deadline,Zaq false v.Routes]
abbrev Zak (v:ZaE):List AV:=[iv v.Grid,iv v.Slack,iv v.Proc,iv v.Cap]
abbrev Zbb (v:ZaB):List AV:=[iv v.Stream,iv v.Port,iv v.From,iv v.Long]
abbrev Zaj (v:Zaw):List AV:=[Zad false v.Periods,Zas false v.Uses]
abbrev Zcn (v:ZaQ):List AV:=[iv v.Port,iv v.Early,iv v.Late,iv v.Open,iv v.Long]
abbrev ZdG (v:ZaL):List AV:=[iv v.Period,iv v.From,iv v.Long]
abbrev Zbx (v:Zc3):List AV:=[bv v.x0,bv v.x1,bv v.x2,bv v.x3,bv v.x4,bv v.x5,bv v.x6,bv v.x7,bv v.x8,bv v.x9,bv v.x10,bv v.x11,bv v.x12,bv v.x13,bv v.x14,bv v.x15,bv v.x16,bv v.x17,bv v.x18,bv v.x19,bv v.x20,bv v.x21,bv v.x22,bv v.x23]
def Zc3.l (v:Zc3):List Bool:=[v.x0,v.x1,v.x2,v.x3,v.x4,v.x5,v.x6,v.x7,v.x8,v.x9,v.x10,v.x11,v.x12,v.x13,v.x14,v.x15,v.x16,v.x17,v.x18,v.x19,v.x20,v.x21,v.x22,v.x23]
def Zc3.get (v:Zc3)(i:Int):Option Bool:=idx v.l i
abbrev ZaJ (v:Zau):List AV:=[bv v.x0,bv v.x1,bv v.x2,bv v.x3,bv v.x4,bv v.x5,bv v.x6,bv v.x7,bv v.x8,bv v.x9,bv v.x10,bv v.x11]
def Zau.l (v:Zau):List Bool:=[v.x0,v.x1,v.x2,v.x3,v.x4,v.x5,v.x6,v.x7,v.x8,v.x9,v.x10,v.x11]
def Zau.ofL (l:List Bool):Zau:=⟨l.getD 0 false,l.getD 1 false,l.getD 2 false,l.getD 3 false,l.getD 4 false,l.getD 5 false,l.getD 6 false,l.getD 7 false,l.getD 8 false,l.getD 9 false,l.getD 10 false,l.getD 11 false⟩
def Zau.get (v:Zau)(i:Int):Option Bool:=idx v.l i
def Zau.set (v:Zau)(i:Int)(x:Bool):Zau:=Zau.ofL (v.l.set i.toNat x)
theorem Zau.l_ofL (l:List Bool)(h:l.length=12):(Zau.ofL l).l=l:=Zsh 12 false l h rfl
theorem Zau.l_set (v:Zau)(i:Int)(x:Bool):(v.set i x).l=v.l.set i.toNat x:=Zau.l_ofL _ (by rw [List.length_set];rfl)
theorem Zau.c_set (v:Zau)(i:Int)(x:Bool):ZaJ (v.set i x)=(v.l.set i.toNat x).map (λx=>bv x):=by rw [← Zau.l_set];rfl
abbrev Zbd (v:ZbU):List AV:=[iv v.port,iv v.from_,iv v.to_]
def Zgh (N:Nat)(a0_:Int)(a1_:Int)(a2_:Int):Option (ZaE):=
 (some (ZaE.mk (w64 (100+(w64 (20*(w64 (a0_)))))) (w64 ((Int.tmod a1_ 40))) (w64 (a2_)) 8000))
def Zes (N:Nat)(a0_:Zaw)(a1_:Zaw)(i4:Int):Option ((Int)⊕((Unit)⊕(Bool))):=
 (if (decide (i4<((List.length a0_.Periods:Nat):Int))) then ((idx a0_.Periods i4).bind λa1 =>
 ((idx a1_.Periods i4).bind λa0 =>
 (if (a1 != a0) then (some (.inr (.inr false))) else (some (.inl (w64 (i4+1))))))) else (some (.inr (.inl ()))))
def Zer (N:Nat)(a0_:Zaw)(a1_:Zaw)(a2:Int):Option ((Int)⊕((Unit)⊕(Bool))):=
 (if (decide (a2<((List.length a0_.Uses:Nat):Int))) then ((idx a0_.Uses a2).bind λa1 =>
 ((idx a1_.Uses a2).bind λa0 =>
 (if (!((a1.Stream==a0.Stream)&&((a1.Port==a0.Port)&&((a1.From==a0.From)&&((a1.Long==a0.Long)&&true))))) then (some (.inr (.inr false))) else (some (.inl (w64 (a2+1))))))) else (some (.inr (.inl ()))))
def ZcF (N:Nat)(a0_:Zaw)(a1_:Zaw):Option (Bool):=
 (if ((((List.length a0_.Periods:Nat):Int)!=((List.length a1_.Periods:Nat):Int))||(((List.length a0_.Uses:Nat):Int)!=((List.length a1_.Uses:Nat):Int))) then (some false) else ((ZaY (λx:Int=>Zes N a0_ a1_ x) N 0).bind λa3=>match a3 with
 | (.inl a5)=>((ZaY (λx:Int=>Zer N a0_ a1_ x) N 0).bind λa2=>match a2 with
 | (.inl a4)=>(some true)
 | (.inr a1)=>(some a1))
 | (.inr a0)=>(some a0)))
def Zev (N:Nat)(a0_:(List Int))(a1_:Int):Option (Int):=
 (if (decide (a1_<((List.length a0_:Nat):Int))) then ((idx a0_ a1_).bind λe2 =>
 (some (w64 (e2)))) else (some 0))
def Zei (N:Nat)(a0_:(List Int))(i1:Int)(a4:Bool)(a0:Int):Option ((Bool×Int)⊕((Bool))):=
 (if (decide (a0<((List.length a0_:Nat):Int))) then (((if a4 then ((idx a0_ a0).bind λa3=>((remI i1 a3).bind λa1=>(if (a1==0) then (some true) else (some false)))) else (some false))).bind λ(a2:Bool) =>
 (some (.inl (a2,(w64 (a0+1)))))) else (some (.inr a4)))
def ZdJ (N:Nat)(a0_:(List Int))(i1:Int):Option ((Int)⊕((Unit)⊕(Int))):=
 (if (decide (i1<=960)) then ((ZaY (λx:Bool×Int=>Zei N a0_ i1 x.1 x.2) N (true,0)).bind λa0 =>
 (if a0 then (some (.inr (.inr i1))) else (some (.inl (w64 (i1+1)))))) else (some (.inr (.inl ()))))
def ZiA (N:Nat)(a0_:(List Int)):Option (Int):=
 ((ZaY (λx:Int=>ZdJ N a0_ x) N 1).bind λa1=>match a1 with
 | (.inl a2)=>(some 0)
 | (.inr a0)=>(some a0))
def Zcg (N:Nat)(a0_:Int)(a1_:Int)(a2_:Int):Option (Zah):=
 (some (Zah.mk a0_ 0 2 7 100 a1_ (Zez.mk 0 0) a2_ ([[0,2]])))
def ZhK (N:Nat)(a0_:Zag)(a1_:ZaE)(a2_:Zah)(a3_:Int):Option (Zah×Int×Zag×ZaE):=
 (some (a2_,a3_,a0_,a1_))
def ZfC (N:Nat)(a0_:ZaF)(a1_:Int)(a2_:Int):Option (Bool):=
 (some (if (a0_.A==a1_) then ((a0_.B==a2_)||((a0_.A==a2_)&&(a0_.B==a1_))) else ((a0_.A==a2_)&&(a0_.B==a1_))))
def Zdd (N:Nat)(a0_:Zag)(a1_:Int):Option (Int):=
 ((idx a0_.Links (w64 (Int.tdiv a1_ 2))).bind λe1 =>
 (if ((Int.tmod a1_ 2)==1) then (some e1.B) else (some e1.A)))
def Zea (N:Nat)(a0_:Zag)(a1_:Int):Option (Int):=
 ((idx a0_.Links (w64 (Int.tdiv a1_ 2))).bind λe1 =>
 (if ((Int.tmod a1_ 2)==1) then (some e1.A) else (some e1.B)))
def Zbu (N:Nat)(a0_:Int)(a1_:Int)(a2_:Int):Option (Bool):=
 (some ((decide (a0_≥a1_))&&(decide (a0_<=a2_))))
def Zd5 (N:Nat)(a0_:Int)(a1_:Int):Option (Int):=
 ((quoI .i64 a0_ a1_).bind λq1 =>
 ((((remI a0_ a1_).bind λa0 =>
 (if (decide (a0<0)) then (some (w64 (q1-1))) else (some q1)))).bind λ(a1:Int) =>
 (some a1)))
def Zdi (N:Nat)(a0_:Int)(a1_:Int)(a2_:Int):Option (Bool):=
 (some ((decide (a0_≥a1_))&&(decide (a0_<=a2_))))
def ZhB (N:Nat)(a0_:Zag)(a1_:Int):Option (Int):=
 ((idx a0_.Links (w64 (Int.tdiv a1_ 2))).bind λe1 =>
 (some e1.Per))
def ZfD (N:Nat)(a0_:Zag)(a1_:Int):Option (Int):=
 ((idx a0_.Links (w64 (Int.tdiv a1_ 2))).bind λe1 =>
 (some e1.Delay))
def Zhx (N:Nat)(a0_:Int)(a1_:Int):Option (Int):=
 ((remI a0_ a1_).bind λm1 =>
 (((if (decide (m1<0)) then (some (w64 (m1+a1_))) else (some m1))).bind λ(a0:Int) =>
 (some a0)))
def ZkZ (N:Nat):Option (Zag):=
 (some (Zag.mk 3 ([true,false,true]) ([(ZaF.mk 0 1 8 5),(ZaF.mk 1 2 8 5)])))
def ZbP {σ:Type}(N:Nat)(y_:σ->ZaQ->Option (σ×Bool))(c0_:Zah)(c2_:Zag)(c3_:ZaE)(e3:(List Int))(i6:Int)(i7:Int)(i10:Int)(i11:Int)(i12:Int)(i8:Int)(g9:σ):Option ((Int×Int×Int×Int×Int×Int×σ)⊕((σ)⊕(σ))):=
 (if (decide (i6<((List.length e3:Nat):Int))) then ((idx e3 i6).bind λa4 =>
 (((if (decide (i6>0)) then ((idx c2_.Links (w64 (Int.tdiv i7 2))).bind λa2 =>
 ((quoI .i64 (w64 ((w64 ((w64 ((w64 ((w64 ((w64 (i12+i8))+a2.Delay))+c3_.Proc))+(w64 (2*c3_.Slack))))+c3_.Grid))-1)) c3_.Grid).bind λa5 =>
 (some ((w64 ((w64 ((w64 ((w64 (i12+i8))+a2.Delay))+c3_.Proc))-(w64 (2*c3_.Slack)))),(w64 ((w64 ((w64 ((w64 (i12+i8))+a2.Delay))+c3_.Proc))+(w64 (2*c3_.Slack)))),(w64 (a5*c3_.Grid)))))) else (some (i10,i11,i12)))).bind λ(a0:Int×Int×Int) =>
 ((idx c2_.Links (w64 (Int.tdiv a4 2))).bind λa3 =>
 ((y_ g9 (ZaQ.mk a4 a0.1 a0.2.1 a0.2.2 (w64 (c0_.Size*a3.Per)))).bind λa1 =>
 (if (!a1.2) then (some (.inr (.inr a1.1))) else (some (.inl ((w64 (i6+1)),a4,a0.1,a0.2.1,a0.2.2,(w64 (c0_.Size*a3.Per)),a1.1)))))))) else (some (.inr (.inl g9))))
def Zdf {σ:Type}(N:Nat)(y_:σ->ZaQ->Option (σ×Bool))(c0_:Zah)(c1_:Int)(c2_:Zag)(c3_:ZaE)(s_:σ):Option (σ):=
 ((idx c0_.Routes c1_).bind λe3 =>
 ((ZaY (λx:Int×Int×Int×Int×Int×Int×σ=>ZbP N y_ c0_ c2_ c3_ e3 x.1 x.2.1 x.2.2.1 x.2.2.2.1 x.2.2.2.2.1 x.2.2.2.2.2.1 x.2.2.2.2.2.2) N (0,0,0,0,0,0,s_)).bind λa2=>match a2 with
 | (.inl a1)=>(some a1)
 | (.inr a0)=>(some a0)))
def Zgr (N:Nat)(a0_:Zag)(a1_:Int):Option (Bool):=
 (some ((decide (a1_≥0))&&(decide (a1_<a0_.Nodes))))
def Zcy (N:Nat)(a0_:Zag)(a1_:(List Int))(i7:Int)(l8:(List Int)):Option ((Int×(List Int))⊕(((List Int)))):=
 (if (decide (i7<((List.length a1_:Nat):Int))) then ((idx a1_ i7).bind λa2 =>
 ((Zea N a0_ a2).bind λa0 =>
 ((appI 8 l8 [a0]).bind λa1 =>
 (some (.inl ((w64 (i7+1)),a1)))))) else (some (.inr l8)))
def ZdP (N:Nat)(a0_:Zag)(a1_:(List Int)):Option ((List Int)):=
 ((idx a1_ 0).bind λe1 =>
 ((Zdd N a0_ e1).bind λr2 =>
 ((ZaY (λx:Int×(List Int)=>Zcy N a0_ a1_ x.1 x.2) N (0,[r2])).bind λa0 =>
 (some a0))))
def Zdh (N:Nat)(a0_:Zag)(a1_:Int):Option (Bool):=
 ((((Zdi N a1_ 0 (w64 (a0_.Nodes-1))).bind λr1=>(if r1 then ((idx a0_.Station a1_).bind λe3=>(some e3)) else (some false)))).bind λ(j5:Bool) =>
 (some j5))
def Zcv (N:Nat)(a0_:Zag)(a2_:Zc3)(a2:Int)(a1:(List Bool)):Option ((Int×(List Bool))⊕(((List Bool)))):=
 (if (decide (a2<((List.length a0_.Links:Nat):Int))) then ((((idx a0_.Links a2).bind λa0 =>
 ((((a2_.get a2).bind λa7=>(if (!a7) then ((idx a1 a0.A).bind λa6=>((idx a1 a0.B).bind λa5=>(some (a6 != a5)))) else (some false)))).bind λ(a3:Bool) =>
 (if a3 then ((idx a1 a0.A).bind λa9 =>
 ((idx (List.set a1 (Int.toNat a0.A) true) a0.B).bind λa8 =>
 (some (List.set (List.set a1 (Int.toNat a0.A) true) (Int.toNat a0.B) true)))) else (some a1))))).bind λ(a4:(List Bool)) =>
 (some (.inl ((w64 (a2+1)),a4)))) else (some (.inr a1)))
def ZcO (N:Nat)(a0_:Zag)(a2_:Zc3)(i10:Int)(a1:(List Bool)):Option ((Int×(List Bool))⊕(((List Bool)))):=
 (if (decide (i10<a0_.Nodes)) then ((ZaY (λx:Int×(List Bool)=>Zcv N a0_ a2_ x.1 x.2) N (0,a1)).bind λa0 =>
 (some (.inl ((w64 (i10+1)),a0)))) else (some (.inr a1)))
def Zhp (N:Nat)(a0_:Zag)(a1_:Int)(a2_:Zc3):Option ((List Bool)):=
 ((ZiP 1 a0_.Nodes a0_.Nodes false).bind λl3 =>
 ((idx l3 a1_).bind λe4 =>
 ((ZaY (λx:Int×(List Bool)=>ZcO N a0_ a2_ x.1 x.2) N (0,(List.set l3 (Int.toNat a1_) true))).bind λa0 =>
 (some a0))))
def ZfM (N:Nat)(c0_:Zah):Option (Bool):=
 ((Zbu N c0_.Id 1 4095).bind λr2 =>
 (some r2))
def Zd2 (N:Nat)(a0_:Zag)(a1_:Int):Option (Bool):=
 ((((Zbu N a1_ 0 (w64 (a0_.Nodes-1))).bind λr1=>(if r1 then ((idx a0_.Station a1_).bind λe3=>(some e3)) else (some false)))).bind λ(j5:Bool) =>
 (some j5))
def ZfK (N:Nat)(c0_:Zah):Option (Bool):=
 ((Zbu N c0_.Size 84 1542).bind λr2 =>
 (some r2))
def ZfJ (N:Nat)(c0_:Zah):Option (Bool):=
 ((Zbu N c0_.Deadline 1 1099511627776).bind λr2 =>
 (some r2))
def ZfI (N:Nat)(c0_:Zah):Option (Bool):=
 ((Zbu N ((List.length c0_.Routes:Nat):Int) 1 2).bind λr2 =>
 (some r2))
def ZeW (N:Nat)(a0_:(List Int))(a1_:Int)(i1:Int):Option ((Int)⊕((Unit)⊕(Bool))):=
 (if (decide (i1<((List.length a0_:Nat):Int))) then ((idx a0_ i1).bind λa0 =>
 (if (a0==a1_) then (some (.inr (.inr true))) else (some (.inl (w64 (i1+1)))))) else (some (.inr (.inl ()))))
def ZgW (N:Nat)(a0_:(List Int))(a1_:Int):Option (Bool):=
 ((ZaY (λx:Int=>ZeW N a0_ a1_ x) N 0).bind λa1=>match a1 with
 | (.inl a2)=>(some false)
 | (.inr a0)=>(some a0))
def ZgH (N:Nat)(a0_:Zaw)(a1_:Int)(a2_:Int):Option (Bool):=
 (((if (decide (a2_≥0)) then ((idx a0_.Periods a1_).bind λe2=>(some (decide (a2_<e2)))) else (some false))).bind λ(j4:Bool) =>
 (some j4))
def ZcA (N:Nat)(a0_:Zag)(a1_:Int)(i3:Int)(l4:(List Int)):Option ((Int×(List Int))⊕(((List Int)))):=
 (if (decide (i3<(w64 (2*((List.length a0_.Links:Nat):Int))))) then ((((Zdd N a0_ i3).bind λa0 =>
 (if (a0==a1_) then ((appI 8 l4 [i3]).bind λa1 =>
 (some a1)) else (some l4)))).bind λ(a2:(List Int)) =>
 (some (.inl ((w64 (i3+1)),a2)))) else (some (.inr l4)))
def ZfB (N:Nat)(a0_:Zag)(a1_:Int):Option ((List Int)):=
 ((ZaY (λx:Int×(List Int)=>ZcA N a0_ a1_ x.1 x.2) N (0,[])).bind λa0 =>
 (some a0))
def ZhA (N:Nat)(a0_:Zag)(a1_:Int):Option (Bool):=
 (some ((decide (a1_≥0))&&(decide (a1_<(w64 (2*((List.length a0_.Links:Nat):Int)))))))
def Zhq (N:Nat)(a0_:Zag)(a1_:Int):Option (Bool):=
 (some ((decide (a1_≥0))&&(decide (a1_<a0_.Nodes))))
def ZgP (N:Nat)(a0_:Int)(c0_:Zag):Option (Bool):=
 ((idx c0_.Links a0_).bind λe2 =>
 ((((idx c0_.Station e2.A).bind λe4=>(if (!e4) then (some true) else ((idx c0_.Station e2.B).bind λe8=>(some (!e8)))))).bind λ(j9:Bool) =>
 (some j9)))
def Zc5 (N:Nat)(e2:ZaF)(l4:List ZaF)(i5:Int):Option ((Int)⊕((Unit)⊕(Bool))):=
 (if (decide (i5<((List.length l4:Nat):Int))) then ((idx l4 i5).bind λa0 =>
 (if (if (e2.A==a0.A) then ((e2.B==a0.B)||((e2.A==a0.B)&&(e2.B==a0.A))) else ((e2.A==a0.B)&&(e2.B==a0.A))) then (some (.inr (.inr false))) else (some (.inl (w64 (i5+1)))))) else (some (.inr (.inl ()))))
def ZfT (N:Nat)(a0_:Int)(c0_:Zag):Option (Bool):=
 ((idx c0_.Links a0_).bind λe2 =>
 ((subI c0_.Links 0 a0_).bind λl4 =>
 ((ZaY (λx:Int=>Zc5 N e2 l4 x) N 0).bind λa1=>match a1 with
 | (.inl a2)=>(some true)
 | (.inr a0)=>(some a0))))
def ZgO (N:Nat)(a0_:Int)(c0_:Zag):Option (Bool):=
 ((idx c0_.Links a0_).bind λe2 =>
 (some ((decide (e2.Per≥1))&&((decide (e2.Per<=1000))&&((decide (e2.Delay≥0))&&(decide (e2.Delay<=10000)))))))
def Zbh (N:Nat)(a0_:(List Bool))(a1_:Bool)(i1:Int):Option ((Int)⊕((Unit)⊕(Int))):=
 (if (decide (i1<((List.length a0_:Nat):Int))) then ((idx a0_ i1).bind λa0 =>
 (if (a1_==a0) then (some (.inr (.inr i1))) else (some (.inl (w64 (i1+1)))))) else (some (.inr (.inl ()))))
def ZcP (N:Nat)(a0_:(List Bool))(a1_:Bool):Option (Int):=
 ((ZaY (λx:Int=>Zbh N a0_ a1_ x) N 0).bind λa1=>match a1 with
 | (.inl a2)=>(some (-1))
 | (.inr a0)=>(some a0))
def ZdH (N:Nat)(a0_:Int)(a1_:Int)(a2_:Int):Option (Bool):=
 (some ((decide (a1_<=a0_))&&(decide (a0_<=a2_))))
def Zc6 (N:Nat)(a1_:(List Int))(a2:Int)(a0:Int):Option ((Int)⊕((Unit)⊕(Bool))):=
 (if (decide (a0<((List.length a1_:Nat):Int))) then ((idx a1_ a0).bind λa1 =>
 (if ((w64 (Int.tdiv a2 2))==(w64 (Int.tdiv a1 2))) then (some (.inr (.inr true))) else (some (.inl (w64 (a0+1)))))) else (some (.inr (.inl ()))))
def Zc7 (N:Nat)(a0_:(List Int))(a1_:(List Int))(i1:Int):Option ((Int)⊕((Unit)⊕(Bool))):=
 (if (decide (i1<((List.length a0_:Nat):Int))) then ((idx a0_ i1).bind λa2 =>
 ((ZaY (λx:Int=>Zc6 N a1_ a2 x) N 0).bind λa1=>match a1 with
 | (.inl a3)=>(some (.inl (w64 (i1+1))))
 | (.inr a0)=>(some (.inr (.inr a0))))) else (some (.inr (.inl ()))))
def ZfW (N:Nat)(a0_:(List Int))(a1_:(List Int)):Option (Bool):=
 ((ZaY (λx:Int=>Zc7 N a0_ a1_ x) N 0).bind λa1=>match a1 with
 | (.inl a2)=>(some false)
 | (.inr a0)=>(some a0))
def ZkQ (N:Nat)(a0_:Zaw)(a1_:Int)(a2_:Int):Option (Zaw×Int×Int):=
 (some (a0_,a1_,a2_))
def Zgj (N:Nat)(a0_:Zaw)(a1_:ZaB)(a2_:Int):Option (ZaL):=
 ((idx a0_.Periods a1_.Stream).bind λe1 =>
 ((remI (w64 (a1_.From+a2_)) e1).bind λm2 =>
 (some (ZaL.mk e1 m2 a1_.Long))))
def ZdO (N:Nat)(a0_:ZaL):Option (Int):=
 (if ((decide (a0_.Period<1))||((decide (a0_.Period>960))||((decide (a0_.From<0))||(decide (a0_.From≥a0_.Period))))) then (some 330) else (if ((decide (a0_.Long<1))||(decide (a0_.Long>a0_.Period))) then (some 330) else (some 0)))
def Zdo (N:Nat)(i1:Int)(i2:Int):Option ((Int×Int)⊕((Int))):=
 (if (i2 != 0) then ((remI i1 i2).bind λa0 =>
 (some (.inl (i2,a0)))) else (some (.inr i1)))
def Zfu (N:Nat)(a0_:Int)(a1_:Int):Option (Int):=
 ((ZaY (λx:Int×Int=>Zdo N x.1 x.2) N (a0_,a1_)).bind λa0 =>
 (some a0))
def ZdE (N:Nat)(a0_:Za7)(a1_:(List Int)):Option ((List Int)×Za7):=
 (some (a1_,a0_))
def Zfg {σ:Type}(N:Nat)(y_:σ->ZaB->ZaB->Option (σ×Bool))(c0_:Zaw)(c2_:Int)(i4:Int)(a5:ZaB)(a1:Int)(a3:σ):Option ((Int×σ)⊕((σ)⊕(σ))):=
 (if (decide (a1<((List.length c0_.Uses:Nat):Int))) then ((idx c0_.Uses a1).bind λa2 =>
 (((if (a1==i4) then (some true) else (if (a2.Stream != c2_) then (some true) else (some (a2.Port != a5.Port))))).bind λ(a4:Bool) =>
 (if a4 then (some (.inl ((w64 (a1+1)),a3))) else ((y_ a3 a5 a2).bind λa0 =>
 (if (!a0.2) then (some (.inr (.inr a0.1))) else (some (.inl ((w64 (a1+1)),a0.1)))))))) else (some (.inr (.inl a3))))
def Zfh {σ:Type}(N:Nat)(y_:σ->ZaB->ZaB->Option (σ×Bool))(c0_:Zaw)(c1_:Int)(c2_:Int)(i4:Int)(g5:σ):Option ((Int×σ)⊕((σ)⊕(σ))):=
 (if (decide (i4<((List.length c0_.Uses:Nat):Int))) then ((idx c0_.Uses i4).bind λa3 =>
 (if (a3.Stream != c1_) then (some (.inl ((w64 (i4+1)),g5))) else ((ZaY (λx:Int×σ=>Zfg N y_ c0_ c2_ i4 a3 x.1 x.2) N (0,g5)).bind λa2=>match a2 with
 | (.inl a1)=>(some (.inl ((w64 (i4+1)),a1)))
 | (.inr a0)=>(some (.inr (.inr a0)))))) else (some (.inr (.inl g5))))
def ZiG {σ:Type}(N:Nat)(y_:σ->ZaB->ZaB->Option (σ×Bool))(c0_:Zaw)(c1_:Int)(c2_:Int)(s_:σ):Option (σ):=
 ((ZaY (λx:Int×σ=>Zfh N y_ c0_ c1_ c2_ x.1 x.2) N (0,s_)).bind λa2=>match a2 with
 | (.inl a1)=>(some a1)
 | (.inr a0)=>(some a0))
def Za4 {σ:Type}(N:Nat)(y_:σ->Int->ZbU->Option (σ×Bool))(c0_:(List Int))(c1_:Za7)(i4:Int)(g5:σ):Option ((Int×σ)⊕((σ))):=
 (if (decide (i4<((List.length c0_:Nat):Int))) then ((idx c0_ i4).bind λa1 =>
 (((if (decide (a1<0)) then (some true) else (some (decide (a1≥(w64 (2*((List.length c1_.Topo.Links:Nat):Int)))))))).bind λ(a4:Bool) =>
 (if a4 then (some (.inr g5)) else ((idx c1_.Topo.Links (w64 (Int.tdiv a1 2))).bind λa2 =>
 (((if ((Int.tmod a1 2)==1) then (some (a2.B,a2.A)) else (some (a2.A,a2.B)))).bind λ(a3:Int×Int) =>
 ((y_ g5 i4 (ZbU.mk a1 a3.1 a3.2)).bind λa0 =>
 (if (!a0.2) then (some (.inr a0.1)) else (some (.inl ((w64 (i4+1)),a0.1)))))))))) else (some (.inr g5)))
def Zc0 {σ:Type}(N:Nat)(y_:σ->Int->ZbU->Option (σ×Bool))(c0_:(List Int))(c1_:Za7)(s_:σ):Option (σ):=
 ((ZaY (λx:Int×σ=>Za4 N y_ c0_ c1_ x.1 x.2) N (0,s_)).bind λa0 =>
 (some a0))
def Zbr (N:Nat)(a0_:(List Int))(a1_:Int)(i1:Int):Option ((Int)⊕((Unit)⊕(Int))):=
 (if (decide (i1<((List.length a0_:Nat):Int))) then ((idx a0_ i1).bind λa0 =>
 (if (a1_==a0) then (some (.inr (.inr i1))) else (some (.inl (w64 (i1+1)))))) else (some (.inr (.inl ()))))
def Zdg (N:Nat)(a0_:(List Int))(a1_:Int):Option (Int):=
 ((ZaY (λx:Int=>Zbr N a0_ a1_ x) N 0).bind λa1=>match a1 with
 | (.inl a2)=>(some (-1))
 | (.inr a0)=>(some a0))
def Ziy (N:Nat)(a0_:ZaL)(a1_:ZaL):Option (Int×Int×Int):=
 ((Zfu N a0_.Period a1_.Period).bind λr1 =>
 (some (a0_.Long,(w64 (r1-a1_.Long)),r1)))
def ZjJ (N:Nat)(a0_:Int)(a1_:Int):Option (Int):=
 ((remI a0_ a1_).bind λm1 =>
 ((remI (w64 (m1+a1_)) a1_).bind λm2 =>
 (some m2)))
def ZcZ (N:Nat)(a0_:ZaE):Option (Int):=
 ((((Zbu N a0_.Grid 1 10000).bind λr1=>(if (!r1) then (some true) else ((Zbu N a0_.Slack 0 1000).bind λr4=>(some (!r4)))))).bind λ(j5:Bool) =>
 (if j5 then (some 320) else ((((Zbu N a0_.Proc 0 10000).bind λr7=>(if (!r7) then (some true) else ((Zbu N a0_.Cap 1542 65536).bind λa0=>(some (!a0)))))).bind λ(a1:Bool) =>
 (if a1 then (some 320) else (some 0)))))
def ZgE (N:Nat)(a0_:ZaE):Option (Bool):=
 ((((Zdi N a0_.Grid 1 10000).bind λr1=>(if r1 then ((Zdi N a0_.Slack 0 1000).bind λr3=>(if r3 then ((Zdi N a0_.Proc 0 10000).bind λr5=>(if r5 then ((Zdi N a0_.Cap 1542 65536).bind λr7=>(some r7)) else (some false))) else (some false))) else (some false)))).bind λ(a0:Bool) =>
 (some a0))
def Ze1 (N:Nat)(a1_:ZaE)(a1:ZaQ)(a2:Int)(a0:Int):Option ((Int)⊕((Int))):=
 (if (decide (a0<(w64 ((w64 ((w64 ((w64 (a1.Open+a1.Long))+a2))+a1_.Proc))+(w64 (2*a1_.Slack)))))) then (some (.inl (w64 (a0+a1_.Grid)))) else (some (.inr a0)))
def Zdk (N:Nat)(a0_:Zag)(a1_:ZaE)(a2_:Zah)(a3_:(List Int))(i8:Int)(l9:(List ZaQ)):Option ((Int×(List ZaQ))⊕(((List ZaQ)))):=
 (if (decide (i8<((List.length a3_:Nat):Int))) then ((idx l9 (w64 (i8-1))).bind λa0 =>
 ((ZfD N a0_ a0.Port).bind λa1 =>
 ((idx a3_ i8).bind λa6 =>
 ((idx a3_ i8).bind λa5 =>
 ((ZhB N a0_ a5).bind λa4 =>
 ((ZaY (λx:Int=>Ze1 N a1_ a0 a1 x) N 0).bind λa2 =>
 ((appI 40 l9 [(ZaQ.mk a6 (w64 ((w64 ((w64 ((w64 (a0.Open+a0.Long))+a1))+a1_.Proc))-(w64 (2*a1_.Slack)))) (w64 ((w64 ((w64 ((w64 (a0.Open+a0.Long))+a1))+a1_.Proc))+(w64 (2*a1_.Slack)))) a2 (w64 (a2_.Size*a4)))]).bind λa3 =>
 (some (.inl ((w64 (i8+1)),a3)))))))))) else (some (.inr l9)))
def Zhy (N:Nat)(a0_:Zag)(a1_:ZaE)(a2_:Zah)(a3_:(List Int)):Option ((List ZaQ)):=
 ((idx a3_ 0).bind λe1 =>
 ((idx a3_ 0).bind λe2 =>
 ((ZhB N a0_ e2).bind λr3 =>
 ((ZaY (λx:Int×(List ZaQ)=>Zdk N a0_ a1_ a2_ a3_ x.1 x.2) N (1,[(ZaQ.mk e1 0 0 0 (w64 (a2_.Size*r3)))])).bind λa0 =>
 (some a0)))))
def ZiC (N:Nat)(a0_:Zag)(a1_:ZaE)(a2_:Zah)(a3_:(List Int)):Option (Int):=
 ((Zhy N a0_ a1_ a2_ a3_).bind λr1 =>
 ((idx r1 (w64 (((List.length r1:Nat):Int)-1))).bind λe2 =>
 ((ZfD N a0_ e2.Port).bind λr3 =>
 (some (w64 ((w64 ((w64 (e2.Open+e2.Long))+r3))+a1_.Proc))))))
def Zgs (N:Nat)(a0_:Zag)(a1_:ZaF):Option (Bool):=
 ((((Zgr N a0_ a1_.A).bind λr1=>(if (!r1) then (some true) else ((Zgr N a0_ a1_.B).bind λr4=>(if (!r4) then (some true) else (if (a1_.A==a1_.B) then (some true) else ((idx a0_.Station a1_.A).bind λe9=>(if e9 then ((idx a0_.Station a1_.B).bind λa1=>(some a1)) else (some false))))))))).bind λ(a0:Bool) =>
 (if a0 then (some false) else (some ((decide (a1_.Per≥1))&&((decide (a1_.Per<=1000))&&((decide (a1_.Delay≥0))&&(decide (a1_.Delay<=10000))))))))
def Zcb (N:Nat)(a0_:Zag)(a2_:(List Int))(a2:Int)(a1:(List Bool)):Option ((Int×(List Bool))⊕(((List Bool)))):=
 (if (decide (a2<((List.length a0_.Links:Nat):Int))) then ((((idx a0_.Links a2).bind λa0 =>
 ((((ZgW N a2_ a2).bind λa3=>(if (!a3) then ((idx a1 a0.A).bind λa7=>(if a7 then (some true) else ((idx a1 a0.B).bind λa6=>(some a6)))) else (some false)))).bind λ(a4:Bool) =>
 (if a4 then ((idx a1 a0.A).bind λa9 =>
 ((idx (List.set a1 (Int.toNat a0.A) true) a0.B).bind λa8 =>
 (some (List.set (List.set a1 (Int.toNat a0.A) true) (Int.toNat a0.B) true)))) else (some a1))))).bind λ(a5:(List Bool)) =>
 (some (.inl ((w64 (a2+1)),a5)))) else (some (.inr a1)))
def Zcz (N:Nat)(a0_:Zag)(a2_:(List Int))(i10:Int)(a1:(List Bool)):Option ((Int×(List Bool))⊕(((List Bool)))):=
 (if (decide (i10<a0_.Nodes)) then ((ZaY (λx:Int×(List Bool)=>Zcb N a0_ a2_ x.1 x.2) N (0,a1)).bind λa0 =>
 (some (.inl ((w64 (i10+1)),a0)))) else (some (.inr a1)))
def ZgF (N:Nat)(a0_:Zag)(a1_:Int)(a2_:(List Int)):Option ((List Bool)):=
 ((ZiP 1 a0_.Nodes a0_.Nodes false).bind λl3 =>
 ((idx l3 a1_).bind λe4 =>
 ((ZaY (λx:Int×(List Bool)=>Zcz N a0_ a2_ x.1 x.2) N (0,(List.set l3 (Int.toNat a1_) true))).bind λa0 =>
 (some a0))))
def Zfv (N:Nat)(a0_:Int)(a1_:Int):Option (Int):=
 ((Zhx N a0_ a1_).bind λr1 =>
 ((quoI .i64 (w64 (a0_-r1)) a1_).bind λq2 =>
 (some q2)))
def Zce (N:Nat)(a0_:Zag)(l8:(List Int))(a1:(List Int))(a0:Int)(a2:(List Int)):Option ((Int×(List Int))⊕(((List Int)))):=
 (if (decide (a0<((List.length a1:Nat):Int))) then ((((idx a1 a0).bind λa8 =>
 ((Zea N a0_ a8).bind λa4 =>
 ((ZgW N l8 a4).bind λa3 =>
 (if (!a3) then ((idx a1 a0).bind λa7 =>
 ((appI 8 a2 [a7]).bind λa5 =>
 (some a5))) else (some a2)))))).bind λ(a6:(List Int)) =>
 (some (.inl ((w64 (a0+1)),a6)))) else (some (.inr a2)))
def Zdl (N:Nat)(a0_:Zag)(a2_:Int)(i7:Int)(l8:(List Int))(l9:(List Int)):Option ((Int×(List Int)×(List Int))⊕(((List Int))⊕((List Int)))):=
 (((if (decide (((List.length l9:Nat):Int)<8)) then (if (((List.length l9:Nat):Int)==0) then (some true) else ((idx a0_.Station i7).bind λa8=>(some (!a8)))) else (some false))).bind λ(a7:Bool) =>
 (if a7 then ((ZfB N a0_ i7).bind λa6 =>
 ((ZaY (λx:Int×(List Int)=>Zce N a0_ l8 a6 x.1 x.2) N (0,[])).bind λa0 =>
 (if (((List.length a0:Nat):Int)==0) then (some (.inr (.inr l9))) else ((remI (w64 ((w64 (a2_))+(w64 (3*((List.length l9:Nat):Int))))) ((List.length a0:Nat):Int)).bind λa3 =>
 ((idx a0 a3).bind λa2 =>
 ((appI 8 l9 [a2]).bind λa5 =>
 ((Zea N a0_ a2).bind λa1 =>
 ((appI 8 l8 [a1]).bind λa4 =>
 (some (.inl (a1,a4,a5))))))))))) else (some (.inr (.inl l9)))))
def Zhz (N:Nat)(a0_:Zag)(a1_:Int)(a2_:Int):Option ((List Int)):=
 ((remI (w64 (a1_)) a0_.Nodes).bind λm1 =>
 ((ZaY (λx:Int×(List Int)×(List Int)=>Zdl N a0_ a2_ x.1 x.2.1 x.2.2) N (m1,[m1],[])).bind λa2=>match a2 with
 | (.inl a1)=>(some a1)
 | (.inr a0)=>(some a0)))
def Zdq (N:Nat)(a0_:Zag)(a1_:(List Int))(i4:Int):Option ((Int)⊕((Unit)⊕(Bool))):=
 (if (decide (i4<((List.length a1_:Nat):Int))) then ((idx a1_ i4).bind λa1 =>
 ((ZhA N a0_ a1).bind λa0 =>
 (if (!a0) then (some (.inr (.inr false))) else (some (.inl (w64 (i4+1))))))) else (some (.inr (.inl ()))))
def Zdp (N:Nat)(a0_:Zag)(a1_:(List Int))(a1:(List Int))(a0:Int):Option ((Int)⊕((Unit)⊕(Bool))):=
 (if (decide (a0<((List.length a1:Nat):Int))) then ((subI a1 0 a0).bind λa4 =>
 ((idx a1 a0).bind λaa =>
 ((ZgW N a4 aa).bind λa3 =>
 (if a3 then (some (.inr (.inr false))) else (((if (decide (a0>0)) then (if (decide (a0<((List.length a1_:Nat):Int))) then ((idx a1 a0).bind λa9=>((idx a0_.Station a9).bind λa8=>(if a8 then (some true) else ((idx a1_ a0).bind λa7=>((Zdd N a0_ a7).bind λa2=>((idx a1 a0).bind λa6=>(some (a2 != a6)))))))) else (some false)) else (some false))).bind λ(a5:Bool) =>
 (if a5 then (some (.inr (.inr false))) else (some (.inl (w64 (a0+1)))))))))) else (some (.inr (.inl ()))))
def Zdr (N:Nat)(a0_:Zag)(a1_:(List Int)):Option (Bool):=
 (if ((decide (((List.length a1_:Nat):Int)<1))||(decide (((List.length a1_:Nat):Int)>8))) then (some false) else ((ZaY (λx:Int=>Zdq N a0_ a1_ x) N 0).bind λa4=>match a4 with
 | (.inl a6)=>((ZdP N a0_ a1_).bind λa3 =>
 ((ZaY (λx:Int=>Zdp N a0_ a1_ a3 x) N 0).bind λa2=>match a2 with
 | (.inl a5)=>(some true)
 | (.inr a1)=>(some a1)))
 | (.inr a0)=>(some a0)))
def ZcJ (N:Nat)(a0_:(List Int))(a1_:(List Int))(i1:Int):Option ((Int)⊕((Unit)⊕(Bool))):=
 (if (decide (i1<(w64 (((List.length a0_:Nat):Int)-1)))) then ((idx a0_ i1).bind λa1 =>
 ((ZgW N a1_ a1).bind λa0 =>
 (if a0 then (some (.inr (.inr true))) else (some (.inl (w64 (i1+1))))))) else (some (.inr (.inl ()))))
def Zeu (N:Nat)(a0_:(List Int))(a1_:(List Int)):Option (Bool):=
 ((ZaY (λx:Int=>ZcJ N a0_ a1_ x) N 1).bind λa1=>match a1 with
 | (.inl a2)=>(some false)
 | (.inr a0)=>(some a0))
def ZbT (N:Nat)(a0_:(List Bool))(a1_:Bool):Option (Bool):=
 ((ZcP N a0_ a1_).bind λr1 =>
 (some (decide (r1≥0))))
def ZfL (N:Nat)(c0_:Zag)(c1_:Zah):Option (Bool):=
 ((((Zd2 N c0_ c1_.Talker).bind λr3=>(if r3 then ((Zd2 N c0_ c1_.Listener).bind λr7=>(if r7 then (some (c1_.Talker != c1_.Listener)) else (some false))) else (some false)))).bind λ(a0:Bool) =>
 (some a0))
def Zha (N:Nat)(a0_:Zez):Option (Int):=
 ((((ZdH N a0_.Burst 1 1048576).bind λr1=>(if (!r1) then (some true) else ((ZdH N a0_.Rate 1 2097152).bind λr4=>(some (!r4)))))).bind λ(j5:Bool) =>
 (if j5 then (some 130) else (some 0)))
def ZbZ (N:Nat)(a0_:(List ZaL))(i2:Int):Option ((Int)⊕((Unit)⊕(Int))):=
 (if (decide (i2<((List.length a0_:Nat):Int))) then ((idx a0_ i2).bind λa1 =>
 ((ZdO N a1).bind λa0 =>
 (if (a0 != 0) then (some (.inr (.inr a0))) else (some (.inl (w64 (i2+1))))))) else (some (.inr (.inl ()))))
def ZdW (N:Nat)(a0_:(List ZaL)):Option (Int):=
 (if (decide (((List.length a0_:Nat):Int)>32)) then (some 3) else ((ZaY (λx:Int=>ZbZ N a0_ x) N 0).bind λa1=>match a1 with
 | (.inl a2)=>(some 0)
 | (.inr a0)=>(some a0)))
def Zcd (N:Nat)(a0_:Int)(a1_:(List Int))(i1:Int)(i2:Int):Option ((Int×Int)⊕((Int))):=
 (if (decide (i2<((List.length a1_:Nat):Int))) then ((idx a1_ i2).bind λa0 =>
 ((Zfu N i1 a0).bind λa2 =>
 ((quoI .i64 i1 a2).bind λa1 =>
 (if (decide ((w64 (a1*a0))>a0_)) then (some (.inr (w64 (a1*a0)))) else (some (.inl ((w64 (a1*a0)),(w64 (i2+1))))))))) else (some (.inr i1)))
def ZfX (N:Nat)(a0_:Int)(a1_:(List Int)):Option (Int):=
 ((ZaY (λx:Int×Int=>Zcd N a0_ a1_ x.1 x.2) N (1,0)).bind λa0 =>
 (some a0))
def ZgQ (N:Nat)(a0_:Int)(c0_:Zag):Option (Bool):=
 ((idx c0_.Links a0_).bind λe2 =>
 ((((Zhq N c0_ e2.A).bind λr4=>(if r4 then ((Zhq N c0_ e2.B).bind λr7=>(if r7 then (some (e2.A != e2.B)) else (some false))) else (some false)))).bind λ(a0:Bool) =>
 (some a0)))
def Zbz (N:Nat)(a0_:Za7)(a3:Int)(a2:Int)(a1:Zau)(a8:Int)(a0:ZbU):Option ((Int×Int×Zau)×Nat):=
 (if (a8==0) then ((a1.get a0.from_).bind λab =>
 (((Zau.set a1 a0.from_ true).get a0.to_).bind λa7 =>
 (if a7 then (some ((a3,a2,(Zau.set a1 a0.from_ true)),1)) else (((Zau.set a1 a0.from_ true).get a0.to_).bind λaa =>
 (some (((w64 (a3+1)),a0.to_,(Zau.set (Zau.set a1 a0.from_ true) a0.to_ true)),0)))))) else (((if (a0.from_ != a2) then (some true) else ((idx a0_.Topo.Station a2).bind λa6=>(some a6)))).bind λ(a4:Bool) =>
 (if a4 then (some ((a3,a2,a1),1)) else ((a1.get a0.to_).bind λa5 =>
 (if a5 then (some ((a3,a2,a1),1)) else ((a1.get a0.to_).bind λa9 =>
 (some (((w64 (a3+1)),a0.to_,(Zau.set a1 a0.to_ true)),0))))))))
def Zck (N:Nat)(a0_:Za7)(a1_:(List Int)):Option (Bool):=
 (if ((decide (((List.length a1_:Nat):Int)<1))||(decide (((List.length a1_:Nat):Int)>8))) then (some false) else ((((ZdE N a0_ a1_).bind λa1 =>
 ((Zc0 N (λ(s:(Int×Int×Zau)×Nat) (a3:Int) (a2:ZbU)=>Zim (λv:Int×Int×Zau=>Zbz N a0_ v.1 v.2.1 v.2.2 a3 a2) s) a1.1 a1.2 ((0,0,(Zau.mk false false false false false false false false false false false false)),0)).bind λa0 =>
 (if (a0.2==0) then (some a0.1.1) else (if (a0.2==1) then (some a0.1.1) else none))))).bind λ(a4:Int) =>
 (some (a4==((List.length a1_:Nat):Int)))))
def ZbM (N:Nat)(a3:(List Int))(x13:Int)(x14:ZbU):Option ((List Int)):=
 (((if (x13==0) then ((appI 8 a3 [x14.from_]).bind λa1 =>
 (some a1)) else (some a3))).bind λ(a2:(List Int)) =>
 ((appI 8 a2 [x14.to_]).bind λa0 =>
 (some a0)))
def ZcH (N:Nat)(a0_:Za7)(a1_:(List Int)):Option ((List Int)):=
 ((ZiP 8 0 (w64 (((List.length a1_:Nat):Int)+1)) 0).bind λl3 =>
 ((ZdE N a0_ a1_).bind λr7 =>
 ((Zc0 N (λ(s:(List Int)) (x13:Int) (x14:ZbU)=>Ze5 (λv:(List Int)=>ZbM N v x13 x14) s) r7.1 r7.2 l3).bind λa0 =>
 (some a0))))
def Zb3 (N:Nat)(a0_:(List Int))(a1_:Int):Option (Bool):=
 ((Zdg N a0_ a1_).bind λr1 =>
 (some (decide (r1≥0))))
def ZhQ (N:Nat)(a0_:ZaL)(a1_:ZaL):Option (Bool):=
 (if ((a0_.Period==a1_.Period)&&((a0_.From==a1_.From)&&((a0_.Long==a1_.Long)&&true))) then (some false) else ((Ziy N a0_ a1_).bind λr2 =>
 ((ZjJ N (w64 (a1_.From-a0_.From)) r2.2.2).bind λr3 =>
 (some ((decide (r2.1<=r3))&&(decide (r3<=r2.2.1)))))))
def Zfa (N:Nat)(a0_:Za7)(c0_:(List Int)):Option ((List Int)×Int):=
 ((ZcH N a0_ c0_).bind λr2 =>
 (some (r2,0)))
def Zb1 (N:Nat)(a1_:Zag)(a2_:Int)(a3_:Int)(i14:Int):Option ((Int)⊕((Unit)⊕(Zag))):=
 (if (decide (i14<((List.length a1_.Links:Nat):Int))) then ((idx a1_.Links i14).bind λa1 =>
 ((ZfC N a1 a2_ a3_).bind λa0 =>
 (if a0 then (some (.inr (.inr a1_))) else (some (.inl (w64 (i14+1))))))) else (some (.inr (.inl ()))))
def Zbj (N:Nat)(a0_:Zbi)(a1_:Zag)(a2_:Int)(a3_:Int):Option (Zag):=
 ((Zev N a0_.Pers ((List.length a1_.Links:Nat):Int)).bind λr2 =>
 ((Zev N a0_.Delays ((List.length a1_.Links:Nat):Int)).bind λr3 =>
 (((if (((List.length a1_.Links:Nat):Int)==24) then (some true) else ((Zgs N a1_ (ZaF.mk a2_ a3_ (w64 (1+(Int.tmod r2 20))) (Int.tmod r3 50))).bind λr6=>(some (!r6))))).bind λ(a4:Bool) =>
 (if a4 then (some a1_) else ((ZaY (λx:Int=>Zb1 N a1_ a2_ a3_ x) N 0).bind λa1=>match a1 with
 | (.inl a3)=>((appI 32 a1_.Links [(ZaF.mk a2_ a3_ (w64 (1+(Int.tmod r2 20))) (Int.tmod r3 50))]).bind λa2 =>
 (some (Zag.mk a1_.Nodes a1_.Station a2)))
 | (.inr a0)=>(some a0))))))
def Zdv (N:Nat)(a0_:Zag)(i13:Int)(a2:ZaF)(a0:Int):Option ((Int)⊕((Unit)⊕(Bool))):=
 (if (decide (a0<i13)) then ((idx a0_.Links a0).bind λa3 =>
 ((ZfC N a3 a2.A a2.B).bind λa1 =>
 (if a1 then (some (.inr (.inr false))) else (some (.inl (w64 (a0+1))))))) else (some (.inr (.inl ()))))
def Zca (N:Nat)(a0_:Zag)(i13:Int)(a2:(List Int)):Option ((Int×(List Int))⊕(((List Int))⊕(Bool))):=
 (if (decide (i13<((List.length a0_.Links:Nat):Int))) then ((idx a0_.Links i13).bind λa0 =>
 ((Zgs N a0_ a0).bind λa6 =>
 (if (!a6) then (some (.inr (.inr false))) else ((ZaY (λx:Int=>Zdv N a0_ i13 a0 x) N 0).bind λa4=>match a4 with
 | (.inl a7)=>((idx a2 a0.A).bind λa1 =>
 ((idx a2 a0.A).bind λa9 =>
 ((idx (List.set a2 (Int.toNat a0.A) (w64 (a1+1))) a0.B).bind λa5 =>
 ((idx (List.set a2 (Int.toNat a0.A) (w64 (a1+1))) a0.B).bind λa8 =>
 (some (.inl ((w64 (i13+1)),(List.set (List.set a2 (Int.toNat a0.A) (w64 (a1+1))) (Int.toNat a0.B) (w64 (a5+1))))))))))
 | (.inr a3)=>(some (.inr (.inr a3))))))) else (some (.inr (.inl a2))))
def Zdu (N:Nat)(a0_:Zag)(a1:(List Int))(a2:(List Bool))(a0:Int):Option ((Int)⊕((Unit)⊕(Bool))):=
 (if (decide (a0<a0_.Nodes)) then ((((idx a2 a0).bind λa7=>(if (!a7) then (some true) else ((idx a0_.Station a0).bind λa6=>(if a6 then ((idx a1 a0).bind λa5=>(if (decide (a5<1)) then (some true) else ((idx a1 a0).bind λa4=>(some (decide (a4>2)))))) else (some false)))))).bind λ(a3:Bool) =>
 (if a3 then (some (.inr (.inr false))) else (some (.inl (w64 (a0+1)))))) else (some (.inr (.inl ()))))
def ZfA (N:Nat)(a0_:Zag):Option (Bool):=
 (if ((decide (a0_.Nodes<2))||((decide (a0_.Nodes>12))||((((List.length a0_.Station:Nat):Int)!=a0_.Nodes)||(decide (((List.length a0_.Links:Nat):Int)>24))))) then (some false) else ((ZiP 8 a0_.Nodes a0_.Nodes 0).bind λa7 =>
 ((ZaY (λx:Int×(List Int)=>Zca N a0_ x.1 x.2) N (0,a7)).bind λa5=>match a5 with
 | (.inl a3)=>((ZgF N a0_ 0 ([])).bind λa0 =>
 ((ZaY (λx:Int=>Zdu N a0_ a3 a0 x) N 0).bind λa4=>match a4 with
 | (.inl a6)=>(some true)
 | (.inr a2)=>(some a2)))
 | (.inr a1)=>(some a1))))
def Ziz (N:Nat)(a0_:ZaE)(a1_:Int)(a2_:Int)(a3_:ZaQ):Option (ZaB):=
 ((Zfv N a3_.Early a0_.Grid).bind λr1 =>
 ((Zfv N (w64 (0-(w64 (a3_.Open+a3_.Long)))) a0_.Grid).bind λr2 =>
 ((Zhx N r1 a2_).bind λr3 =>
 (some (ZaB.mk a1_ a3_.Port r3 (w64 ((w64 (0-r2))-r1)))))))
def Zet (N:Nat)(a0_:Zag)(a1_:Int)(a2_:Int)(i1:Int):Option ((Int)⊕((Unit)⊕((List Int)))):=
 (if (decide (i1<16)) then ((Zhz N a0_ a1_ (IntKind.u8.wrap (a2_+(IntKind.u8.wrap (i1))))).bind λa0 =>
 (((if (decide (((List.length a0:Nat):Int)>0)) then ((Zdr N a0_ a0).bind λa3=>(if a3 then ((idx a0 0).bind λa8=>((Zdd N a0_ a8).bind λa2=>((idx a0_.Station a2).bind λa7=>(if a7 then ((idx a0 (w64 (((List.length a0:Nat):Int)-1))).bind λa6=>((Zea N a0_ a6).bind λa1=>((idx a0_.Station a1).bind λa5=>(some a5)))) else (some false))))) else (some false))) else (some false))).bind λ(a4:Bool) =>
 (if a4 then ((neL a0).bind λ_=>(some (.inr (.inr a0)))) else (some (.inl (w64 (i1+1))))))) else (some (.inr (.inl ()))))
def Zgq (N:Nat)(a0_:Zag)(a1_:Int)(a2_:Int):Option ((List Int)):=
 ((ZaY (λx:Int=>Zet N a0_ a1_ a2_ x) N 0).bind λa1=>match a1 with
 | (.inl a2)=>(some [])
 | (.inr a0)=>(some a0))
def Zds (N:Nat)(a1_:(List Int))(a2_:(List Int))(i1:Int)(a0:Int):Option ((Int)⊕((Unit)⊕(Bool))):=
 (if (decide (a0<((List.length a2_:Nat):Int))) then ((idx a1_ i1).bind λa2 =>
 ((idx a2_ a0).bind λa1 =>
 (if ((w64 (Int.tdiv a2 2))==(w64 (Int.tdiv a1 2))) then (some (.inr (.inr false))) else (some (.inl (w64 (a0+1))))))) else (some (.inr (.inl ()))))
def Zdt (N:Nat)(a1_:(List Int))(a2_:(List Int))(i1:Int):Option ((Int)⊕((Unit)⊕(Bool))):=
 (if (decide (i1<((List.length a1_:Nat):Int))) then ((ZaY (λx:Int=>Zds N a1_ a2_ i1 x) N 0).bind λa1=>match a1 with
 | (.inl a2)=>(some (.inl (w64 (i1+1))))
 | (.inr a0)=>(some (.inr (.inr a0)))) else (some (.inr (.inl ()))))
def ZdQ (N:Nat)(a0_:Zag)(a1_:(List Int))(a2_:(List Int)):Option (Bool):=
 ((ZaY (λx:Int=>Zdt N a1_ a2_ x) N 0).bind λa7=>match a7 with
 | (.inl a9)=>((((ZdP N a0_ a1_).bind λa5=>((ZdP N a0_ a2_).bind λa4=>((Zeu N a5 a4).bind λa3=>(if (!a3) then ((ZdP N a0_ a2_).bind λa2=>((ZdP N a0_ a1_).bind λa1=>((Zeu N a2 a1).bind λa0=>(some (!a0))))) else (some false)))))).bind λ(a8:Bool) =>
 (some a8))
 | (.inr a6)=>(some a6))
def ZcX (N:Nat)(a0_:Zag)(a1_:Zah)(i27:Int):Option ((Int)⊕((Unit)⊕(Bool))):=
 (if (decide (i27<((List.length a1_.Routes:Nat):Int))) then ((idx a1_.Routes i27).bind λa0 =>
 ((((Zdr N a0_ a0).bind λa3=>(if (!a3) then (some true) else ((idx a0 0).bind λa6=>((Zdd N a0_ a6).bind λa2=>(if (a2 != a1_.Talker) then (some true) else ((idx a0 (w64 (((List.length a0:Nat):Int)-1))).bind λa5=>((Zea N a0_ a5).bind λa1=>(some (a1 != a1_.Listener)))))))))).bind λ(a4:Bool) =>
 (if a4 then (some (.inr (.inr false))) else (some (.inl (w64 (i27+1))))))) else (some (.inr (.inl ()))))
def ZeF (N:Nat)(a0_:Zag)(a1_:Zah)(a1:Int):Option ((Int)⊕((Unit)⊕(Bool))):=
 (if (decide (a1<((List.length a1_.Routes:Nat):Int))) then ((idx a1_.Routes a1).bind λa0 =>
 ((((Zdr N a0_ a0).bind λa4=>(if (!a4) then (some true) else ((idx a0 0).bind λa7=>((Zdd N a0_ a7).bind λa3=>(if (a3 != a1_.Talker) then (some true) else ((idx a0 (w64 (((List.length a0:Nat):Int)-1))).bind λa6=>((Zea N a0_ a6).bind λa2=>(some (a2 != a1_.Listener)))))))))).bind λ(a5:Bool) =>
 (if a5 then (some (.inr (.inr false))) else (some (.inl (w64 (a1+1))))))) else (some (.inr (.inl ()))))
def Zfz (N:Nat)(a0_:Zag)(a1_:Zah):Option (Bool):=
 ((((Zdi N a1_.Id 1 4095).bind λr1=>(if (!r1) then (some true) else ((Zdh N a0_ a1_.Talker).bind λr4=>(if (!r4) then (some true) else ((Zdh N a0_ a1_.Listener).bind λr7=>(if (!r7) then (some true) else (if (a1_.Talker==a1_.Listener) then (some true) else ((Zdi N a1_.Size 84 1542).bind λaj=>(if (!aj) then (some true) else ((Zdi N a1_.Deadline 1 1099511627776).bind λai=>(some (!ai))))))))))))).bind λ(am:Bool) =>
 (if am then (some false) else (if (a1_.Class==7) then ((((Zdi N a1_.Period 1 240).bind λag=>(if (!ag) then (some true) else (some (!((a1_.Bucket.Burst==0)&&((a1_.Bucket.Rate==0)&&true))))))).bind λ(al:Bool) =>
 (if al then (some false) else (if ((decide (((List.length a1_.Routes:Nat):Int)<1))||(decide (((List.length a1_.Routes:Nat):Int)>2))) then (some false) else ((ZaY (λx:Int=>ZcX N a0_ a1_ x) N 0).bind λaa=>match aa with
 | (.inl ak)=>(((if (((List.length a1_.Routes:Nat):Int)==1) then (some true) else ((idx a1_.Routes 0).bind λae=>((idx a1_.Routes 1).bind λad=>((ZdQ N a0_ ae ad).bind λa8=>(some a8)))))).bind λ(ac:Bool) =>
 (some ac))
 | (.inr a9)=>(some a9))))) else (if (a1_.Class==6) then (((if (a1_.Period != 0) then (some true) else ((Zdi N a1_.Bucket.Burst a1_.Size 1048576).bind λa7=>(if (!a7) then (some true) else ((Zdi N a1_.Bucket.Rate 1 2097152).bind λa6=>(some (!a6))))))).bind λ(ab:Bool) =>
 (if ab then (some false) else (if ((decide (((List.length a1_.Routes:Nat):Int)<1))||(decide (((List.length a1_.Routes:Nat):Int)>2))) then (some false) else ((ZaY (λx:Int=>ZeF N a0_ a1_ x) N 0).bind λa2=>match a2 with
 | (.inl af)=>(((if (((List.length a1_.Routes:Nat):Int)==1) then (some true) else ((idx a1_.Routes 0).bind λa5=>((idx a1_.Routes 1).bind λa4=>((ZdQ N a0_ a5 a4).bind λa0=>(some a0)))))).bind λ(a3:Bool) =>
 (some a3))
 | (.inr a1)=>(some a1))))) else (some false)))))
def ZcI (N:Nat)(a0_:(List ZaL))(i8:Int)(l9:(List Int)):Option ((Int×(List Int))⊕(((List Int)))):=
 (if (decide (i8<((List.length a0_:Nat):Int))) then ((idx a0_ i8).bind λa0 =>
 ((idx l9 i8).bind λa1 =>
 (some (.inl ((w64 (i8+1)),(List.set l9 (Int.toNat i8) a0.Period)))))) else (some (.inr l9)))
def Zfb (N:Nat)(a0_:(List ZaL)):Option (Int×Int):=
 ((ZdW N a0_).bind λr1 =>
 (if (r1 != 0) then (some (0,r1)) else ((ZiP 8 ((List.length a0_:Nat):Int) ((List.length a0_:Nat):Int) 0).bind λl5 =>
 ((ZaY (λx:Int×(List Int)=>ZcI N a0_ x.1 x.2) N (0,l5)).bind λa1 =>
 ((ZfX N 960 a1).bind λa0 =>
 (if (decide (a0>960)) then (some (0,6)) else (some (a0,0))))))))
def ZdL (N:Nat)(a0_:Zag)(i4:Int):Option ((Int)⊕((Unit)⊕(Bool))):=
 (if (decide (i4<((List.length a0_.Links:Nat):Int))) then ((ZgQ N i4 a0_).bind λa3 =>
 (if (!a3) then (some (.inr (.inr false))) else ((ZgP N i4 a0_).bind λa2 =>
 (if (!a2) then (some (.inr (.inr false))) else ((ZfT N i4 a0_).bind λa1 =>
 (if (!a1) then (some (.inr (.inr false))) else ((ZgO N i4 a0_).bind λa0 =>
 (if (!a0) then (some (.inr (.inr false))) else (some (.inl (w64 (i4+1)))))))))))) else (some (.inr (.inl ()))))
def Zho (N:Nat)(a0_:Zag):Option (Bool):=
 ((ZaY (λx:Int=>ZdL N a0_ x) N 0).bind λa1=>match a1 with
 | (.inl a2)=>(some true)
 | (.inr a0)=>(some a0))
def ZeE (N:Nat)(c0_:Zah):Option (Bool):=
 (if (c0_.Class==7) then ((((Zbu N c0_.Period 1 240).bind λr4=>(if r4 then (some ((c0_.Bucket.Burst==0)&&((c0_.Bucket.Rate==0)&&true))) else (some false)))).bind λ(j8:Bool) =>
 (some j8)) else (if (c0_.Class==6) then (((if (c0_.Period==0) then ((Zha N c0_.Bucket).bind λa0=>(if (a0==0) then (some (decide (c0_.Bucket.Burst≥c0_.Size))) else (some false))) else (some false))).bind λ(a1:Bool) =>
 (some a1)) else (some false)))
def ZbY (N:Nat)(r2:(List Int))(l3:List Int)(i4:Int):Option ((Int)⊕((Unit)⊕(Bool))):=
 (if (decide (i4<((List.length l3:Nat):Int))) then ((idx l3 i4).bind λa1 =>
 ((Zb3 N r2 a1).bind λa0 =>
 (if a0 then (some (.inr (.inr true))) else (some (.inl (w64 (i4+1))))))) else (some (.inr (.inl ()))))
def Zdb (N:Nat)(a0_:Za7)(a1_:(List Int))(a2_:(List Int)):Option (Bool):=
 ((ZcH N a0_ a1_).bind λr1 =>
 ((ZcH N a0_ a2_).bind λr2 =>
 ((subI r1 1 (w64 (((List.length r1:Nat):Int)-1))).bind λl3 =>
 ((ZaY (λx:Int=>ZbY N r2 l3 x) N 0).bind λa1=>match a1 with
 | (.inl a2)=>(some false)
 | (.inr a0)=>(some a0)))))
def ZhR (N:Nat)(a0_:ZaL)(a1_:ZaL):Option (Bool×Int):=
 ((ZdO N a0_).bind λr1 =>
 (if (r1 != 0) then (some (false,r1)) else ((ZdO N a1_).bind λr3 =>
 (if (r3 != 0) then (some (false,r3)) else ((ZhQ N a0_ a1_).bind λr5 =>
 (some (r5,0)))))))
def Zbp (N:Nat)(a0_:Zbi)(i3:Int)(l4:(List Bool)):Option ((Int×(List Bool))⊕(((List Bool)))):=
 (if (decide (i3<(w64 ((w64 (1+(w64 ((Int.tmod a0_.Bridges 6)))))+(w64 (2+(w64 ((Int.tmod a0_.Stations 5))))))))) then ((appI 1 l4 [(decide (i3≥(w64 (1+(w64 ((Int.tmod a0_.Bridges 6)))))))]).bind λa0 =>
 (some (.inl ((w64 (i3+1)),a0)))) else (some (.inr l4)))
def Zbo (N:Nat)(a0_:Zbi)(a1:Int)(a4:Int)(a3:(List Bool))(a2:(List ZaF)):Option ((Int×Int×(List Bool)×(List ZaF))⊕((Int×(List Bool)×(List ZaF)))):=
 (if (decide (a1<(w64 (1+(w64 ((Int.tmod a0_.Bridges 6))))))) then ((Zbj N a0_ (Zag.mk a4 a3 a2) (w64 (a1-1)) a1).bind λa0 =>
 (some (.inl ((w64 (a1+1)),a0.Nodes,a0.Station,a0.Links)))) else (some (.inr (a4,a3,a2))))
def Zbn (N:Nat)(a0_:Zbi)(a0:Int)(a4:Int)(a3:(List Bool))(a2:(List ZaF)):Option ((Int×Int×(List Bool)×(List ZaF))⊕((Int×(List Bool)×(List ZaF)))):=
 (if (decide (a0<(w64 (2+(w64 ((Int.tmod a0_.Stations 5))))))) then ((Zev N a0_.Homes (w64 (2*a0))).bind λa5 =>
 ((remI a5 (w64 (1+(w64 ((Int.tmod a0_.Bridges 6)))))).bind λa6 =>
 ((Zbj N a0_ (Zag.mk a4 a3 a2) (w64 ((w64 (1+(w64 ((Int.tmod a0_.Bridges 6)))))+a0)) a6).bind λa1 =>
 (some (.inl ((w64 (a0+1)),a1.Nodes,a1.Station,a1.Links)))))) else (some (.inr (a4,a3,a2))))
def Zbc (N:Nat)(a0_:Zbi)(a0:Int)(a5:Int)(a3:(List Bool))(a2:(List ZaF)):Option ((Int×Int×(List Bool)×(List ZaF))⊕((Int×(List Bool)×(List ZaF)))):=
 (if (decide (a0<(w64 (2+(w64 ((Int.tmod a0_.Stations 5))))))) then ((((Zev N a0_.Homes (w64 ((w64 (2*a0))+1))).bind λa7 =>
 (if (decide ((Int.tmod a7 3)>0)) then ((Zev N a0_.Homes (w64 ((w64 (2*a0))+1))).bind λa6 =>
 ((remI a6 (w64 (1+(w64 ((Int.tmod a0_.Bridges 6)))))).bind λa8 =>
 ((Zbj N a0_ (Zag.mk a5 a3 a2) (w64 ((w64 (1+(w64 ((Int.tmod a0_.Bridges 6)))))+a0)) a8).bind λa1 =>
 (some (a1.Nodes,a1.Station,a1.Links))))) else (some (a5,a3,a2))))).bind λ(a4:Int×(List Bool)×(List ZaF)) =>
 (some (.inl ((w64 (a0+1)),a4.1,a4.2.1,a4.2.2)))) else (some (.inr (a5,a3,a2))))
def ZbA (N:Nat)(a0_:Zbi)(a0:Int)(a4:Int)(a3:(List Bool))(a2:(List ZaF)):Option ((Int×Int×(List Bool)×(List ZaF))⊕((Int×(List Bool)×(List ZaF)))):=
 (if ((decide ((w64 (a0+1))<((List.length a0_.Chords:Nat):Int)))&&(decide (a0<12))) then ((idx a0_.Chords a0).bind λa8 =>
 ((remI (w64 (a8)) (w64 (1+(w64 ((Int.tmod a0_.Bridges 6)))))).bind λa6 =>
 ((idx a0_.Chords (w64 (a0+1))).bind λa7 =>
 ((remI (w64 (a7)) (w64 (1+(w64 ((Int.tmod a0_.Bridges 6)))))).bind λa5 =>
 ((Zbj N a0_ (Zag.mk a4 a3 a2) a6 a5).bind λa1 =>
 (some (.inl ((w64 (a0+2)),a1.Nodes,a1.Station,a1.Links)))))))) else (some (.inr (a4,a3,a2))))
def Zde (N:Nat)(a0_:Zbi):Option (Zag):=
 ((ZaY (λx:Int×(List Bool)=>Zbp N a0_ x.1 x.2) N (0,[])).bind λa6 =>
 ((ZaY (λx:Int×Int×(List Bool)×(List ZaF)=>Zbo N a0_ x.1 x.2.1 x.2.2.1 x.2.2.2) N (1,(w64 ((w64 (1+(w64 ((Int.tmod a0_.Bridges 6)))))+(w64 (2+(w64 ((Int.tmod a0_.Stations 5))))))),a6,[])).bind λa4 =>
 ((ZaY (λx:Int×Int×(List Bool)×(List ZaF)=>Zbn N a0_ x.1 x.2.1 x.2.2.1 x.2.2.2) N (0,a4.1,a4.2.1,a4.2.2)).bind λa0 =>
 (((if ((decide ((w64 (1+(w64 ((Int.tmod a0_.Bridges 6)))))>2))&&((Int.tmod a0_.Bridges 2)==0)) then ((Zbj N a0_ (Zag.mk a0.1 a0.2.1 a0.2.2) (w64 ((w64 (1+(w64 ((Int.tmod a0_.Bridges 6)))))-1)) 0).bind λa1 =>
 (some (a1.Nodes,a1.Station,a1.Links))) else (some (a0.1,a0.2.1,a0.2.2)))).bind λ(a5:Int×(List Bool)×(List ZaF)) =>
 ((ZaY (λx:Int×Int×(List Bool)×(List ZaF)=>Zbc N a0_ x.1 x.2.1 x.2.2.1 x.2.2.2) N (0,a5.1,a5.2.1,a5.2.2)).bind λa3 =>
 ((ZaY (λx:Int×Int×(List Bool)×(List ZaF)=>ZbA N a0_ x.1 x.2.1 x.2.2.1 x.2.2.2) N (0,a3.1,a3.2.1,a3.2.2)).bind λa2 =>
 (some (Zag.mk a2.1 a2.2.1 a2.2.2))))))))
def Zb5 (N:Nat)(a1_:Zag)(i2:Int)(i3:Int):Option ((Int×Int)⊕((Int))):=
 (((if (decide (i3<a1_.Nodes)) then ((idx a1_.Station i2).bind λa2=>(some (!a2))) else (some false))).bind λ(a1:Bool) =>
 (if a1 then ((remI (w64 (i2+1)) a1_.Nodes).bind λa0 =>
 (some (.inl (a0,(w64 (i3+1)))))) else (some (.inr i2))))
def Zb4 (N:Nat)(a0_:ZbN)(a1_:Zag)(ac:Int)(ab:(List Int))(aa:Int)(a2:Int)(a1:(List (List Int))):Option ((Int×(List (List Int)))⊕(((List (List Int))))):=
 (((if (decide (a2<24)) then (if a0_.Two then (some (((List.length a1:Nat):Int)==1)) else (some false)) else (some false))).bind λ(a8:Bool) =>
 (if a8 then ((((Zgq N a1_ (IntKind.u8.wrap (ac)) (IntKind.u8.wrap (a0_.Way+(IntKind.u8.wrap (a2))))).bind λa0 =>
 (if (List.isEmpty a0) then (some a1) else ((((idx a0 (w64 (((List.length a0:Nat):Int)-1))).bind λa9=>((Zea N a1_ a9).bind λa4=>(if (a4==aa) then ((ZdQ N a1_ ab a0).bind λa3=>(some a3)) else (some false))))).bind λ(a6:Bool) =>
 (if a6 then ((appI 24 a1 [a0]).bind λa5 =>
 (some a5)) else (some a1)))))).bind λ(a7:(List (List Int))) =>
 (some (.inl ((w64 (a2+1)),a7)))) else (some (.inr a1))))
def Zdj (N:Nat)(a0_:ZbN)(a1_:Zag)(a2_:Int):Option (Zah×Bool):=
 ((remI (w64 (a0_.Node)) a1_.Nodes).bind λm1 =>
 ((ZaY (λx:Int×Int=>Zb5 N a1_ x.1 x.2) N (m1,0)).bind λa6 =>
 ((Zgq N a1_ (IntKind.u8.wrap (a6)) a0_.Way).bind λa1 =>
 (if (List.isEmpty a1) then (some ((Zah.mk 0 0 0 0 0 0 (Zez.mk 0 0) 0 ([])),false)) else ((idx a1 0).bind λa9 =>
 ((Zdd N a1_ a9).bind λa4 =>
 ((idx a1 (w64 (((List.length a1:Nat):Int)-1))).bind λa8 =>
 ((Zea N a1_ a8).bind λa3 =>
 (((if a0_.Reserved then (some (6,0,(w64 ((w64 (84+(w64 (a0_.Size))))+(w64 (4*(w64 (a0_.Burst)))))),(w64 (1+(w64 (a0_.Rate)))))) else ((idx [4,6,8,12,16,24,48,10,5,240] (Int.tmod a0_.Period 10)).bind λa7 =>
 (some (7,a7,0,0))))).bind λ(a0:Int×Int×Int×Int) =>
 ((ZaY (λx:Int×(List (List Int))=>Zb4 N a0_ a1_ a6 a1 a3 x.1 x.2) N (0,[a1])).bind λa2 =>
 ((Zfz N a1_ (Zah.mk a2_ a4 a3 a0.1 (w64 (84+(w64 (a0_.Size)))) a0.2.1 (Zez.mk a0.2.2.1 a0.2.2.2) 1099511627776 a2)).bind λa5 =>
 (some ((Zah.mk a2_ a4 a3 a0.1 (w64 (84+(w64 (a0_.Size)))) a0.2.1 (Zez.mk a0.2.2.1 a0.2.2.2) 1099511627776 a2),a5)))))))))))))
def Zcq (N:Nat)(a0_:Zag)(a1_:(List Zah))(i4:Int):Option ((Int)⊕((Unit)⊕(Int))):=
 (if (decide (i4<((List.length a1_:Nat):Int))) then ((idx a1_ i4).bind λa1 =>
 ((Zfz N a0_ a1).bind λa0 =>
 (if (!a0) then (some (.inr (.inr 321))) else (some (.inl (w64 (i4+1))))))) else (some (.inr (.inl ()))))
def ZbR (N:Nat)(a1_:(List Zah))(a1:Int)(a0:Int):Option ((Int)⊕((Unit)⊕(Int))):=
 (if (decide (a0<a1)) then ((idx a1_ a0).bind λa3 =>
 ((idx a1_ a1).bind λa2 =>
 (if (a3.Id==a2.Id) then (some (.inr (.inr 322))) else (some (.inl (w64 (a0+1))))))) else (some (.inr (.inl ()))))
def ZbS (N:Nat)(a1_:(List Zah))(a0:Int):Option ((Int)⊕((Unit)⊕(Int))):=
 (if (decide (a0<((List.length a1_:Nat):Int))) then ((ZaY (λx:Int=>ZbR N a1_ a0 x) N 0).bind λa2=>match a2 with
 | (.inl a3)=>(some (.inl (w64 (a0+1))))
 | (.inr a1)=>(some (.inr (.inr a1)))) else (some (.inr (.inl ()))))
def ZeG (N:Nat)(a0_:Zag)(a1_:(List Zah)):Option (Int):=
 ((ZfA N a0_).bind λr1 =>
 (if (!r1) then (some 260) else (if (decide (((List.length a1_:Nat):Int)>12)) then (some 3) else ((ZaY (λx:Int=>Zcq N a0_ a1_ x) N 0).bind λa3=>match a3 with
 | (.inl a5)=>((ZaY (λx:Int=>ZbS N a1_ x) N 0).bind λa2=>match a2 with
 | (.inl a4)=>(some 0)
 | (.inr a1)=>(some a1))
 | (.inr a0)=>(some a0)))))
def ZdU (N:Nat)(a0_:(List Int))(i6:Int)(l7:(List ZaL)):Option ((Int×(List ZaL))⊕(((List ZaL)))):=
 (if (decide (i6<((List.length a0_:Nat):Int))) then ((idx a0_ i6).bind λa0 =>
 ((idx l7 i6).bind λa1 =>
 (some (.inl ((w64 (i6+1)),(List.set l7 (Int.toNat i6) (ZaL.mk a0 0 1))))))) else (some (.inr l7)))
def Ze2 (N:Nat)(a0_:(List Int)):Option (Int×Int):=
 ((ZiP 24 ((List.length a0_:Nat):Int) ((List.length a0_:Nat):Int) (ZaL.mk 0 0 0)).bind λl3 =>
 ((ZaY (λx:Int×(List ZaL)=>ZdU N a0_ x.1 x.2) N (0,l3)).bind λa1 =>
 ((Zfb N a1).bind λa0 =>
 (some (a0.1,a0.2)))))
def Zcw (N:Nat)(a0_:Zag)(i16:Int)(a2:(List Int)):Option ((Int×(List Int))⊕(((List Int)))):=
 (if (decide (i16<((List.length a0_.Links:Nat):Int))) then ((idx a0_.Links i16).bind λa0 =>
 ((idx a2 a0.A).bind λa1 =>
 ((idx a2 a0.A).bind λa5 =>
 ((idx (List.set a2 (Int.toNat a0.A) (w64 (a1+1))) a0.B).bind λa3 =>
 ((idx (List.set a2 (Int.toNat a0.A) (w64 (a1+1))) a0.B).bind λa4 =>
 (some (.inl ((w64 (i16+1)),(List.set (List.set a2 (Int.toNat a0.A) (w64 (a1+1))) (Int.toNat a0.B) (w64 (a3+1))))))))))) else (some (.inr a2)))
def ZdM (N:Nat)(a0_:Zag)(a1:(List Int))(a0:Int):Option ((Int)⊕((Unit)⊕(Int))):=
 (if (decide (a0<((List.length a0_.Station:Nat):Int))) then ((idx a0_.Station a0).bind λa5 =>
 (((if a5 then ((idx a1 a0).bind λa4=>(if (decide (a4<1)) then (some true) else ((idx a1 a0).bind λa3=>(some (decide (a3>2)))))) else (some false))).bind λ(a2:Bool) =>
 (if a2 then (some (.inr (.inr 260))) else (some (.inl (w64 (a0+1))))))) else (some (.inr (.inl ()))))
def Zfs (N:Nat)(a0_:Zag):Option (Int):=
 (if ((decide (a0_.Nodes<2))||((decide (a0_.Nodes>12))||(((List.length a0_.Station:Nat):Int)!=a0_.Nodes))) then (some 260) else (((if (decide (((List.length a0_.Links:Nat):Int)>24)) then (some true) else ((Zho N a0_).bind λr8=>(some (!r8))))).bind λ(j9:Bool) =>
 (if j9 then (some 260) else ((ZiP 8 a0_.Nodes a0_.Nodes 0).bind λa6 =>
 ((ZaY (λx:Int×(List Int)=>Zcw N a0_ x.1 x.2) N (0,a6)).bind λa4 =>
 ((ZaY (λx:Int=>ZdM N a0_ a4 x) N 0).bind λa3=>match a3 with
 | (.inl a5)=>((Zhp N a0_ 0 (Zc3.mk false false false false false false false false false false false false false false false false false false false false false false false false)).bind λa1 =>
 ((ZbT N a1 false).bind λa0 =>
 (if a0 then (some 260) else (some 0))))
 | (.inr a2)=>(some a2)))))))
def ZdZ (N:Nat)(a0_:Zaw)(a2_:Int)(a4_:Int)(b18:Bool)(x16:ZaB)(x17:ZaB):Option ((Bool)×Nat):=
 (if ((x16.Stream==x17.Stream)&&((x16.Port==x17.Port)&&((x16.From==x17.From)&&((x16.Long==x17.Long)&&true)))) then (some (true,1)) else ((Zgj N a0_ x16 a2_).bind λa2 =>
 ((Zgj N a0_ x17 a4_).bind λa1 =>
 ((ZhR N a2 a1).bind λa0 =>
 (if (!a0.1) then (some (true,1)) else (some (b18,0)))))))
def Zgk (N:Nat)(a0_:Zaw)(a1_:Int)(a2_:Int)(a3_:Int)(a4_:Int):Option (Bool):=
 ((ZkQ N a0_ a1_ a3_).bind λa1 =>
 ((ZiG N (λ(s:(Bool)×Nat) (x16:ZaB) (x17:ZaB)=>Zim (λv:Bool=>ZdZ N a0_ a2_ a4_ v x16 x17) s) a1.1 a1.2.1 a1.2.2 (false,0)).bind λa0 =>
 (if (a0.2==0) then (some false) else (if (a0.2==1) then (some a0.1) else none))))
def Zeq (N:Nat)(a0_:Za7)(c0_:(List Int))(c1_:(List Int)):Option (Bool×Int):=
 ((Zck N a0_ c0_).bind λr2 =>
 (if (!r2) then (some (false,310)) else ((((ZfW N c1_ c0_).bind λr6=>(if (!r6) then ((Zdb N a0_ c1_ c0_).bind λa1=>(if (!a1) then ((Zdb N a0_ c0_ c1_).bind λa0=>(some (!a0))) else (some false))) else (some false)))).bind λ(a2:Bool) =>
 (some (a2,0)))))
def Zef (N:Nat)(a0_:Zag)(a1_:(List Int)):Option (Int):=
 ((Zfs N a0_).bind λr1 =>
 (if (r1 != 0) then (some r1) else ((Zck N (Za7.mk a0_) a1_).bind λr3 =>
 (if (!r3) then (some 310) else (some 0)))))
def Zd4 (N:Nat)(a0_:Zag)(a1_:(List Int))(a2_:Za7->Option ((List Int)×Int)):Option ((List Int)×Int):=
 ((Zef N a0_ a1_).bind λr1 =>
 (if (r1 != 0) then (some ([],r1)) else ((a2_ (Za7.mk a0_)).bind λr3 =>
 (some (r3.1,r3.2)))))
def Zdc (N:Nat)(a0_:Zag)(a1_:(List ZbN))(i3:Int)(l4:(List Zah)):Option ((Int×(List Zah))⊕(((List Zah)))):=
 (((if (decide (i3<((List.length a1_:Nat):Int))) then (some (decide (((List.length l4:Nat):Int)<6))) else (some false))).bind λ(a4:Bool) =>
 (if a4 then ((((idx a1_ i3).bind λa3 =>
 ((Zdj N a3 a0_ (w64 (((List.length l4:Nat):Int)+1))).bind λa0 =>
 (if a0.2 then ((appI 96 l4 [a0.1]).bind λa1 =>
 (some a1)) else (some l4))))).bind λ(a2:(List Zah)) =>
 (some (.inl ((w64 (i3+1)),a2)))) else (some (.inr l4))))
def Zfc (N:Nat)(a0_:Zag)(a1_:(List ZbN)):Option ((List Zah)):=
 ((ZaY (λx:Int×(List Zah)=>Zdc N a0_ a1_ x.1 x.2) N (0,[])).bind λa0 =>
 (some a0))
def Zfy (N:Nat)(a1_:ZaE)(a2_:(List Zah))(i11:Int)(a7:(List Int))(a1:(List ZaQ))(a0:Int)(a2:(List ZaB)):Option ((Int×(List ZaB))⊕(((List ZaB)))):=
 (if (decide (a0<((List.length a1:Nat):Int))) then ((idx a2_ i11).bind λa6 =>
 ((idx a1 a0).bind λa5 =>
 ((Ziz N a1_ ((List.length a7:Nat):Int) a6.Period a5).bind λa3 =>
 ((appI 32 a2 [a3]).bind λa4 =>
 (some (.inl ((w64 (a0+1)),a4))))))) else (some (.inr a2)))
def ZeT (N:Nat)(a0_:Zag)(a1_:ZaE)(a2_:(List Zah))(i11:Int)(af:(List Int))(a2:Bool)(a0:Int)(a1:(List ZaB)):Option ((Bool×Int×(List ZaB))⊕((Bool×(List ZaB)))):=
 ((idx a2_ i11).bind λae =>
 (if (decide (a0<((List.length ae.Routes:Nat):Int))) then ((idx a2_ i11).bind λad =>
 ((idx a2_ i11).bind λac =>
 ((idx ac.Routes a0).bind λab =>
 ((Zhy N a0_ a1_ ad ab).bind λa4 =>
 ((ZaY (λx:Int×(List ZaB)=>Zfy N a1_ a2_ i11 af a4 x.1 x.2) N (0,a1)).bind λa5 =>
 (((if a2 then (some true) else ((idx a2_ i11).bind λaa=>((idx a2_ i11).bind λa9=>((idx a9.Routes a0).bind λa8=>((ZiC N a0_ a1_ aa a8).bind λa3=>((idx a2_ i11).bind λa7=>(if (decide ((w64 (a3+(w64 (2*a1_.Slack))))>a7.Deadline)) then (some true) else (some false))))))))).bind λ(a6:Bool) =>
 (some (.inl (a6,(w64 (a0+1)),a5))))))))) else (some (.inr (a2,a1)))))
def ZeU (N:Nat)(a0_:Zag)(a1_:ZaE)(a2_:(List Zah))(b10:Bool)(i11:Int)(a5:(List Int))(a6:(List ZaB)):Option ((Bool×Int×(List Int)×(List ZaB))⊕((Bool×(List Int)×(List ZaB)))):=
 (if (decide (i11<((List.length a2_:Nat):Int))) then ((((idx a2_ i11).bind λa4 =>
 (if (a4.Class != 7) then (some (b10,a5,a6)) else ((ZaY (λx:Bool×Int×(List ZaB)=>ZeT N a0_ a1_ a2_ i11 a5 x.1 x.2.1 x.2.2) N (b10,0,a6)).bind λa1 =>
 ((idx a2_ i11).bind λa3 =>
 ((appI 8 a5 [a3.Period]).bind λa2 =>
 (some (a1.1,a2,a1.2)))))))).bind λ(a0:Bool×(List Int)×(List ZaB)) =>
 (some (.inl (a0.1,(w64 (i11+1)),a0.2.1,a0.2.2)))) else (some (.inr (b10,a5,a6))))
def ZeS (N:Nat)(a0:Bool×(List Int)×(List ZaB))(a3:Int)(a6:Int)(a2:Int)(a1:Int):Option ((Int×Int)⊕((Int))):=
 (if (decide (a1<((List.length a0.2.2:Nat):Int))) then ((((idx a0.2.2 a1).bind λa9 =>
 (if (a9.Port==a6) then ((idx a0.2.2 a1).bind λa8 =>
 ((idx a0.2.1 a8.Stream).bind λa7 =>
 ((quoI .i64 a3 a7).bind λa4 =>
 (some (w64 (a2+a4)))))) else (some a2)))).bind λ(a5:Int) =>
 (some (.inl (a5,(w64 (a1+1)))))) else (some (.inr a2)))
def Zfx (N:Nat)(a0_:Zag)(a3:Bool×(List Int)×(List ZaB))(a1:Int)(a0:Int):Option ((Int)⊕((Unit)⊕(Zaw×Int))):=
 (if (decide (a0<(w64 (2*((List.length a0_.Links:Nat):Int))))) then ((ZaY (λx:Int×Int=>ZeS N a3 a1 a0 x.1 x.2) N (0,0)).bind λa2 =>
 (if (decide (a2>63)) then (some (.inr (.inr ((Zaw.mk ([]) ([])),7)))) else (some (.inl (w64 (a0+1)))))) else (some (.inr (.inl ()))))
def Zfw (N:Nat)(a0:Bool×(List Int)×(List ZaB))(a2:Bool)(a1:Int):Option ((Bool×Int)⊕((Bool))):=
 (if (decide (a1<((List.length a0.2.2:Nat):Int))) then (((if a2 then (some true) else ((idx a0.2.2 a1).bind λa6=>((idx a0.2.2 a1).bind λa5=>((idx a0.2.1 a5.Stream).bind λa4=>(if (decide (a6.Long>a4)) then (some true) else (some false))))))).bind λ(a3:Bool) =>
 (some (.inl (a3,(w64 (a1+1)))))) else (some (.inr a2)))
def ZeP (N:Nat)(a0_:Zag)(a1_:ZaE)(a2_:(List Zah)):Option (Zaw×Int):=
 ((ZfA N a0_).bind λr1 =>
 (if (!r1) then (some ((Zaw.mk ([]) ([])),260)) else ((ZgE N a1_).bind λr3 =>
 (if (!r3) then (some ((Zaw.mk ([]) ([])),320)) else ((ZeG N a0_ a2_).bind λr5 =>
 (if (r5 != 0) then (some ((Zaw.mk ([]) ([])),r5)) else ((ZaY (λx:Bool×Int×(List Int)×(List ZaB)=>ZeU N a0_ a1_ a2_ x.1 x.2.1 x.2.2.1 x.2.2.2) N (false,0,[],[])).bind λa0 =>
 ((ZiA N a0.2.1).bind λa1 =>
 (if (a1==0) then (some ((Zaw.mk ([]) ([])),6)) else ((ZaY (λx:Int=>Zfx N a0_ a0 a1 x) N 0).bind λa4=>match a4 with
 | (.inl a5)=>((ZaY (λx:Bool×Int=>Zfw N a0 x.1 x.2) N (false,0)).bind λa3 =>
 (if a3 then (some ((Zaw.mk ([]) ([])),341)) else (if a0.1 then (some ((Zaw.mk ([]) ([])),342)) else (some ((Zaw.mk a0.2.1 a0.2.2),0)))))
 | (.inr a2)=>(some a2)))))))))))
def Zgm (N:Nat)(a0_:Zaw)(i4:Int):Option ((Int)⊕((Unit)⊕(Int))):=
 (if (decide (i4<((List.length a0_.Periods:Nat):Int))) then ((idx a0_.Periods i4).bind λa0 =>
 (if ((decide (a0<1))||(decide (a0>240))) then (some (.inr (.inr 340))) else (some (.inl (w64 (i4+1)))))) else (some (.inr (.inl ()))))
def Zgl (N:Nat)(a0_:Zaw)(a2:Int):Option ((Int)⊕((Unit)⊕(Int))):=
 (if (decide (a2<((List.length a0_.Uses:Nat):Int))) then ((idx a0_.Uses a2).bind λa0 =>
 (if ((decide (a0.Stream<0))||((decide (a0.Stream≥((List.length a0_.Periods:Nat):Int)))||((decide (a0.Port<0))||(decide (a0.Port≥48))))) then (some (.inr (.inr 340))) else ((idx a0_.Periods a0.Stream).bind λa1 =>
 (if ((decide (a0.From<0))||((decide (a0.From≥a1))||((decide (a0.Long<1))||(decide (a0.Long>a1))))) then (some (.inr (.inr 340))) else (some (.inl (w64 (a2+1)))))))) else (some (.inr (.inl ()))))
def ZhE (N:Nat)(a0_:Zaw):Option (Int):=
 (if ((decide (((List.length a0_.Periods:Nat):Int)>12))||(decide (((List.length a0_.Uses:Nat):Int)>192))) then (some 340) else ((ZaY (λx:Int=>Zgm N a0_ x) N 0).bind λa4=>match a4 with
 | (.inl a6)=>((Ze2 N a0_.Periods).bind λa3 =>
 (if (a3.2 != 0) then (some 340) else ((ZaY (λx:Int=>Zgl N a0_ x) N 0).bind λa2=>match a2 with
 | (.inl a5)=>(some 0)
 | (.inr a1)=>(some a1))))
 | (.inr a0)=>(some a0)))
def Zcs (N:Nat)(a0_:ZbC)(i5:Int)(m5:(List (Int×(List ZaB)))):Option ((Int×(List (Int×(List ZaB))))⊕((List (Int×(List ZaB))))):=
 (if (decide (i5<((List.length a0_.Problem.Uses:Nat):Int))) then ((idx a0_.Problem.Uses i5).bind λa0 =>
 ((appI 32 (Zhk m5 a0.Port []) [a0]).bind λa1 =>
 (some (.inl ((w64 (i5+1)),(Zed m5 a0.Port a1)))))) else (some (.inr m5)))
def Zcr (N:Nat)(a0_:ZbC)(r2:Int×Int)(us_:(List ZaB))(a2:Int)(a0:Int):Option ((Int×Int)⊕((Int))):=
 (if (decide (a0<((List.length us_:Nat):Int))) then ((idx us_ a0).bind λa4 =>
 ((idx a0_.Problem.Periods a4.Stream).bind λa3 =>
 ((quoI .i64 r2.1 a3).bind λa1 =>
 (some (.inl ((w64 (a2+a1)),(w64 (a0+1)))))))) else (some (.inr a2)))
def ZcG (N:Nat)(a0_:ZbC)(r2:Int×Int)(us_:(List ZaB)):Option Bool :=
 ((ZaY (λx:Int×Int=>Zcr N a0_ r2 us_ x.1 x.2) N (0,0)).bind λa0 =>
 (some (decide (a0>63))))
def Zb2 (N:Nat)(a0_:ZbC)(a0:Int):Option ((Int)⊕((Unit)⊕(Int))):=
 (if (decide (a0<((List.length a0_.Problem.Uses:Nat):Int))) then ((idx a0_.Problem.Uses a0).bind λa1 =>
 ((idx a0_.Problem.Periods a1.Stream).bind λa2 =>
 (if (decide (a1.Long>a2)) then (some (.inr (.inr 341))) else (some (.inl (w64 (a0+1))))))) else (some (.inr (.inl ()))))
def ZdY (N:Nat)(a0_:ZbC):Option (Int):=
 ((Ze2 N a0_.Problem.Periods).bind λr2 =>
 (if (r2.2 != 0) then (some r2.2) else ((ZaY (λx:Int×(List (Int×(List ZaB)))=>Zcs N a0_ x.1 x.2) N (0,[])).bind λa3 =>
 ((rgF (ZcG N a0_ r2) a3).bind λa2 =>
 (if a2 then (some 7) else ((ZaY (λx:Int=>Zb2 N a0_ x) N 0).bind λa1=>match a1 with
 | (.inl a4)=>(if a0_.late then (some 342) else (some 0))
 | (.inr a0)=>(some a0)))))))
def Zi3 (N:Nat)(a0_:Zaw):Option (Int×Int):=
 ((ZhE N a0_).bind λr1 =>
 (if (r1 != 0) then (some (0,r1)) else ((Ze2 N a0_.Periods).bind λr3 =>
 (some (r3.1,r3.2)))))
def ZhZ (N:Nat)(a0_:Zaw)(a1_:Int)(a2_:Int)(a3_:Int)(a4_:Int):Option (Bool×Int):=
 ((ZhE N a0_).bind λr1 =>
 (if (r1 != 0) then (some (false,r1)) else (if ((decide (a1_<0))||((decide (a1_≥((List.length a0_.Periods:Nat):Int)))||((decide (a3_<0))||(decide (a3_≥((List.length a0_.Periods:Nat):Int)))))) then (some (false,2)) else ((((ZgH N a0_ a1_ a2_).bind λa2=>(if (!a2) then (some true) else ((ZgH N a0_ a3_ a4_).bind λa1=>(if (!a1) then (some true) else (if (a1_==a3_) then (some (a2_ != a4_)) else (some false))))))).bind λ(a3:Bool) =>
 (if a3 then (some (false,2)) else ((Zgk N a0_ a1_ a2_ a3_ a4_).bind λa0 =>
 (some (a0,0))))))))
def Zg3 (N:Nat)(a0_:Zaw)(a1_:(List Int))(i4:Int):Option ((Int)⊕((Unit)⊕(Bool×Int))):=
 (if (decide (i4<((List.length a1_:Nat):Int))) then ((idx a1_ i4).bind λa1 =>
 ((ZgH N a0_ i4 a1).bind λa0 =>
 (if (!a0) then (some (.inr (.inr (false,2)))) else (some (.inl (w64 (i4+1))))))) else (some (.inr (.inl ()))))
def Zg1 (N:Nat)(a0_:Zaw)(a5:Int)(a4:Int)(a1:List Int)(a0:Int):Option ((Int)⊕((Unit)⊕(Bool×Int))):=
 (if (decide (a0<((List.length a1:Nat):Int))) then ((idx a1 a0).bind λa3 =>
 ((Zgk N a0_ a0 a3 a5 a4).bind λa2 =>
 (if a2 then (some (.inr (.inr (false,0)))) else (some (.inl (w64 (a0+1))))))) else (some (.inr (.inl ()))))
def Zg2 (N:Nat)(a0_:Zaw)(a1_:(List Int))(a0:Int):Option ((Int)⊕((Unit)⊕(Bool×Int))):=
 (if (decide (a0<((List.length a1_:Nat):Int))) then ((idx a1_ a0).bind λa4 =>
 ((subI a1_ 0 (w64 (a0+1))).bind λa3 =>
 ((ZaY (λx:Int=>Zg1 N a0_ a0 a4 a3 x) N 0).bind λa2=>match a2 with
 | (.inl a5)=>(some (.inl (w64 (a0+1))))
 | (.inr a1)=>(some (.inr (.inr a1)))))) else (some (.inr (.inl ()))))
def ZmH (N:Nat)(a0_:Zaw)(a1_:(List Int)):Option (Bool×Int):=
 ((ZhE N a0_).bind λr1 =>
 (if (r1 != 0) then (some (false,r1)) else (if (((List.length a1_:Nat):Int)!=((List.length a0_.Periods:Nat):Int)) then (some (false,2)) else ((ZaY (λx:Int=>Zg3 N a0_ a1_ x) N 0).bind λa3=>match a3 with
 | (.inl a5)=>((ZaY (λx:Int=>Zg2 N a0_ a1_ x) N 0).bind λa2=>match a2 with
 | (.inl a4)=>(some (true,0))
 | (.inr a1)=>(some a1))
 | (.inr a0)=>(some a0)))))
def Zd3 (N:Nat)(a0_:Zag)(a1_:(List Int))(a2_:Za7->Option (Bool×Int)):Option (Bool×Int):=
 ((Zef N a0_ a1_).bind λr1 =>
 (if (r1 != 0) then (some (false,r1)) else ((a2_ (Za7.mk a0_)).bind λr3 =>
 (some (r3.1,r3.2)))))
def Zee (N:Nat)(a0_:Zag)(a1_:(List Int)):Option ((List Int)×Int):=
 ((Zd4 N a0_ a1_ (λx0=>Zfa N x0 a1_)).bind λr4 =>
 (some (r4.1,r4.2)))
def Zd6 (N:Nat)(a0_:Zaw)(a1_:Int)(a2_:Int):Option (Bool):=
 ((ZhZ N a0_ 0 a1_ 1 a2_).bind λr1 =>
 (some (r1.1&&(r1.2==0))))
def ZhF (N:Nat)(a0_:Zaw)(a1_:(List Int)):Option (Bool):=
 ((ZmH N a0_ a1_).bind λr1 =>
 (some (r1.1&&(r1.2==0))))
def Zeg (N:Nat)(a0_:Zag)(a1_:(List Int))(a2_:(List Int)):Option (Bool×Int):=
 ((Zd3 N a0_ a1_ (λx0=>Zeq N x0 a2_ a1_)).bind λr6 =>
 (some (r6.1,r6.2)))
def Zep (N:Nat)(a0_:Zag)(a1_:(List Int)):Option (Int×Int×Int):=
 ((Zee N a0_ a1_).bind λr1 =>
 (if (r1.2 != 0) then (some (0,0,r1.2)) else ((idx r1.1 0).bind λe3 =>
 ((idx r1.1 (w64 (((List.length r1.1:Nat):Int)-1))).bind λe4 =>
 (some (e3,e4,0))))))
def ZfU (N:Nat)(a0_:Zag)(a1_:(List Int))(a2_:Int)(a3_:Int):Option (Bool):=
 ((Zep N a0_ a1_).bind λr1 =>
 (some ((r1.2.2==0)&&((r1.1==a2_)&&(r1.2.1==a3_)))))
def ZeC (N:Nat)(c0_:Zah)(c1_:Zag):Option (Bool):=
 (if (decide (((List.length c0_.Routes:Nat):Int)<2)) then (some true) else ((idx c0_.Routes 0).bind λe5 =>
 ((idx c0_.Routes 1).bind λe7 =>
 ((Zeg N c1_ e5 e7).bind λr8 =>
 (some ((r8.2==0)&&r8.1))))))
def Zcp (N:Nat)(c0_:Zah)(c1_:Zag)(i2:Int):Option ((Int)⊕((Unit)⊕(Bool))):=
 (if (decide (i2<((List.length c0_.Routes:Nat):Int))) then ((idx c0_.Routes i2).bind λa1 =>
 ((ZfU N c1_ a1 c0_.Talker c0_.Listener).bind λa0 =>
 (if (!a0) then (some (.inr (.inr false))) else (some (.inl (w64 (i2+1))))))) else (some (.inr (.inl ()))))
def ZeD (N:Nat)(c0_:Zah)(c1_:Zag):Option (Bool):=
 ((ZaY (λx:Int=>Zcp N c0_ c1_ x) N 0).bind λa1=>match a1 with
 | (.inl a2)=>(some true)
 | (.inr a0)=>(some a0))
def ZeX (N:Nat)(a0_:Zag)(a1_:Zah):Option (Bool):=
 ((ZfM N  a1_).bind λr8 =>
 (if (!r8) then (some false) else ((ZfL N  a0_ a1_).bind λa6 =>
 (if (!a6) then (some false) else ((ZfK N  a1_).bind λa5 =>
 (if (!a5) then (some false) else ((ZfJ N  a1_).bind λa4 =>
 (if (!a4) then (some false) else ((ZeE N  a1_).bind λa3 =>
 (if (!a3) then (some false) else ((ZfI N  a1_).bind λa2 =>
 (if (!a2) then (some false) else ((ZeD N  a1_ a0_).bind λa1 =>
 (if (!a1) then (some false) else ((ZeC N  a1_ a0_).bind λa0 =>
 (if (!a0) then (some false) else (some true)))))))))))))))))
def Zcc (N:Nat)(a0_:Zag)(a1_:(List Zah))(i4:Int):Option ((Int)⊕((Unit)⊕(Int))):=
 (if (decide (i4<((List.length a1_:Nat):Int))) then ((idx a1_ i4).bind λa1 =>
 ((ZeX N a0_ a1).bind λa0 =>
 (if (!a0) then (some (.inr (.inr 321))) else (some (.inl (w64 (i4+1))))))) else (some (.inr (.inl ()))))
def ZbG (N:Nat)(a1_:(List Zah))(a1:Int)(a2:(List (Int×Bool))):Option ((Int×(List (Int×Bool)))⊕((Unit)⊕(Int))):=
 (if (decide (a1<((List.length a1_:Nat):Int))) then ((idx a1_ a1).bind λa0 =>
 (if (Zhk a2 a0.Id false) then (some (.inr (.inr 322))) else (some (.inl ((w64 (a1+1)),(Zed a2 a0.Id true)))))) else (some (.inr (.inl ()))))
def ZdB (N:Nat)(a0_:Zag)(a1_:(List Zah)):Option (Int):=
 ((Zfs N a0_).bind λr1 =>
 (if (r1 != 0) then (some r1) else (if (decide (((List.length a1_:Nat):Int)>12)) then (some 3) else ((ZaY (λx:Int=>Zcc N a0_ a1_ x) N 0).bind λa3=>match a3 with
 | (.inl a5)=>((ZaY (λx:Int×(List (Int×Bool))=>ZbG N a1_ x.1 x.2) N (0,[])).bind λa2=>match a2 with
 | (.inl a4)=>(some 0)
 | (.inr a1)=>(some a1))
 | (.inr a0)=>(some a0)))))
def Zgp (N:Nat)(a0_:Zag)(a1_:ZaE)(a2_:Zah)(a3_:Int):Option (Int):=
 ((Zfs N a0_).bind λr1 =>
 (if (r1 != 0) then (some r1) else ((ZcZ N a1_).bind λr3 =>
 (if (r3 != 0) then (some r3) else ((ZeX N a0_ a2_).bind λr5 =>
 (if (!r5) then (some 321) else (((if (a2_.Class != 7) then (some true) else ((Zbu N a3_ 0 (w64 (((List.length a2_.Routes:Nat):Int)-1))).bind λr9=>(some (!r9))))).bind λ(a0:Bool) =>
 (if a0 then (some 2) else (some 0)))))))))
def ZcW (N:Nat)(a1:(List ZaQ))(x12:ZaQ):Option ((List ZaQ)):=
 ((appI 40 a1 [x12]).bind λa0 =>
 (some a0))
def Zgy (N:Nat)(a0_:Zag)(a1_:ZaE)(a2_:Zah)(a3_:Int):Option ((List ZaQ)×Int):=
 ((Zgp N a0_ a1_ a2_ a3_).bind λr1 =>
 (if (r1 != 0) then (some ([],r1)) else ((ZhK N a0_ a1_ a2_ a3_).bind λr5 =>
 ((Zdf N (λ(s:(List ZaQ)) (x12:ZaQ)=>Ze5 (λv:(List ZaQ)=>ZcW N v x12) s) r5.1 r5.2.1 r5.2.2.1 r5.2.2.2 []).bind λa0 =>
 (some (a0,0))))))
def ZcV (N:Nat)(a0_:Zag)(a1_:ZaE)(i22:Int)(x21:ZaQ):Option (Int):=
 ((idx a0_.Links (w64 (Int.tdiv x21.Port 2))).bind λa0 =>
 (some (w64 ((w64 ((w64 (x21.Open+x21.Long))+a0.Delay))+a1_.Proc))))
def Zgx (N:Nat)(a0_:Zag)(a1_:ZaE)(a2_:Zah)(a3_:Int):Option (Int×Int):=
 ((Zgp N a0_ a1_ a2_ a3_).bind λr7 =>
 (if (r7 != 0) then (some (0,r7)) else ((ZhK N a0_ a1_ a2_ a3_).bind λa0 =>
 ((Zdf N (λ(s:Int) (x21:ZaQ)=>Ze5 (λv:Int=>ZcV N a0_ a1_ v x21) s) a0.1 a0.2.1 a0.2.2.1 a0.2.2.2 0).bind λa1 =>
 (some (a1,0))))))
def Zc1 (N:Nat)(a0_:ZbC)(a2_:ZaE)(a3_:Zah)(a3:(List ZaQ)×Int)(a2:Int)(a6:(List ZaB)):Option ((Int×(List ZaB))⊕(((List ZaB)))):=
 (if (decide (a2<((List.length a3.1:Nat):Int))) then ((idx a3.1 a2).bind λa0 =>
 ((Zd5 N a0.Early a2_.Grid).bind λa1 =>
 ((Zd5 N (w64 ((w64 ((w64 (a0.Open+a0.Long))+a2_.Grid))-1)) a2_.Grid).bind λa5 =>
 ((Zd5 N a1 a3_.Period).bind λa4 =>
 ((appI 32 a6 [(ZaB.mk ((List.length a0_.Problem.Periods:Nat):Int) a0.Port (w64 (a1-(w64 (a4*a3_.Period)))) (w64 (a5-a1)))]).bind λa7 =>
 (some (.inl ((w64 (a2+1)),a7)))))))) else (some (.inr a6)))
def Zc2 (N:Nat)(a0_:ZbC)(a1_:Zag)(a2_:ZaE)(a3_:Zah)(l6:List Int)(i11:Int)(b12:Bool)(a4:(List ZaB)):Option ((Int×Bool×(List ZaB))⊕((Bool×(List ZaB))⊕(Int×ZbC))):=
 (if (decide (i11<((List.length a3_.Routes:Nat):Int))) then ((Zgy N a1_ a2_ a3_ i11).bind λa2 =>
 (if (a2.2 != 0) then (some (.inr (.inr (a2.2,(ZbC.mk (Zaw.mk l6 a4) b12))))) else ((ZaY (λx:Int×(List ZaB)=>Zc1 N a0_ a2_ a3_ a2 x.1 x.2) N (0,a4)).bind λa1 =>
 ((Zgx N a1_ a2_ a3_ i11).bind λa0 =>
 (if (a0.2 != 0) then (some (.inr (.inr (a0.2,(ZbC.mk (Zaw.mk l6 a1) b12))))) else (((if b12 then (some true) else (some (decide ((w64 (a0.1+(w64 (2*a2_.Slack))))>a3_.Deadline))))).bind λ(a3:Bool) =>
 (some (.inl ((w64 (i11+1)),a3,a1))))))))) else (some (.inr (.inl (b12,a4)))))
def ZeI (N:Nat)(a0_:ZbC)(a1_:Zag)(a2_:ZaE)(a3_:Zah):Option (Int×ZbC):=
 ((appI 8 a0_.Problem.Periods [a3_.Period]).bind λl6 =>
 ((ZaY (λx:Int×Bool×(List ZaB)=>Zc2 N a0_ a1_ a2_ a3_ l6 x.1 x.2.1 x.2.2) N (0,a0_.late,a0_.Problem.Uses)).bind λa2=>match a2 with
 | (.inl a0)=>(some (0,(ZbC.mk (Zaw.mk l6 a0.2) a0.1)))
 | (.inr a1)=>(some a1)))
def ZfF (N:Nat)(a0_:Zag)(a1_:ZaE)(a2_:(List Zah))(i12:Int)(b13:Bool)(a3:(List Int))(a2:(List ZaB)):Option ((Int×Bool×(List Int)×(List ZaB))⊕((Bool×(List Int)×(List ZaB))⊕(Zaw×Int))):=
 (if (decide (i12<((List.length a2_:Nat):Int))) then ((idx a2_ i12).bind λa1 =>
 (if (a1.Class != 7) then (some (.inl ((w64 (i12+1)),b13,a3,a2))) else ((ZeI N (ZbC.mk (Zaw.mk a3 a2) b13) a0_ a1_ a1).bind λa0 =>
 (if (a0.1 != 0) then (some (.inr (.inr ((Zaw.mk ([]) ([])),a0.1)))) else (some (.inl ((w64 (i12+1)),a0.2.late,a0.2.Problem.Periods,a0.2.Problem.Uses))))))) else (some (.inr (.inl (b13,a3,a2)))))
def ZfG (N:Nat)(a0_:Zag)(a1_:ZaE)(a2_:(List Zah)):Option (Zaw×Int):=
 ((ZdB N a0_ ([])).bind λr1 =>
 (if (r1 != 0) then (some ((Zaw.mk ([]) ([])),r1)) else ((ZcZ N a1_).bind λr3 =>
 (if (r3 != 0) then (some ((Zaw.mk ([]) ([])),r3)) else ((ZdB N a0_ a2_).bind λr5 =>
 (if (r5 != 0) then (some ((Zaw.mk ([]) ([])),r5)) else ((ZaY (λx:Int×Bool×(List Int)×(List ZaB)=>ZfF N a0_ a1_ a2_ x.1 x.2.1 x.2.2.1 x.2.2.2) N (0,false,[],[])).bind λa3=>match a3 with
 | (.inl a0)=>((ZdY N (ZbC.mk (Zaw.mk a0.2.1 a0.2.2) a0.1)).bind λa1 =>
 (if (a1 != 0) then (some ((Zaw.mk ([]) ([])),a1)) else (some ((Zaw.mk a0.2.1 a0.2.2),0))))
 | (.inr a2)=>(some a2))))))))
def Zg4 (N:Nat)(a0_:(List Zah)):Option (Zaw×Int):=
 ((ZkZ N).bind λr1 =>
 ((ZfG N r1 (ZaE.mk 100 2 10 8000) a0_).bind λr2 =>
 (some (r2.1,r2.2))))
def ZgJ (N:Nat):Option (Bool):=
 ((Zcg N 1 20 10000).bind λr1 =>
 ((Zg4 N ([r1])).bind λr2 =>
 ((Zcg N 1 8 10000).bind λr3 =>
 ((Zg4 N ([r3])).bind λr4 =>
 ((Zcg N 1 20 1718).bind λr5 =>
 ((Zg4 N ([r5])).bind λr6 =>
 ((Zcg N 1 20 10000).bind λr7 =>
 ((Zcg N 2 30 10000).bind λr8 =>
 ((Zg4 N ([r7,r8])).bind λr9 =>
 ((Zcg N 1 40 10000).bind λad =>
 ((Zcg N 2 40 10000).bind λac =>
 ((Zg4 N ([ad,ac])).bind λa0 =>
 ((Zg4 N ([])).bind λa3 =>
 ((Zi3 N r9.1).bind λa2 =>
 ((Zi3 N a3.1).bind λa1 =>
 (((if (r2.2 != 0) then (some true) else (if (r9.2 != 0) then (some true) else (if (a0.2 != 0) then (some true) else (if (a3.2 != 0) then (some true) else (if (a2.2 != 0) then (some true) else (if (a1.2 != 0) then (some true) else ((ZcF N r2.1 (Zaw.mk ([20]) ([(ZaB.mk 0 0 0 8),(ZaB.mk 0 2 8 9)]))).bind λab=>(some (!ab)))))))))).bind λ(ag:Bool) =>
 (if ag then (some false) else ((((Zd6 N r9.1 0 8).bind λaa=>(if aa then ((Zd6 N r9.1 0 9).bind λa9=>(if a9 then ((Zd6 N r9.1 0 10).bind λa8=>(if a8 then ((Zd6 N r9.1 0 2).bind λa7=>(some a7)) else (some false))) else (some false))) else (some false)))).bind λ(af:Bool) =>
 (((if (r4.2==341) then (if (r6.2==342) then (if af then ((ZhF N a0.1 ([0,9])).bind λa6=>(if a6 then ((ZhF N a0.1 ([0,8])).bind λa5=>(if (!a5) then ((ZhF N a0.1 ([35,4])).bind λa4=>(if a4 then (if (a2.1==60) then (some (a1.1==1)) else (some false)) else (some false))) else (some false))) else (some false))) else (some false)) else (some false)) else (some false))).bind λ(ae:Bool) =>
 (some ae))))))))))))))))))))
def Zch (N:Nat)(a3_:Zhc)(i9:Int)(a5:(List Zah)):Option ((Int×(List Zah))⊕(((List Zah)))):=
 (if (decide (i9<((List.length a5:Nat):Int))) then ((((((shrI .u16 a3_.x0 (IntKind.u64.wrap (i9))).bind λa4 =>
 (if ((andI .u16 a4 1)==1) then ((idx a5 i9).bind λa1 =>
 (some (List.set a5 (Int.toNat i9) (Zah.mk a1.Id a1.Talker a1.Listener a1.Class a1.Size a1.Period a1.Bucket (w64 (1+(w64 (a3_.x1)))) a1.Routes)))) else (some a5)))).bind λ(a2:(List Zah)) =>
 ((((shrI .u16 a3_.x0 (IntKind.u64.wrap ((w64 (i9+6))))).bind λa3=>(if ((andI .u16 a3 1)==1) then ((idx a2 i9).bind λa8=>(some (a8.Class==7))) else (some false)))).bind λ(a6:Bool) =>
 (if a6 then ((idx a2 i9).bind λa0 =>
 (some (List.set a2 (Int.toNat i9) (Zah.mk a0.Id a0.Talker a0.Listener a0.Class a0.Size (w64 (1+(w64 ((Int.tmod a3_.x2 240))))) a0.Bucket a0.Deadline a0.Routes)))) else (some a2))))).bind λ(a7:(List Zah)) =>
 (some (.inl ((w64 (i9+1)),a7)))) else (some (.inr a5)))
def Zfl (N:Nat)(a0_:Zbi)(a1_:(List ZbN))(a2_:Zlf)(a3_:Zhc):Option (Bool):=
 ((Zde N a0_).bind λr1 =>
 ((Zfc N r1 a1_).bind λr2 =>
 ((Zgh N a2_.x0 a2_.x1 a2_.x2).bind λr3 =>
 ((appI 96 [] r2).bind λl6 =>
 ((ZaY (λx:Int×(List Zah)=>Zch N a3_ x.1 x.2) N (0,l6)).bind λa2 =>
 (((((if (decide (((List.length a2:Nat):Int)>1)) then (some ((Int.tmod a3_.x3 8)==0)) else (some false))).bind λ(aD:Bool) =>
 (if aD then ((idx a2 0).bind λaE =>
 ((idx a2 1).bind λa1 =>
 (some (List.set a2 (Int.toNat 1) (Zah.mk aE.Id a1.Talker a1.Listener a1.Class a1.Size a1.Period a1.Bucket a1.Deadline a1.Routes))))) else (some a2)))).bind λ(a0:(List Zah)) =>
 ((ZfG N r1 r3 r2).bind λaj =>
 ((ZeP N r1 r3 r2).bind λai =>
 (((if (aj.2 != ai.2) then (some true) else ((ZcF N aj.1 ai.1).bind λau=>(some (!au))))).bind λ(aC:Bool) =>
 (if aC then (some false) else ((ZfG N (Zag.mk 0 ([]) ([])) r3 r2).bind λag =>
 ((ZeP N (Zag.mk 0 ([]) ([])) r3 r2).bind λaf =>
 (((if (ag.2 != af.2) then (some true) else ((ZcF N ag.1 af.1).bind λar=>(some (!ar))))).bind λ(aB:Bool) =>
 (if aB then (some false) else ((ZfG N r1 r3 a0).bind λae =>
 ((ZeP N r1 r3 a0).bind λad =>
 (((if (ae.2 != ad.2) then (some true) else ((ZcF N ae.1 ad.1).bind λaq=>(some (!aq))))).bind λ(aA:Bool) =>
 (if aA then (some false) else ((ZfG N (Zag.mk 0 ([]) ([])) r3 a0).bind λac =>
 ((ZeP N (Zag.mk 0 ([]) ([])) r3 a0).bind λab =>
 (((if (ac.2 != ab.2) then (some true) else ((ZcF N ac.1 ab.1).bind λap=>(some (!ap))))).bind λ(az:Bool) =>
 (if az then (some false) else ((ZfG N r1 (ZaE.mk (w64 (a3_.x3)) r3.Slack r3.Proc r3.Cap) r2).bind λaa =>
 ((ZeP N r1 (ZaE.mk (w64 (a3_.x3)) r3.Slack r3.Proc r3.Cap) r2).bind λa9 =>
 (((if (aa.2 != a9.2) then (some true) else ((ZcF N aa.1 a9.1).bind λao=>(some (!ao))))).bind λ(ay:Bool) =>
 (if ay then (some false) else ((ZfG N (Zag.mk 0 ([]) ([])) (ZaE.mk (w64 (a3_.x3)) r3.Slack r3.Proc r3.Cap) r2).bind λa8 =>
 ((ZeP N (Zag.mk 0 ([]) ([])) (ZaE.mk (w64 (a3_.x3)) r3.Slack r3.Proc r3.Cap) r2).bind λa7 =>
 (((if (a8.2 != a7.2) then (some true) else ((ZcF N a8.1 a7.1).bind λan=>(some (!an))))).bind λ(ax:Bool) =>
 (if ax then (some false) else ((ZfG N r1 (ZaE.mk (w64 (a3_.x3)) r3.Slack r3.Proc r3.Cap) a0).bind λa6 =>
 ((ZeP N r1 (ZaE.mk (w64 (a3_.x3)) r3.Slack r3.Proc r3.Cap) a0).bind λa5 =>
 (((if (a6.2 != a5.2) then (some true) else ((ZcF N a6.1 a5.1).bind λam=>(some (!am))))).bind λ(aw:Bool) =>
 (if aw then (some false) else ((ZfG N (Zag.mk 0 ([]) ([])) (ZaE.mk (w64 (a3_.x3)) r3.Slack r3.Proc r3.Cap) a0).bind λa4 =>
 ((ZeP N (Zag.mk 0 ([]) ([])) (ZaE.mk (w64 (a3_.x3)) r3.Slack r3.Proc r3.Cap) a0).bind λa3 =>
 (((if (a4.2 != a3.2) then (some true) else ((ZcF N a4.1 a3.1).bind λal=>(some (!al))))).bind λ(av:Bool) =>
 (if av then (some false) else ((ZgJ N).bind λak =>
 (some ak))))))))))))))))))))))))))))))))))))))))
end Go.Sh

