/-Part of the proof. -/
import Derived.Test.YtlajapegdomhfaaGreatSynthOpensE26
set_option linter.all false
namespace Go.Sh
open Go Go.Eng
set_option maxRecDepth 100000
structure ZbQ where
 Bridges:Int
 Stations:Int
 Chords:(List Int)
 Homes:(List Int)
 Pers:(List Int)
 Delays:(List Int)
structure Zcw where
 Reserved:Bool
 Two:Bool
 Node:Int
 Way:Int
 Size:Int
 Period:Int
 Burst:Int
 Rate:Int
def ZeI (v:Zcw):List PC:=[.bool v.Reserved,.bool v.Two,.int .u8 v.Node,.int .u8 v.Way,.int .u8 v.Size,.int .u8 v.Period,.int .u8 v.Burst,.int .u16 v.Rate]
structure ZxV where
 x0:Int
 x1:Int
 x2:Int
structure ZfS where
 T:ZbQ
 L:(List Zcw)
 U:ZxV
 Some:(List Int)
 Find:Bool
def Zt0 (v:ZfS):List PC:=[.int .u8 v.T.Bridges,.int .u8 v.T.Stations,.sl 1 false (List.map (eI .u8) v.T.Chords),.sl 1 false (List.map (eI .u8) v.T.Homes),.sl 1 false (List.map (eI .u8) v.T.Pers),.sl 1 false (List.map (eI .u8) v.T.Delays),.sl 8 false (List.map ZeI v.L),.int .u8 v.U.x0,.int .u8 v.U.x1,.int .u8 v.U.x2,.sl 1 false (List.map (eI .u8) v.Some),.bool v.Find]
structure ZaL where
 Mask:Int
 Long:Int
def ZaV (v:ZaL):List PC:=[.int .i64 v.Mask,.int .i64 v.Long]
structure ZaM where
 Entries:(List ZaL)
 Cycle:Int
def ZaP (v:ZaM):List PC:=[.sl 2 false (List.map ZaV v.Entries),.int .i64 v.Cycle]
structure ZaW where
 A:Int
 B:Int
 Per:Int
 Delay:Int
def ZaI (v:ZaW):List PC:=[.int .i64 v.A,.int .i64 v.B,.int .i64 v.Per,.int .i64 v.Delay]
structure Zaz where
 Nodes:Int
 Station:(List Bool)
 Links:(List ZaW)
structure ZaC where
 Grid:Int
 Slack:Int
 Proc:Int
 Cap:Int
structure ZfX where
 Burst:Int
 Rate:Int
structure Zax where
 Id:Int
 Talker:Int
 Listener:Int
 Class:Int
 Size:Int
 Period:Int
 Bucket:ZfX
 Deadline:Int
 Routes:(List (List Int))
def ZaG (v:Zax):List PC:=[.int .i64 v.Id,.int .i64 v.Talker,.int .i64 v.Listener,.int .i64 v.Class,.int .i64 v.Size,.int .i64 v.Period,.int .i64 v.Bucket.Burst,.int .i64 v.Bucket.Rate,.int .i64 v.Deadline,.sl 1 false (List.map (eSl 1 eI64) v.Routes)]
structure ZaN where
 Stream:Int
 Port:Int
 From:Int
 Long:Int
def ZaE (v:ZaN):List PC:=[.int .i64 v.Stream,.int .i64 v.Port,.int .i64 v.From,.int .i64 v.Long]
structure ZaB where
 Periods:(List Int)
 Uses:(List ZaN)
structure ZaZ where
 Port:Int
 Early:Int
 Late:Int
 Open:Int
 Long:Int
def Zbl (v:ZaZ):List PC:=[.int .i64 v.Port,.int .i64 v.Early,.int .i64 v.Late,.int .i64 v.Open,.int .i64 v.Long]
structure Zdy where
 From:Int
 To:Int
 By:Int
 Next:Int
def ZcM (v:Zdy):List PC:=[.int .i64 v.From,.int .i64 v.To,.int .i64 v.By,.int .i64 v.Next]
structure Zcl where
 Stream:Int
 Arms:(List Zdy)
def Zba (v:Zcl):List PC:=[.int .i64 v.Stream,.sl 4 false (List.map ZcM v.Arms)]
structure Zbw where
 Id:Int
 Port:Int
 Begin:Int
 Period:Int
 Long:Int
 Frame:Int
structure Za9 where
 Proof:(List Zcl)
 Offsets:(List Int)
 What:Int
structure ZbT where
 Problem:ZaB
 late:Bool
structure ZaR where
 Period:Int
 From:Int
 Long:Int
def ZcB (v:ZaR):List PC:=[.int .i64 v.Period,.int .i64 v.From,.int .i64 v.Long]
structure Za6 where
 port:Int
 from_:Int
 long:Int
 period:Int
structure Zbs where
 x0:Bool
 x1:Bool
 x2:Bool
 x3:Bool
 x4:Bool
 x5:Bool
 x6:Bool
 x7:Bool
 x8:Bool
 x9:Bool
 x10:Bool
 x11:Bool
 x12:Bool
 x13:Bool
 x14:Bool
 x15:Bool
 x16:Bool
 x17:Bool
 x18:Bool
 x19:Bool
 x20:Bool
 x21:Bool
 x22:Bool
 x23:Bool
structure Zbq where
 Topo:Zaz
structure ZaF where
 x0:Bool
 x1:Bool
 x2:Bool
 x3:Bool
 x4:Bool
 x5:Bool
 x6:Bool
 x7:Bool
 x8:Bool
 x9:Bool
 x10:Bool
 x11:Bool
structure Zb1 where
 port:Int
 from_:Int
 to_:Int
abbrev ZaJ (f:Bool) (l:List Int):AV:=.p (.sl 1 f (List.map eI64 l))
abbrev Zhj (f:Bool) (l:List Int):AV:=.p (.sl 1 f (List.map (eI .u8) l))
abbrev Za4 (f:Bool) (l:List ZaM):AV:=.p (.sl 2 f (List.map ZaP l))
abbrev ZaD (f:Bool) (l:List Zax):AV:=.p (.sl 10 f (List.map ZaG l))
abbrev Zja (f:Bool) (l:List ZaL):AV:=.p (.sl 2 f (List.map ZaV l))
abbrev s_eB (f:Bool) (l:List Bool):AV:=.p (.sl 1 f (List.map eB l))
abbrev Zke (f:Bool) (l:List Zcw):AV:=.p (.sl 8 f (List.map ZeI l))
abbrev ZvU (f:Bool) (l:List (List Bool)):AV:=.p (.sl 1 f (List.map (eSl 1 eB) l))
abbrev Zbv (f:Bool) (l:List ZaW):AV:=.p (.sl 4 f (List.map ZaI l))
abbrev ZdC (f:Bool) (l:List (List Int)):AV:=.p (.sl 1 f (List.map (eSl 1 eI64) l))
abbrev Zcv (f:Bool) (l:List ZaN):AV:=.p (.sl 4 f (List.map ZaE l))
abbrev ZcV (f:Bool) (l:List Zcl):AV:=.p (.sl 2 f (List.map Zba l))
abbrev Zuk (f:Bool) (l:List Zdy):AV:=.p (.sl 4 f (List.map ZcM l))
abbrev ZnH (f:Bool) (l:List ZaR):AV:=.p (.sl 3 f (List.map ZcB l))
abbrev ZcK (f:Bool) (l:List ZaZ):AV:=.p (.sl 5 f (List.map Zbl l))
abbrev ZdS (v:ZbQ):List AV:=[.p (.int .u8 v.Bridges),.p (.int .u8 v.Stations),Zhj false v.Chords,Zhj false v.Homes,Zhj false v.Pers,Zhj false v.Delays]
abbrev ZjP (v:Zcw):List AV:=[bv v.Reserved,bv v.Two,.p (.int .u8 v.Node),.p (.int .u8 v.Way),.p (.int .u8 v.Size),.p (.int .u8 v.Period),.p (.int .u8 v.Burst),.p (.int .u16 v.Rate)]
abbrev Zn5 (v:ZfS):List AV:=[.p (.int .u8 v.T.Bridges),.p (.int .u8 v.T.Stations),Zhj false v.T.Chords,Zhj false v.T.Homes,Zhj false v.T.Pers,Zhj false v.T.Delays,Zke false v.L,.p (.int .u8 v.U.x0),.p (.int .u8 v.U.x1),.p (.int .u8 v.U.x2),Zhj false v.Some,bv v.Find]
abbrev Zc4 (v:ZaM):List AV:=[Zja false v.Entries,iv v.Cycle]
abbrev ZrB (v:ZaW):List AV:=[iv v.A,iv v.B,iv v.Per,iv v.Delay]
abbrev Zay (v:Zaz):List AV:=[iv v.Nodes,s_eB false v.Station,Zbv false v.Links]
abbrev ZaA (v:ZaC):List AV:=[iv v.Grid,iv v.Slack,iv v.Proc,iv v.Cap]
abbrev Zt3 (v:ZfX):List AV:=[iv v.Burst,iv v.Rate]
abbrev ZaQ (v:Zax):List AV:=[iv v.Id,iv v.Talker,iv v.Listener,iv v.Class,iv v.Size,iv v.Period,iv v.Bucket.Burst,iv v.Bucket.Rate,iv v.Deadline,ZdC false v.Routes]
abbrev ZdY (v:ZaN):List AV:=[iv v.Stream,iv v.Port,iv v.From,iv v.Long]
abbrev ZaH (v:ZaB):List AV:=[ZaJ false v.Periods,Zcv false v.Uses]
abbrev ZiS (v:ZaZ):List AV:=[iv v.Port,iv v.Early,iv v.Late,iv v.Open,iv v.Long]
abbrev ZeJ (v:ZaR):List AV:=[iv v.Period,iv v.From,iv v.Long]
abbrev Zgj (v:Za6):List AV:=[iv v.port,iv v.from_,iv v.long,iv v.period]
abbrev ZkH (v:Zbs):List AV:=[bv v.x0,bv v.x1,bv v.x2,bv v.x3,bv v.x4,bv v.x5,bv v.x6,bv v.x7,bv v.x8,bv v.x9,bv v.x10,bv v.x11,bv v.x12,bv v.x13,bv v.x14,bv v.x15,bv v.x16,bv v.x17,bv v.x18,bv v.x19,bv v.x20,bv v.x21,bv v.x22,bv v.x23]
def Zbs.l (v:Zbs):List Bool:=[v.x0,v.x1,v.x2,v.x3,v.x4,v.x5,v.x6,v.x7,v.x8,v.x9,v.x10,v.x11,v.x12,v.x13,v.x14,v.x15,v.x16,v.x17,v.x18,v.x19,v.x20,v.x21,v.x22,v.x23]
def Zbs.ofL (l:List Bool):Zbs:=⟨l.getD 0 false,l.getD 1 false,l.getD 2 false,l.getD 3 false,l.getD 4 false,l.getD 5 false,l.getD 6 false,l.getD 7 false,l.getD 8 false,l.getD 9 false,l.getD 10 false,l.getD 11 false,l.getD 12 false,l.getD 13 false,l.getD 14 false,l.getD 15 false,l.getD 16 false,l.getD 17 false,l.getD 18 false,l.getD 19 false,l.getD 20 false,l.getD 21 false,l.getD 22 false,l.getD 23 false⟩
def Zbs.get (v:Zbs)(i:Int):Option Bool:=idx v.l i
def Zbs.set (v:Zbs)(i:Int)(x:Bool):Zbs:=Zbs.ofL (v.l.set i.toNat x)
def Zbs.l_ofL (l:List Bool)(h:l.length=24):(Zbs.ofL l).l=l:=ZuA 24 false l h rfl
def Zbs.l_set (v:Zbs)(i:Int)(x:Bool):(v.set i x).l=v.l.set i.toNat x:=Zbs.l_ofL _ (by rw[List.length_set];rfl)
def Zbs.c_set (v:Zbs)(i:Int)(x:Bool):ZkH (v.set i x)=(v.l.set i.toNat x).map (λx=>bv x):=by rw[←Zbs.l_set];rfl
abbrev Zbj (v:ZaF):List AV:=[bv v.x0,bv v.x1,bv v.x2,bv v.x3,bv v.x4,bv v.x5,bv v.x6,bv v.x7,bv v.x8,bv v.x9,bv v.x10,bv v.x11]
def ZaF.l (v:ZaF):List Bool:=[v.x0,v.x1,v.x2,v.x3,v.x4,v.x5,v.x6,v.x7,v.x8,v.x9,v.x10,v.x11]
def ZaF.ofL (l:List Bool):ZaF:=⟨l.getD 0 false,l.getD 1 false,l.getD 2 false,l.getD 3 false,l.getD 4 false,l.getD 5 false,l.getD 6 false,l.getD 7 false,l.getD 8 false,l.getD 9 false,l.getD 10 false,l.getD 11 false⟩
def ZaF.get (v:ZaF)(i:Int):Option Bool:=idx v.l i
def ZaF.set (v:ZaF)(i:Int)(x:Bool):ZaF:=ZaF.ofL (v.l.set i.toNat x)
def ZaF.l_ofL (l:List Bool)(h:l.length=12):(ZaF.ofL l).l=l:=ZuA 12 false l h rfl
def ZaF.l_set (v:ZaF)(i:Int)(x:Bool):(v.set i x).l=v.l.set i.toNat x:=ZaF.l_ofL _ (by rw[List.length_set];rfl)
def ZaF.c_set (v:ZaF)(i:Int)(x:Bool):Zbj (v.set i x)=(v.l.set i.toNat x).map (λx=>bv x):=by rw[←ZaF.l_set];rfl
abbrev Zqb (v:Zb1):List AV:=[iv v.port,iv v.from_,iv v.to_]
def Zr2 (N:Nat)(a b:List ZaM)(i2 a0:Int):Option ((Int)⊕((Unit)⊕(Bool))):=
 ((idx a i2).bind λa5=>
 if(decide (a0<(a5.Entries.length:Int)))then(idx a i2).bind λa4=>
 (idx a4.Entries a0).bind λa2=>
 (idx b i2).bind λa3=>
 (idx a3.Entries a0).bind λa1=>
 if(!((a2.Mask==a1.Mask)&&((a2.Long==a1.Long)&&true)))then some (.inr (.inr false))else some (.inl (w64 (a0+1)))else some (.inr (.inl ())))
def Zr3 (N:Nat)(a b:List ZaM)(i2:Int):Option ((Int)⊕((Unit)⊕(Bool))):=
 (if(decide (i2<(a.length:Int)))then(((idx a i2).bind λa6=>(idx b i2).bind λa5=>if(a6.Cycle !=a5.Cycle)then some true else(idx a i2).bind λa4=>(idx b i2).bind λa3=>some ((a4.Entries.length:Int)!=(a3.Entries.length:Int))).bind λ(a2:Bool)=>
 (if a2 then some (.inr (.inr false))else((ZaT (λx:Int=>Zr2 N a b i2 x) N 0).bind λa1=>match a1 with
 |(.inl a7)=>(some (.inl (w64 (i2+1))))
 |(.inr a0)=>some (.inr (.inr a0)))))else some (.inr (.inl ())))
def Zra (N:Nat)(a b:List ZaM):Option Bool:=
 (if((a.length:Int)!=(b.length:Int))then some false else((ZaT (λx:Int=>Zr3 N a b x) N 0).bind λa1=>match a1 with
 |(.inl a2)=>(some true)
 |(.inr a0)=>some a0))
def Zh0 (N:Nat)(a:List Int)(i1:Int)(a4:Bool)(a0:Int):Option ((Bool×Int)⊕((Bool))):=
 (if(decide (a0<(a.length:Int)))then(if a4 then(idx a a0).bind λa3=>(remI i1 a3).bind λa1=>if(a1==0)then some true else some false else some false).bind λ(a2:Bool)=>
 some (.inl (a2,(w64 (a0+1))))else some (.inr a4))
def Zgq (N:Nat)(a:List Int)(i1:Int):Option ((Int)⊕((Unit)⊕(Int))):=
 (if(decide (i1<=960))then(ZaT (λx:Bool×Int=>Zh0 N a i1 x.1 x.2) N (true,0)).bind λa0=>
 if a0 then some (.inr (.inr i1))else some (.inl (w64 (i1+1)))else some (.inr (.inl ())))
def ZiE (N:Nat)(a:List Int):Option Int:=
 ((ZaT (λx:Int=>Zgq N a x) N 1).bind λa1=>match a1 with
 |(.inl a2)=>(some 0)
 |(.inr a0)=>some a0)
def Zjg (N:Nat)(a:ZaB)(b:List Int)(i3:Int)(l4:List Int):Option ((Int×(List Int))⊕(((List Int)))):=
 (if(decide (i3<(a.Periods.length:Int)))then(if(decide (i3<(b.length:Int)))then(idx b i3).bind λa4=>
 (idx a.Periods i3).bind λa3=>
 (remI (w64 a4) a3).bind λa0=>
 some a0 else some 0).bind λ(a2:Int)=>
 (appI 8 l4 [a2]).bind λa1=>
 some (.inl ((w64 (i3+1)),a1))else some (.inr l4))
def ZiD (N:Nat)(a:ZaB)(b:List Int):Option (List Int):=
 ((ZaT (λx:Int×(List Int)=>Zjg N a b x.1 x.2) N (0,[])).bind λa0=>
 some a0)
def ZeX (N:Nat)(a:ZaM)(i4 i5:Int):Option ((Int×Int)⊕((Int)⊕(Int))):=
 (if(decide (i5<(a.Entries.length:Int)))then(idx a.Entries i5).bind λa0=>
 if((decide (a0.Mask<0))||((decide (a0.Mask>255))||((decide (a0.Long<1))||(decide (a0.Long>9600000)))))then some (.inr (.inr 370))else some (.inl ((w64 (i4+a0.Long)),(w64 (i5+1))))else some (.inr (.inl i4)))
def ZfW (N:Nat)(a:ZaM):Option Int:=
 (if((decide ((a.Entries.length:Int)<1))||(decide ((a.Entries.length:Int)>128)))then some 370 else((ZaT (λx:Int×Int=>ZeX N a x.1 x.2) N (0,0)).bind λa2=>match a2 with
 |(.inl a0)=>(if((a0 !=a.Cycle)||(decide (a0>9600000)))then some 370 else some 0)
 |(.inr a1)=>some a1))
def Zjn (N:Nat)(a b c:Int):Option ZaC:=
 (some (ZaC.mk (w64 (100+(w64 (20*(w64 a))))) (w64 (Int.tmod b 40)) (w64 c) 8000))
def Zey (N:Nat)(a:Zaz)(b:ZaC)(c:List Zax)(d:List Int):Option ((List Zax)×(List Int)×Zaz×ZaC):=
 (some (c,d,a,b))
def ZgQ (N:Nat)(a:List Bool)(b i3 i4 i5:Int)(l6:List ZaL):Option ((Int×Int×Int×(List ZaL))⊕(((List ZaL)))):=
 (if(decide (i3<(a.length:Int)))then(idx a i3).bind λa5=>
 (if a5 then some 128 else some 127).bind λ(a0:Int)=>
 (if((a0==i4)&&((b==i5)&&true))then(idx l6 (w64 ((l6.length:Int)-1))).bind λa4=>
 (idx l6 (w64 ((l6.length:Int)-1))).bind λa3=>
 some (List.set l6 (Int.toNat (w64 ((l6.length:Int)-1))) (ZaL.mk a3.Mask (w64 (a4.Long+b))))else(appI 16 l6 [(ZaL.mk a0 b)]).bind λa1=>
 some a1).bind λ(a2:(List ZaL))=>
 some (.inl ((w64 (i3+1)),a0,b,a2))else some (.inr l6))
def ZkP (N:Nat)(a:List Bool)(b:Int):Option ZaM:=
 ((ZaT (λx:Int×Int×Int×(List ZaL)=>ZgQ N a b x.1 x.2.1 x.2.2.1 x.2.2.2) N (0,0,0,[])).bind λa0=>
 some (ZaM.mk a0 (w64 ((a.length:Int)*b))))
def Zrk (N:Nat):Option Zaz:=
 (some (Zaz.mk 3 ([true,false,true]) ([(ZaW.mk 0 1 8 5),(ZaW.mk 1 2 8 5)])))
def ZpS (N:Nat):Option ZaC:=
 (some (ZaC.mk 100 2 10 8000))
def ZfC (N:Nat)(a b:Int):Option Zax:=
 (some (Zax.mk a 0 2 7 100 b (ZfX.mk 0 0) 10000 ([[0,2]])))
def Zsq (N:Nat)(a:List Int)(i3 i4:Int)(l5:List ZaL):Option ((Int×Int×(List ZaL))⊕((Int×(List ZaL)))):=
 (if(decide ((w64 (i3+1))<(a.length:Int)))then(idx a i3).bind λa3=>
 (idx a (w64 (i3+1))).bind λa2=>
 (appI 16 l5 [(ZaL.mk a3 a2)]).bind λa0=>
 (idx a (w64 (i3+1))).bind λa1=>
 some (.inl ((w64 (i3+2)),(w64 (i4+a1)),a0))else some (.inr (i4,l5)))
def ZiQ (N:Nat)(a:List Int):Option ZaM:=
 ((ZaT (λx:Int×Int×(List ZaL)=>Zsq N a x.1 x.2.1 x.2.2) N (0,0,[])).bind λa0=>
 some (ZaM.mk a0.2 a0.1))
def ZqD (N:Nat)(a:ZaM)(i4 i5:Int):Option ((Int×Int)⊕((Int)⊕(Bool))):=
 (if(decide (i5<(a.Entries.length:Int)))then(idx a.Entries i5).bind λa0=>
 if((decide (a0.Mask<0))||((decide (a0.Mask>255))||((decide (a0.Long<1))||(decide (a0.Long>9600000)))))then some (.inr (.inr false))else some (.inl ((w64 (i4+a0.Long)),(w64 (i5+1))))else some (.inr (.inl i4)))
def Zun (N:Nat)(a:ZaM):Option Bool:=
 (if((decide ((a.Entries.length:Int)<1))||(decide ((a.Entries.length:Int)>128)))then some false else((ZaT (λx:Int×Int=>ZqD N a x.1 x.2) N (0,0)).bind λa2=>match a2 with
 |(.inl a0)=>(some ((a0==a.Cycle)&&(decide (a0<=9600000))))
 |(.inr a1)=>some a1))
def Zi2 (N:Nat)(a:Zaz)(b:ZaC)(c:Zax)(d:Int):Option (Zax×Int×Zaz×ZaC):=
 (some (c,d,a,b))
def ZhE (N:Nat)(a:ZaM)(b c d:Int):Option Int:=
 ((ZfW N a).bind λr1=>
 if(r1 !=0)then some r1 else if((decide (b<0))||((decide (b≥8))||((decide (c<(-1099511627776)))||((decide (c>1099511627776))||((decide (d<0))||(decide (d>1099511627776)))))))then some 2 else some 0)
def ZdR (N:Nat)(a:ZaM)(i3 i4:Int):Option ((Int×Int)⊕((Int×Int))):=
 ((idx a.Entries i4).bind λa2=>
 if(decide (i3≥a2.Long))then(idx a.Entries i4).bind λa1=>
 some (.inl ((w64 (i3-a1.Long)),(w64 (i4+1))))else(idx a.Entries i4).bind λa0=>
 some (.inr (i4,(w64 (a0.Long-i3)))))
def Zhf (N:Nat)(a:ZaM)(b:Int):Option (Int×Int):=
 ((remI b a.Cycle).bind λm1=>
 (remI (w64 (m1+a.Cycle)) a.Cycle).bind λm2=>
 (ZaT (λx:Int×Int=>ZdR N a x.1 x.2) N (m2,0)).bind λa0=>
 some a0)
def Zcp (N:Nat)(a:ZaM)(b:Int->Option (Bool))(i2 i3 i4 i5:Int):Option ((Int×Int×Int×Int)⊕((Unit)⊕(Int))):=
 (if(decide (i5<(w64 ((a.Entries.length:Int)+1))))then(idx a.Entries i2).bind λa3=>
 (b a3.Mask).bind λa1=>
 if(!a1)then some (.inr (.inr i4))else(remI (w64 (i2+1)) (a.Entries.length:Int)).bind λa0=>
 (idx a.Entries a0).bind λa2=>
 some (.inl (a0,a2.Long,(w64 (i4+i3)),(w64 (i5+1))))else some (.inr (.inl ())))
def ZeH (N:Nat)(a:ZaM)(b:Int)(c:Int->Option (Bool)):Option Int:=
 ((Zhf N a b).bind λr1=>
 ((ZaT (λx:Int×Int×Int×Int=>Zcp N a c x.1 x.2.1 x.2.2.1 x.2.2.2) N (r1.1,r1.2,0,0)).bind λa1=>match a1 with
 |(.inl a2)=>(some a.Cycle)
 |(.inr a0)=>some a0))
def Zfk (N:Nat)(a:List Int)(b:Int):Option Int:=
 (if(decide (b<(a.length:Int)))then(idx a b).bind λe2=>
 some (w64 e2)else some 0)
def Zih (N:Nat)(a:ZaB)(i4:Int):Option ((Int)⊕((Unit)⊕(Bool))):=
 (if(decide (i4<(a.Periods.length:Int)))then((idx a.Periods i4).bind λa2=>if(decide (a2<1))then some true else(idx a.Periods i4).bind λa1=>some (decide (a1>240))).bind λ(a0:Bool)=>
 if a0 then some (.inr (.inr false))else some (.inl (w64 (i4+1)))else some (.inr (.inl ())))
def Zig (N:Nat)(a:ZaB)(a1:Int):Option ((Int)⊕((Unit)⊕(Bool))):=
 (if(decide (a1<(a.Uses.length:Int)))then(idx a.Uses a1).bind λa0=>
 if((decide (a0.Stream<0))||((decide (a0.Stream≥(a.Periods.length:Int)))||((decide (a0.Port<0))||(decide (a0.Port≥48)))))then some (.inr (.inr false))else(if(decide (a0.From<0))then some true else(idx a.Periods a0.Stream).bind λa4=>if(decide (a0.From≥a4))then some true else if(decide (a0.Long<1))then some true else(idx a.Periods a0.Stream).bind λa3=>some (decide (a0.Long>a3))).bind λ(a2:Bool)=>
 if a2 then some (.inr (.inr false))else some (.inl (w64 (a1+1)))else some (.inr (.inl ())))
def Zjh (N:Nat)(a:ZaB):Option Bool:=
 (if((decide ((a.Periods.length:Int)>12))||(decide ((a.Uses.length:Int)>192)))then some false else((ZaT (λx:Int=>Zih N a x) N 0).bind λa4=>match a4 with
 |(.inl a6)=>((ZaT (λx:Int=>Zig N a x) N 0).bind λa3=>match a3 with
 |(.inl a5)=>((ZiE N a.Periods).bind λa0=>
 some (decide (a0>0)))
 |(.inr a2)=>some a2)
 |(.inr a1)=>some a1))
def Zjw (N:Nat)(a:ZaB)(b c:Int):Option Bool:=
 ((if(decide (c≥0))then(idx a.Periods b).bind λe2=>some (decide (c<e2))else some false).bind λ(j4:Bool)=>
 some j4)
def Zth (N:Nat)(a:ZaB)(b c:Int):Option Bool:=
 ((if(decide (b≥0))then if(decide (b<(a.Periods.length:Int)))then if(decide (c≥0))then(idx a.Periods b).bind λe4=>some (decide (c<e4))else some false else some false else some false).bind λ(j8:Bool)=>
 some j8)
def Zhw (N:Nat)(a:ZaW)(b c:Int):Option Bool:=
 (some (if(a.A==b)then(a.B==c)||((a.A==c)&&(a.B==b))else(a.A==c)&&(a.B==b)))
def Zdn (N:Nat)(a b c:Int):Option Bool:=
 (some ((decide (a≥b))&&(decide (a<=c))))
def Zkp (N:Nat)(a:Zaz)(b:Int):Option Int:=
 ((idx a.Links (w64 (Int.tdiv b 2))).bind λe1=>
 some e1.Per)
def Zhx (N:Nat)(a:Zaz)(b:Int):Option Int:=
 ((idx a.Links (w64 (Int.tdiv b 2))).bind λe1=>
 some e1.Delay)
def Zhs (N:Nat)(a b:Int):Option Int:=
 ((remI a b).bind λm1=>
 (if(decide (m1<0))then some (w64 (m1+b))else some m1).bind λ(a0:Int)=>
 some a0)
def Zuo (N:Nat)(a:ZaM)(a1 a0:Int):Option ((Int×Int)⊕((Int×Int))):=
 ((idx a.Entries a0).bind λa3=>
 if(decide (a1≥a3.Long))then(idx a.Entries a0).bind λa2=>
 some (.inl ((w64 (a1-a2.Long)),(w64 (a0+1))))else some (.inr (a1,a0)))
def Zyn (N:Nat)(a:ZaM)(b:Int):Option (Int×Int):=
 ((remI b a.Cycle).bind λm1=>
 (if(decide (m1<0))then some (w64 (m1+a.Cycle))else some m1).bind λ(a1:Int)=>
 (ZaT (λx:Int×Int=>Zuo N a x.1 x.2) N (a1,0)).bind λa0=>
 some (a0.2,a0.1))
def ZbL (N:Nat)(a b c:Int):Option Bool:=
 (some ((decide (a≥b))&&(decide (a<=c))))
def ZbY {σ:Type}(N:Nat)(a:σ->ZaZ->Option (σ×Bool))(b:Zax)(c:Zaz)(d:ZaC)(e3:List Int)(i6 i7 i10 i11 i12 i8:Int)(g9:σ):Option ((Int×Int×Int×Int×Int×Int×σ)⊕((σ)⊕(σ))):=
 (if(decide (i6<(e3.length:Int)))then(idx e3 i6).bind λa4=>
 (if(decide (i6>0))then(idx c.Links (w64 (Int.tdiv i7 2))).bind λa2=>
 (quoI .i64 (w64 ((w64 ((w64 ((w64 ((w64 ((w64 (i12+i8))+a2.Delay))+d.Proc))+(w64 (2*d.Slack))))+d.Grid))-1)) d.Grid).bind λa5=>
 some ((w64 ((w64 ((w64 ((w64 (i12+i8))+a2.Delay))+d.Proc))-(w64 (2*d.Slack)))),(w64 ((w64 ((w64 ((w64 (i12+i8))+a2.Delay))+d.Proc))+(w64 (2*d.Slack)))),(w64 (a5*d.Grid)))else some (i10,i11,i12)).bind λ(a0:Int×Int×Int)=>
 (idx c.Links (w64 (Int.tdiv a4 2))).bind λa3=>
 (a g9 (ZaZ.mk a4 a0.1 a0.2.1 a0.2.2 (w64 (b.Size*a3.Per)))).bind λa1=>
 if(!a1.2)then some (.inr (.inr a1.1))else some (.inl ((w64 (i6+1)),a4,a0.1,a0.2.1,a0.2.2,(w64 (b.Size*a3.Per)),a1.1))else some (.inr (.inl g9)))
def ZdH {σ:Type}(N:Nat)(a:σ->ZaZ->Option (σ×Bool))(b:Zax)(c:Int)(d:Zaz)(e:ZaC)(f:σ):Option (σ):=
 ((idx b.Routes c).bind λe3=>
 ((ZaT (λx:Int×Int×Int×Int×Int×Int×σ=>ZbY N a b d e e3 x.1 x.2.1 x.2.2.1 x.2.2.2.1 x.2.2.2.2.1 x.2.2.2.2.2.1 x.2.2.2.2.2.2) N (0,0,0,0,0,0,f)).bind λa2=>match a2 with
 |(.inl a1)=>(some a1)
 |(.inr a0)=>some a0))
def Zdu (N:Nat)(a:Zaz)(b:Int):Option Int:=
 ((idx a.Links (w64 (Int.tdiv b 2))).bind λe1=>
 if((Int.tmod b 2)==1)then some e1.B else some e1.A)
def ZeD (N:Nat)(a:Zaz)(b:Int):Option Int:=
 ((idx a.Links (w64 (Int.tdiv b 2))).bind λe1=>
 if((Int.tmod b 2)==1)then some e1.A else some e1.B)
def ZeF (N:Nat)(a b:Int):Option Int:=
 ((quoI .i64 a b).bind λq1=>
 ((remI a b).bind λa0=>
 if(decide (a0<0))then some (w64 (q1-1))else some q1).bind λ(a1:Int)=>
 some a1)
def ZkT (N:Nat)(a:ZaB)(b c:Int):Option (ZaB×Int×Int):=
 (some (a,b,c))
def Zfy (N:Nat)(a:ZaB)(b:ZaN)(c:Int):Option ZaR:=
 ((idx a.Periods b.Stream).bind λe1=>
 (remI (w64 (b.From+c)) e1).bind λm2=>
 some (ZaR.mk e1 m2 b.Long))
def Zmg (N:Nat)(a:ZaB)(b c:Int):Option ZaR:=
 ((idx a.Uses b).bind λe1=>
 (idx a.Periods e1.Stream).bind λe2=>
 (idx a.Uses b).bind λe3=>
 (remI (w64 (e3.From+c)) e2).bind λm4=>
 (idx a.Uses b).bind λe5=>
 some (ZaR.mk e2 m4 e5.Long))
def ZiH (N:Nat)(a:Zaz)(b:Int):Option Bool:=
 (some ((decide (b≥0))&&(decide (b<a.Nodes))))
def Zjt (N:Nat)(a:List Int)(b i1:Int):Option ((Int)⊕((Unit)⊕(Bool))):=
 (if(decide (i1<(a.length:Int)))then(idx a i1).bind λa0=>
 if(a0==b)then some (.inr (.inr true))else some (.inl (w64 (i1+1)))else some (.inr (.inl ())))
def Zju (N:Nat)(a:List Int)(b:Int):Option Bool:=
 ((ZaT (λx:Int=>Zjt N a b x) N 0).bind λa1=>match a1 with
 |(.inl a2)=>(some false)
 |(.inr a0)=>some a0)
def ZdL (N:Nat)(a:Zaz)(b:Int):Option Bool:=
 (((Zdn N b 0 (w64 (a.Nodes-1))).bind λr1=>if r1 then(idx a.Station b).bind λe3=>some e3 else some false).bind λ(j5:Bool)=>
 some j5)
def Zh5 (N:Nat)(a b:Int):Option Bool:=
 (some (a==b))
def ZdF (N:Nat)(a:Zaz)(b:Zbs)(a2:Int)(a1:List Bool):Option ((Int×(List Bool))⊕(((List Bool)))):=
 (if(decide (a2<(a.Links.length:Int)))then((idx a.Links a2).bind λa0=>
 ((b.get a2).bind λa7=>if(!a7)then(idx a1 a0.A).bind λa6=>(idx a1 a0.B).bind λa5=>some (a6 !=a5)else some false).bind λ(a3:Bool)=>
 if a3 then(idx a1 a0.A).bind λa9=>
 (idx (List.set a1 (Int.toNat a0.A) true) a0.B).bind λa8=>
 some (List.set (List.set a1 (Int.toNat a0.A) true) (Int.toNat a0.B) true)else some a1).bind λ(a4:(List Bool))=>
 some (.inl ((w64 (a2+1)),a4))else some (.inr a1))
def Zex (N:Nat)(a:Zaz)(b:Zbs)(i10:Int)(a1:List Bool):Option ((Int×(List Bool))⊕(((List Bool)))):=
 (if(decide (i10<a.Nodes))then(ZaT (λx:Int×(List Bool)=>ZdF N a b x.1 x.2) N (0,a1)).bind λa0=>
 some (.inl ((w64 (i10+1)),a0))else some (.inr a1))
def ZkO (N:Nat)(a:Zaz)(b:Int)(c:Zbs):Option (List Bool):=
 ((Zgs 1 a.Nodes a.Nodes false).bind λl3=>
 (idx l3 b).bind λe4=>
 (ZaT (λx:Int×(List Bool)=>Zex N a c x.1 x.2) N (0,(List.set l3 (Int.toNat b) true))).bind λa0=>
 some a0)
def Zf4 (N:Nat)(a:Zax):Option Bool:=
 ((ZbL N a.Id 1 4095).bind λr2=>
 some r2)
def ZeR (N:Nat)(a:Zaz)(b:Int):Option Bool:=
 (((ZbL N b 0 (w64 (a.Nodes-1))).bind λr1=>if r1 then(idx a.Station b).bind λe3=>some e3 else some false).bind λ(j5:Bool)=>
 some j5)
def Zf2 (N:Nat)(a:Zax):Option Bool:=
 ((ZbL N a.Size 84 1542).bind λr2=>
 some r2)
def Zf1 (N:Nat)(a:Zax):Option Bool:=
 ((ZbL N a.Deadline 1 1099511627776).bind λr2=>
 some r2)
def Zf0 (N:Nat)(a:Zax):Option Bool:=
 ((ZbL N (a.Routes.length:Int) 1 2).bind λr2=>
 some r2)
def Ze3 (N:Nat)(a b:List Int)(i1:Int):Option ((Int)⊕((Unit)⊕(Bool))):=
 (if(decide (i1<(w64 ((a.length:Int)-1))))then(idx a i1).bind λa1=>
 (Zju N b a1).bind λa0=>
 if a0 then some (.inr (.inr true))else some (.inl (w64 (i1+1)))else some (.inr (.inl ())))
def Zfv (N:Nat)(a b:List Int):Option Bool:=
 ((ZaT (λx:Int=>Ze3 N a b x) N 1).bind λa1=>match a1 with
 |(.inl a2)=>(some false)
 |(.inr a0)=>some a0)
def Zd4 (N:Nat)(a:Zaz)(b:List Int)(i7:Int)(l8:List Int):Option ((Int×(List Int))⊕(((List Int)))):=
 (if(decide (i7<(b.length:Int)))then(idx b i7).bind λa2=>
 (ZeD N a a2).bind λa0=>
 (appI 8 l8 [a0]).bind λa1=>
 some (.inl ((w64 (i7+1)),a1))else some (.inr l8))
def Zem (N:Nat)(a:Zaz)(b:List Int):Option (List Int):=
 ((idx b 0).bind λe1=>
 (Zdu N a e1).bind λr2=>
 (ZaT (λx:Int×(List Int)=>Zd4 N a b x.1 x.2) N (0,[r2])).bind λa0=>
 some a0)
def Zdv {σ:Type}(N:Nat)(a:σ->ZaN->ZaN->Option (σ×Bool))(b:ZaB)(c i4:Int)(a5:ZaN)(a1:Int)(a3:σ):Option ((Int×σ)⊕((σ)⊕(σ))):=
 (if(decide (a1<(b.Uses.length:Int)))then(idx b.Uses a1).bind λa2=>
 (if(a1==i4)then some true else if(a2.Stream !=c)then some true else some (a2.Port !=a5.Port)).bind λ(a4:Bool)=>
 if a4 then some (.inl ((w64 (a1+1)),a3))else(a a3 a5 a2).bind λa0=>
 if(!a0.2)then some (.inr (.inr a0.1))else some (.inl ((w64 (a1+1)),a0.1))else some (.inr (.inl a3)))
def Zdw {σ:Type}(N:Nat)(a:σ->ZaN->ZaN->Option (σ×Bool))(b:ZaB)(c d i4:Int)(g5:σ):Option ((Int×σ)⊕((σ)⊕(σ))):=
 (if(decide (i4<(b.Uses.length:Int)))then((idx b.Uses i4).bind λa3=>
 (if(a3.Stream !=c)then some (.inl ((w64 (i4+1)),g5))else((ZaT (λx:Int×σ=>Zdv N a b d i4 a3 x.1 x.2) N (0,g5)).bind λa2=>match a2 with
 |(.inl a1)=>(some (.inl ((w64 (i4+1)),a1)))
 |(.inr a0)=>some (.inr (.inr a0)))))else some (.inr (.inl g5)))
def Zh1 {σ:Type}(N:Nat)(a:σ->ZaN->ZaN->Option (σ×Bool))(b:ZaB)(c d:Int)(e:σ):Option (σ):=
 ((ZaT (λx:Int×σ=>Zdw N a b c d x.1 x.2) N (0,e)).bind λa2=>match a2 with
 |(.inl a1)=>(some a1)
 |(.inr a0)=>some a0)
def ZeB (N:Nat)(a:ZaR):Option Int:=
 (if((decide (a.Period<1))||((decide (a.Period>960))||((decide (a.From<0))||(decide (a.From≥a.Period)))))then some 330 else if((decide (a.Long<1))||(decide (a.Long>a.Period)))then some 330 else some 0)
def ZdK (N:Nat)(a:List ZaR)(i2:Int):Option ((Int)⊕((Unit)⊕(Int))):=
 (if(decide (i2<(a.length:Int)))then(idx a i2).bind λa1=>
 (ZeB N a1).bind λa0=>
 if(a0 !=0)then some (.inr (.inr a0))else some (.inl (w64 (i2+1)))else some (.inr (.inl ())))
def Ze1 (N:Nat)(a:List ZaR):Option Int:=
 (if(decide ((a.length:Int)>32))then some 3 else((ZaT (λx:Int=>ZdK N a x) N 0).bind λa1=>match a1 with
 |(.inl a2)=>(some 0)
 |(.inr a0)=>some a0))
def Zgr (N:Nat)(a b i1:Int):Option ((Int)⊕((Unit)⊕(Int))):=
 (if(decide (i1>1))then((remI a i1).bind λa1=>if(a1==0)then(remI b i1).bind λa0=>some (a0==0)else some false).bind λ(a2:Bool)=>
 if a2 then some (.inr (.inr i1))else some (.inl (w64 (i1-1)))else some (.inr (.inl ())))
def Zmh (N:Nat)(a b:Int):Option Int:=
 ((ZaT (λx:Int=>Zgr N a b x) N a).bind λa1=>match a1 with
 |(.inl a2)=>(some 1)
 |(.inr a0)=>some a0)
def ZkS (N:Nat)(a:Zaz)(b:Int):Option Bool:=
 (some ((decide (b≥0))&&(decide (b<(w64 (2*(a.Links.length:Int)))))))
def Zj7 (N:Nat)(a:Zaz)(b:Int):Option Bool:=
 (some ((decide (b≥0))&&(decide (b<a.Nodes))))
def ZhO (N:Nat)(a:Int)(b:Zaz):Option Bool:=
 ((idx b.Links a).bind λe2=>
 ((idx b.Station e2.A).bind λe4=>if(!e4)then some true else(idx b.Station e2.B).bind λe8=>some (!e8)).bind λ(j9:Bool)=>
 some j9)
def Zfq (N:Nat)(e2:ZaW)(l4:List ZaW)(i5:Int):Option ((Int)⊕((Unit)⊕(Bool))):=
 (if(decide (i5<(l4.length:Int)))then(idx l4 i5).bind λa0=>
 if(if(e2.A==a0.A)then(e2.B==a0.B)||((e2.A==a0.B)&&(e2.B==a0.A))else(e2.A==a0.B)&&(e2.B==a0.A))then some (.inr (.inr false))else some (.inl (w64 (i5+1)))else some (.inr (.inl ())))
def Zgm (N:Nat)(a:Int)(b:Zaz):Option Bool:=
 ((idx b.Links a).bind λe2=>
 ((subI b.Links 0 a).bind λl4=>
 ((ZaT (λx:Int=>Zfq N e2 l4 x) N 0).bind λa1=>match a1 with
 |(.inl a2)=>(some true)
 |(.inr a0)=>some a0)))
def ZhN (N:Nat)(a:Int)(b:Zaz):Option Bool:=
 ((idx b.Links a).bind λe2=>
 some ((decide (e2.Per≥1))&&((decide (e2.Per<=1000))&&((decide (e2.Delay≥0))&&(decide (e2.Delay<=10000))))))
def Zcq (N:Nat)(a:List Bool)(b:Bool)(i1:Int):Option ((Int)⊕((Unit)⊕(Int))):=
 (if(decide (i1<(a.length:Int)))then(idx a i1).bind λa0=>
 if(b==a0)then some (.inr (.inr i1))else some (.inl (w64 (i1+1)))else some (.inr (.inl ())))
def ZdI (N:Nat)(a:List Bool)(b:Bool):Option Int:=
 ((ZaT (λx:Int=>Zcq N a b x) N 0).bind λa1=>match a1 with
 |(.inl a2)=>(some (-1))
 |(.inr a0)=>some a0)
def ZeK (N:Nat)(a b c:Int):Option Bool:=
 (some ((decide (b<=a))&&(decide (a<=c))))
def Zfs (N:Nat)(a:List Int)(a2 a0:Int):Option ((Int)⊕((Unit)⊕(Bool))):=
 (if(decide (a0<(a.length:Int)))then(idx a a0).bind λa1=>
 if((w64 (Int.tdiv a2 2))==(w64 (Int.tdiv a1 2)))then some (.inr (.inr true))else some (.inl (w64 (a0+1)))else some (.inr (.inl ())))
def Zft (N:Nat)(a b:List Int)(i1:Int):Option ((Int)⊕((Unit)⊕(Bool))):=
 (if(decide (i1<(a.length:Int)))then((idx a i1).bind λa2=>
 ((ZaT (λx:Int=>Zfs N b a2 x) N 0).bind λa1=>match a1 with
 |(.inl a3)=>(some (.inl (w64 (i1+1))))
 |(.inr a0)=>some (.inr (.inr a0))))else some (.inr (.inl ())))
def ZhX (N:Nat)(a b:List Int):Option Bool:=
 ((ZaT (λx:Int=>Zft N a b x) N 0).bind λa1=>match a1 with
 |(.inl a2)=>(some false)
 |(.inr a0)=>some a0)
def Zd6 (N:Nat)(a:Zaz)(b i3:Int)(l4:List Int):Option ((Int×(List Int))⊕(((List Int)))):=
 (if(decide (i3<(w64 (2*(a.Links.length:Int)))))then((Zdu N a i3).bind λa0=>
 if(a0==b)then(appI 8 l4 [i3]).bind λa1=>
 some a1 else some l4).bind λ(a2:(List Int))=>
 some (.inl ((w64 (i3+1)),a2))else some (.inr l4))
def Zhv (N:Nat)(a:Zaz)(b:Int):Option (List Int):=
 ((ZaT (λx:Int×(List Int)=>Zd6 N a b x.1 x.2) N (0,[])).bind λa0=>
 some a0)
def Zje (N:Nat)(a b:Int):Option Int:=
 ((remI a b).bind λm1=>
 (remI (w64 (m1+b)) b).bind λm2=>
 some m2)
def Zf8 (N:Nat)(i1 i2:Int):Option ((Int×Int)⊕((Int))):=
 (if(i2 !=0)then(remI i1 i2).bind λa0=>
 some (.inl (i2,a0))else some (.inr i1))
def Zho (N:Nat)(a b:Int):Option Int:=
 ((ZaT (λx:Int×Int=>Zf8 N x.1 x.2) N (a,b)).bind λa0=>
 some a0)
def Zds (N:Nat)(a:Zbq)(b:List Int):Option ((List Int)×Zbq):=
 (some (b,a))
def Zbd {σ:Type}(N:Nat)(a:σ->Int->Zb1->Option (σ×Bool))(b:List Int)(c:Zbq)(i4:Int)(g5:σ):Option ((Int×σ)⊕((σ))):=
 (if(decide (i4<(b.length:Int)))then(idx b i4).bind λa1=>
 (if(decide (a1<0))then some true else some (decide (a1≥(w64 (2*(c.Topo.Links.length:Int)))))).bind λ(a4:Bool)=>
 if a4 then some (.inr g5)else(idx c.Topo.Links (w64 (Int.tdiv a1 2))).bind λa2=>
 (if((Int.tmod a1 2)==1)then some (a2.B,a2.A)else some (a2.A,a2.B)).bind λ(a3:Int×Int)=>
 (a g5 i4 (Zb1.mk a1 a3.1 a3.2)).bind λa0=>
 if(!a0.2)then some (.inr a0.1)else some (.inl ((w64 (i4+1)),a0.1))else some (.inr g5))
def Zdr {σ:Type}(N:Nat)(a:σ->Int->Zb1->Option (σ×Bool))(b:List Int)(c:Zbq)(d:σ):Option (σ):=
 ((ZaT (λx:Int×σ=>Zbd N a b c x.1 x.2) N (0,d)).bind λa0=>
 some a0)
def ZcG (N:Nat)(a:List Int)(b i1:Int):Option ((Int)⊕((Unit)⊕(Int))):=
 (if(decide (i1<(a.length:Int)))then(idx a i1).bind λa0=>
 if(b==a0)then some (.inr (.inr i1))else some (.inl (w64 (i1+1)))else some (.inr (.inl ())))
def Zej (N:Nat)(a:List Int)(b:Int):Option Int:=
 ((ZaT (λx:Int=>ZcG N a b x) N 0).bind λa1=>match a1 with
 |(.inl a2)=>(some (-1))
 |(.inr a0)=>some a0)
def ZfV (N:Nat)(a:ZaM)(b:Int):Option (Int×Int):=
 ((ZhE N a 0 b 0).bind λr1=>
 if(r1 !=0)then some (0,r1)else(Zhf N a b).bind λr3=>
 (idx a.Entries r3.1).bind λe4=>
 some (e4.Mask,0))
def Zon (N:Nat)(a:ZaB)(b:List Int)(i2:Int):Option ((Int)⊕((Unit)⊕(Bool))):=
 (if(decide (i2<(b.length:Int)))then(idx b i2).bind λa1=>
 (Zth N a i2 a1).bind λa0=>
 if(!a0)then some (.inr (.inr false))else some (.inl (w64 (i2+1)))else some (.inr (.inl ())))
def Zr5 (N:Nat)(a:ZaB)(b:List Int):Option Bool:=
 (if((b.length:Int)!=(a.Periods.length:Int))then some false else((ZaT (λx:Int=>Zon N a b x) N 0).bind λa1=>match a1 with
 |(.inl a2)=>(some true)
 |(.inr a0)=>some a0))
def Zjo (N:Nat)(a:ZaC):Option Bool:=
 (((Zdn N a.Grid 1 10000).bind λr1=>if r1 then(Zdn N a.Slack 0 1000).bind λr3=>if r3 then(Zdn N a.Proc 0 10000).bind λr5=>if r5 then(Zdn N a.Cap 1542 65536).bind λr7=>some r7 else some false else some false else some false).bind λ(a0:Bool)=>
 some a0)
def Zkn (N:Nat)(a:ZaC)(a1:ZaZ)(a2 a0:Int):Option ((Int)⊕((Int))):=
 (if(decide (a0<(w64 ((w64 ((w64 ((w64 (a1.Open+a1.Long))+a2))+a.Proc))+(w64 (2*a.Slack))))))then some (.inl (w64 (a0+a.Grid)))else some (.inr a0))
def Zfj (N:Nat)(a:Zaz)(b:ZaC)(c:Zax)(d:List Int)(i8:Int)(l9:List ZaZ):Option ((Int×(List ZaZ))⊕(((List ZaZ)))):=
 (if(decide (i8<(d.length:Int)))then(idx l9 (w64 (i8-1))).bind λa0=>
 (Zhx N a a0.Port).bind λa1=>
 (idx d i8).bind λa6=>
 (idx d i8).bind λa5=>
 (Zkp N a a5).bind λa4=>
 (ZaT (λx:Int=>Zkn N b a0 a1 x) N 0).bind λa2=>
 (appI 40 l9 [(ZaZ.mk a6 (w64 ((w64 ((w64 ((w64 (a0.Open+a0.Long))+a1))+b.Proc))-(w64 (2*b.Slack)))) (w64 ((w64 ((w64 ((w64 (a0.Open+a0.Long))+a1))+b.Proc))+(w64 (2*b.Slack)))) a2 (w64 (c.Size*a4)))]).bind λa3=>
 some (.inl ((w64 (i8+1)),a3))else some (.inr l9))
def ZiG (N:Nat)(a:Zaz)(b:ZaC)(c:Zax)(d:List Int):Option (List ZaZ):=
 ((idx d 0).bind λe1=>
 (idx d 0).bind λe2=>
 (Zkp N a e2).bind λr3=>
 (ZaT (λx:Int×(List ZaZ)=>Zfj N a b c d x.1 x.2) N (1,[(ZaZ.mk e1 0 0 0 (w64 (c.Size*r3)))])).bind λa0=>
 some a0)
def Zml (N:Nat)(a:Zaz)(b:ZaC)(c:Zax)(d:List Int):Option Int:=
 ((ZiG N a b c d).bind λr1=>
 (idx r1 (w64 ((r1.length:Int)-1))).bind λe2=>
 (Zhx N a e2.Port).bind λr3=>
 some (w64 ((w64 ((w64 (e2.Open+e2.Long))+r3))+b.Proc)))
def Zoj (N:Nat)(a:ZaC)(b:List Zax)(c:List Int)(i3 i4:Int)(a1:List ZaZ)(a0:Int)(a2:List Zbw):Option ((Int×(List Zbw))⊕(((List Zbw)))):=
 (if(decide (a0<(a1.length:Int)))then(idx a1 a0).bind λab=>
 (quoI .i64 (w64 ((w64 (ab.Long+a.Grid))-1)) a.Grid).bind λa3=>
 (idx b i4).bind λaa=>
 (idx a1 a0).bind λa9=>
 (idx a1 a0).bind λa8=>
 (idx c i3).bind λa7=>
 (idx b i4).bind λa6=>
 (idx a1 a0).bind λa5=>
 (appI 48 a2 [(Zbw.mk aa.Id a9.Port (w64 (a8.Open+(w64 (a7*a.Grid)))) (w64 (a6.Period*a.Grid)) (w64 (a3*a.Grid)) a5.Long)]).bind λa4=>
 some (.inl ((w64 (a0+1)),a4))else some (.inr a2))
def Zok (N:Nat)(a:Zaz)(b:ZaC)(c:List Zax)(d:List Int)(i3 i4 a0:Int)(a1:List Zbw):Option ((Int×(List Zbw))⊕(((List Zbw)))):=
 ((idx c i4).bind λa7=>
 if(decide (a0<(a7.Routes.length:Int)))then(idx c i4).bind λa6=>
 (idx c i4).bind λa5=>
 (idx a5.Routes a0).bind λa4=>
 (ZiG N a b a6 a4).bind λa2=>
 (ZaT (λx:Int×(List Zbw)=>Zoj N b c d i3 i4 a2 x.1 x.2) N (0,a1)).bind λa3=>
 some (.inl ((w64 (a0+1)),a3))else some (.inr a1))
def Zol (N:Nat)(a:Zaz)(b:ZaC)(c:List Zax)(d:List Int)(i3 i4:Int)(l5:List Zbw):Option ((Int×Int×(List Zbw))⊕(((List Zbw)))):=
 (if(decide (i4<(c.length:Int)))then((idx c i4).bind λa2=>
 if(a2.Class !=7)then some (i3,l5)else(ZaT (λx:Int×(List Zbw)=>Zok N a b c d i3 i4 x.1 x.2) N (0,l5)).bind λa1=>
 some ((w64 (i3+1)),a1)).bind λ(a0:Int×(List Zbw))=>
 some (.inl (a0.1,(w64 (i4+1)),a0.2))else some (.inr l5))
def Zr0 (N:Nat)(a:Zaz)(b:ZaC)(c:List Zax)(d:List Int):Option (List Zbw):=
 ((ZaT (λx:Int×Int×(List Zbw)=>Zol N a b c d x.1 x.2.1 x.2.2) N (0,0,[])).bind λa0=>
 some a0)
def Zpk (N:Nat)(a:ZaM)(b:Zbw)(i2 a1:Int):Option ((Int)⊕((Unit)⊕(Bool))):=
 (if(decide (a1<(w64 (i2+b.Frame))))then(Zyn N a a1).bind λa0=>
 (idx a.Entries a0.1).bind λa3=>
 if(a3.Mask !=128)then some (.inr (.inr false))else(idx a.Entries a0.1).bind λa2=>
 some (.inl (w64 ((w64 (a1-a0.2))+a2.Long)))else some (.inr (.inl ())))
def Zpl (N:Nat)(a:ZaM)(b:Zbw)(i2:Int):Option ((Int)⊕((Unit)⊕(Bool))):=
 (if(decide (i2<a.Cycle))then((ZaT (λx:Int=>Zpk N a b i2 x) N i2).bind λa1=>match a1 with
 |(.inl a2)=>(some (.inl (w64 (i2+b.Period))))
 |(.inr a0)=>some (.inr (.inr a0)))else some (.inr (.inl ())))
def Zte (N:Nat)(a:ZaM)(b:Zbw):Option Bool:=
 ((Zhs N b.Begin b.Period).bind λr1=>
 ((ZaT (λx:Int=>Zpl N a b x) N r1).bind λa1=>match a1 with
 |(.inl a2)=>(some true)
 |(.inr a0)=>some a0))
def Zdp (N:Nat)(a:ZaC):Option Int:=
 (((ZbL N a.Grid 1 10000).bind λr1=>if(!r1)then some true else(ZbL N a.Slack 0 1000).bind λr4=>some (!r4)).bind λ(j5:Bool)=>
 if j5 then some 320 else((ZbL N a.Proc 0 10000).bind λr7=>if(!r7)then some true else(ZbL N a.Cap 1542 65536).bind λa0=>some (!a0)).bind λ(a1:Bool)=>
 if a1 then some 320 else some 0)
def ZiI (N:Nat)(a:Zaz)(b:ZaW):Option Bool:=
 (((ZiH N a b.A).bind λr1=>if(!r1)then some true else(ZiH N a b.B).bind λr4=>if(!r4)then some true else if(b.A==b.B)then some true else(idx a.Station b.A).bind λe9=>if e9 then(idx a.Station b.B).bind λa1=>some a1 else some false).bind λ(a0:Bool)=>
 if a0 then some false else some ((decide (b.Per≥1))&&((decide (b.Per<=1000))&&((decide (b.Delay≥0))&&(decide (b.Delay<=10000))))))
def Zdj (N:Nat)(a:Zaz)(b:List Int)(a2:Int)(a1:List Bool):Option ((Int×(List Bool))⊕(((List Bool)))):=
 (if(decide (a2<(a.Links.length:Int)))then((idx a.Links a2).bind λa0=>
 ((Zju N b a2).bind λa3=>if(!a3)then(idx a1 a0.A).bind λa7=>if a7 then some true else(idx a1 a0.B).bind λa6=>some a6 else some false).bind λ(a4:Bool)=>
 if a4 then(idx a1 a0.A).bind λa9=>
 (idx (List.set a1 (Int.toNat a0.A) true) a0.B).bind λa8=>
 some (List.set (List.set a1 (Int.toNat a0.A) true) (Int.toNat a0.B) true)else some a1).bind λ(a5:(List Bool))=>
 some (.inl ((w64 (a2+1)),a5))else some (.inr a1))
def Zd5 (N:Nat)(a:Zaz)(b:List Int)(i10:Int)(a1:List Bool):Option ((Int×(List Bool))⊕(((List Bool)))):=
 (if(decide (i10<a.Nodes))then(ZaT (λx:Int×(List Bool)=>Zdj N a b x.1 x.2) N (0,a1)).bind λa0=>
 some (.inl ((w64 (i10+1)),a0))else some (.inr a1))
def Zjq (N:Nat)(a:Zaz)(b:Int)(c:List Int):Option (List Bool):=
 ((Zgs 1 a.Nodes a.Nodes false).bind λl3=>
 (idx l3 b).bind λe4=>
 (ZaT (λx:Int×(List Bool)=>Zd5 N a c x.1 x.2) N (0,(List.set l3 (Int.toNat b) true))).bind λa0=>
 some a0)
def Zhq (N:Nat)(a b:Int):Option Int:=
 ((Zhs N a b).bind λr1=>
 (quoI .i64 (w64 (a-r1)) b).bind λq2=>
 some q2)
def Zk0 (N:Nat)(a:ZaM)(b:Int):Option (Int×Int):=
 ((ZhE N a 0 b 0).bind λr1=>
 if(r1 !=0)then some (0,r1)else(Zhf N a b).bind λr3=>
 (idx a.Entries r3.1).bind λe4=>
 (ZeH N a b (λx0=>Zh5 N x0 e4.Mask)).bind λr8=>
 if(r8==a.Cycle)then some (0,4)else some ((w64 (b+r8)),0))
def Zgc (N:Nat)(a b:List Int)(i1 a0:Int):Option ((Int)⊕((Unit)⊕(Bool))):=
 (if(decide (a0<(b.length:Int)))then(idx a i1).bind λa2=>
 (idx b a0).bind λa1=>
 if((w64 (Int.tdiv a2 2))==(w64 (Int.tdiv a1 2)))then some (.inr (.inr false))else some (.inl (w64 (a0+1)))else some (.inr (.inl ())))
def Zgd (N:Nat)(a b:List Int)(i1:Int):Option ((Int)⊕((Unit)⊕(Bool))):=
 (if(decide (i1<(a.length:Int)))then((ZaT (λx:Int=>Zgc N a b i1 x) N 0).bind λa1=>match a1 with
 |(.inl a2)=>(some (.inl (w64 (i1+1))))
 |(.inr a0)=>some (.inr (.inr a0)))else some (.inr (.inl ())))
def Zen (N:Nat)(a:Zaz)(b c:List Int):Option Bool:=
 ((ZaT (λx:Int=>Zgd N b c x) N 0).bind λa7=>match a7 with
 |(.inl a9)=>(((Zem N a b).bind λa5=>(Zem N a c).bind λa4=>(Zfv N a5 a4).bind λa3=>if(!a3)then(Zem N a c).bind λa2=>(Zem N a b).bind λa1=>(Zfv N a2 a1).bind λa0=>some (!a0)else some false).bind λ(a8:Bool)=>
 some a8)
 |(.inr a6)=>some a6)
def ZcW (N:Nat)(a b:ZaR)(r1 i2:Int):Option ((Int)⊕((Unit)⊕(Bool))):=
 (if(decide (i2<a.Long))then(Zhs N (w64 ((w64 (b.From-a.From))-i2)) r1).bind λa0=>
 if(a0==0)then some (.inr (.inr false))else some (.inl (w64 (i2+1)))else some (.inr (.inl ())))
def ZeS (N:Nat)(a b:ZaR):Option Bool:=
 ((Zmh N a.Period b.Period).bind λr1=>
 ((ZaT (λx:Int=>ZcW N a b r1 x) N (w64 (1-b.Long))).bind λa1=>match a1 with
 |(.inl a2)=>(some true)
 |(.inr a0)=>some a0))
def Zgb (N:Nat)(a:Zaz)(b:List Int)(i4:Int):Option ((Int)⊕((Unit)⊕(Bool))):=
 (if(decide (i4<(b.length:Int)))then(idx b i4).bind λa1=>
 (ZkS N a a1).bind λa0=>
 if(!a0)then some (.inr (.inr false))else some (.inl (w64 (i4+1)))else some (.inr (.inl ())))
def Zga (N:Nat)(a:Zaz)(b a1:List Int)(a0:Int):Option ((Int)⊕((Unit)⊕(Bool))):=
 (if(decide (a0<(a1.length:Int)))then(subI a1 0 a0).bind λa4=>
 (idx a1 a0).bind λaa=>
 (Zju N a4 aa).bind λa3=>
 if a3 then some (.inr (.inr false))else(if(decide (a0>0))then if(decide (a0<(b.length:Int)))then(idx a1 a0).bind λa9=>(idx a.Station a9).bind λa8=>if a8 then some true else(idx b a0).bind λa7=>(Zdu N a a7).bind λa2=>(idx a1 a0).bind λa6=>some (a2 !=a6)else some false else some false).bind λ(a5:Bool)=>
 if a5 then some (.inr (.inr false))else some (.inl (w64 (a0+1)))else some (.inr (.inl ())))
def ZdM (N:Nat)(a:Zaz)(b:List Int):Option Bool:=
 (if((decide ((b.length:Int)<1))||(decide ((b.length:Int)>8)))then some false else((ZaT (λx:Int=>Zgb N a b x) N 0).bind λa4=>match a4 with
 |(.inl a6)=>((Zem N a b).bind λa3=>
 ((ZaT (λx:Int=>Zga N a b a3 x) N 0).bind λa2=>match a2 with
 |(.inl a5)=>(some true)
 |(.inr a1)=>some a1))
 |(.inr a0)=>some a0))
def Zcr (N:Nat)(a:List Bool)(b:Bool):Option Bool:=
 ((ZdI N a b).bind λr1=>
 some (decide (r1≥0)))
def Zf3 (N:Nat)(a:Zaz)(b:Zax):Option Bool:=
 (((ZeR N a b.Talker).bind λr3=>if r3 then(ZeR N a b.Listener).bind λr7=>if r7 then some (b.Talker !=b.Listener)else some false else some false).bind λ(a0:Bool)=>
 some a0)
def ZkI (N:Nat)(a:ZfX):Option Int:=
 (((ZeK N a.Burst 1 1048576).bind λr1=>if(!r1)then some true else(ZeK N a.Rate 1 2097152).bind λr4=>some (!r4)).bind λ(j5:Bool)=>
 if j5 then some 130 else some 0)
def Zck (N:Nat)(a:Zaz)(l8 a1:List Int)(a0:Int)(a2:List Int):Option ((Int×(List Int))⊕(((List Int)))):=
 (if(decide (a0<(a1.length:Int)))then((idx a1 a0).bind λa8=>
 (ZeD N a a8).bind λa4=>
 (Zju N l8 a4).bind λa3=>
 if(!a3)then(idx a1 a0).bind λa7=>
 (appI 8 a2 [a7]).bind λa5=>
 some a5 else some a2).bind λ(a6:(List Int))=>
 some (.inl ((w64 (a0+1)),a6))else some (.inr a2))
def Zfw (N:Nat)(a:Zaz)(b i7:Int)(l8 l9:List Int):Option ((Int×(List Int)×(List Int))⊕(((List Int))⊕((List Int)))):=
 ((if(decide ((l9.length:Int)<8))then if((l9.length:Int)==0)then some true else(idx a.Station i7).bind λa8=>some (!a8)else some false).bind λ(a7:Bool)=>
 if a7 then(Zhv N a i7).bind λa6=>
 (ZaT (λx:Int×(List Int)=>Zck N a l8 a6 x.1 x.2) N (0,[])).bind λa0=>
 if((a0.length:Int)==0)then some (.inr (.inr l9))else(remI (w64 ((w64 b)+(w64 (3*(l9.length:Int))))) (a0.length:Int)).bind λa3=>
 (idx a0 a3).bind λa2=>
 (appI 8 l9 [a2]).bind λa5=>
 (ZeD N a a2).bind λa1=>
 (appI 8 l8 [a1]).bind λa4=>
 some (.inl (a1,a4,a5))else some (.inr (.inl l9)))
def ZkR (N:Nat)(a:Zaz)(b c:Int):Option (List Int):=
 ((remI (w64 b) a.Nodes).bind λm1=>
 ((ZaT (λx:Int×(List Int)×(List Int)=>Zfw N a c x.1 x.2.1 x.2.2) N (m1,[m1],[])).bind λa2=>match a2 with
 |(.inl a1)=>(some a1)
 |(.inr a0)=>some a0))
def Zdt (N:Nat)(a:Int)(b:List Int)(i1 i2:Int):Option ((Int×Int)⊕((Int))):=
 (if(decide (i2<(b.length:Int)))then(idx b i2).bind λa0=>
 (Zho N i1 a0).bind λa2=>
 (quoI .i64 i1 a2).bind λa1=>
 if(decide ((w64 (a1*a0))>a))then some (.inr (w64 (a1*a0)))else some (.inl ((w64 (a1*a0)),(w64 (i2+1))))else some (.inr i1))
def ZhZ (N:Nat)(a:Int)(b:List Int):Option Int:=
 ((ZaT (λx:Int×Int=>Zdt N a b x.1 x.2) N (1,0)).bind λa0=>
 some a0)
def ZhP (N:Nat)(a:Int)(b:Zaz):Option Bool:=
 ((idx b.Links a).bind λe2=>
 ((Zj7 N b e2.A).bind λr4=>if r4 then(Zj7 N b e2.B).bind λr7=>if r7 then some (e2.A !=e2.B)else some false else some false).bind λ(a0:Bool)=>
 some a0)
def ZbI (N:Nat)(a:Zbq)(a3 a2:Int)(a1:ZaF)(a8:Int)(a0:Zb1):Option ((Int×Int×ZaF)×Nat):=
 (if(a8==0)then(a1.get a0.from_).bind λab=>
 ((ZaF.set a1 a0.from_ true).get a0.to_).bind λa7=>
 if a7 then some ((a3,a2,(ZaF.set a1 a0.from_ true)),1)else((ZaF.set a1 a0.from_ true).get a0.to_).bind λaa=>
 some (((w64 (a3+1)),a0.to_,(ZaF.set (ZaF.set a1 a0.from_ true) a0.to_ true)),0)else(if(a0.from_ !=a2)then some true else(idx a.Topo.Station a2).bind λa6=>some a6).bind λ(a4:Bool)=>
 if a4 then some ((a3,a2,a1),1)else(a1.get a0.to_).bind λa5=>
 if a5 then some ((a3,a2,a1),1)else(a1.get a0.to_).bind λa9=>
 some (((w64 (a3+1)),a0.to_,(ZaF.set a1 a0.to_ true)),0))
def ZcL (N:Nat)(a:Zbq)(b:List Int):Option Bool:=
 (if((decide ((b.length:Int)<1))||(decide ((b.length:Int)>8)))then some false else((Zds N a b).bind λa1=>
 (Zdr N (λ(s:(Int×Int×ZaF)×Nat) (a3:Int) (a2:Zb1)=>ZfJ (λv:Int×Int×ZaF=>ZbI N a v.1 v.2.1 v.2.2 a3 a2) s) a1.1 a1.2 ((0,0,(ZaF.mk false false false false false false false false false false false false)),0)).bind λa0=>
 if(a0.2==0)then some a0.1.1 else if(a0.2==1)then some a0.1.1 else none).bind λ(a4:Int)=>
 some (a4==(b.length:Int)))
def ZhY (N:Nat)(a b:ZaR):Option (Int×Int×Int):=
 ((Zho N a.Period b.Period).bind λr1=>
 some (a.Long,(w64 (r1-b.Long)),r1))
def ZbU (N:Nat)(a3:List Int)(x13:Int)(x14:Zb1):Option (List Int):=
 ((if(x13==0)then(appI 8 a3 [x14.from_]).bind λa1=>
 some a1 else some a3).bind λ(a2:(List Int))=>
 (appI 8 a2 [x14.to_]).bind λa0=>
 some a0)
def Zc9 (N:Nat)(a:Zbq)(b:List Int):Option (List Int):=
 ((Zgs 8 0 (w64 ((b.length:Int)+1)) 0).bind λl3=>
 (Zds N a b).bind λr7=>
 (Zdr N (λ(s:(List Int)) (x13:Int) (x14:Zb1)=>Zea (λv:(List Int)=>ZbU N v x13 x14) s) r7.1 r7.2 l3).bind λa0=>
 some a0)
def ZcH (N:Nat)(a:List Int)(b:Int):Option Bool:=
 ((Zej N a b).bind λr1=>
 some (decide (r1≥0)))
def Zfu (N:Nat)(a:Zbq)(b:List Int):Option ((List Int)×Int):=
 ((Zc9 N a b).bind λr2=>
 some (r2,0))
def Zgf (N:Nat)(a:Zaz)(i13:Int)(a2:ZaW)(a0:Int):Option ((Int)⊕((Unit)⊕(Bool))):=
 (if(decide (a0<i13))then(idx a.Links a0).bind λa3=>
 (Zhw N a3 a2.A a2.B).bind λa1=>
 if a1 then some (.inr (.inr false))else some (.inl (w64 (a0+1)))else some (.inr (.inl ())))
def Zdi (N:Nat)(a:Zaz)(i13:Int)(a2:List Int):Option ((Int×(List Int))⊕(((List Int))⊕(Bool))):=
 (if(decide (i13<(a.Links.length:Int)))then((idx a.Links i13).bind λa0=>
 ((ZiI N a a0).bind λa6=>
 (if(!a6)then some (.inr (.inr false))else((ZaT (λx:Int=>Zgf N a i13 a0 x) N 0).bind λa4=>match a4 with
 |(.inl a7)=>((idx a2 a0.A).bind λa1=>
 (idx a2 a0.A).bind λa9=>
 (idx (List.set a2 (Int.toNat a0.A) (w64 (a1+1))) a0.B).bind λa5=>
 (idx (List.set a2 (Int.toNat a0.A) (w64 (a1+1))) a0.B).bind λa8=>
 some (.inl ((w64 (i13+1)),(List.set (List.set a2 (Int.toNat a0.A) (w64 (a1+1))) (Int.toNat a0.B) (w64 (a5+1))))))
 |(.inr a3)=>some (.inr (.inr a3))))))else some (.inr (.inl a2)))
def Zge (N:Nat)(a:Zaz)(a1:List Int)(a2:List Bool)(a0:Int):Option ((Int)⊕((Unit)⊕(Bool))):=
 (if(decide (a0<a.Nodes))then((idx a2 a0).bind λa7=>if(!a7)then some true else(idx a.Station a0).bind λa6=>if a6 then(idx a1 a0).bind λa5=>if(decide (a5<1))then some true else(idx a1 a0).bind λa4=>some (decide (a4>2))else some false).bind λ(a3:Bool)=>
 if a3 then some (.inr (.inr false))else some (.inl (w64 (a0+1)))else some (.inr (.inl ())))
def Zhu (N:Nat)(a:Zaz):Option Bool:=
 (if((decide (a.Nodes<2))||((decide (a.Nodes>12))||(((a.Station.length:Int)!=a.Nodes)||(decide ((a.Links.length:Int)>24)))))then some false else((Zgs 8 a.Nodes a.Nodes 0).bind λa7=>
 ((ZaT (λx:Int×(List Int)=>Zdi N a x.1 x.2) N (0,a7)).bind λa5=>match a5 with
 |(.inl a3)=>((Zjq N a 0 ([])).bind λa0=>
 ((ZaT (λx:Int=>Zge N a a3 a0 x) N 0).bind λa4=>match a4 with
 |(.inl a6)=>(some true)
 |(.inr a2)=>some a2))
 |(.inr a1)=>some a1)))
def Zmd (N:Nat)(a:ZaC)(b c:Int)(d:ZaZ):Option ZaN:=
 ((Zhq N d.Early a.Grid).bind λr1=>
 (Zhq N (w64 (0-(w64 (d.Open+d.Long)))) a.Grid).bind λr2=>
 (Zhs N r1 c).bind λr3=>
 some (ZaN.mk b d.Port r3 (w64 ((w64 (0-r2))-r1))))
def ZhR (N:Nat)(a:ZaM)(b c:Int):Option Bool:=
 ((ZfV N a b).bind λr1=>
 if(r1.1 !=128)then some false else(Zk0 N a b).bind λr3=>
 some ((r3.2 !=0)||(decide (r3.1≥(w64 (b+c))))))
def ZdO (N:Nat)(a:Zaz)(b c i14:Int):Option ((Int)⊕((Unit)⊕(Zaz))):=
 (if(decide (i14<(a.Links.length:Int)))then(idx a.Links i14).bind λa1=>
 (Zhw N a1 b c).bind λa0=>
 if a0 then some (.inr (.inr a))else some (.inl (w64 (i14+1)))else some (.inr (.inl ())))
def ZbB (N:Nat)(a:ZbQ)(b:Zaz)(c d:Int):Option Zaz:=
 ((Zfk N a.Pers (b.Links.length:Int)).bind λr2=>
 ((Zfk N a.Delays (b.Links.length:Int)).bind λr3=>
 ((if((b.Links.length:Int)==24)then some true else(ZiI N b (ZaW.mk c d (w64 (1+(Int.tmod r2 20))) (Int.tmod r3 50))).bind λr6=>some (!r6)).bind λ(a4:Bool)=>
 (if a4 then some b else((ZaT (λx:Int=>ZdO N b c d x) N 0).bind λa1=>match a1 with
 |(.inl a3)=>((appI 32 b.Links [(ZaW.mk c d (w64 (1+(Int.tmod r2 20))) (Int.tmod r3 50))]).bind λa2=>
 some (Zaz.mk b.Nodes b.Station a2))
 |(.inr a0)=>some a0)))))
def Zii (N:Nat)(a:ZaB)(b c d e i1 a0:Int):Option ((Int)⊕((Unit)⊕(Bool))):=
 (if(decide (a0<(a.Uses.length:Int)))then(if(i1 !=a0)then(idx a.Uses i1).bind λa8=>if(a8.Stream==b)then(idx a.Uses a0).bind λa7=>if(a7.Stream==d)then(idx a.Uses i1).bind λa6=>(idx a.Uses a0).bind λa5=>if(a6.Port==a5.Port)then(Zmg N a i1 c).bind λa3=>(Zmg N a a0 e).bind λa2=>(ZeS N a3 a2).bind λa1=>some (!a1)else some false else some false else some false else some false).bind λ(a4:Bool)=>
 if a4 then some (.inr (.inr true))else some (.inl (w64 (a0+1)))else some (.inr (.inl ())))
def Zij (N:Nat)(a:ZaB)(b c d e i1:Int):Option ((Int)⊕((Unit)⊕(Bool))):=
 (if(decide (i1<(a.Uses.length:Int)))then((ZaT (λx:Int=>Zii N a b c d e i1 x) N 0).bind λa1=>match a1 with
 |(.inl a2)=>(some (.inl (w64 (i1+1))))
 |(.inr a0)=>some (.inr (.inr a0)))else some (.inr (.inl ())))
def Zhr (N:Nat)(a:ZaB)(b c d e:Int):Option Bool:=
 ((ZaT (λx:Int=>Zij N a b c d e x) N 0).bind λa1=>match a1 with
 |(.inl a2)=>(some false)
 |(.inr a0)=>some a0)
def ZeT (N:Nat)(a:Zaz)(b:Zax)(i27:Int):Option ((Int)⊕((Unit)⊕(Bool))):=
 (if(decide (i27<(b.Routes.length:Int)))then(idx b.Routes i27).bind λa0=>
 ((ZdM N a a0).bind λa3=>if(!a3)then some true else(idx a0 0).bind λa6=>(Zdu N a a6).bind λa2=>if(a2 !=b.Talker)then some true else(idx a0 (w64 ((a0.length:Int)-1))).bind λa5=>(ZeD N a a5).bind λa1=>some (a1 !=b.Listener)).bind λ(a4:Bool)=>
 if a4 then some (.inr (.inr false))else some (.inl (w64 (i27+1)))else some (.inr (.inl ())))
def Zlv (N:Nat)(a:Zaz)(b:Zax)(a1:Int):Option ((Int)⊕((Unit)⊕(Bool))):=
 (if(decide (a1<(b.Routes.length:Int)))then(idx b.Routes a1).bind λa0=>
 ((ZdM N a a0).bind λa4=>if(!a4)then some true else(idx a0 0).bind λa7=>(Zdu N a a7).bind λa3=>if(a3 !=b.Talker)then some true else(idx a0 (w64 ((a0.length:Int)-1))).bind λa6=>(ZeD N a a6).bind λa2=>some (a2 !=b.Listener)).bind λ(a5:Bool)=>
 if a5 then some (.inr (.inr false))else some (.inl (w64 (a1+1)))else some (.inr (.inl ())))
def Zht (N:Nat)(a:Zaz)(b:Zax):Option Bool:=
 (((Zdn N b.Id 1 4095).bind λr1=>if(!r1)then some true else(ZdL N a b.Talker).bind λr4=>if(!r4)then some true else(ZdL N a b.Listener).bind λr7=>if(!r7)then some true else if(b.Talker==b.Listener)then some true else(Zdn N b.Size 84 1542).bind λaj=>if(!aj)then some true else(Zdn N b.Deadline 1 1099511627776).bind λai=>some (!ai)).bind λ(am:Bool)=>
 (if am then some false else(if(b.Class==7)then(((Zdn N b.Period 1 240).bind λag=>if(!ag)then some true else some (!((b.Bucket.Burst==0)&&((b.Bucket.Rate==0)&&true)))).bind λ(al:Bool)=>
 (if al then some false else(if((decide ((b.Routes.length:Int)<1))||(decide ((b.Routes.length:Int)>2)))then some false else((ZaT (λx:Int=>ZeT N a b x) N 0).bind λaa=>match aa with
 |(.inl ak)=>((if((b.Routes.length:Int)==1)then some true else(idx b.Routes 0).bind λae=>(idx b.Routes 1).bind λad=>(Zen N a ae ad).bind λa8=>some a8).bind λ(ac:Bool)=>
 some ac)
 |(.inr a9)=>some a9))))else(if(b.Class==6)then((if(b.Period !=0)then some true else(Zdn N b.Bucket.Burst b.Size 1048576).bind λa7=>if(!a7)then some true else(Zdn N b.Bucket.Rate 1 2097152).bind λa6=>some (!a6)).bind λ(ab:Bool)=>
 (if ab then some false else(if((decide ((b.Routes.length:Int)<1))||(decide ((b.Routes.length:Int)>2)))then some false else((ZaT (λx:Int=>Zlv N a b x) N 0).bind λa2=>match a2 with
 |(.inl af)=>((if((b.Routes.length:Int)==1)then some true else(idx b.Routes 0).bind λa5=>(idx b.Routes 1).bind λa4=>(Zen N a a5 a4).bind λa0=>some a0).bind λ(a3:Bool)=>
 some a3)
 |(.inr a1)=>some a1))))else some false))))
def Zjm (N:Nat)(a:Zaz)(b c i1:Int):Option ((Int)⊕((Unit)⊕((List Int)))):=
 (if(decide (i1<16))then(ZkR N a b (IntKind.u8.wrap (c+(IntKind.u8.wrap i1)))).bind λa0=>
 (if(decide ((a0.length:Int)>0))then(ZdM N a a0).bind λa3=>if a3 then(idx a0 0).bind λa8=>(Zdu N a a8).bind λa2=>(idx a.Station a2).bind λa7=>if a7 then(idx a0 (w64 ((a0.length:Int)-1))).bind λa6=>(ZeD N a a6).bind λa1=>(idx a.Station a1).bind λa5=>some a5 else some false else some false else some false).bind λ(a4:Bool)=>
 if a4 then(neL a0).bind λ_=>some (.inr (.inr a0))else some (.inl (w64 (i1+1)))else some (.inr (.inl ())))
def ZiF (N:Nat)(a:Zaz)(b c:Int):Option (List Int):=
 ((ZaT (λx:Int=>Zjm N a b c x) N 0).bind λa1=>match a1 with
 |(.inl a2)=>(some [])
 |(.inr a0)=>some a0)
def ZlO (N:Nat)(a:ZaB)(b:List Int)(c i1:Int):Option ((Int)⊕((Unit)⊕(Int))):=
 (if(decide (i1<(b.length:Int)))then(idx b i1).bind λa1=>
 (Zhr N a (b.length:Int) c i1 a1).bind λa0=>
 if a0 then some (.inr (.inr i1))else some (.inl (w64 (i1+1)))else some (.inr (.inl ())))
def ZoD (N:Nat)(a:ZaB)(b:List Int)(c:Int):Option Int:=
 ((ZaT (λx:Int=>ZlO N a b c x) N 0).bind λa2=>match a2 with
 |(.inl a3)=>((Zhr N a (b.length:Int) c (b.length:Int) c).bind λa0=>
 if a0 then some (b.length:Int)else some (-1))
 |(.inr a1)=>some a1)
def Ze2 (N:Nat)(a:List ZaR)(i8:Int)(l9:List Int):Option ((Int×(List Int))⊕(((List Int)))):=
 (if(decide (i8<(a.length:Int)))then(idx a i8).bind λa0=>
 (idx l9 i8).bind λa1=>
 some (.inl ((w64 (i8+1)),(List.set l9 (Int.toNat i8) a0.Period)))else some (.inr l9))
def ZgU (N:Nat)(a:List ZaR):Option (Int×Int):=
 ((Ze1 N a).bind λr1=>
 if(r1 !=0)then some (0,r1)else(Zgs 8 (a.length:Int) (a.length:Int) 0).bind λl5=>
 (ZaT (λx:Int×(List Int)=>Ze2 N a x.1 x.2) N (0,l5)).bind λa1=>
 (ZhZ N 960 a1).bind λa0=>
 if(decide (a0>960))then some (0,6)else some (a0,0))
def ZgM (N:Nat)(a:Zaz)(i4:Int):Option ((Int)⊕((Unit)⊕(Bool))):=
 (if(decide (i4<(a.Links.length:Int)))then(ZhP N i4 a).bind λa3=>
 if(!a3)then some (.inr (.inr false))else(ZhO N i4 a).bind λa2=>
 if(!a2)then some (.inr (.inr false))else(Zgm N i4 a).bind λa1=>
 if(!a1)then some (.inr (.inr false))else(ZhN N i4 a).bind λa0=>
 if(!a0)then some (.inr (.inr false))else some (.inl (w64 (i4+1)))else some (.inr (.inl ())))
def ZkN (N:Nat)(a:Zaz):Option Bool:=
 ((ZaT (λx:Int=>ZgM N a x) N 0).bind λa1=>match a1 with
 |(.inl a2)=>(some true)
 |(.inr a0)=>some a0)
def ZeQ (N:Nat)(a:Zax):Option Bool:=
 (if(a.Class==7)then((ZbL N a.Period 1 240).bind λr4=>if r4 then some ((a.Bucket.Burst==0)&&((a.Bucket.Rate==0)&&true))else some false).bind λ(j8:Bool)=>
 some j8 else if(a.Class==6)then(if(a.Period==0)then(ZkI N a.Bucket).bind λa0=>if(a0==0)then some (decide (a.Bucket.Burst≥a.Size))else some false else some false).bind λ(a1:Bool)=>
 some a1 else some false)
def ZgT (N:Nat)(a b:ZaR):Option Bool:=
 (if((a.Period==b.Period)&&((a.From==b.From)&&((a.Long==b.Long)&&true)))then some false else(ZhY N a b).bind λr2=>
 (Zje N (w64 (b.From-a.From)) r2.2.2).bind λr3=>
 some ((decide (r2.1<=r3))&&(decide (r3<=r2.2.1))))
def ZdJ (N:Nat)(r2:List Int)(l3:List Int)(i4:Int):Option ((Int)⊕((Unit)⊕(Bool))):=
 (if(decide (i4<(l3.length:Int)))then(idx l3 i4).bind λa1=>
 (ZcH N r2 a1).bind λa0=>
 if a0 then some (.inr (.inr true))else some (.inl (w64 (i4+1)))else some (.inr (.inl ())))
def ZdT (N:Nat)(a:Zbq)(b c:List Int):Option Bool:=
 ((Zc9 N a b).bind λr1=>
 ((Zc9 N a c).bind λr2=>
 ((subI r1 1 (w64 ((r1.length:Int)-1))).bind λl3=>
 ((ZaT (λx:Int=>ZdJ N r2 l3 x) N 0).bind λa1=>match a1 with
 |(.inl a2)=>(some false)
 |(.inr a0)=>some a0))))
def Zca (N:Nat)(a:ZbQ)(i3:Int)(l4:List Bool):Option ((Int×(List Bool))⊕(((List Bool)))):=
 (if(decide (i3<(w64 ((w64 (1+(w64 (Int.tmod a.Bridges 6))))+(w64 (2+(w64 (Int.tmod a.Stations 5))))))))then(appI 1 l4 [(decide (i3≥(w64 (1+(w64 (Int.tmod a.Bridges 6))))))]).bind λa0=>
 some (.inl ((w64 (i3+1)),a0))else some (.inr l4))
def Zb9 (N:Nat)(a:ZbQ)(a1 a4:Int)(a3:List Bool)(a2:List ZaW):Option ((Int×Int×(List Bool)×(List ZaW))⊕((Int×(List Bool)×(List ZaW)))):=
 (if(decide (a1<(w64 (1+(w64 (Int.tmod a.Bridges 6))))))then(ZbB N a (Zaz.mk a4 a3 a2) (w64 (a1-1)) a1).bind λa0=>
 some (.inl ((w64 (a1+1)),a0.Nodes,a0.Station,a0.Links))else some (.inr (a4,a3,a2)))
def Zb8 (N:Nat)(a:ZbQ)(a0 a4:Int)(a3:List Bool)(a2:List ZaW):Option ((Int×Int×(List Bool)×(List ZaW))⊕((Int×(List Bool)×(List ZaW)))):=
 (if(decide (a0<(w64 (2+(w64 (Int.tmod a.Stations 5))))))then(Zfk N a.Homes (w64 (2*a0))).bind λa5=>
 (remI a5 (w64 (1+(w64 (Int.tmod a.Bridges 6))))).bind λa6=>
 (ZbB N a (Zaz.mk a4 a3 a2) (w64 ((w64 (1+(w64 (Int.tmod a.Bridges 6))))+a0)) a6).bind λa1=>
 some (.inl ((w64 (a0+1)),a1.Nodes,a1.Station,a1.Links))else some (.inr (a4,a3,a2)))
def ZbJ (N:Nat)(a:ZbQ)(a0 a5:Int)(a3:List Bool)(a2:List ZaW):Option ((Int×Int×(List Bool)×(List ZaW))⊕((Int×(List Bool)×(List ZaW)))):=
 (if(decide (a0<(w64 (2+(w64 (Int.tmod a.Stations 5))))))then((Zfk N a.Homes (w64 ((w64 (2*a0))+1))).bind λa7=>
 if(decide ((Int.tmod a7 3)>0))then(Zfk N a.Homes (w64 ((w64 (2*a0))+1))).bind λa6=>
 (remI a6 (w64 (1+(w64 (Int.tmod a.Bridges 6))))).bind λa8=>
 (ZbB N a (Zaz.mk a5 a3 a2) (w64 ((w64 (1+(w64 (Int.tmod a.Bridges 6))))+a0)) a8).bind λa1=>
 some (a1.Nodes,a1.Station,a1.Links)else some (a5,a3,a2)).bind λ(a4:Int×(List Bool)×(List ZaW))=>
 some (.inl ((w64 (a0+1)),a4.1,a4.2.1,a4.2.2))else some (.inr (a5,a3,a2)))
def Zcx (N:Nat)(a:ZbQ)(a0 a4:Int)(a3:List Bool)(a2:List ZaW):Option ((Int×Int×(List Bool)×(List ZaW))⊕((Int×(List Bool)×(List ZaW)))):=
 (if((decide ((w64 (a0+1))<(a.Chords.length:Int)))&&(decide (a0<12)))then(idx a.Chords a0).bind λa8=>
 (remI (w64 a8) (w64 (1+(w64 (Int.tmod a.Bridges 6))))).bind λa6=>
 (idx a.Chords (w64 (a0+1))).bind λa7=>
 (remI (w64 a7) (w64 (1+(w64 (Int.tmod a.Bridges 6))))).bind λa5=>
 (ZbB N a (Zaz.mk a4 a3 a2) a6 a5).bind λa1=>
 some (.inl ((w64 (a0+2)),a1.Nodes,a1.Station,a1.Links))else some (.inr (a4,a3,a2)))
def ZdU (N:Nat)(a:ZbQ):Option Zaz:=
 ((ZaT (λx:Int×(List Bool)=>Zca N a x.1 x.2) N (0,[])).bind λa6=>
 (ZaT (λx:Int×Int×(List Bool)×(List ZaW)=>Zb9 N a x.1 x.2.1 x.2.2.1 x.2.2.2) N (1,(w64 ((w64 (1+(w64 (Int.tmod a.Bridges 6))))+(w64 (2+(w64 (Int.tmod a.Stations 5)))))),a6,[])).bind λa4=>
 (ZaT (λx:Int×Int×(List Bool)×(List ZaW)=>Zb8 N a x.1 x.2.1 x.2.2.1 x.2.2.2) N (0,a4.1,a4.2.1,a4.2.2)).bind λa0=>
 (if((decide ((w64 (1+(w64 (Int.tmod a.Bridges 6))))>2))&&((Int.tmod a.Bridges 2)==0))then(ZbB N a (Zaz.mk a0.1 a0.2.1 a0.2.2) (w64 ((w64 (1+(w64 (Int.tmod a.Bridges 6))))-1)) 0).bind λa1=>
 some (a1.Nodes,a1.Station,a1.Links)else some (a0.1,a0.2.1,a0.2.2)).bind λ(a5:Int×(List Bool)×(List ZaW))=>
 (ZaT (λx:Int×Int×(List Bool)×(List ZaW)=>ZbJ N a x.1 x.2.1 x.2.2.1 x.2.2.2) N (0,a5.1,a5.2.1,a5.2.2)).bind λa3=>
 (ZaT (λx:Int×Int×(List Bool)×(List ZaW)=>Zcx N a x.1 x.2.1 x.2.2.1 x.2.2.2) N (0,a3.1,a3.2.1,a3.2.2)).bind λa2=>
 some (Zaz.mk a2.1 a2.2.1 a2.2.2))
def ZeC (N:Nat)(a:Zaz)(b:List Zax)(i4:Int):Option ((Int)⊕((Unit)⊕(Int))):=
 (if(decide (i4<(b.length:Int)))then(idx b i4).bind λa1=>
 (Zht N a a1).bind λa0=>
 if(!a0)then some (.inr (.inr 321))else some (.inl (w64 (i4+1)))else some (.inr (.inl ())))
def ZcX (N:Nat)(a:List Zax)(a1 a0:Int):Option ((Int)⊕((Unit)⊕(Int))):=
 (if(decide (a0<a1))then(idx a a0).bind λa3=>
 (idx a a1).bind λa2=>
 if(a3.Id==a2.Id)then some (.inr (.inr 322))else some (.inl (w64 (a0+1)))else some (.inr (.inl ())))
def ZcY (N:Nat)(a:List Zax)(a0:Int):Option ((Int)⊕((Unit)⊕(Int))):=
 (if(decide (a0<(a.length:Int)))then((ZaT (λx:Int=>ZcX N a a0 x) N 0).bind λa2=>match a2 with
 |(.inl a3)=>(some (.inl (w64 (a0+1))))
 |(.inr a1)=>some (.inr (.inr a1)))else some (.inr (.inl ())))
def Zf9 (N:Nat)(a:Zaz)(b:List Zax):Option Int:=
 ((Zhu N a).bind λr1=>
 (if(!r1)then some 260 else(if(decide ((b.length:Int)>12))then some 3 else((ZaT (λx:Int=>ZeC N a b x) N 0).bind λa3=>match a3 with
 |(.inl a5)=>((ZaT (λx:Int=>ZcY N b x) N 0).bind λa2=>match a2 with
 |(.inl a4)=>(some 0)
 |(.inr a1)=>some a1)
 |(.inr a0)=>some a0))))
def Zel (N:Nat)(a:Zaz)(i2 i3:Int):Option ((Int×Int)⊕((Int))):=
 ((if(decide (i3<a.Nodes))then(idx a.Station i2).bind λa2=>some (!a2)else some false).bind λ(a1:Bool)=>
 if a1 then(remI (w64 (i2+1)) a.Nodes).bind λa0=>
 some (.inl (a0,(w64 (i3+1))))else some (.inr i2))
def Zek (N:Nat)(a:Zcw)(b:Zaz)(ac:Int)(ab:List Int)(aa a2:Int)(a1:List (List Int)):Option ((Int×(List (List Int)))⊕(((List (List Int))))):=
 ((if(decide (a2<24))then if a.Two then some ((a1.length:Int)==1)else some false else some false).bind λ(a8:Bool)=>
 if a8 then((ZiF N b (IntKind.u8.wrap ac) (IntKind.u8.wrap (a.Way+(IntKind.u8.wrap a2)))).bind λa0=>
 if(List.isEmpty a0)then some a1 else((idx a0 (w64 ((a0.length:Int)-1))).bind λa9=>(ZeD N b a9).bind λa4=>if(a4==aa)then(Zen N b ab a0).bind λa3=>some a3 else some false).bind λ(a6:Bool)=>
 if a6 then(appI 24 a1 [a0]).bind λa5=>
 some a5 else some a1).bind λ(a7:(List (List Int)))=>
 some (.inl ((w64 (a2+1)),a7))else some (.inr a1))
def Zed (N:Nat)(a:Zcw)(b:Zaz)(c:Int):Option (Zax×Bool):=
 ((remI (w64 a.Node) b.Nodes).bind λm1=>
 (ZaT (λx:Int×Int=>Zel N b x.1 x.2) N (m1,0)).bind λa6=>
 (ZiF N b (IntKind.u8.wrap a6) a.Way).bind λa1=>
 if(List.isEmpty a1)then some ((Zax.mk 0 0 0 0 0 0 (ZfX.mk 0 0) 0 ([])),false)else(idx a1 0).bind λa9=>
 (Zdu N b a9).bind λa4=>
 (idx a1 (w64 ((a1.length:Int)-1))).bind λa8=>
 (ZeD N b a8).bind λa3=>
 (if a.Reserved then some (6,0,(w64 ((w64 (84+(w64 a.Size)))+(w64 (4*(w64 a.Burst))))),(w64 (1+(w64 a.Rate))))else(idx [4,6,8,12,16,24,48,10,5,240] (Int.tmod a.Period 10)).bind λa7=>
 some (7,a7,0,0)).bind λ(a0:Int×Int×Int×Int)=>
 (ZaT (λx:Int×(List (List Int))=>Zek N a b a6 a1 a3 x.1 x.2) N (0,[a1])).bind λa2=>
 (Zht N b (Zax.mk c a4 a3 a0.1 (w64 (84+(w64 a.Size))) a0.2.1 (ZfX.mk a0.2.2.1 a0.2.2.2) 1099511627776 a2)).bind λa5=>
 some ((Zax.mk c a4 a3 a0.1 (w64 (84+(w64 a.Size))) a0.2.1 (ZfX.mk a0.2.2.1 a0.2.2.2) 1099511627776 a2),a5))
def Zd3 (N:Nat)(rec_:ZaB->Za9->((List Int))->Int->Option (Za9))(a:ZaB)(b:List Int)(c i10 i11:Int)(l12:List Zdy)(a4:List Zcl)(ab:List Int):Option ((Int×Int×(List Zdy)×(List Zcl)×(List Int))⊕((Int×(List Zdy)×(List Zcl)×(List Int))⊕(Za9))):=
 ((idx a.Periods (b.length:Int)).bind λae=>
 if(decide (i10<ae))then if(((b.length:Int)==0)&&(i10==1))then(idx a.Periods 0).bind λad=>
 (appI 32 l12 [(Zdy.mk 1 ad (-2) 0)]).bind λac=>
 some (.inr (.inl (i11,ac,a4,ab)))else(ZoD N a b i10).bind λa3=>
 if(a3 !=(-1))then((if(decide ((l12.length:Int)>0))then(idx l12 (w64 ((l12.length:Int)-1))).bind λaa=>some (aa.By==a3)else some false).bind λ(a8:Bool)=>
 if a8 then(idx l12 (w64 ((l12.length:Int)-1))).bind λa2=>
 some (List.set l12 (Int.toNat (w64 ((l12.length:Int)-1))) (Zdy.mk a2.From (w64 (i10+1)) a2.By a2.Next))else(appI 32 l12 [(Zdy.mk i10 (w64 (i10+1)) a3 0)]).bind λa7=>
 some a7).bind λ(a9:(List Zdy))=>
 some (.inl ((w64 (i10+1)),i11,a9,a4,ab))else(appI 8 [] b).bind λa6=>
 (appI 8 a6 [i10]).bind λa1=>
 if((a1.length:Int)==(a.Periods.length:Int))then some (.inr (.inr (Za9.mk a4 a1 1)))else(appI 32 l12 [(Zdy.mk i10 (w64 (i10+1)) (-1) (a4.length:Int))]).bind λa5=>
 (rec_ a (Za9.mk a4 ab i11) a1 c).bind λa0=>
 if(a0.What !=0)then some (.inr (.inr a0))else some (.inl ((w64 (i10+1)),a0.What,a5,a0.Proof,a0.Offsets))else some (.inr (.inl (i11,l12,a4,ab))))
def ZgW (N:Nat)(rec_:ZaB->Za9->((List Int))->Int->Option (Za9))(a:ZaB)(b:Za9)(c:List Int)(d:Int):Option Za9:=
 (if(decide ((b.Proof.length:Int)>d))then some (Za9.mk b.Proof b.Offsets 2)else((appI 32 b.Proof [(Zcl.mk (c.length:Int) ([]))]).bind λl5=>
 ((ZaT (λx:Int×Int×(List Zdy)×(List Zcl)×(List Int)=>Zd3 N rec_ a c d x.1 x.2.1 x.2.2.1 x.2.2.2.1 x.2.2.2.2) N (0,b.What,[],l5,b.Offsets)).bind λa2=>match a2 with
 |(.inl a0)=>((idx a0.2.2.1 (b.Proof.length:Int)).bind λa3=>
 some (Za9.mk (List.set a0.2.2.1 (Int.toNat (b.Proof.length:Int)) (Zcl.mk a3.Stream a0.2.1)) a0.2.2.2 a0.1))
 |(.inr a1)=>some a1)))
def Zhp:Nat->ZaB->Za9->((List Int))->Int->Option (Za9)
 |0=>λ_ _ _ _=>none
 |N+1=>λa0_ a1_ a2_ a3_=>ZgW N (Zhp N) a0_ a1_ a2_ a3_
def Zg0 (N:Nat)(a:List Int)(i6:Int)(l7:List ZaR):Option ((Int×(List ZaR))⊕(((List ZaR)))):=
 (if(decide (i6<(a.length:Int)))then(idx a i6).bind λa0=>
 (idx l7 i6).bind λa1=>
 some (.inl ((w64 (i6+1)),(List.set l7 (Int.toNat i6) (ZaR.mk a0 0 1))))else some (.inr l7))
def ZfP (N:Nat)(a:List Int):Option (Int×Int):=
 ((Zgs 24 (a.length:Int) (a.length:Int) (ZaR.mk 0 0 0)).bind λl3=>
 (ZaT (λx:Int×(List ZaR)=>Zg0 N a x.1 x.2) N (0,l3)).bind λa1=>
 (ZgU N a1).bind λa0=>
 some (a0.1,a0.2))
def ZdG (N:Nat)(a:Zaz)(i16:Int)(a2:List Int):Option ((Int×(List Int))⊕(((List Int)))):=
 (if(decide (i16<(a.Links.length:Int)))then(idx a.Links i16).bind λa0=>
 (idx a2 a0.A).bind λa1=>
 (idx a2 a0.A).bind λa5=>
 (idx (List.set a2 (Int.toNat a0.A) (w64 (a1+1))) a0.B).bind λa3=>
 (idx (List.set a2 (Int.toNat a0.A) (w64 (a1+1))) a0.B).bind λa4=>
 some (.inl ((w64 (i16+1)),(List.set (List.set a2 (Int.toNat a0.A) (w64 (a1+1))) (Int.toNat a0.B) (w64 (a3+1)))))else some (.inr a2))
def ZgO (N:Nat)(a:Zaz)(a1:List Int)(a0:Int):Option ((Int)⊕((Unit)⊕(Int))):=
 (if(decide (a0<(a.Station.length:Int)))then(idx a.Station a0).bind λa5=>
 (if a5 then(idx a1 a0).bind λa4=>if(decide (a4<1))then some true else(idx a1 a0).bind λa3=>some (decide (a3>2))else some false).bind λ(a2:Bool)=>
 if a2 then some (.inr (.inr 260))else some (.inl (w64 (a0+1)))else some (.inr (.inl ())))
def Zha (N:Nat)(a:Zaz):Option Int:=
 (if((decide (a.Nodes<2))||((decide (a.Nodes>12))||((a.Station.length:Int)!=a.Nodes)))then some 260 else((if(decide ((a.Links.length:Int)>24))then some true else(ZkN N a).bind λr8=>some (!r8)).bind λ(j9:Bool)=>
 (if j9 then some 260 else((Zgs 8 a.Nodes a.Nodes 0).bind λa6=>
 ((ZaT (λx:Int×(List Int)=>ZdG N a x.1 x.2) N (0,a6)).bind λa4=>
 ((ZaT (λx:Int=>ZgO N a a4 x) N 0).bind λa3=>match a3 with
 |(.inl a5)=>((ZkO N a 0 (Zbs.mk false false false false false false false false false false false false false false false false false false false false false false false false)).bind λa1=>
 (Zcr N a1 false).bind λa0=>
 if a0 then some 260 else some 0)
 |(.inr a2)=>some a2))))))
def ZgV (N:Nat)(a b:ZaR):Option (Bool×Int):=
 ((ZeB N a).bind λr1=>
 if(r1 !=0)then some (false,r1)else(ZeB N b).bind λr3=>
 if(r3 !=0)then some (false,r3)else(ZgT N a b).bind λr5=>
 some (r5,0))
def ZeA (N:Nat)(a:Zbq)(b c:List Int):Option (Bool×Int):=
 ((ZcL N a b).bind λr2=>
 if(!r2)then some (false,310)else((ZhX N c b).bind λr6=>if(!r6)then(ZdT N a c b).bind λa1=>if(!a1)then(ZdT N a b c).bind λa0=>some (!a0)else some false else some false).bind λ(a2:Bool)=>
 some (a2,0))
def Zfc (N:Nat)(a:Zaz)(b:List Int):Option Int:=
 ((Zha N a).bind λr1=>
 if(r1 !=0)then some r1 else(ZcL N (Zbq.mk a) b).bind λr3=>
 if(!r3)then some 310 else some 0)
def Zd2 (N:Nat)(a:Zaz)(b:List Int)(c:Zbq->Option ((List Int)×Int)):Option ((List Int)×Int):=
 ((Zfc N a b).bind λr1=>
 if(r1 !=0)then some ([],r1)else(c (Zbq.mk a)).bind λr3=>
 some (r3.1,r3.2))
def ZlR (N:Nat)(a:ZaC)(b:List Zax)(i11:Int)(l12:List Int)(a1:List ZaZ)(a0:Int)(a2:List ZaN):Option ((Int×(List ZaN))⊕(((List ZaN)))):=
 (if(decide (a0<(a1.length:Int)))then(idx b i11).bind λa6=>
 (idx a1 a0).bind λa5=>
 (Zmd N a (l12.length:Int) a6.Period a5).bind λa3=>
 (appI 32 a2 [a3]).bind λa4=>
 some (.inl ((w64 (a0+1)),a4))else some (.inr a2))
def Zjj (N:Nat)(a:Zaz)(b:ZaC)(c:List Zax)(i11:Int)(l12:List Int)(a2:Bool)(a0:Int)(a1:List ZaN):Option ((Bool×Int×(List ZaN))⊕((Bool×(List ZaN)))):=
 ((idx c i11).bind λae=>
 if(decide (a0<(ae.Routes.length:Int)))then(idx c i11).bind λad=>
 (idx c i11).bind λac=>
 (idx ac.Routes a0).bind λab=>
 (ZiG N a b ad ab).bind λa4=>
 (ZaT (λx:Int×(List ZaN)=>ZlR N b c i11 l12 a4 x.1 x.2) N (0,a1)).bind λa5=>
 (if a2 then some true else(idx c i11).bind λaa=>(idx c i11).bind λa9=>(idx a9.Routes a0).bind λa8=>(Zml N a b aa a8).bind λa3=>(idx c i11).bind λa7=>if(decide ((w64 (a3+(w64 (2*b.Slack))))>a7.Deadline))then some true else some false).bind λ(a6:Bool)=>
 some (.inl (a6,(w64 (a0+1)),a5))else some (.inr (a2,a1)))
def Zjk (N:Nat)(a:Zaz)(b:ZaC)(c:List Zax)(b10:Bool)(i11:Int)(l12:List Int)(a5:List ZaN):Option ((Bool×Int×(List Int)×(List ZaN))⊕((Bool×(List Int)×(List ZaN)))):=
 (if(decide (i11<(c.length:Int)))then((idx c i11).bind λa4=>
 if(a4.Class !=7)then some (b10,l12,a5)else(ZaT (λx:Bool×Int×(List ZaN)=>Zjj N a b c i11 l12 x.1 x.2.1 x.2.2) N (b10,0,a5)).bind λa1=>
 (idx c i11).bind λa3=>
 (appI 8 l12 [a3.Period]).bind λa2=>
 some (a1.1,a2,a1.2)).bind λ(a0:Bool×(List Int)×(List ZaN))=>
 some (.inl (a0.1,(w64 (i11+1)),a0.2.1,a0.2.2))else some (.inr (b10,l12,a5)))
def Zji (N:Nat)(a0:Bool×(List Int)×(List ZaN))(a3 a6 a2 a1:Int):Option ((Int×Int)⊕((Int))):=
 (if(decide (a1<(a0.2.2.length:Int)))then((idx a0.2.2 a1).bind λa9=>
 if(a9.Port==a6)then(idx a0.2.2 a1).bind λa8=>
 (idx a0.2.1 a8.Stream).bind λa7=>
 (quoI .i64 a3 a7).bind λa4=>
 some (w64 (a2+a4))else some a2).bind λ(a5:Int)=>
 some (.inl (a5,(w64 (a1+1))))else some (.inr a2))
def ZlQ (N:Nat)(a:Zaz)(a3:Bool×(List Int)×(List ZaN))(a1 a0:Int):Option ((Int)⊕((Unit)⊕(ZaB×Int))):=
 (if(decide (a0<(w64 (2*(a.Links.length:Int)))))then(ZaT (λx:Int×Int=>Zji N a3 a1 a0 x.1 x.2) N (0,0)).bind λa2=>
 if(decide (a2>63))then some (.inr (.inr ((ZaB.mk ([]) ([])),7)))else some (.inl (w64 (a0+1)))else some (.inr (.inl ())))
def ZlP (N:Nat)(a0:Bool×(List Int)×(List ZaN))(a2:Bool)(a1:Int):Option ((Bool×Int)⊕((Bool))):=
 (if(decide (a1<(a0.2.2.length:Int)))then(if a2 then some true else(idx a0.2.2 a1).bind λa6=>(idx a0.2.2 a1).bind λa5=>(idx a0.2.1 a5.Stream).bind λa4=>if(decide (a6.Long>a4))then some true else some false).bind λ(a3:Bool)=>
 some (.inl (a3,(w64 (a1+1))))else some (.inr a2))
def Zmf (N:Nat)(a:Zaz)(b:ZaC)(c:List Zax):Option (ZaB×Int):=
 ((Zhu N a).bind λr1=>
 (if(!r1)then some ((ZaB.mk ([]) ([])),260)else((Zjo N b).bind λr3=>
 (if(!r3)then some ((ZaB.mk ([]) ([])),320)else((Zf9 N a c).bind λr5=>
 (if(r5 !=0)then some ((ZaB.mk ([]) ([])),r5)else((ZaT (λx:Bool×Int×(List Int)×(List ZaN)=>Zjk N a b c x.1 x.2.1 x.2.2.1 x.2.2.2) N (false,0,[],[])).bind λa0=>
 ((ZiE N a0.2.1).bind λa1=>
 (if(a1==0)then some ((ZaB.mk ([]) ([])),6)else((ZaT (λx:Int=>ZlQ N a a0 a1 x) N 0).bind λa4=>match a4 with
 |(.inl a5)=>((ZaT (λx:Bool×Int=>ZlP N a0 x.1 x.2) N (false,0)).bind λa3=>
 if a3 then some ((ZaB.mk ([]) ([])),341)else if a0.1 then some ((ZaB.mk ([]) ([])),342)else some ((ZaB.mk a0.2.1 a0.2.2),0))
 |(.inr a2)=>some a2))))))))))
def ZqC (N:Nat)(a:List ZaM)(i5:Int):Option ((Int)⊕((Unit)⊕(Bool×Int))):=
 (if(decide (i5<(a.length:Int)))then(idx a i5).bind λa1=>
 (Zun N a1).bind λa0=>
 if(!a0)then some (.inr (.inr (false,370)))else some (.inl (w64 (i5+1)))else some (.inr (.inl ())))
def ZqB (N:Nat)(a:ZaC)(b:List ZaM)(r1:ZaB×Int)(a0:Int):Option ((Int)⊕((Unit)⊕(Bool×Int))):=
 (if(decide (a0<(b.length:Int)))then(idx b a0).bind λa2=>
 (ZiE N r1.1.Periods).bind λa1=>
 if(a2.Cycle !=(w64 (a1*a.Grid)))then some (.inr (.inr (false,0)))else some (.inl (w64 (a0+1)))else some (.inr (.inl ())))
def ZqA (N:Nat)(a:List ZaM)(a1:List Zbw)(a0:Int):Option ((Int)⊕((Unit)⊕(Bool×Int))):=
 (if(decide (a0<(a1.length:Int)))then(idx a1 a0).bind λa5=>
 (idx a a5.Port).bind λa4=>
 (idx a1 a0).bind λa3=>
 (Zte N a4 a3).bind λa2=>
 if(!a2)then some (.inr (.inr (false,0)))else some (.inl (w64 (a0+1)))else some (.inr (.inl ())))
def ZzR (N:Nat)(a:Zaz)(b:ZaC)(c:List Zax)(d:List Int)(e:List ZaM):Option (Bool×Int):=
 ((Zmf N a b c).bind λr1=>
 (if(r1.2 !=0)then some (false,r1.2)else((Zr5 N r1.1 d).bind λr3=>
 (if(!r3)then some (false,2)else((ZaT (λx:Int=>ZqC N e x) N 0).bind λa6=>match a6 with
 |(.inl a9)=>(if((e.length:Int)!=(w64 (2*(a.Links.length:Int))))then some (false,0)else((ZaT (λx:Int=>ZqB N b e r1 x) N 0).bind λa5=>match a5 with
 |(.inl a8)=>((Zr0 N a b c d).bind λa0=>
 ((ZaT (λx:Int=>ZqA N e a0 x) N 0).bind λa4=>match a4 with
 |(.inl a7)=>(some (true,0))
 |(.inr a3)=>some a3))
 |(.inr a2)=>some a2))
 |(.inr a1)=>some a1)))))
def ZgC (N:Nat)(a:Zaz)(b:List Zcw)(i3:Int)(l4:List Zax):Option ((Int×(List Zax))⊕(((List Zax)))):=
 ((if(decide (i3<(b.length:Int)))then some (decide ((l4.length:Int)<6))else some false).bind λ(a4:Bool)=>
 if a4 then((idx b i3).bind λa3=>
 (Zed N a3 a (w64 ((l4.length:Int)+1))).bind λa0=>
 if a0.2 then(appI 96 l4 [a0.1]).bind λa1=>
 some a1 else some l4).bind λ(a2:(List Zax))=>
 some (.inl ((w64 (i3+1)),a2))else some (.inr l4))
def ZgX (N:Nat)(a:Zaz)(b:List Zcw):Option (List Zax):=
 ((ZaT (λx:Int×(List Zax)=>ZgC N a b x.1 x.2) N (0,[])).bind λa0=>
 some a0)
def Zjf (N:Nat)(a:ZaB)(b:Int):Option ((List Int)×(List Zcl)×Int):=
 ((Zjh N a).bind λr1=>
 if(!r1)then some ([],[],340)else if((decide (b<0))||(decide (b≥2000)))then some ([],[],2)else if((a.Periods.length:Int)==0)then some ([],[],0)else(Zhp N a (Za9.mk ([]) ([]) 0) ([]) b).bind λr7=>
 if(r7.What==1)then some (r7.Offsets,[],0)else if(r7.What==2)then some ([],[],8)else some ([],r7.Proof,4))
def Zcz (N:Nat)(a:ZbT)(i5:Int)(m5:(List (Int×(List ZaN)))):Option ((Int×(List (Int×(List ZaN))))⊕((List (Int×(List ZaN))))):=
 (if(decide (i5<(a.Problem.Uses.length:Int)))then(idx a.Problem.Uses i5).bind λa0=>
 (appI 32 (Zio m5 a0.Port []) [a0]).bind λa1=>
 some (.inl ((w64 (i5+1)),(Zeq m5 a0.Port a1)))else some (.inr m5))
def Zcy (N:Nat)(a:ZbT)(r2:Int×Int)(us_:List ZaN)(a2 a0:Int):Option ((Int×Int)⊕((Int))):=
 (if(decide (a0<(us_.length:Int)))then(idx us_ a0).bind λa4=>
 (idx a.Problem.Periods a4.Stream).bind λa3=>
 (quoI .i64 r2.1 a3).bind λa1=>
 some (.inl ((w64 (a2+a1)),(w64 (a0+1))))else some (.inr a2))
def ZcI (N:Nat)(a:ZbT)(r2:Int×Int)(us_:List ZaN):Option Bool:=
 ((ZaT (λx:Int×Int=>Zcy N a r2 us_ x.1 x.2) N (0,0)).bind λa0=>
 some (decide (a0>63)))
def Zcb (N:Nat)(a:ZbT)(a0:Int):Option ((Int)⊕((Unit)⊕(Int))):=
 (if(decide (a0<(a.Problem.Uses.length:Int)))then(idx a.Problem.Uses a0).bind λa1=>
 (idx a.Problem.Periods a1.Stream).bind λa2=>
 if(decide (a1.Long>a2))then some (.inr (.inr 341))else some (.inl (w64 (a0+1)))else some (.inr (.inl ())))
def ZdV (N:Nat)(a:ZbT):Option Int:=
 ((ZfP N a.Problem.Periods).bind λr2=>
 (if(r2.2 !=0)then some r2.2 else((ZaT (λx:Int×(List (Int×(List ZaN)))=>Zcz N a x.1 x.2) N (0,[])).bind λa3=>
 ((rgF (ZcI N a r2) a3).bind λa2=>
 (if a2 then some 7 else((ZaT (λx:Int=>Zcb N a x) N 0).bind λa1=>match a1 with
 |(.inl a4)=>(if a.late then some 342 else some 0)
 |(.inr a0)=>some a0))))))
def ZjB (N:Nat)(a:ZaB)(i4:Int):Option ((Int)⊕((Unit)⊕(Int))):=
 (if(decide (i4<(a.Periods.length:Int)))then(idx a.Periods i4).bind λa0=>
 if((decide (a0<1))||(decide (a0>240)))then some (.inr (.inr 340))else some (.inl (w64 (i4+1)))else some (.inr (.inl ())))
def ZjA (N:Nat)(a:ZaB)(a2:Int):Option ((Int)⊕((Unit)⊕(Int))):=
 (if(decide (a2<(a.Uses.length:Int)))then(idx a.Uses a2).bind λa0=>
 if((decide (a0.Stream<0))||((decide (a0.Stream≥(a.Periods.length:Int)))||((decide (a0.Port<0))||(decide (a0.Port≥48)))))then some (.inr (.inr 340))else(idx a.Periods a0.Stream).bind λa1=>
 if((decide (a0.From<0))||((decide (a0.From≥a1))||((decide (a0.Long<1))||(decide (a0.Long>a1)))))then some (.inr (.inr 340))else some (.inl (w64 (a2+1)))else some (.inr (.inl ())))
def ZiN (N:Nat)(a:ZaB):Option Int:=
 (if((decide ((a.Periods.length:Int)>12))||(decide ((a.Uses.length:Int)>192)))then some 340 else((ZaT (λx:Int=>ZjB N a x) N 0).bind λa4=>match a4 with
 |(.inl a6)=>((ZfP N a.Periods).bind λa3=>
 (if(a3.2 !=0)then some 340 else((ZaT (λx:Int=>ZjA N a x) N 0).bind λa2=>match a2 with
 |(.inl a5)=>(some 0)
 |(.inr a1)=>some a1)))
 |(.inr a0)=>some a0))
def Zcn (N:Nat)(a:ZaB)(b c:Int)(b18:Bool)(x16 x17:ZaN):Option ((Bool)×Nat):=
 (if((x16.Stream==x17.Stream)&&((x16.Port==x17.Port)&&((x16.From==x17.From)&&((x16.Long==x17.Long)&&true))))then some (true,1)else(Zfy N a x16 b).bind λa2=>
 (Zfy N a x17 c).bind λa1=>
 (ZgV N a2 a1).bind λa0=>
 if(!a0.1)then some (true,1)else some (b18,0))
def Zg1 (N:Nat)(a:ZaB)(b c d e:Int):Option Bool:=
 ((ZkT N a b d).bind λa1=>
 (Zh1 N (λ(s:Bool×Nat) (x16:ZaN) (x17:ZaN)=>ZfJ (λv:Bool=>Zcn N a c e v x16 x17) s) a1.1 a1.2.1 a1.2.2 (false,0)).bind λa0=>
 if(a0.2==0)then some false else if(a0.2==1)then some a0.1 else none)
def Zd1 (N:Nat)(a:Zaz)(b:List Int)(c:Zbq->Option (Bool×Int)):Option (Bool×Int):=
 ((Zfc N a b).bind λr1=>
 if(r1 !=0)then some (false,r1)else(c (Zbq.mk a)).bind λr3=>
 some (r3.1,r3.2))
def Zfb (N:Nat)(a:Zaz)(b:List Int):Option ((List Int)×Int):=
 ((Zd2 N a b (λx0=>Zfu N x0 b)).bind λr4=>
 some (r4.1,r4.2))
def ZfD (N:Nat)(a:ZfS):Option (Zaz×ZaC×(List Zax)×(List Int)):=
 ((ZdU N a.T).bind λr1=>
 (Zjn N a.U.x0 a.U.x1 a.U.x2).bind λr2=>
 (ZgX N r1 a.L).bind λr3=>
 (Zmf N r1 r2 r3).bind λr4=>
 if(r4.2 !=0)then some (r1,r2,r3,[])else if a.Find then(Zjf N r4.1 40).bind λr7=>
 if(r7.2.2==0)then some (r1,r2,r3,r7.1)else(ZiD N r4.1 a.Some).bind λr9=>
 some (r1,r2,r3,r9)else(ZiD N r4.1 a.Some).bind λa0=>
 some (r1,r2,r3,a0))
def Zku (N:Nat)(a:ZaB)(b:List Int)(i4:Int):Option ((Int)⊕((Unit)⊕(Bool×Int))):=
 (if(decide (i4<(b.length:Int)))then(idx b i4).bind λa1=>
 (Zjw N a i4 a1).bind λa0=>
 if(!a0)then some (.inr (.inr (false,2)))else some (.inl (w64 (i4+1)))else some (.inr (.inl ())))
def Zks (N:Nat)(a:ZaB)(a5 a4:Int)(a1:List Int)(a0:Int):Option ((Int)⊕((Unit)⊕(Bool×Int))):=
 (if(decide (a0<(a1.length:Int)))then(idx a1 a0).bind λa3=>
 (Zg1 N a a0 a3 a5 a4).bind λa2=>
 if a2 then some (.inr (.inr (false,0)))else some (.inl (w64 (a0+1)))else some (.inr (.inl ())))
def Zkt (N:Nat)(a:ZaB)(b:List Int)(a0:Int):Option ((Int)⊕((Unit)⊕(Bool×Int))):=
 (if(decide (a0<(b.length:Int)))then((idx b a0).bind λa4=>
 ((subI b 0 (w64 (a0+1))).bind λa3=>
 ((ZaT (λx:Int=>Zks N a a0 a4 a3 x) N 0).bind λa2=>match a2 with
 |(.inl a5)=>(some (.inl (w64 (a0+1))))
 |(.inr a1)=>some (.inr (.inr a1)))))else some (.inr (.inl ())))
def Zkv (N:Nat)(a:ZaB)(b:List Int):Option (Bool×Int):=
 ((ZiN N a).bind λr1=>
 (if(r1 !=0)then some (false,r1)else(if((b.length:Int)!=(a.Periods.length:Int))then some (false,2)else((ZaT (λx:Int=>Zku N a b x) N 0).bind λa3=>match a3 with
 |(.inl a5)=>((ZaT (λx:Int=>Zkt N a b x) N 0).bind λa2=>match a2 with
 |(.inl a4)=>(some (true,0))
 |(.inr a1)=>some a1)
 |(.inr a0)=>some a0))))
def ZiM (N:Nat)(a:ZaB):Option (Int×Int):=
 ((ZiN N a).bind λr1=>
 if(r1 !=0)then some (0,r1)else(ZfP N a.Periods).bind λr3=>
 some (r3.1,r3.2))
def Zfd (N:Nat)(a:Zaz)(b c:List Int):Option (Bool×Int):=
 ((Zd1 N a b (λx0=>ZeA N x0 c b)).bind λr6=>
 some (r6.1,r6.2))
def Zfh (N:Nat)(a:Zaz)(b:List Int):Option (Int×Int×Int):=
 ((Zfb N a b).bind λr1=>
 if(r1.2 !=0)then some (0,0,r1.2)else(idx r1.1 0).bind λe3=>
 (idx r1.1 (w64 ((r1.1.length:Int)-1))).bind λe4=>
 some (e3,e4,0))
def ZhS (N:Nat)(a:Zaz)(b:List Int)(c d:Int):Option Bool:=
 ((Zfh N a b).bind λr1=>
 some ((r1.2.2==0)&&((r1.1==c)&&(r1.2.1==d))))
def ZeO (N:Nat)(a:Zax)(b:Zaz):Option Bool:=
 (if(decide ((a.Routes.length:Int)<2))then some true else(idx a.Routes 0).bind λe5=>
 (idx a.Routes 1).bind λe7=>
 (Zfd N b e5 e7).bind λr8=>
 some ((r8.2==0)&&r8.1))
def Zez (N:Nat)(a:Zax)(b:Zaz)(i2:Int):Option ((Int)⊕((Unit)⊕(Bool))):=
 (if(decide (i2<(a.Routes.length:Int)))then(idx a.Routes i2).bind λa1=>
 (ZhS N b a1 a.Talker a.Listener).bind λa0=>
 if(!a0)then some (.inr (.inr false))else some (.inl (w64 (i2+1)))else some (.inr (.inl ())))
def ZeP (N:Nat)(a:Zax)(b:Zaz):Option Bool:=
 ((ZaT (λx:Int=>Zez N a b x) N 0).bind λa1=>match a1 with
 |(.inl a2)=>(some true)
 |(.inr a0)=>some a0)
def Zgn (N:Nat)(a:Zaz)(b:Zax):Option Bool:=
 ((Zf4 N b).bind λr8=>
 if(!r8)then some false else(Zf3 N a b).bind λa6=>
 if(!a6)then some false else(Zf2 N b).bind λa5=>
 if(!a5)then some false else(Zf1 N b).bind λa4=>
 if(!a4)then some false else(ZeQ N b).bind λa3=>
 if(!a3)then some false else(Zf0 N b).bind λa2=>
 if(!a2)then some false else(ZeP N b a).bind λa1=>
 if(!a1)then some false else(ZeO N b a).bind λa0=>
 if(!a0)then some false else some true)
def Zix (N:Nat)(a:Zaz)(b:ZaC)(c:Zax)(d:Int):Option Int:=
 ((Zha N a).bind λr1=>
 if(r1 !=0)then some r1 else(Zdp N b).bind λr3=>
 if(r3 !=0)then some r3 else(Zgn N a c).bind λr5=>
 if(!r5)then some 321 else(if(c.Class !=7)then some true else(ZbL N d 0 (w64 ((c.Routes.length:Int)-1))).bind λr9=>some (!r9)).bind λ(a0:Bool)=>
 if a0 then some 2 else some 0)
def Zec (N:Nat)(a:Zaz)(b:List Zax)(i4:Int):Option ((Int)⊕((Unit)⊕(Int))):=
 (if(decide (i4<(b.length:Int)))then(idx b i4).bind λa1=>
 (Zgn N a a1).bind λa0=>
 if(!a0)then some (.inr (.inr 321))else some (.inl (w64 (i4+1)))else some (.inr (.inl ())))
def ZbR (N:Nat)(a:List Zax)(a1:Int)(a2:List (Int×Bool)):Option ((Int×(List (Int×Bool)))⊕((Unit)⊕(Int))):=
 (if(decide (a1<(a.length:Int)))then(idx a a1).bind λa0=>
 if(Zio a2 a0.Id false)then some (.inr (.inr 322))else some (.inl ((w64 (a1+1)),(Zeq a2 a0.Id true)))else some (.inr (.inl ())))
def Zeh (N:Nat)(a:Zaz)(b:List Zax):Option Int:=
 ((Zha N a).bind λr1=>
 (if(r1 !=0)then some r1 else(if(decide ((b.length:Int)>12))then some 3 else((ZaT (λx:Int=>Zec N a b x) N 0).bind λa3=>match a3 with
 |(.inl a5)=>((ZaT (λx:Int×(List (Int×Bool))=>ZbR N b x.1 x.2) N (0,[])).bind λa2=>match a2 with
 |(.inl a4)=>(some 0)
 |(.inr a1)=>some a1)
 |(.inr a0)=>some a0))))
def ZcT (N:Nat)(a:Zaz)(b:ZaC)(i22:Int)(x21:ZaZ):Option Int:=
 ((idx a.Links (w64 (Int.tdiv x21.Port 2))).bind λa0=>
 some (w64 ((w64 ((w64 (x21.Open+x21.Long))+a0.Delay))+b.Proc)))
def Zi3 (N:Nat)(a:Zaz)(b:ZaC)(c:Zax)(d:Int):Option (Int×Int):=
 ((Zix N a b c d).bind λr7=>
 if(r7 !=0)then some (0,r7)else(Zi2 N a b c d).bind λa0=>
 (ZdH N (λ(s:Int) (x21:ZaZ)=>Zea (λv:Int=>ZcT N a b v x21) s) a0.1 a0.2.1 a0.2.2.1 a0.2.2.2 0).bind λa1=>
 some (a1,0))
def ZcU (N:Nat)(a1:List ZaZ)(x12:ZaZ):Option (List ZaZ):=
 ((appI 40 a1 [x12]).bind λa0=>
 some a0)
def ZfL (N:Nat)(a:Zaz)(b:ZaC)(c:Zax)(d:Int):Option ((List ZaZ)×Int):=
 ((Zix N a b c d).bind λr1=>
 if(r1 !=0)then some ([],r1)else(Zi2 N a b c d).bind λr5=>
 (ZdH N (λ(s:(List ZaZ)) (x12:ZaZ)=>Zea (λv:(List ZaZ)=>ZcU N v x12) s) r5.1 r5.2.1 r5.2.2.1 r5.2.2.2 []).bind λa0=>
 some (a0,0))
def ZfN (N:Nat)(a:ZbT)(b:ZaC)(c:Zax)(a3:(List ZaZ)×Int)(a2:Int)(a6:List ZaN):Option ((Int×(List ZaN))⊕(((List ZaN)))):=
 (if(decide (a2<(a3.1.length:Int)))then(idx a3.1 a2).bind λa0=>
 (ZeF N a0.Early b.Grid).bind λa1=>
 (ZeF N (w64 ((w64 ((w64 (a0.Open+a0.Long))+b.Grid))-1)) b.Grid).bind λa5=>
 (ZeF N a1 c.Period).bind λa4=>
 (appI 32 a6 [(ZaN.mk (a.Problem.Periods.length:Int) a0.Port (w64 (a1-(w64 (a4*c.Period)))) (w64 (a5-a1)))]).bind λa7=>
 some (.inl ((w64 (a2+1)),a7))else some (.inr a6))
def ZfO (N:Nat)(a:ZbT)(b:Zaz)(c:ZaC)(d:Zax)(l6:List Int)(i11:Int)(b12:Bool)(a4:List ZaN):Option ((Int×Bool×(List ZaN))⊕((Bool×(List ZaN))⊕(Int×ZbT))):=
 (if(decide (i11<(d.Routes.length:Int)))then(ZfL N b c d i11).bind λa2=>
 if(a2.2 !=0)then some (.inr (.inr (a2.2,(ZbT.mk (ZaB.mk l6 a4) b12))))else(ZaT (λx:Int×(List ZaN)=>ZfN N a c d a2 x.1 x.2) N (0,a4)).bind λa1=>
 (Zi3 N b c d i11).bind λa0=>
 if(a0.2 !=0)then some (.inr (.inr (a0.2,(ZbT.mk (ZaB.mk l6 a1) b12))))else(if b12 then some true else some (decide ((w64 (a0.1+(w64 (2*c.Slack))))>d.Deadline))).bind λ(a3:Bool)=>
 some (.inl ((w64 (i11+1)),a3,a1))else some (.inr (.inl (b12,a4))))
def Zgh (N:Nat)(a:ZbT)(b:Zaz)(c:ZaC)(d:Zax):Option (Int×ZbT):=
 ((appI 8 a.Problem.Periods [d.Period]).bind λl6=>
 ((ZaT (λx:Int×Bool×(List ZaN)=>ZfO N a b c d l6 x.1 x.2.1 x.2.2) N (0,a.late,a.Problem.Uses)).bind λa2=>match a2 with
 |(.inl a0)=>(some (0,(ZbT.mk (ZaB.mk l6 a0.2) a0.1)))
 |(.inr a1)=>some a1))
def Zbt {σ:Type}(N:Nat)(a:σ->Za6->Option (σ×Bool))(b:ZaC)(a6:Zax)(a5:Int)(a3:(List ZaZ)×Int)(a1:Int)(a4:σ):Option ((Int×σ)⊕((σ)⊕(σ))):=
 (if(decide (a1<(a3.1.length:Int)))then(idx a3.1 a1).bind λa2=>
 (a a4 (Za6.mk a2.Port (w64 (a2.Open+(w64 (a5*b.Grid)))) a2.Long (w64 (a6.Period*b.Grid)))).bind λa0=>
 if(!a0.2)then some (.inr (.inr a0.1))else some (.inl ((w64 (a1+1)),a0.1))else some (.inr (.inl a4)))
def Zbu {σ:Type}(N:Nat)(a:σ->Za6->Option (σ×Bool))(b:Zaz)(c:ZaC)(a1:Zax)(a7 a0:Int)(a6:σ):Option ((Int×σ)⊕((σ)⊕(σ))):=
 (if(decide (a0<(a1.Routes.length:Int)))then((ZfL N b c a1 a0).bind λa2=>
 ((ZaT (λx:Int×σ=>Zbt N a c a1 a7 a2 x.1 x.2) N (0,a6)).bind λa5=>match a5 with
 |(.inl a4)=>(some (.inl ((w64 (a0+1)),a4)))
 |(.inr a3)=>some (.inr (.inr a3))))else some (.inr (.inl a6)))
def Zb2 {σ:Type}(N:Nat)(a:σ->Za6->Option (σ×Bool))(b:List Zax)(c:List Int)(d:Zaz)(e:ZaC)(i4 i5:Int)(g6:σ):Option ((Int×Int×σ)⊕((σ)⊕(σ))):=
 (if(decide (i5<(b.length:Int)))then((idx b i5).bind λa3=>
 (if(a3.Class !=7)then some (.inl (i4,(w64 (i5+1)),g6))else((idx c i4).bind λa4=>
 ((ZaT (λx:Int×σ=>Zbu N a d e a3 a4 x.1 x.2) N (0,g6)).bind λa2=>match a2 with
 |(.inl a1)=>(some (.inl ((w64 (i4+1)),(w64 (i5+1)),a1)))
 |(.inr a0)=>some (.inr (.inr a0))))))else some (.inr (.inl g6)))
def Zc0 {σ:Type}(N:Nat)(a:σ->Za6->Option (σ×Bool))(b:List Zax)(c:List Int)(d:Zaz)(e:ZaC)(f:σ):Option (σ):=
 ((ZaT (λx:Int×Int×σ=>Zb2 N a b c d e x.1 x.2.1 x.2.2) N (0,0,f)).bind λa2=>match a2 with
 |(.inl a1)=>(some a1)
 |(.inr a0)=>some a0)
def ZkU (N:Nat)(a:Zaz)(b:ZaC)(c:List Zax)(i12:Int)(b13:Bool)(a3:List Int)(a2:List ZaN):Option ((Int×Bool×(List Int)×(List ZaN))⊕((Bool×(List Int)×(List ZaN))⊕(ZaB×Int))):=
 (if(decide (i12<(c.length:Int)))then(idx c i12).bind λa1=>
 if(a1.Class !=7)then some (.inl ((w64 (i12+1)),b13,a3,a2))else(Zgh N (ZbT.mk (ZaB.mk a3 a2) b13) a b a1).bind λa0=>
 if(a0.1 !=0)then some (.inr (.inr ((ZaB.mk ([]) ([])),a0.1)))else some (.inl ((w64 (i12+1)),a0.2.late,a0.2.Problem.Periods,a0.2.Problem.Uses))else some (.inr (.inl (b13,a3,a2))))
def ZpB (N:Nat)(a:Zaz)(b:ZaC)(c:List Zax):Option (ZaB×Int):=
 ((Zeh N a ([])).bind λr1=>
 (if(r1 !=0)then some ((ZaB.mk ([]) ([])),r1)else((Zdp N b).bind λr3=>
 (if(r3 !=0)then some ((ZaB.mk ([]) ([])),r3)else((Zeh N a c).bind λr5=>
 (if(r5 !=0)then some ((ZaB.mk ([]) ([])),r5)else((ZaT (λx:Int×Bool×(List Int)×(List ZaN)=>ZkU N a b c x.1 x.2.1 x.2.2.1 x.2.2.2) N (0,false,[],[])).bind λa3=>match a3 with
 |(.inl a0)=>((ZdV N (ZbT.mk (ZaB.mk a0.2.1 a0.2.2) a0.1)).bind λa1=>
 if(a1 !=0)then some ((ZaB.mk ([]) ([])),a1)else some ((ZaB.mk a0.2.1 a0.2.2),0))
 |(.inr a2)=>some a2)))))))
def Zdh (N:Nat)(r9:Int×Int)(a2:List (List Bool))(i25:Int)(a1:List (List Bool)):Option ((Int×(List (List Bool)))⊕(((List (List Bool))))):=
 (if(decide (i25<(a2.length:Int)))then(Zgs 1 r9.1 r9.1 false).bind λa0=>
 (idx a1 i25).bind λa3=>
 some (.inl ((w64 (i25+1)),(List.set a1 (Int.toNat i25) a0)))else some (.inr a1))
def Zdf (N:Nat)(r9:Int×Int)(a2 a6 a5 a1:Int)(a0:List (List Bool)):Option ((Int×(List (List Bool)))⊕(((List (List Bool))))):=
 (if(decide (a1<a5))then(idx a0 a2).bind λa4=>
 (remI (w64 (a6+a1)) r9.1).bind λa3=>
 (idx a4 a3).bind λa7=>
 some (.inl ((w64 (a1+1)),(List.set a0 (Int.toNat a2) (List.set a4 (Int.toNat a3) true))))else some (.inr a0))
def ZdZ (N:Nat)(r9:Int×Int)(a4:List (List Bool))(a2 a1 a0:Int):Option (((List (List Bool)))):=
 ((ZaT (λx:Int×(List (List Bool))=>Zdf N r9 a2 a1 a0 x.1 x.2) N (0,a4)).bind λa3=>
 some a3)
def Zdg (N:Nat)(a:ZaC)(r9:Int×Int)(a2:Za6)(a8 a0:Int)(a1:List (List Bool)):Option ((Int×(List (List Bool)))⊕(((List (List Bool))))):=
 (if(decide (a0<(w64 (a2.from_+(w64 (r9.1*a.Grid))))))then(quoI .i64 a0 a.Grid).bind λa7=>
 ((λ(s:(List (List Bool))) (a5:Int) (a4:Int) (a3:Int)=>ZdZ N r9 s a5 a4 a3) a1 a2.port a7 a8).bind λa6=>
 some (.inl ((w64 (a0+a2.period)),a6))else some (.inr a1))
def ZcR (N:Nat)(a:ZaC)(r9:Int×Int)(a3:List (List Bool))(a0:Za6):Option ((List (List Bool))):=
 ((quoI .i64 (w64 ((w64 (a0.long+a.Grid))-1)) a.Grid).bind λa1=>
 (ZaT (λx:Int×(List (List Bool))=>Zdg N a r9 a0 a1 x.1 x.2) N (a0.from_,a3)).bind λa2=>
 some a2)
def Zde (N:Nat)(a:ZaC)(a3:List (List Bool))(a4:List ZaM)(a0:Int)(a1:List ZaM):Option ((Int×(List ZaM))⊕(((List ZaM)))):=
 (if(decide (a0<(a4.length:Int)))then(idx a3 a0).bind λa5=>
 (ZkP N a5 a.Grid).bind λa2=>
 (idx a1 a0).bind λa6=>
 some (.inl ((w64 (a0+1)),(List.set a1 (Int.toNat a0) a2)))else some (.inr a1))
def Ze7 (N:Nat)(a:Zaz)(b:ZaC)(c:List Zax)(d:List Int):Option ((List ZaM)×Int):=
 ((ZpB N a b c).bind λr4=>
 if(r4.2 !=0)then some ([],r4.2)else(Zkv N r4.1 d).bind λr6=>
 if(r6.2 !=0)then some ([],r6.2)else if(!r6.1)then some ([],380)else(ZiM N r4.1).bind λr9=>
 if(r9.2 !=0)then some ([],r9.2)else(famI 24 (w64 (2*(a.Links.length:Int)))).bind λa6=>
 (ZaT (λx:Int×(List (List Bool))=>Zdh N r9 a6 x.1 x.2) N (0,a6)).bind λa5=>
 (Zey N a b c d).bind λa1=>
 (Zc0 N (λ(s:(List (List Bool))) (a4:Za6)=>Zea (λv:(List (List Bool))=>ZcR N b r9 v a4) s) a1.1 a1.2.1 a1.2.2.1 a1.2.2.2 a5).bind λa0=>
 (Zgs 32 (a0.length:Int) (a0.length:Int) (ZaM.mk ([]) 0)).bind λa2=>
 (ZaT (λx:Int×(List ZaM)=>Zde N b a0 a2 x.1 x.2) N (0,a2)).bind λa3=>
 some (a3,0))
def Zib (N:Nat)(a:List ZaM)(i19:Int):Option ((Int)⊕((Unit)⊕(Bool×Int))):=
 (if(decide (i19<(a.length:Int)))then(idx a i19).bind λa1=>
 (ZfW N a1).bind λa0=>
 if(a0 !=0)then some (.inr (.inr (false,a0)))else some (.inl (w64 (i19+1)))else some (.inr (.inl ())))
def Zia (N:Nat)(a:ZaC)(b:List ZaM)(a2:Int×Int)(a0:Int):Option ((Int)⊕((Unit)⊕(Bool×Int))):=
 (if(decide (a0<(b.length:Int)))then(idx b a0).bind λa1=>
 if(a1.Cycle !=(w64 (a2.1*a.Grid)))then some (.inr (.inr (false,0)))else some (.inl (w64 (a0+1)))else some (.inr (.inl ())))
def Zd0 (N:Nat)(a:ZaC)(b:List ZaM)(a4:Int×Int)(a0:Za6)(a1:Int):Option ((Int)⊕((Unit)⊕(Unit))):=
 (if(decide (a1<(w64 (a0.from_+(w64 (a4.1*a.Grid))))))then(idx b a0.port).bind λa3=>
 (ZhR N a3 a1 a0.long).bind λa2=>
 if(!a2)then some (.inr (.inr ()))else some (.inl (w64 (a1+a0.period)))else some (.inr (.inl ())))
def ZcS (N:Nat)(a:ZaC)(b:List ZaM)(a2:Int×Int)(a0:Za6):Option ((Unit)×Nat):=
 ((ZaT (λx:Int=>Zd0 N a b a2 a0 x) N a0.from_).bind λa1=>match a1 with
 |(.inl a4)=>(some ((),0))
 |(.inr a3)=>some ((),1))
def Ze8 (N:Nat)(a:Zaz)(b:ZaC)(c:List Zax)(d:List Int)(e:List ZaM):Option (Bool×Int):=
 ((ZpB N a b c).bind λa7=>
 (if(a7.2 !=0)then some (false,a7.2)else((Zkv N a7.1 d).bind λa9=>
 (if(a9.2 !=0)then some (false,a9.2)else((ZaT (λx:Int=>Zib N e x) N 0).bind λa8=>match a8 with
 |(.inl ab)=>((ZiM N a7.1).bind λa1=>
 (if(a1.2 !=0)then some (false,a1.2)else(if((e.length:Int)!=(w64 (2*(a.Links.length:Int))))then some (false,0)else((ZaT (λx:Int=>Zia N b e a1 x) N 0).bind λa6=>match a6 with
 |(.inl aa)=>((Zey N a b c d).bind λa0=>
 (Zc0 N (λ(s:Unit×Nat) (a3:Za6)=>ZfJ (λv:Unit=>ZcS N b e a1 a3) s) a0.1 a0.2.1 a0.2.2.1 a0.2.2.2 ((),0)).bind λa2=>
 if(a2.2==0)then some (true,0)else if(a2.2==1)then some (false,0)else none)
 |(.inr a5)=>some a5))))
 |(.inr a4)=>some a4)))))
def ZjF (N:Nat):Option Bool:=
 ((Zrk N).bind λr1=>
 (ZpS N).bind λr2=>
 (ZfC N 1 20).bind λr3=>
 (Ze7 N r1 r2 ([r3]) ([15])).bind λr4=>
 (ZiQ N ([128,300,127,1200,128,500])).bind λr5=>
 (ZiQ N ([127,2000])).bind λr6=>
 (ZiQ N ([127,400,128,800,127,800])).bind λr7=>
 (ZiQ N ([127,2000])).bind λr8=>
 (Ze7 N r1 r2 ([r3]) ([20])).bind λr9=>
 (ZfC N 1 40).bind λa6=>
 (ZfC N 2 40).bind λa5=>
 (Ze7 N r1 r2 ([a6,a5]) ([0,1])).bind λa4=>
 (if(r4.2 !=0)then some true else(Zra N r4.1 ([r5,r6,r7,r8])).bind λa3=>some (!a3)).bind λ(a8:Bool)=>
 if a8 then some false else(Ze8 N r1 r2 ([r3]) ([15]) r4.1).bind λa2=>
 (Ze8 N r1 r2 ([r3]) ([14]) r4.1).bind λa1=>
 (subI r4.1 0 3).bind λa7=>
 (Ze8 N r1 r2 ([r3]) ([15]) a7).bind λa0=>
 some ((r9.2==2)&&((a4.2==380)&&(a2.1&&((a2.2==0)&&((!a1.1)&&((a1.2==0)&&((!a0.1)&&(a0.2==0)))))))))
def Zcf (N:Nat)(r3:Zaz×ZaC×(List Zax)×(List Int))(r4:(List ZaM)×Int)(i15:Int)(ab:List (List Int)):Option ((Int×(List (List Int)))⊕(((List (List Int)))⊕(Bool))):=
 (if(decide (i15<(r4.1.length:Int)))then((idx r4.1 i15).bind λaa=>(ZfW N aa).bind λa1=>if(a1 !=0)then some true else(idx r4.1 i15).bind λa9=>(idx r4.1 0).bind λa8=>if(a9.Cycle !=a8.Cycle)then some true else(idx r4.1 i15).bind λa7=>(remI a7.Cycle r3.2.1.Grid).bind λa2=>some (a2 !=0)).bind λ(a5:Bool)=>
 if a5 then some (.inr (.inr false))else(idx r4.1 i15).bind λa6=>
 (quoI .i64 a6.Cycle r3.2.1.Grid).bind λa0=>
 (Zgs 8 a0 a0 0).bind λa4=>
 (appI 24 ab [a4]).bind λa3=>
 some (.inl ((w64 (i15+1)),a3))else some (.inr (.inl ab)))
def ZbV (N:Nat)(r3:Zaz×ZaC×(List Zax)×(List Int))(aa a9:Int)(a3:ZaZ)(a5 a2:Int)(a0:List Int):Option ((Int×(List Int))⊕(((List Int)))):=
 (if(decide ((w64 (a2*r3.2.1.Grid))<a3.Long))then(quoI .i64 a3.Open r3.2.1.Grid).bind λa4=>
 (idx r3.2.2.2 aa).bind λa8=>
 (idx r3.2.2.1 a9).bind λa7=>
 (remI (w64 ((w64 ((w64 (a4+a8))+(w64 (a5*a7.Period))))+a2)) (a0.length:Int)).bind λa1=>
 (idx a0 a1).bind λa6=>
 (idx a0 a1).bind λab=>
 some (.inl ((w64 (a2+1)),(List.set a0 (Int.toNat a1) (w64 (a6+1)))))else some (.inr a0))
def ZbW (N:Nat)(r3:Zaz×ZaC×(List Zax)×(List Int))(a8 a6:Int)(a5:List (List Int))(a2:ZaZ)(a1:Int)(a0:List Int):Option ((Int×(List Int))⊕(((List (List Int))))):=
 ((idx r3.2.2.1 a6).bind λa7=>
 (quoI .i64 (a0.length:Int) a7.Period).bind λa3=>
 if(decide (a1<a3))then(ZaT (λx:Int×(List Int)=>ZbV N r3 a8 a6 a2 a1 x.1 x.2) N (0,a0)).bind λa4=>
 some (.inl ((w64 (a1+1)),a4))else some (.inr (List.set a5 (Int.toNat a2.Port) a0)))
def Zcc (N:Nat)(r3:Zaz×ZaC×(List Zax)×(List Int))(a7 a6:Int)(a2:(List ZaZ)×Int)(a1:Int)(a0:List (List Int)):Option ((Int×(List (List Int)))⊕(((List (List Int))))):=
 (if(decide (a1<(a2.1.length:Int)))then(idx a2.1 a1).bind λa3=>
 (idx a0 a3.Port).bind λa5=>
 (ZaT (λx:Int×(List Int)=>ZbW N r3 a7 a6 a0 a3 x.1 x.2) N (0,a5)).bind λa4=>
 some (.inl ((w64 (a1+1)),a4))else some (.inr a0))
def Zcd (N:Nat)(r3:Zaz×ZaC×(List Zax)×(List Int))(a7 a3 a0:Int)(a2:List (List Int)):Option ((Int×(List (List Int)))⊕(((List (List Int)))⊕(Bool))):=
 ((idx r3.2.2.1 a3).bind λa6=>
 if(decide (a0<(a6.Routes.length:Int)))then(idx r3.2.2.1 a3).bind λa5=>
 (ZfL N r3.1 r3.2.1 a5 a0).bind λa1=>
 if(a1.2 !=0)then some (.inr (.inr false))else(ZaT (λx:Int×(List (List Int))=>Zcc N r3 a7 a3 a1 x.1 x.2) N (0,a2)).bind λa4=>
 some (.inl ((w64 (a0+1)),a4))else some (.inr (.inl a2)))
def Zce (N:Nat)(r3:Zaz×ZaC×(List Zax)×(List Int))(a2 a0:Int)(a1:List (List Int)):Option ((Int×Int×(List (List Int)))⊕(((List (List Int)))⊕(Bool))):=
 (if(decide (a0<(r3.2.2.1.length:Int)))then((idx r3.2.2.1 a0).bind λa6=>
 (if(a6.Class !=7)then some (.inl (a2,(w64 (a0+1)),a1))else((ZaT (λx:Int×(List (List Int))=>Zcd N r3 a2 a0 x.1 x.2) N (0,a1)).bind λa5=>match a5 with
 |(.inl a4)=>(some (.inl ((w64 (a2+1)),(w64 (a0+1)),a4)))
 |(.inr a3)=>some (.inr (.inr a3)))))else some (.inr (.inl a1)))
def ZdP (N:Nat)(r3:Zaz×ZaC×(List Zax)×(List Int))(r4:(List ZaM)×Int)(a2:List (List Int))(a1 a0:Int):Option ((Int)⊕((Unit)⊕(Bool))):=
 ((idx a2 a1).bind λa8=>
 if(decide (a0<(a8.length:Int)))then(idx r4.1 a1).bind λad=>
 (ZfV N ad (w64 (a0*r3.2.1.Grid))).bind λa4=>
 (idx r4.1 a1).bind λac=>
 (ZfV N ac (w64 ((w64 ((w64 (a0+1))*r3.2.1.Grid))-1))).bind λa3=>
 ((idx a2 a1).bind λa7=>
 (idx a7 a0).bind λab=>
 if(decide (ab>0))then some 128 else some 127).bind λ(a5:Int)=>
 (if(a4.2 !=0)then some true else if(a3.2 !=0)then some true else if(a4.1 !=a5)then some true else if(a3.1 !=a5)then some true else(idx a2 a1).bind λa6=>(idx a6 a0).bind λaa=>some (decide (aa>1))).bind λ(a9:Bool)=>
 if a9 then some (.inr (.inr false))else some (.inl (w64 (a0+1)))else some (.inr (.inl ())))
def ZdQ (N:Nat)(r3:Zaz×ZaC×(List Zax)×(List Int))(r4:(List ZaM)×Int)(a2:List (List Int))(a0:Int):Option ((Int)⊕((Unit)⊕(Bool))):=
 (if(decide (a0<(r4.1.length:Int)))then((ZaT (λx:Int=>ZdP N r3 r4 a2 a0 x) N 0).bind λa3=>match a3 with
 |(.inl a4)=>(some (.inl (w64 (a0+1))))
 |(.inr a1)=>some (.inr (.inr a1)))else some (.inr (.inl ())))
def ZgE (N:Nat)(a:ZfS):Option Bool:=
 ((ZjF N).bind λr1=>
 (if(!r1)then some false else((ZfD N a).bind λr3=>
 ((Ze7 N r3.1 r3.2.1 r3.2.2.1 r3.2.2.2).bind λr4=>
 (if(r4.2 !=0)then some ((r4.1.length:Int)==0)else((Ze8 N r3.1 r3.2.1 r3.2.2.1 r3.2.2.2 r4.1).bind λr6=>
 (if((!r6.1)||((r6.2 !=0)||((r4.1.length:Int)!=(w64 (2*(r3.1.Links.length:Int))))))then some false else((ZaT (λx:Int×(List (List Int))=>Zcf N r3 r4 x.1 x.2) N (0,[])).bind λa7=>match a7 with
 |(.inl a6)=>((ZaT (λx:Int×Int×(List (List Int))=>Zce N r3 x.1 x.2.1 x.2.2) N (0,0,a6)).bind λa5=>match a5 with
 |(.inl a3)=>((ZaT (λx:Int=>ZdQ N r3 r4 a3 x) N 0).bind λa4=>match a4 with
 |(.inl a8)=>(some true)
 |(.inr a2)=>some a2)
 |(.inr a1)=>some a1)
 |(.inr a0)=>some a0))))))))
end Go.Sh

