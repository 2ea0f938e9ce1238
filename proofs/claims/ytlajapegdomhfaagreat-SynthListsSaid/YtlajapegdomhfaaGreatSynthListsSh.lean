/-Part of the proof. -/
import Derived.Test.YtlajapegdomhfaaGreatSynthListsE26
set_option linter.all false
namespace Go.Sh
open Go Go.Eng
set_option maxRecDepth 100000
structure Zbz where
 Bridges:Int
 Stations:Int
 Chords:(List Int)
 Homes:(List Int)
 Pers:(List Int)
 Delays:(List Int)
structure Zcc where
 Reserved:Bool
 Two:Bool
 Node:Int
 Way:Int
 Size:Int
 Period:Int
 Burst:Int
 Rate:Int
def Zej (v:Zcc):List PC:=[.bool v.Reserved,.bool v.Two,.int .u8 v.Node,.int .u8 v.Way,.int .u8 v.Size,.int .u8 v.Period,.int .u8 v.Burst,.int .u16 v.Rate]
structure ZwN where
 x0:Int
 x1:Int
 x2:Int
structure Zfn where
 T:Zbz
 L:(List Zcc)
 U:ZwN
 Some:(List Int)
 Find:Bool
def Ztk (v:Zfn):List PC:=[.int .u8 v.T.Bridges,.int .u8 v.T.Stations,.sl 1 false (List.map (eI .u8) v.T.Chords),.sl 1 false (List.map (eI .u8) v.T.Homes),.sl 1 false (List.map (eI .u8) v.T.Pers),.sl 1 false (List.map (eI .u8) v.T.Delays),.sl 8 false (List.map Zej v.L),.int .u8 v.U.x0,.int .u8 v.U.x1,.int .u8 v.U.x2,.sl 1 false (List.map (eI .u8) v.Some),.bool v.Find]
structure ZaX where
 Mask:Int
 Long:Int
def Zaz (v:ZaX):List PC:=[.int .i64 v.Mask,.int .i64 v.Long]
structure ZaF where
 Entries:(List ZaX)
 Cycle:Int
def ZaL (v:ZaF):List PC:=[.sl 2 false (List.map Zaz v.Entries),.int .i64 v.Cycle]
structure ZaI where
 A:Int
 B:Int
 Per:Int
 Delay:Int
def Zaw (v:ZaI):List PC:=[.int .i64 v.A,.int .i64 v.B,.int .i64 v.Per,.int .i64 v.Delay]
structure Zan where
 Nodes:Int
 Station:(List Bool)
 Links:(List ZaI)
structure Zaq where
 Grid:Int
 Slack:Int
 Proc:Int
 Cap:Int
structure Zfo where
 Burst:Int
 Rate:Int
structure Zam where
 Id:Int
 Talker:Int
 Listener:Int
 Class:Int
 Size:Int
 Period:Int
 Bucket:Zfo
 Deadline:Int
 Routes:(List (List Int))
def Zav (v:Zam):List PC:=[.int .i64 v.Id,.int .i64 v.Talker,.int .i64 v.Listener,.int .i64 v.Class,.int .i64 v.Size,.int .i64 v.Period,.int .i64 v.Bucket.Burst,.int .i64 v.Bucket.Rate,.int .i64 v.Deadline,.sl 1 false (List.map (eSl 1 eI64) v.Routes)]
structure Zay where
 Stream:Int
 Port:Int
 From:Int
 Long:Int
def Zas (v:Zay):List PC:=[.int .i64 v.Stream,.int .i64 v.Port,.int .i64 v.From,.int .i64 v.Long]
structure Zap where
 Periods:(List Int)
 Uses:(List Zay)
structure ZaP where
 Port:Int
 Early:Int
 Late:Int
 Open:Int
 Long:Int
def ZaY (v:ZaP):List PC:=[.int .i64 v.Port,.int .i64 v.Early,.int .i64 v.Late,.int .i64 v.Open,.int .i64 v.Long]
structure Zdd where
 From:Int
 To:Int
 By:Int
 Next:Int
def Zcs (v:Zdd):List PC:=[.int .i64 v.From,.int .i64 v.To,.int .i64 v.By,.int .i64 v.Next]
structure Zb2 where
 Stream:Int
 Arms:(List Zdd)
def ZaV (v:Zb2):List PC:=[.int .i64 v.Stream,.sl 4 false (List.map Zcs v.Arms)]
structure ZaO where
 Id:Int
 Port:Int
 Begin:Int
 Period:Int
 Long:Int
 Frame:Int
def Za3 (v:ZaO):List PC:=[.int .i64 v.Id,.int .i64 v.Port,.int .i64 v.Begin,.int .i64 v.Period,.int .i64 v.Long,.int .i64 v.Frame]
structure ZaT where
 Proof:(List Zb2)
 Offsets:(List Int)
 What:Int
structure ZbC where
 Problem:Zap
 late:Bool
structure ZaG where
 Period:Int
 From:Int
 Long:Int
def Zcg (v:ZaG):List PC:=[.int .i64 v.Period,.int .i64 v.From,.int .i64 v.Long]
structure Za2 where
 port:Int
 from_:Int
 long:Int
 period:Int
structure Zbf where
 x0:Bool
 x1:Bool
 x2:Bool
 x3:Bool
 x4:Bool
 x5:Bool
 x6:Bool
 x7:Bool
 x8:Bool
 x9:Bool
 x10:Bool
 x11:Bool
 x12:Bool
 x13:Bool
 x14:Bool
 x15:Bool
 x16:Bool
 x17:Bool
 x18:Bool
 x19:Bool
 x20:Bool
 x21:Bool
 x22:Bool
 x23:Bool
structure Zbc where
 Topo:Zan
structure Zat where
 x0:Bool
 x1:Bool
 x2:Bool
 x3:Bool
 x4:Bool
 x5:Bool
 x6:Bool
 x7:Bool
 x8:Bool
 x9:Bool
 x10:Bool
 x11:Bool
structure ZbH where
 port:Int
 from_:Int
 to_:Int
abbrev Zax (f:Bool) (l:List Int):AV:=.p (.sl 1 f (List.map eI64 l))
abbrev ZgR (f:Bool) (l:List Int):AV:=.p (.sl 1 f (List.map (eI .u8) l))
abbrev Zbh (f:Bool) (l:List ZaF):AV:=.p (.sl 2 f (List.map ZaL l))
abbrev Zar (f:Bool) (l:List Zam):AV:=.p (.sl 10 f (List.map Zav l))
abbrev Zgq (f:Bool) (l:List ZaX):AV:=.p (.sl 2 f (List.map Zaz l))
abbrev s_eB (f:Bool) (l:List Bool):AV:=.p (.sl 1 f (List.map eB l))
abbrev ZjK (f:Bool) (l:List Zcc):AV:=.p (.sl 8 f (List.map Zej l))
abbrev Zu5 (f:Bool) (l:List (List Bool)):AV:=.p (.sl 1 f (List.map (eSl 1 eB) l))
abbrev Zbg (f:Bool) (l:List ZaI):AV:=.p (.sl 4 f (List.map Zaw l))
abbrev Zdh (f:Bool) (l:List (List Int)):AV:=.p (.sl 1 f (List.map (eSl 1 eI64) l))
abbrev Zf3 (f:Bool) (l:List ZaO):AV:=.p (.sl 6 f (List.map Za3 l))
abbrev Zcb (f:Bool) (l:List Zay):AV:=.p (.sl 4 f (List.map Zas l))
abbrev Zcx (f:Bool) (l:List Zb2):AV:=.p (.sl 2 f (List.map ZaV l))
abbrev ZtB (f:Bool) (l:List Zdd):AV:=.p (.sl 4 f (List.map Zcs l))
abbrev Znj (f:Bool) (l:List ZaG):AV:=.p (.sl 3 f (List.map Zcg l))
abbrev ZeG (f:Bool) (l:List ZaP):AV:=.p (.sl 5 f (List.map ZaY l))
abbrev Zdv (v:Zbz):List AV:=[.p (.int .u8 v.Bridges),.p (.int .u8 v.Stations),ZgR false v.Chords,ZgR false v.Homes,ZgR false v.Pers,ZgR false v.Delays]
abbrev Zjk (v:Zcc):List AV:=[bv v.Reserved,bv v.Two,.p (.int .u8 v.Node),.p (.int .u8 v.Way),.p (.int .u8 v.Size),.p (.int .u8 v.Period),.p (.int .u8 v.Burst),.p (.int .u16 v.Rate)]
abbrev ZnB (v:Zfn):List AV:=[.p (.int .u8 v.T.Bridges),.p (.int .u8 v.T.Stations),ZgR false v.T.Chords,ZgR false v.T.Homes,ZgR false v.T.Pers,ZgR false v.T.Delays,ZjK false v.L,.p (.int .u8 v.U.x0),.p (.int .u8 v.U.x1),.p (.int .u8 v.U.x2),ZgR false v.Some,bv v.Find]
abbrev ZcE (v:ZaF):List AV:=[Zgq false v.Entries,iv v.Cycle]
abbrev Zq3 (v:ZaI):List AV:=[iv v.A,iv v.B,iv v.Per,iv v.Delay]
abbrev Zal (v:Zan):List AV:=[iv v.Nodes,s_eB false v.Station,Zbg false v.Links]
abbrev Zao (v:Zaq):List AV:=[iv v.Grid,iv v.Slack,iv v.Proc,iv v.Cap]
abbrev Ztn (v:Zfo):List AV:=[iv v.Burst,iv v.Rate]
abbrev ZaC (v:Zam):List AV:=[iv v.Id,iv v.Talker,iv v.Listener,iv v.Class,iv v.Size,iv v.Period,iv v.Bucket.Burst,iv v.Bucket.Rate,iv v.Deadline,Zdh false v.Routes]
abbrev ZdE (v:Zay):List AV:=[iv v.Stream,iv v.Port,iv v.From,iv v.Long]
abbrev Zau (v:Zap):List AV:=[Zax false v.Periods,Zcb false v.Uses]
abbrev ZpH (v:ZaP):List AV:=[iv v.Port,iv v.Early,iv v.Late,iv v.Open,iv v.Long]
abbrev Zek (v:ZaG):List AV:=[iv v.Period,iv v.From,iv v.Long]
abbrev ZfL (v:Za2):List AV:=[iv v.port,iv v.from_,iv v.long,iv v.period]
abbrev Zkg (v:Zbf):List AV:=[bv v.x0,bv v.x1,bv v.x2,bv v.x3,bv v.x4,bv v.x5,bv v.x6,bv v.x7,bv v.x8,bv v.x9,bv v.x10,bv v.x11,bv v.x12,bv v.x13,bv v.x14,bv v.x15,bv v.x16,bv v.x17,bv v.x18,bv v.x19,bv v.x20,bv v.x21,bv v.x22,bv v.x23]
def Zbf.l (v:Zbf):List Bool:=[v.x0,v.x1,v.x2,v.x3,v.x4,v.x5,v.x6,v.x7,v.x8,v.x9,v.x10,v.x11,v.x12,v.x13,v.x14,v.x15,v.x16,v.x17,v.x18,v.x19,v.x20,v.x21,v.x22,v.x23]
def Zbf.ofL (l:List Bool):Zbf:=⟨l.getD 0 false,l.getD 1 false,l.getD 2 false,l.getD 3 false,l.getD 4 false,l.getD 5 false,l.getD 6 false,l.getD 7 false,l.getD 8 false,l.getD 9 false,l.getD 10 false,l.getD 11 false,l.getD 12 false,l.getD 13 false,l.getD 14 false,l.getD 15 false,l.getD 16 false,l.getD 17 false,l.getD 18 false,l.getD 19 false,l.getD 20 false,l.getD 21 false,l.getD 22 false,l.getD 23 false⟩
def Zbf.get (v:Zbf)(i:Int):Option Bool:=idx v.l i
def Zbf.set (v:Zbf)(i:Int)(x:Bool):Zbf:=Zbf.ofL (v.l.set i.toNat x)
theorem Zbf.l_ofL (l:List Bool)(h:l.length=24):(Zbf.ofL l).l=l:=ZtR 24 false l h rfl
theorem Zbf.l_set (v:Zbf)(i:Int)(x:Bool):(v.set i x).l=v.l.set i.toNat x:=Zbf.l_ofL _ (by rw[List.length_set];rfl)
theorem Zbf.c_set (v:Zbf)(i:Int)(x:Bool):Zkg (v.set i x)=(v.l.set i.toNat x).map (λx=>bv x):=by rw[←Zbf.l_set];rfl
abbrev Za6 (v:Zat):List AV:=[bv v.x0,bv v.x1,bv v.x2,bv v.x3,bv v.x4,bv v.x5,bv v.x6,bv v.x7,bv v.x8,bv v.x9,bv v.x10,bv v.x11]
def Zat.l (v:Zat):List Bool:=[v.x0,v.x1,v.x2,v.x3,v.x4,v.x5,v.x6,v.x7,v.x8,v.x9,v.x10,v.x11]
def Zat.ofL (l:List Bool):Zat:=⟨l.getD 0 false,l.getD 1 false,l.getD 2 false,l.getD 3 false,l.getD 4 false,l.getD 5 false,l.getD 6 false,l.getD 7 false,l.getD 8 false,l.getD 9 false,l.getD 10 false,l.getD 11 false⟩
def Zat.get (v:Zat)(i:Int):Option Bool:=idx v.l i
def Zat.set (v:Zat)(i:Int)(x:Bool):Zat:=Zat.ofL (v.l.set i.toNat x)
theorem Zat.l_ofL (l:List Bool)(h:l.length=12):(Zat.ofL l).l=l:=ZtR 12 false l h rfl
theorem Zat.l_set (v:Zat)(i:Int)(x:Bool):(v.set i x).l=v.l.set i.toNat x:=Zat.l_ofL _ (by rw[List.length_set];rfl)
theorem Zat.c_set (v:Zat)(i:Int)(x:Bool):Za6 (v.set i x)=(v.l.set i.toNat x).map (λx=>bv x):=by rw[←Zat.l_set];rfl
abbrev ZpG (v:ZbH):List AV:=[iv v.port,iv v.from_,iv v.to_]
def ZiI (N:Nat)(a0_:(List ZaF))(a1_:(List ZaF))(i2:Int)(a0:Int):Option ((Int)⊕((Unit)⊕(Bool))):=
 ((idx a0_ i2).bind λa5=>
 (if(decide (a0<((List.length a5.Entries:Nat):Int)))then((idx a0_ i2).bind λa4=>
 ((idx a4.Entries a0).bind λa2=>
 ((idx a1_ i2).bind λa3=>
 ((idx a3.Entries a0).bind λa1=>
 (if(!((a2.Mask==a1.Mask)&&((a2.Long==a1.Long)&&true)))then(some (.inr (.inr false)))else(some (.inl (w64 (a0+1)))))))))else(some (.inr (.inl ())))))
def ZiJ (N:Nat)(a0_:(List ZaF))(a1_:(List ZaF))(i2:Int):Option ((Int)⊕((Unit)⊕(Bool))):=
 (if(decide (i2<((List.length a0_:Nat):Int)))then((((idx a0_ i2).bind λa6=>((idx a1_ i2).bind λa5=>(if(a6.Cycle !=a5.Cycle)then(some true)else((idx a0_ i2).bind λa4=>((idx a1_ i2).bind λa3=>(some (((List.length a4.Entries:Nat):Int)!=((List.length a3.Entries:Nat):Int))))))))).bind λ(a2:Bool)=>
 (if a2 then(some (.inr (.inr false)))else((ZaH (λx:Int=>ZiI N a0_ a1_ i2 x) N 0).bind λa1=>match a1 with
 |(.inl a7)=>(some (.inl (w64 (i2+1))))
 |(.inr a0)=>(some (.inr (.inr a0))))))else(some (.inr (.inl ()))))
def Zed (N:Nat)(a0_:(List ZaF))(a1_:(List ZaF)):Option (Bool):=
 (if(((List.length a0_:Nat):Int)!=((List.length a1_:Nat):Int))then(some false)else((ZaH (λx:Int=>ZiJ N a0_ a1_ x) N 0).bind λa1=>match a1 with
 |(.inl a2)=>(some true)
 |(.inr a0)=>(some a0)))
def ZhB (N:Nat)(a0_:(List Int))(i1:Int)(a4:Bool)(a0:Int):Option ((Bool×Int)⊕((Bool))):=
 (if(decide (a0<((List.length a0_:Nat):Int)))then(((if a4 then((idx a0_ a0).bind λa3=>((remI i1 a3).bind λa1=>(if(a1==0)then(some true)else(some false))))else(some false))).bind λ(a2:Bool)=>
 (some (.inl (a2,(w64 (a0+1))))))else(some (.inr a4)))
def ZfT (N:Nat)(a0_:(List Int))(i1:Int):Option ((Int)⊕((Unit)⊕(Int))):=
 (if(decide (i1<=960))then((ZaH (λx:Bool×Int=>ZhB N a0_ i1 x.1 x.2) N (true,0)).bind λa0=>
 (if a0 then(some (.inr (.inr i1)))else(some (.inl (w64 (i1+1))))))else(some (.inr (.inl ()))))
def Zg1 (N:Nat)(a0_:(List Int)):Option (Int):=
 ((ZaH (λx:Int=>ZfT N a0_ x) N 1).bind λa1=>match a1 with
 |(.inl a2)=>(some 0)
 |(.inr a0)=>(some a0))
def ZiL (N:Nat)(a0_:Zap)(a1_:(List Int))(i3:Int)(l4:(List Int)):Option ((Int×(List Int))⊕(((List Int)))):=
 (if(decide (i3<((List.length a0_.Periods:Nat):Int)))then(((if(decide (i3<((List.length a1_:Nat):Int)))then((idx a1_ i3).bind λa4=>
 ((idx a0_.Periods i3).bind λa3=>
 ((remI (w64 (a4)) a3).bind λa0=>
 (some a0))))else(some 0))).bind λ(a2:Int)=>
 ((appI 8 l4 [a2]).bind λa1=>
 (some (.inl ((w64 (i3+1)),a1)))))else(some (.inr l4)))
def Zia (N:Nat)(a0_:Zap)(a1_:(List Int)):Option ((List Int)):=
 ((ZaH (λx:Int×(List Int)=>ZiL N a0_ a1_ x.1 x.2) N (0,[])).bind λa0=>
 (some a0))
def Zqx (N:Nat)(a0_:ZaF)(i4:Int)(i5:Int):Option ((Int×Int)⊕((Int)⊕(Int))):=
 (if(decide (i5<((List.length a0_.Entries:Nat):Int)))then((idx a0_.Entries i5).bind λa0=>
 (if((decide (a0.Mask<0))||((decide (a0.Mask>255))||((decide (a0.Long<1))||(decide (a0.Long>9600000)))))then(some (.inr (.inr 370)))else(some (.inl ((w64 (i4+a0.Long)),(w64 (i5+1)))))))else(some (.inr (.inl i4))))
def ZlC (N:Nat)(a0_:ZaF):Option (Int):=
 (if((decide (((List.length a0_.Entries:Nat):Int)<1))||(decide (((List.length a0_.Entries:Nat):Int)>128)))then(some 370)else((ZaH (λx:Int×Int=>Zqx N a0_ x.1 x.2) N (0,0)).bind λa2=>match a2 with
 |(.inl a0)=>(if((a0 !=a0_.Cycle)||(decide (a0>9600000)))then(some 370)else(some 0))
 |(.inr a1)=>(some a1)))
def ZiS (N:Nat)(a0_:Int)(a1_:Int)(a2_:Int):Option (Zaq):=
 (some (Zaq.mk (w64 (100+(w64 (20*(w64 (a0_)))))) (w64 ((Int.tmod a1_ 40))) (w64 (a2_)) 8000))
def ZeZ (N:Nat)(a0_:Zan)(a1_:Zaq)(a2_:(List Zam))(a3_:(List Int)):Option ((List Zam)×(List Int)×Zan×Zaq):=
 (some (a2_,a3_,a0_,a1_))
def Zgn (N:Nat)(a0_:(List Bool))(a1_:Int)(i3:Int)(i4:Int)(i5:Int)(l6:(List ZaX)):Option ((Int×Int×Int×(List ZaX))⊕(((List ZaX)))):=
 (if(decide (i3<((List.length a0_:Nat):Int)))then((idx a0_ i3).bind λa5=>
 (((if a5 then(some 128)else(some 127))).bind λ(a0:Int)=>
 (((if((a0==i4)&&((a1_==i5)&&true))then((idx l6 (w64 (((List.length l6:Nat):Int)-1))).bind λa4=>
 ((idx l6 (w64 (((List.length l6:Nat):Int)-1))).bind λa3=>
 (some (List.set l6 (Int.toNat (w64 (((List.length l6:Nat):Int)-1))) (ZaX.mk a3.Mask (w64 (a4.Long+a1_)))))))else((appI 16 l6 [(ZaX.mk a0 a1_)]).bind λa1=>
 (some a1)))).bind λ(a2:(List ZaX))=>
 (some (.inl ((w64 (i3+1)),a0,a1_,a2))))))else(some (.inr l6)))
def Zkn (N:Nat)(a0_:(List Bool))(a1_:Int):Option (ZaF):=
 ((ZaH (λx:Int×Int×Int×(List ZaX)=>Zgn N a0_ a1_ x.1 x.2.1 x.2.2.1 x.2.2.2) N (0,0,0,[])).bind λa0=>
 (some (ZaF.mk a0 (w64 (((List.length a0_:Nat):Int)*a1_)))))
def ZqM (N:Nat):Option (Zan):=
 (some (Zan.mk 3 ([true,false,true]) ([(ZaI.mk 0 1 8 5),(ZaI.mk 1 2 8 5)])))
def Zpq (N:Nat):Option (Zaq):=
 (some (Zaq.mk 100 2 10 8000))
def Zfd (N:Nat)(a0_:Int)(a1_:Int):Option (Zam):=
 (some (Zam.mk a0_ 0 2 7 100 a1_ (Zfo.mk 0 0) 10000 ([[0,2]])))
def ZrQ (N:Nat)(a0_:(List Int))(i3:Int)(i4:Int)(l5:(List ZaX)):Option ((Int×Int×(List ZaX))⊕((Int×(List ZaX)))):=
 (if(decide ((w64 (i3+1))<((List.length a0_:Nat):Int)))then((idx a0_ i3).bind λa3=>
 ((idx a0_ (w64 (i3+1))).bind λa2=>
 ((appI 16 l5 [(ZaX.mk a3 a2)]).bind λa0=>
 ((idx a0_ (w64 (i3+1))).bind λa1=>
 (some (.inl ((w64 (i3+2)),(w64 (i4+a1)),a0)))))))else(some (.inr (i4,l5))))
def Zik (N:Nat)(a0_:(List Int)):Option (ZaF):=
 ((ZaH (λx:Int×Int×(List ZaX)=>ZrQ N a0_ x.1 x.2.1 x.2.2) N (0,0,[])).bind λa0=>
 (some (ZaF.mk a0.2 a0.1)))
def Zqc (N:Nat)(a0_:ZaF)(i4:Int)(i5:Int):Option ((Int×Int)⊕((Int)⊕(Bool))):=
 (if(decide (i5<((List.length a0_.Entries:Nat):Int)))then((idx a0_.Entries i5).bind λa0=>
 (if((decide (a0.Mask<0))||((decide (a0.Mask>255))||((decide (a0.Long<1))||(decide (a0.Long>9600000)))))then(some (.inr (.inr false)))else(some (.inl ((w64 (i4+a0.Long)),(w64 (i5+1)))))))else(some (.inr (.inl i4))))
def ZtG (N:Nat)(a0_:ZaF):Option (Bool):=
 (if((decide (((List.length a0_.Entries:Nat):Int)<1))||(decide (((List.length a0_.Entries:Nat):Int)>128)))then(some false)else((ZaH (λx:Int×Int=>Zqc N a0_ x.1 x.2) N (0,0)).bind λa2=>match a2 with
 |(.inl a0)=>(some ((a0==a0_.Cycle)&&(decide (a0<=9600000))))
 |(.inr a1)=>(some a1)))
def Zix (N:Nat)(a0_:Zan)(a1_:Zaq)(a2_:Zam)(a3_:Int):Option (Zam×Int×Zan×Zaq):=
 (some (a2_,a3_,a0_,a1_))
def ZlB (N:Nat)(a0_:ZaF)(a1_:Int)(a2_:Int)(a3_:Int):Option (Int):=
 ((ZlC N a0_).bind λr1=>
 (if(r1 !=0)then(some r1)else(if((decide (a1_<0))||((decide (a1_≥8))||((decide (a2_<(-1099511627776)))||((decide (a2_>1099511627776))||((decide (a3_<0))||(decide (a3_>1099511627776)))))))then(some 2)else(some 0))))
def ZgG (N:Nat)(a0_:ZaF)(i3:Int)(i4:Int):Option ((Int×Int)⊕((Int×Int))):=
 ((idx a0_.Entries i4).bind λa2=>
 (if(decide (i3≥a2.Long))then((idx a0_.Entries i4).bind λa1=>
 (some (.inl ((w64 (i3-a1.Long)),(w64 (i4+1))))))else((idx a0_.Entries i4).bind λa0=>
 (some (.inr (i4,(w64 (a0.Long-i3))))))))
def ZkA (N:Nat)(a0_:ZaF)(a1_:Int):Option (Int×Int):=
 ((remI a1_ a0_.Cycle).bind λm1=>
 ((remI (w64 (m1+a0_.Cycle)) a0_.Cycle).bind λm2=>
 ((ZaH (λx:Int×Int=>ZgG N a0_ x.1 x.2) N (m2,0)).bind λa0=>
 (some a0))))
def ZeF (N:Nat)(a0_:ZaF)(a2_:Int->Option (Bool))(i2:Int)(i3:Int)(i4:Int)(i5:Int):Option ((Int×Int×Int×Int)⊕((Unit)⊕(Int))):=
 (if(decide (i5<(w64 (((List.length a0_.Entries:Nat):Int)+1))))then((idx a0_.Entries i2).bind λa3=>
 ((a2_ a3.Mask).bind λa1=>
 (if(!a1)then(some (.inr (.inr i4)))else((remI (w64 (i2+1)) ((List.length a0_.Entries:Nat):Int)).bind λa0=>
 ((idx a0_.Entries a0).bind λa2=>
 (some (.inl (a0,a2.Long,(w64 (i4+i3)),(w64 (i5+1))))))))))else(some (.inr (.inl ()))))
def Zjf (N:Nat)(a0_:ZaF)(a1_:Int)(a2_:Int->Option (Bool)):Option (Int):=
 ((ZkA N a0_ a1_).bind λr1=>
 ((ZaH (λx:Int×Int×Int×Int=>ZeF N a0_ a2_ x.1 x.2.1 x.2.2.1 x.2.2.2) N (r1.1,r1.2,0,0)).bind λa1=>match a1 with
 |(.inl a2)=>(some a0_.Cycle)
 |(.inr a0)=>(some a0)))
def ZeR (N:Nat)(a0_:(List Int))(a1_:Int):Option (Int):=
 (if(decide (a1_<((List.length a0_:Nat):Int)))then((idx a0_ a1_).bind λe2=>
 (some (w64 (e2))))else(some 0))
def ZhP (N:Nat)(a0_:Zap)(i4:Int):Option ((Int)⊕((Unit)⊕(Bool))):=
 (if(decide (i4<((List.length a0_.Periods:Nat):Int)))then((((idx a0_.Periods i4).bind λa2=>(if(decide (a2<1))then(some true)else((idx a0_.Periods i4).bind λa1=>(some (decide (a1>240))))))).bind λ(a0:Bool)=>
 (if a0 then(some (.inr (.inr false)))else(some (.inl (w64 (i4+1))))))else(some (.inr (.inl ()))))
def ZhO (N:Nat)(a0_:Zap)(a1:Int):Option ((Int)⊕((Unit)⊕(Bool))):=
 (if(decide (a1<((List.length a0_.Uses:Nat):Int)))then((idx a0_.Uses a1).bind λa0=>
 (if((decide (a0.Stream<0))||((decide (a0.Stream≥((List.length a0_.Periods:Nat):Int)))||((decide (a0.Port<0))||(decide (a0.Port≥48)))))then(some (.inr (.inr false)))else(((if(decide (a0.From<0))then(some true)else((idx a0_.Periods a0.Stream).bind λa4=>(if(decide (a0.From≥a4))then(some true)else(if(decide (a0.Long<1))then(some true)else((idx a0_.Periods a0.Stream).bind λa3=>(some (decide (a0.Long>a3))))))))).bind λ(a2:Bool)=>
 (if a2 then(some (.inr (.inr false)))else(some (.inl (w64 (a1+1))))))))else(some (.inr (.inl ()))))
def ZiM (N:Nat)(a0_:Zap):Option (Bool):=
 (if((decide (((List.length a0_.Periods:Nat):Int)>12))||(decide (((List.length a0_.Uses:Nat):Int)>192)))then(some false)else((ZaH (λx:Int=>ZhP N a0_ x) N 0).bind λa4=>match a4 with
 |(.inl a6)=>((ZaH (λx:Int=>ZhO N a0_ x) N 0).bind λa3=>match a3 with
 |(.inl a5)=>((Zg1 N a0_.Periods).bind λa0=>
 (some (decide (a0>0))))
 |(.inr a2)=>(some a2))
 |(.inr a1)=>(some a1)))
def Zi1 (N:Nat)(a0_:Zap)(a1_:Int)(a2_:Int):Option (Bool):=
 (((if(decide (a2_≥0))then((idx a0_.Periods a1_).bind λe2=>(some (decide (a2_<e2))))else(some false))).bind λ(j4:Bool)=>
 (some j4))
def Zhz (N:Nat)(a0_:Zap)(a1_:Int)(a2_:Int):Option (Bool):=
 (((if(decide (a1_≥0))then(if(decide (a1_<((List.length a0_.Periods:Nat):Int)))then(if(decide (a2_≥0))then((idx a0_.Periods a1_).bind λe4=>(some (decide (a2_<e4))))else(some false))else(some false))else(some false))).bind λ(j8:Bool)=>
 (some j8))
def Zg5 (N:Nat)(a0_:ZaI)(a1_:Int)(a2_:Int):Option (Bool):=
 (some (if(a0_.A==a1_)then((a0_.B==a2_)||((a0_.A==a2_)&&(a0_.B==a1_)))else((a0_.A==a2_)&&(a0_.B==a1_))))
def ZcZ (N:Nat)(a0_:Int)(a1_:Int)(a2_:Int):Option (Bool):=
 (some ((decide (a0_≥a1_))&&(decide (a0_<=a2_))))
def ZjY (N:Nat)(a0_:Zan)(a1_:Int):Option (Int):=
 ((idx a0_.Links (w64 (Int.tdiv a1_ 2))).bind λe1=>
 (some e1.Per))
def Zg6 (N:Nat)(a0_:Zan)(a1_:Int):Option (Int):=
 ((idx a0_.Links (w64 (Int.tdiv a1_ 2))).bind λe1=>
 (some e1.Delay))
def Zev (N:Nat)(a0_:Int)(a1_:Int):Option (Int):=
 ((remI a0_ a1_).bind λm1=>
 (((if(decide (m1<0))then(some (w64 (m1+a1_)))else(some m1))).bind λ(a0:Int)=>
 (some a0)))
def Zln (N:Nat)(a0_:(List ZaO))(a1_:Int)(a2_:Int)(i1:Int):Option ((Int)⊕((Unit)⊕(Bool))):=
 (if(decide (i1<((List.length a0_:Nat):Int)))then((((idx a0_ i1).bind λa5=>(if(a5.Port==a1_)then((idx a0_ i1).bind λa4=>((idx a0_ i1).bind λa3=>((Zev N (w64 (a2_-a4.Begin)) a3.Period).bind λa0=>((idx a0_ i1).bind λa2=>(some (decide (a0<a2.Long)))))))else(some false)))).bind λ(a1:Bool)=>
 (if a1 then(some (.inr (.inr true)))else(some (.inl (w64 (i1+1))))))else(some (.inr (.inl ()))))
def ZlN (N:Nat)(a0_:(List ZaO))(a1_:Int)(a2_:Int):Option (Bool):=
 ((ZaH (λx:Int=>Zln N a0_ a1_ a2_ x) N 0).bind λa1=>match a1 with
 |(.inl a2)=>(some false)
 |(.inr a0)=>(some a0))
def ZtH (N:Nat)(a0_:ZaF)(a1:Int)(a0:Int):Option ((Int×Int)⊕((Int×Int))):=
 ((idx a0_.Entries a0).bind λa3=>
 (if(decide (a1≥a3.Long))then((idx a0_.Entries a0).bind λa2=>
 (some (.inl ((w64 (a1-a2.Long)),(w64 (a0+1))))))else(some (.inr (a1,a0)))))
def Zxc (N:Nat)(a0_:ZaF)(a1_:Int):Option (Int×Int):=
 ((remI a1_ a0_.Cycle).bind λm1=>
 (((if(decide (m1<0))then(some (w64 (m1+a0_.Cycle)))else(some m1))).bind λ(a1:Int)=>
 ((ZaH (λx:Int×Int=>ZtH N a0_ x.1 x.2) N (a1,0)).bind λa0=>
 (some (a0.2,a0.1)))))
def Zbw (N:Nat)(a0_:Int)(a1_:Int)(a2_:Int):Option (Bool):=
 (some ((decide (a0_≥a1_))&&(decide (a0_<=a2_))))
def ZbF {σ:Type}(N:Nat)(y_:σ->ZaP->Option (σ×Bool))(c0_:Zam)(c2_:Zan)(c3_:Zaq)(e3:(List Int))(i6:Int)(i7:Int)(i10:Int)(i11:Int)(i12:Int)(i8:Int)(g9:σ):Option ((Int×Int×Int×Int×Int×Int×σ)⊕((σ)⊕(σ))):=
 (if(decide (i6<((List.length e3:Nat):Int)))then((idx e3 i6).bind λa4=>
 (((if(decide (i6>0))then((idx c2_.Links (w64 (Int.tdiv i7 2))).bind λa2=>
 ((quoI .i64 (w64 ((w64 ((w64 ((w64 ((w64 ((w64 (i12+i8))+a2.Delay))+c3_.Proc))+(w64 (2*c3_.Slack))))+c3_.Grid))-1)) c3_.Grid).bind λa5=>
 (some ((w64 ((w64 ((w64 ((w64 (i12+i8))+a2.Delay))+c3_.Proc))-(w64 (2*c3_.Slack)))),(w64 ((w64 ((w64 ((w64 (i12+i8))+a2.Delay))+c3_.Proc))+(w64 (2*c3_.Slack)))),(w64 (a5*c3_.Grid))))))else(some (i10,i11,i12)))).bind λ(a0:Int×Int×Int)=>
 ((idx c2_.Links (w64 (Int.tdiv a4 2))).bind λa3=>
 ((y_ g9 (ZaP.mk a4 a0.1 a0.2.1 a0.2.2 (w64 (c0_.Size*a3.Per)))).bind λa1=>
 (if(!a1.2)then(some (.inr (.inr a1.1)))else(some (.inl ((w64 (i6+1)),a4,a0.1,a0.2.1,a0.2.2,(w64 (c0_.Size*a3.Per)),a1.1))))))))else(some (.inr (.inl g9))))
def Zdm {σ:Type}(N:Nat)(y_:σ->ZaP->Option (σ×Bool))(c0_:Zam)(c1_:Int)(c2_:Zan)(c3_:Zaq)(s_:σ):Option (σ):=
 ((idx c0_.Routes c1_).bind λe3=>
 ((ZaH (λx:Int×Int×Int×Int×Int×Int×σ=>ZbF N y_ c0_ c2_ c3_ e3 x.1 x.2.1 x.2.2.1 x.2.2.2.1 x.2.2.2.2.1 x.2.2.2.2.2.1 x.2.2.2.2.2.2) N (0,0,0,0,0,0,s_)).bind λa2=>match a2 with
 |(.inl a1)=>(some a1)
 |(.inr a0)=>(some a0)))
def Zc8 (N:Nat)(a0_:Zan)(a1_:Int):Option (Int):=
 ((idx a0_.Links (w64 (Int.tdiv a1_ 2))).bind λe1=>
 (if((Int.tmod a1_ 2)==1)then(some e1.B)else(some e1.A)))
def Zef (N:Nat)(a0_:Zan)(a1_:Int):Option (Int):=
 ((idx a0_.Links (w64 (Int.tdiv a1_ 2))).bind λe1=>
 (if((Int.tmod a1_ 2)==1)then(some e1.A)else(some e1.B)))
def Zeh (N:Nat)(a0_:Int)(a1_:Int):Option (Int):=
 ((quoI .i64 a0_ a1_).bind λq1=>
 ((((remI a0_ a1_).bind λa0=>
 (if(decide (a0<0))then(some (w64 (q1-1)))else(some q1)))).bind λ(a1:Int)=>
 (some a1)))
def Zku (N:Nat)(a0_:Zap)(a1_:Int)(a2_:Int):Option (Zap×Int×Int):=
 (some (a0_,a1_,a2_))
def Ze9 (N:Nat)(a0_:Zap)(a1_:Zay)(a2_:Int):Option (ZaG):=
 ((idx a0_.Periods a1_.Stream).bind λe1=>
 ((remI (w64 (a1_.From+a2_)) e1).bind λm2=>
 (some (ZaG.mk e1 m2 a1_.Long))))
def ZlQ (N:Nat)(a0_:Zap)(a1_:Int)(a2_:Int):Option (ZaG):=
 ((idx a0_.Uses a1_).bind λe1=>
 ((idx a0_.Periods e1.Stream).bind λe2=>
 ((idx a0_.Uses a1_).bind λe3=>
 ((remI (w64 (e3.From+a2_)) e2).bind λm4=>
 ((idx a0_.Uses a1_).bind λe5=>
 (some (ZaG.mk e2 m4 e5.Long)))))))
def Zid (N:Nat)(a0_:Zan)(a1_:Int):Option (Bool):=
 (some ((decide (a1_≥0))&&(decide (a1_<a0_.Nodes))))
def ZiY (N:Nat)(a0_:(List Int))(a1_:Int)(i1:Int):Option ((Int)⊕((Unit)⊕(Bool))):=
 (if(decide (i1<((List.length a0_:Nat):Int)))then((idx a0_ i1).bind λa0=>
 (if(a0==a1_)then(some (.inr (.inr true)))else(some (.inl (w64 (i1+1))))))else(some (.inr (.inl ()))))
def ZiZ (N:Nat)(a0_:(List Int))(a1_:Int):Option (Bool):=
 ((ZaH (λx:Int=>ZiY N a0_ a1_ x) N 0).bind λa1=>match a1 with
 |(.inl a2)=>(some false)
 |(.inr a0)=>(some a0))
def Zdr (N:Nat)(a0_:Zan)(a1_:Int):Option (Bool):=
 ((((ZcZ N a1_ 0 (w64 (a0_.Nodes-1))).bind λr1=>(if r1 then((idx a0_.Station a1_).bind λe3=>(some e3))else(some false)))).bind λ(j5:Bool)=>
 (some j5))
def ZhG (N:Nat)(a0_:Int)(c0_:Int):Option (Bool):=
 (some (a0_==c0_))
def Zdk (N:Nat)(a0_:Zan)(a2_:Zbf)(a2:Int)(a1:(List Bool)):Option ((Int×(List Bool))⊕(((List Bool)))):=
 (if(decide (a2<((List.length a0_.Links:Nat):Int)))then((((idx a0_.Links a2).bind λa0=>
 ((((a2_.get a2).bind λa7=>(if(!a7)then((idx a1 a0.A).bind λa6=>((idx a1 a0.B).bind λa5=>(some (a6 !=a5))))else(some false)))).bind λ(a3:Bool)=>
 (if a3 then((idx a1 a0.A).bind λa9=>
 ((idx (List.set a1 (Int.toNat a0.A) true) a0.B).bind λa8=>
 (some (List.set (List.set a1 (Int.toNat a0.A) true) (Int.toNat a0.B) true))))else(some a1))))).bind λ(a4:(List Bool))=>
 (some (.inl ((w64 (a2+1)),a4))))else(some (.inr a1)))
def Zd9 (N:Nat)(a0_:Zan)(a2_:Zbf)(i10:Int)(a1:(List Bool)):Option ((Int×(List Bool))⊕(((List Bool)))):=
 (if(decide (i10<a0_.Nodes))then((ZaH (λx:Int×(List Bool)=>Zdk N a0_ a2_ x.1 x.2) N (0,a1)).bind λa0=>
 (some (.inl ((w64 (i10+1)),a0))))else(some (.inr a1)))
def Zkm (N:Nat)(a0_:Zan)(a1_:Int)(a2_:Zbf):Option ((List Bool)):=
 ((Zhe 1 a0_.Nodes a0_.Nodes false).bind λl3=>
 ((idx l3 a1_).bind λe4=>
 ((ZaH (λx:Int×(List Bool)=>Zd9 N a0_ a2_ x.1 x.2) N (0,(List.set l3 (Int.toNat a1_) true))).bind λa0=>
 (some a0))))
def Zfv (N:Nat)(c0_:Zam):Option (Bool):=
 ((Zbw N c0_.Id 1 4095).bind λr2=>
 (some r2))
def Zet (N:Nat)(a0_:Zan)(a1_:Int):Option (Bool):=
 ((((Zbw N a1_ 0 (w64 (a0_.Nodes-1))).bind λr1=>(if r1 then((idx a0_.Station a1_).bind λe3=>(some e3))else(some false)))).bind λ(j5:Bool)=>
 (some j5))
def Zft (N:Nat)(c0_:Zam):Option (Bool):=
 ((Zbw N c0_.Size 84 1542).bind λr2=>
 (some r2))
def Zfs (N:Nat)(c0_:Zam):Option (Bool):=
 ((Zbw N c0_.Deadline 1 1099511627776).bind λr2=>
 (some r2))
def Zfr (N:Nat)(c0_:Zam):Option (Bool):=
 ((Zbw N ((List.length c0_.Routes:Nat):Int) 1 2).bind λr2=>
 (some r2))
def ZeD (N:Nat)(a0_:(List Int))(a1_:(List Int))(i1:Int):Option ((Int)⊕((Unit)⊕(Bool))):=
 (if(decide (i1<(w64 (((List.length a0_:Nat):Int)-1))))then((idx a0_ i1).bind λa1=>
 ((ZiZ N a1_ a1).bind λa0=>
 (if a0 then(some (.inr (.inr true)))else(some (.inl (w64 (i1+1)))))))else(some (.inr (.inl ()))))
def Ze6 (N:Nat)(a0_:(List Int))(a1_:(List Int)):Option (Bool):=
 ((ZaH (λx:Int=>ZeD N a0_ a1_ x) N 1).bind λa1=>match a1 with
 |(.inl a2)=>(some false)
 |(.inr a0)=>(some a0))
def ZdJ (N:Nat)(a0_:Zan)(a1_:(List Int))(i7:Int)(l8:(List Int)):Option ((Int×(List Int))⊕(((List Int)))):=
 (if(decide (i7<((List.length a1_:Nat):Int)))then((idx a1_ i7).bind λa2=>
 ((Zef N a0_ a2).bind λa0=>
 ((appI 8 l8 [a0]).bind λa1=>
 (some (.inl ((w64 (i7+1)),a1))))))else(some (.inr l8)))
def ZdZ (N:Nat)(a0_:Zan)(a1_:(List Int)):Option ((List Int)):=
 ((idx a1_ 0).bind λe1=>
 ((Zc8 N a0_ e1).bind λr2=>
 ((ZaH (λx:Int×(List Int)=>ZdJ N a0_ a1_ x.1 x.2) N (0,[r2])).bind λa0=>
 (some a0))))
def Zc9 {σ:Type}(N:Nat)(y_:σ->Zay->Zay->Option (σ×Bool))(c0_:Zap)(c2_:Int)(i4:Int)(a5:Zay)(a1:Int)(a3:σ):Option ((Int×σ)⊕((σ)⊕(σ))):=
 (if(decide (a1<((List.length c0_.Uses:Nat):Int)))then((idx c0_.Uses a1).bind λa2=>
 (((if(a1==i4)then(some true)else(if(a2.Stream !=c2_)then(some true)else(some (a2.Port !=a5.Port))))).bind λ(a4:Bool)=>
 (if a4 then(some (.inl ((w64 (a1+1)),a3)))else((y_ a3 a5 a2).bind λa0=>
 (if(!a0.2)then(some (.inr (.inr a0.1)))else(some (.inl ((w64 (a1+1)),a0.1))))))))else(some (.inr (.inl a3))))
def Zda {σ:Type}(N:Nat)(y_:σ->Zay->Zay->Option (σ×Bool))(c0_:Zap)(c1_:Int)(c2_:Int)(i4:Int)(g5:σ):Option ((Int×σ)⊕((σ)⊕(σ))):=
 (if(decide (i4<((List.length c0_.Uses:Nat):Int)))then((idx c0_.Uses i4).bind λa3=>
 (if(a3.Stream !=c1_)then(some (.inl ((w64 (i4+1)),g5)))else((ZaH (λx:Int×σ=>Zc9 N y_ c0_ c2_ i4 a3 x.1 x.2) N (0,g5)).bind λa2=>match a2 with
 |(.inl a1)=>(some (.inl ((w64 (i4+1)),a1)))
 |(.inr a0)=>(some (.inr (.inr a0))))))else(some (.inr (.inl g5))))
def ZhD {σ:Type}(N:Nat)(y_:σ->Zay->Zay->Option (σ×Bool))(c0_:Zap)(c1_:Int)(c2_:Int)(s_:σ):Option (σ):=
 ((ZaH (λx:Int×σ=>Zda N y_ c0_ c1_ c2_ x.1 x.2) N (0,s_)).bind λa2=>match a2 with
 |(.inl a1)=>(some a1)
 |(.inr a0)=>(some a0))
def Zec (N:Nat)(a0_:ZaG):Option (Int):=
 (if((decide (a0_.Period<1))||((decide (a0_.Period>960))||((decide (a0_.From<0))||(decide (a0_.From≥a0_.Period)))))then(some 330)else(if((decide (a0_.Long<1))||(decide (a0_.Long>a0_.Period)))then(some 330)else(some 0)))
def Zdp (N:Nat)(a0_:(List ZaG))(i2:Int):Option ((Int)⊕((Unit)⊕(Int))):=
 (if(decide (i2<((List.length a0_:Nat):Int)))then((idx a0_ i2).bind λa1=>
 ((Zec N a1).bind λa0=>
 (if(a0 !=0)then(some (.inr (.inr a0)))else(some (.inl (w64 (i2+1)))))))else(some (.inr (.inl ()))))
def ZeB (N:Nat)(a0_:(List ZaG)):Option (Int):=
 (if(decide (((List.length a0_:Nat):Int)>32))then(some 3)else((ZaH (λx:Int=>Zdp N a0_ x) N 0).bind λa1=>match a1 with
 |(.inl a2)=>(some 0)
 |(.inr a0)=>(some a0)))
def ZfU (N:Nat)(a0_:Int)(a1_:Int)(i1:Int):Option ((Int)⊕((Unit)⊕(Int))):=
 (if(decide (i1>1))then((((remI a0_ i1).bind λa1=>(if(a1==0)then((remI a1_ i1).bind λa0=>(some (a0==0)))else(some false)))).bind λ(a2:Bool)=>
 (if a2 then(some (.inr (.inr i1)))else(some (.inl (w64 (i1-1))))))else(some (.inr (.inl ()))))
def ZlR (N:Nat)(a0_:Int)(a1_:Int):Option (Int):=
 ((ZaH (λx:Int=>ZfU N a0_ a1_ x) N a0_).bind λa1=>match a1 with
 |(.inl a2)=>(some 1)
 |(.inr a0)=>(some a0))
def Zkt (N:Nat)(a0_:Zan)(a1_:Int):Option (Bool):=
 (some ((decide (a1_≥0))&&(decide (a1_<(w64 (2*((List.length a0_.Links:Nat):Int)))))))
def ZjD (N:Nat)(a0_:Zan)(a1_:Int):Option (Bool):=
 (some ((decide (a1_≥0))&&(decide (a1_<a0_.Nodes))))
def Zho (N:Nat)(a0_:Int)(c0_:Zan):Option (Bool):=
 ((idx c0_.Links a0_).bind λe2=>
 ((((idx c0_.Station e2.A).bind λe4=>(if(!e4)then(some true)else((idx c0_.Station e2.B).bind λe8=>(some (!e8)))))).bind λ(j9:Bool)=>
 (some j9)))
def ZeX (N:Nat)(e2:ZaI)(l4:List ZaI)(i5:Int):Option ((Int)⊕((Unit)⊕(Bool))):=
 (if(decide (i5<((List.length l4:Nat):Int)))then((idx l4 i5).bind λa0=>
 (if(if(e2.A==a0.A)then((e2.B==a0.B)||((e2.A==a0.B)&&(e2.B==a0.A)))else((e2.A==a0.B)&&(e2.B==a0.A)))then(some (.inr (.inr false)))else(some (.inl (w64 (i5+1))))))else(some (.inr (.inl ()))))
def ZfO (N:Nat)(a0_:Int)(c0_:Zan):Option (Bool):=
 ((idx c0_.Links a0_).bind λe2=>
 ((subI c0_.Links 0 a0_).bind λl4=>
 ((ZaH (λx:Int=>ZeX N e2 l4 x) N 0).bind λa1=>match a1 with
 |(.inl a2)=>(some true)
 |(.inr a0)=>(some a0))))
def Zhn (N:Nat)(a0_:Int)(c0_:Zan):Option (Bool):=
 ((idx c0_.Links a0_).bind λe2=>
 (some ((decide (e2.Per≥1))&&((decide (e2.Per<=1000))&&((decide (e2.Delay≥0))&&(decide (e2.Delay<=10000)))))))
def Zb6 (N:Nat)(a0_:(List Bool))(a1_:Bool)(i1:Int):Option ((Int)⊕((Unit)⊕(Int))):=
 (if(decide (i1<((List.length a0_:Nat):Int)))then((idx a0_ i1).bind λa0=>
 (if(a1_==a0)then(some (.inr (.inr i1)))else(some (.inl (w64 (i1+1))))))else(some (.inr (.inl ()))))
def Zdn (N:Nat)(a0_:(List Bool))(a1_:Bool):Option (Int):=
 ((ZaH (λx:Int=>Zb6 N a0_ a1_ x) N 0).bind λa1=>match a1 with
 |(.inl a2)=>(some (-1))
 |(.inr a0)=>(some a0))
def Zel (N:Nat)(a0_:Int)(a1_:Int)(a2_:Int):Option (Bool):=
 (some ((decide (a1_<=a0_))&&(decide (a0_<=a2_))))
def Ze0 (N:Nat)(a1_:(List Int))(a2:Int)(a0:Int):Option ((Int)⊕((Unit)⊕(Bool))):=
 (if(decide (a0<((List.length a1_:Nat):Int)))then((idx a1_ a0).bind λa1=>
 (if((w64 (Int.tdiv a2 2))==(w64 (Int.tdiv a1 2)))then(some (.inr (.inr true)))else(some (.inl (w64 (a0+1))))))else(some (.inr (.inl ()))))
def Ze1 (N:Nat)(a0_:(List Int))(a1_:(List Int))(i1:Int):Option ((Int)⊕((Unit)⊕(Bool))):=
 (if(decide (i1<((List.length a0_:Nat):Int)))then((idx a0_ i1).bind λa2=>
 ((ZaH (λx:Int=>Ze0 N a1_ a2 x) N 0).bind λa1=>match a1 with
 |(.inl a3)=>(some (.inl (w64 (i1+1))))
 |(.inr a0)=>(some (.inr (.inr a0)))))else(some (.inr (.inl ()))))
def Zhv (N:Nat)(a0_:(List Int))(a1_:(List Int)):Option (Bool):=
 ((ZaH (λx:Int=>Ze1 N a0_ a1_ x) N 0).bind λa1=>match a1 with
 |(.inl a2)=>(some false)
 |(.inr a0)=>(some a0))
def ZdL (N:Nat)(a0_:Zan)(a1_:Int)(i3:Int)(l4:(List Int)):Option ((Int×(List Int))⊕(((List Int)))):=
 (if(decide (i3<(w64 (2*((List.length a0_.Links:Nat):Int)))))then((((Zc8 N a0_ i3).bind λa0=>
 (if(a0==a1_)then((appI 8 l4 [i3]).bind λa1=>
 (some a1))else(some l4)))).bind λ(a2:(List Int))=>
 (some (.inl ((w64 (i3+1)),a2))))else(some (.inr l4)))
def Zg4 (N:Nat)(a0_:Zan)(a1_:Int):Option ((List Int)):=
 ((ZaH (λx:Int×(List Int)=>ZdL N a0_ a1_ x.1 x.2) N (0,[])).bind λa0=>
 (some a0))
def ZiH (N:Nat)(a0_:Int)(a1_:Int):Option (Int):=
 ((remI a0_ a1_).bind λm1=>
 ((remI (w64 (m1+a1_)) a1_).bind λm2=>
 (some m2)))
def Zfz (N:Nat)(i1:Int)(i2:Int):Option ((Int×Int)⊕((Int))):=
 (if(i2 !=0)then((remI i1 i2).bind λa0=>
 (some (.inl (i2,a0))))else(some (.inr i1)))
def ZgW (N:Nat)(a0_:Int)(a1_:Int):Option (Int):=
 ((ZaH (λx:Int×Int=>Zfz N x.1 x.2) N (a0_,a1_)).bind λa0=>
 (some a0))
def Zc6 (N:Nat)(a0_:Zbc)(a1_:(List Int)):Option ((List Int)×Zbc):=
 (some (a1_,a0_))
def ZaZ {σ:Type}(N:Nat)(y_:σ->Int->ZbH->Option (σ×Bool))(c0_:(List Int))(c1_:Zbc)(i4:Int)(g5:σ):Option ((Int×σ)⊕((σ))):=
 (if(decide (i4<((List.length c0_:Nat):Int)))then((idx c0_ i4).bind λa1=>
 (((if(decide (a1<0))then(some true)else(some (decide (a1≥(w64 (2*((List.length c1_.Topo.Links:Nat):Int)))))))).bind λ(a4:Bool)=>
 (if a4 then(some (.inr g5))else((idx c1_.Topo.Links (w64 (Int.tdiv a1 2))).bind λa2=>
 (((if((Int.tmod a1 2)==1)then(some (a2.B,a2.A))else(some (a2.A,a2.B)))).bind λ(a3:Int×Int)=>
 ((y_ g5 i4 (ZbH.mk a1 a3.1 a3.2)).bind λa0=>
 (if(!a0.2)then(some (.inr a0.1))else(some (.inl ((w64 (i4+1)),a0.1))))))))))else(some (.inr g5)))
def Zc5 {σ:Type}(N:Nat)(y_:σ->Int->ZbH->Option (σ×Bool))(c0_:(List Int))(c1_:Zbc)(s_:σ):Option (σ):=
 ((ZaH (λx:Int×σ=>ZaZ N y_ c0_ c1_ x.1 x.2) N (0,s_)).bind λa0=>
 (some a0))
def Zck (N:Nat)(a0_:(List Int))(a1_:Int)(i1:Int):Option ((Int)⊕((Unit)⊕(Int))):=
 (if(decide (i1<((List.length a0_:Nat):Int)))then((idx a0_ i1).bind λa0=>
 (if(a1_==a0)then(some (.inr (.inr i1)))else(some (.inl (w64 (i1+1))))))else(some (.inr (.inl ()))))
def ZdW (N:Nat)(a0_:(List Int))(a1_:Int):Option (Int):=
 ((ZaH (λx:Int=>Zck N a0_ a1_ x) N 0).bind λa1=>match a1 with
 |(.inl a2)=>(some (-1))
 |(.inr a0)=>(some a0))
def ZqR (N:Nat)(a0_:ZaF)(a1_:Int):Option (Int×Int):=
 ((ZlB N a0_ 0 a1_ 0).bind λr1=>
 (if(r1 !=0)then(some (0,r1))else((ZkA N a0_ a1_).bind λr3=>
 ((idx a0_.Entries r3.1).bind λe4=>
 (some (e4.Mask,0))))))
def Zf7 (N:Nat)(a0_:Zap)(a1_:(List Int))(i2:Int):Option ((Int)⊕((Unit)⊕(Bool))):=
 (if(decide (i2<((List.length a1_:Nat):Int)))then((idx a1_ i2).bind λa1=>
 ((Zhz N a0_ i2 a1).bind λa0=>
 (if(!a0)then(some (.inr (.inr false)))else(some (.inl (w64 (i2+1)))))))else(some (.inr (.inl ()))))
def Ze5 (N:Nat)(a0_:Zap)(a1_:(List Int)):Option (Bool):=
 (if(((List.length a1_:Nat):Int)!=((List.length a0_.Periods:Nat):Int))then(some false)else((ZaH (λx:Int=>Zf7 N a0_ a1_ x) N 0).bind λa1=>match a1 with
 |(.inl a2)=>(some true)
 |(.inr a0)=>(some a0)))
def ZiT (N:Nat)(a0_:Zaq):Option (Bool):=
 ((((ZcZ N a0_.Grid 1 10000).bind λr1=>(if r1 then((ZcZ N a0_.Slack 0 1000).bind λr3=>(if r3 then((ZcZ N a0_.Proc 0 10000).bind λr5=>(if r5 then((ZcZ N a0_.Cap 1542 65536).bind λr7=>(some r7))else(some false)))else(some false)))else(some false)))).bind λ(a0:Bool)=>
 (some a0))
def ZjW (N:Nat)(a1_:Zaq)(a1:ZaP)(a2:Int)(a0:Int):Option ((Int)⊕((Int))):=
 (if(decide (a0<(w64 ((w64 ((w64 ((w64 (a1.Open+a1.Long))+a2))+a1_.Proc))+(w64 (2*a1_.Slack))))))then(some (.inl (w64 (a0+a1_.Grid))))else(some (.inr a0)))
def ZeQ (N:Nat)(a0_:Zan)(a1_:Zaq)(a2_:Zam)(a3_:(List Int))(i8:Int)(l9:(List ZaP)):Option ((Int×(List ZaP))⊕(((List ZaP)))):=
 (if(decide (i8<((List.length a3_:Nat):Int)))then((idx l9 (w64 (i8-1))).bind λa0=>
 ((Zg6 N a0_ a0.Port).bind λa1=>
 ((idx a3_ i8).bind λa6=>
 ((idx a3_ i8).bind λa5=>
 ((ZjY N a0_ a5).bind λa4=>
 ((ZaH (λx:Int=>ZjW N a1_ a0 a1 x) N 0).bind λa2=>
 ((appI 40 l9 [(ZaP.mk a6 (w64 ((w64 ((w64 ((w64 (a0.Open+a0.Long))+a1))+a1_.Proc))-(w64 (2*a1_.Slack)))) (w64 ((w64 ((w64 ((w64 (a0.Open+a0.Long))+a1))+a1_.Proc))+(w64 (2*a1_.Slack)))) a2 (w64 (a2_.Size*a4)))]).bind λa3=>
 (some (.inl ((w64 (i8+1)),a3))))))))))else(some (.inr l9)))
def Zic (N:Nat)(a0_:Zan)(a1_:Zaq)(a2_:Zam)(a3_:(List Int)):Option ((List ZaP)):=
 ((idx a3_ 0).bind λe1=>
 ((idx a3_ 0).bind λe2=>
 ((ZjY N a0_ e2).bind λr3=>
 ((ZaH (λx:Int×(List ZaP)=>ZeQ N a0_ a1_ a2_ a3_ x.1 x.2) N (1,[(ZaP.mk e1 0 0 0 (w64 (a2_.Size*r3)))])).bind λa0=>
 (some a0)))))
def ZlV (N:Nat)(a0_:Zan)(a1_:Zaq)(a2_:Zam)(a3_:(List Int)):Option (Int):=
 ((Zic N a0_ a1_ a2_ a3_).bind λr1=>
 ((idx r1 (w64 (((List.length r1:Nat):Int)-1))).bind λe2=>
 ((Zg6 N a0_ e2.Port).bind λr3=>
 (some (w64 ((w64 ((w64 (e2.Open+e2.Long))+r3))+a1_.Proc))))))
def Zdx (N:Nat)(a1_:Zaq)(a2_:(List Zam))(a3_:(List Int))(i3:Int)(i4:Int)(a1:(List ZaP))(a0:Int)(a2:(List ZaO)):Option ((Int×(List ZaO))⊕(((List ZaO)))):=
 (if(decide (a0<((List.length a1:Nat):Int)))then((idx a1 a0).bind λab=>
 ((quoI .i64 (w64 ((w64 (ab.Long+a1_.Grid))-1)) a1_.Grid).bind λa3=>
 ((idx a2_ i4).bind λaa=>
 ((idx a1 a0).bind λa9=>
 ((idx a1 a0).bind λa8=>
 ((idx a3_ i3).bind λa7=>
 ((idx a2_ i4).bind λa6=>
 ((idx a1 a0).bind λa5=>
 ((appI 48 a2 [(ZaO.mk aa.Id a9.Port (w64 (a8.Open+(w64 (a7*a1_.Grid)))) (w64 (a6.Period*a1_.Grid)) (w64 (a3*a1_.Grid)) a5.Long)]).bind λa4=>
 (some (.inl ((w64 (a0+1)),a4))))))))))))else(some (.inr a2)))
def Zdy (N:Nat)(a0_:Zan)(a1_:Zaq)(a2_:(List Zam))(a3_:(List Int))(i3:Int)(i4:Int)(a0:Int)(a1:(List ZaO)):Option ((Int×(List ZaO))⊕(((List ZaO)))):=
 ((idx a2_ i4).bind λa7=>
 (if(decide (a0<((List.length a7.Routes:Nat):Int)))then((idx a2_ i4).bind λa6=>
 ((idx a2_ i4).bind λa5=>
 ((idx a5.Routes a0).bind λa4=>
 ((Zic N a0_ a1_ a6 a4).bind λa2=>
 ((ZaH (λx:Int×(List ZaO)=>Zdx N a1_ a2_ a3_ i3 i4 a2 x.1 x.2) N (0,a1)).bind λa3=>
 (some (.inl ((w64 (a0+1)),a3))))))))else(some (.inr a1))))
def Zf6 (N:Nat)(a0_:Zan)(a1_:Zaq)(a2_:(List Zam))(a3_:(List Int))(i3:Int)(i4:Int)(l5:(List ZaO)):Option ((Int×Int×(List ZaO))⊕(((List ZaO)))):=
 (if(decide (i4<((List.length a2_:Nat):Int)))then((((idx a2_ i4).bind λa2=>
 (if(a2.Class !=7)then(some (i3,l5))else((ZaH (λx:Int×(List ZaO)=>Zdy N a0_ a1_ a2_ a3_ i3 i4 x.1 x.2) N (0,l5)).bind λa1=>
 (some ((w64 (i3+1)),a1)))))).bind λ(a0:Int×(List ZaO))=>
 (some (.inl (a0.1,(w64 (i4+1)),a0.2))))else(some (.inr l5)))
def Ze3 (N:Nat)(a0_:Zan)(a1_:Zaq)(a2_:(List Zam))(a3_:(List Int)):Option ((List ZaO)):=
 ((ZaH (λx:Int×Int×(List ZaO)=>Zf6 N a0_ a1_ a2_ a3_ x.1 x.2.1 x.2.2) N (0,0,[])).bind λa0=>
 (some a0))
def Zgu (N:Nat)(a0_:(List ZaO))(a1_:Int)(a2_:Int)(a3_:Int)(i3:Int)(l4:(List ZaX)):Option ((Int×(List ZaX))⊕(((List ZaX)))):=
 (if(decide (i3<a2_))then((((((ZlN N a0_ a1_ (w64 (i3*a3_))).bind λa1=>
 (if a1 then(some 128)else(some 127)))).bind λ(a0:Int)=>
 (((if(decide (((List.length l4:Nat):Int)>0))then((idx l4 (w64 (((List.length l4:Nat):Int)-1))).bind λa7=>(some (a7.Mask==a0)))else(some false))).bind λ(a3:Bool)=>
 (if a3 then((idx l4 (w64 (((List.length l4:Nat):Int)-1))).bind λa6=>
 ((idx l4 (w64 (((List.length l4:Nat):Int)-1))).bind λa5=>
 (some (List.set l4 (Int.toNat (w64 (((List.length l4:Nat):Int)-1))) (ZaX.mk a5.Mask (w64 (a6.Long+a3_)))))))else((appI 16 l4 [(ZaX.mk a0 a3_)]).bind λa2=>
 (some a2)))))).bind λ(a4:(List ZaX))=>
 (some (.inl ((w64 (i3+1)),a4))))else(some (.inr l4)))
def Zkq (N:Nat)(a0_:(List ZaO))(a1_:Int)(a2_:Int)(a3_:Int):Option (ZaF):=
 ((ZaH (λx:Int×(List ZaX)=>Zgu N a0_ a1_ a2_ a3_ x.1 x.2) N (0,[])).bind λa0=>
 (some (ZaF.mk a0 (w64 (a2_*a3_)))))
def ZoM (N:Nat)(a0_:ZaF)(a1_:ZaO)(i2:Int)(a1:Int):Option ((Int)⊕((Unit)⊕(Bool))):=
 (if(decide (a1<(w64 (i2+a1_.Frame))))then((Zxc N a0_ a1).bind λa0=>
 ((idx a0_.Entries a0.1).bind λa3=>
 (if(a3.Mask !=128)then(some (.inr (.inr false)))else((idx a0_.Entries a0.1).bind λa2=>
 (some (.inl (w64 ((w64 (a1-a0.2))+a2.Long))))))))else(some (.inr (.inl ()))))
def ZoN (N:Nat)(a0_:ZaF)(a1_:ZaO)(i2:Int):Option ((Int)⊕((Unit)⊕(Bool))):=
 (if(decide (i2<a0_.Cycle))then((ZaH (λx:Int=>ZoM N a0_ a1_ i2 x) N i2).bind λa1=>match a1 with
 |(.inl a2)=>(some (.inl (w64 (i2+a1_.Period))))
 |(.inr a0)=>(some (.inr (.inr a0))))else(some (.inr (.inl ()))))
def ZsA (N:Nat)(a0_:ZaF)(a1_:ZaO):Option (Bool):=
 ((Zev N a1_.Begin a1_.Period).bind λr1=>
 ((ZaH (λx:Int=>ZoN N a0_ a1_ x) N r1).bind λa1=>match a1 with
 |(.inl a2)=>(some true)
 |(.inr a0)=>(some a0)))
def Zc3 (N:Nat)(a0_:Zaq):Option (Int):=
 ((((Zbw N a0_.Grid 1 10000).bind λr1=>(if(!r1)then(some true)else((Zbw N a0_.Slack 0 1000).bind λr4=>(some (!r4)))))).bind λ(j5:Bool)=>
 (if j5 then(some 320)else((((Zbw N a0_.Proc 0 10000).bind λr7=>(if(!r7)then(some true)else((Zbw N a0_.Cap 1542 65536).bind λa0=>(some (!a0)))))).bind λ(a1:Bool)=>
 (if a1 then(some 320)else(some 0)))))
def Zie (N:Nat)(a0_:Zan)(a1_:ZaI):Option (Bool):=
 ((((Zid N a0_ a1_.A).bind λr1=>(if(!r1)then(some true)else((Zid N a0_ a1_.B).bind λr4=>(if(!r4)then(some true)else(if(a1_.A==a1_.B)then(some true)else((idx a0_.Station a1_.A).bind λe9=>(if e9 then((idx a0_.Station a1_.B).bind λa1=>(some a1))else(some false))))))))).bind λ(a0:Bool)=>
 (if a0 then(some false)else(some ((decide (a1_.Per≥1))&&((decide (a1_.Per<=1000))&&((decide (a1_.Delay≥0))&&(decide (a1_.Delay<=10000))))))))
def ZcX (N:Nat)(a0_:Zan)(a2_:(List Int))(a2:Int)(a1:(List Bool)):Option ((Int×(List Bool))⊕(((List Bool)))):=
 (if(decide (a2<((List.length a0_.Links:Nat):Int)))then((((idx a0_.Links a2).bind λa0=>
 ((((ZiZ N a2_ a2).bind λa3=>(if(!a3)then((idx a1 a0.A).bind λa7=>(if a7 then(some true)else((idx a1 a0.B).bind λa6=>(some a6))))else(some false)))).bind λ(a4:Bool)=>
 (if a4 then((idx a1 a0.A).bind λa9=>
 ((idx (List.set a1 (Int.toNat a0.A) true) a0.B).bind λa8=>
 (some (List.set (List.set a1 (Int.toNat a0.A) true) (Int.toNat a0.B) true))))else(some a1))))).bind λ(a5:(List Bool))=>
 (some (.inl ((w64 (a2+1)),a5))))else(some (.inr a1)))
def ZdK (N:Nat)(a0_:Zan)(a2_:(List Int))(i10:Int)(a1:(List Bool)):Option ((Int×(List Bool))⊕(((List Bool)))):=
 (if(decide (i10<a0_.Nodes))then((ZaH (λx:Int×(List Bool)=>ZcX N a0_ a2_ x.1 x.2) N (0,a1)).bind λa0=>
 (some (.inl ((w64 (i10+1)),a0))))else(some (.inr a1)))
def ZiV (N:Nat)(a0_:Zan)(a1_:Int)(a2_:(List Int)):Option ((List Bool)):=
 ((Zhe 1 a0_.Nodes a0_.Nodes false).bind λl3=>
 ((idx l3 a1_).bind λe4=>
 ((ZaH (λx:Int×(List Bool)=>ZdK N a0_ a2_ x.1 x.2) N (0,(List.set l3 (Int.toNat a1_) true))).bind λa0=>
 (some a0))))
def ZgY (N:Nat)(a0_:Int)(a1_:Int):Option (Int):=
 ((Zev N a0_ a1_).bind λr1=>
 ((quoI .i64 (w64 (a0_-r1)) a1_).bind λq2=>
 (some q2)))
def ZqQ (N:Nat)(a0_:ZaF)(a1_:Int):Option (Int×Int):=
 ((ZlB N a0_ 0 a1_ 0).bind λr1=>
 (if(r1 !=0)then(some (0,r1))else((ZkA N a0_ a1_).bind λr3=>
 ((idx a0_.Entries r3.1).bind λe4=>
 ((Zjf N a0_ a1_ (λx0=>ZhG N x0 e4.Mask)).bind λr8=>
 (if(r8==a0_.Cycle)then(some (0,4))else(some ((w64 (a1_+r8)),0))))))))
def ZfE (N:Nat)(a1_:(List Int))(a2_:(List Int))(i1:Int)(a0:Int):Option ((Int)⊕((Unit)⊕(Bool))):=
 (if(decide (a0<((List.length a2_:Nat):Int)))then((idx a1_ i1).bind λa2=>
 ((idx a2_ a0).bind λa1=>
 (if((w64 (Int.tdiv a2 2))==(w64 (Int.tdiv a1 2)))then(some (.inr (.inr false)))else(some (.inl (w64 (a0+1)))))))else(some (.inr (.inl ()))))
def ZfF (N:Nat)(a1_:(List Int))(a2_:(List Int))(i1:Int):Option ((Int)⊕((Unit)⊕(Bool))):=
 (if(decide (i1<((List.length a1_:Nat):Int)))then((ZaH (λx:Int=>ZfE N a1_ a2_ i1 x) N 0).bind λa1=>match a1 with
 |(.inl a2)=>(some (.inl (w64 (i1+1))))
 |(.inr a0)=>(some (.inr (.inr a0))))else(some (.inr (.inl ()))))
def Zd0 (N:Nat)(a0_:Zan)(a1_:(List Int))(a2_:(List Int)):Option (Bool):=
 ((ZaH (λx:Int=>ZfF N a1_ a2_ x) N 0).bind λa7=>match a7 with
 |(.inl a9)=>((((ZdZ N a0_ a1_).bind λa5=>((ZdZ N a0_ a2_).bind λa4=>((Ze6 N a5 a4).bind λa3=>(if(!a3)then((ZdZ N a0_ a2_).bind λa2=>((ZdZ N a0_ a1_).bind λa1=>((Ze6 N a2 a1).bind λa0=>(some (!a0)))))else(some false)))))).bind λ(a8:Bool)=>
 (some a8))
 |(.inr a6)=>(some a6))
def Zcz (N:Nat)(a0_:ZaG)(a1_:ZaG)(r1:Int)(i2:Int):Option ((Int)⊕((Unit)⊕(Bool))):=
 (if(decide (i2<a0_.Long))then((Zev N (w64 ((w64 (a1_.From-a0_.From))-i2)) r1).bind λa0=>
 (if(a0==0)then(some (.inr (.inr false)))else(some (.inl (w64 (i2+1))))))else(some (.inr (.inl ()))))
def Zeu (N:Nat)(a0_:ZaG)(a1_:ZaG):Option (Bool):=
 ((ZlR N a0_.Period a1_.Period).bind λr1=>
 ((ZaH (λx:Int=>Zcz N a0_ a1_ r1 x) N (w64 (1-a1_.Long))).bind λa1=>match a1 with
 |(.inl a2)=>(some true)
 |(.inr a0)=>(some a0)))
def ZfD (N:Nat)(a0_:Zan)(a1_:(List Int))(i4:Int):Option ((Int)⊕((Unit)⊕(Bool))):=
 (if(decide (i4<((List.length a1_:Nat):Int)))then((idx a1_ i4).bind λa1=>
 ((Zkt N a0_ a1).bind λa0=>
 (if(!a0)then(some (.inr (.inr false)))else(some (.inl (w64 (i4+1)))))))else(some (.inr (.inl ()))))
def ZfC (N:Nat)(a0_:Zan)(a1_:(List Int))(a1:(List Int))(a0:Int):Option ((Int)⊕((Unit)⊕(Bool))):=
 (if(decide (a0<((List.length a1:Nat):Int)))then((subI a1 0 a0).bind λa4=>
 ((idx a1 a0).bind λaa=>
 ((ZiZ N a4 aa).bind λa3=>
 (if a3 then(some (.inr (.inr false)))else(((if(decide (a0>0))then(if(decide (a0<((List.length a1_:Nat):Int)))then((idx a1 a0).bind λa9=>((idx a0_.Station a9).bind λa8=>(if a8 then(some true)else((idx a1_ a0).bind λa7=>((Zc8 N a0_ a7).bind λa2=>((idx a1 a0).bind λa6=>(some (a2 !=a6))))))))else(some false))else(some false))).bind λ(a5:Bool)=>
 (if a5 then(some (.inr (.inr false)))else(some (.inl (w64 (a0+1))))))))))else(some (.inr (.inl ()))))
def Zds (N:Nat)(a0_:Zan)(a1_:(List Int)):Option (Bool):=
 (if((decide (((List.length a1_:Nat):Int)<1))||(decide (((List.length a1_:Nat):Int)>8)))then(some false)else((ZaH (λx:Int=>ZfD N a0_ a1_ x) N 0).bind λa4=>match a4 with
 |(.inl a6)=>((ZdZ N a0_ a1_).bind λa3=>
 ((ZaH (λx:Int=>ZfC N a0_ a1_ a3 x) N 0).bind λa2=>match a2 with
 |(.inl a5)=>(some true)
 |(.inr a1)=>(some a1)))
 |(.inr a0)=>(some a0)))
def Zb7 (N:Nat)(a0_:(List Bool))(a1_:Bool):Option (Bool):=
 ((Zdn N a0_ a1_).bind λr1=>
 (some (decide (r1≥0))))
def Zfu (N:Nat)(c0_:Zan)(c1_:Zam):Option (Bool):=
 ((((Zet N c0_ c1_.Talker).bind λr3=>(if r3 then((Zet N c0_ c1_.Listener).bind λr7=>(if r7 then(some (c1_.Talker !=c1_.Listener))else(some false)))else(some false)))).bind λ(a0:Bool)=>
 (some a0))
def Zkh (N:Nat)(a0_:Zfo):Option (Int):=
 ((((Zel N a0_.Burst 1 1048576).bind λr1=>(if(!r1)then(some true)else((Zel N a0_.Rate 1 2097152).bind λr4=>(some (!r4)))))).bind λ(j5:Bool)=>
 (if j5 then(some 130)else(some 0)))
def Zb0 (N:Nat)(a0_:Zan)(l8:(List Int))(a1:(List Int))(a0:Int)(a2:(List Int)):Option ((Int×(List Int))⊕(((List Int)))):=
 (if(decide (a0<((List.length a1:Nat):Int)))then((((idx a1 a0).bind λa8=>
 ((Zef N a0_ a8).bind λa4=>
 ((ZiZ N l8 a4).bind λa3=>
 (if(!a3)then((idx a1 a0).bind λa7=>
 ((appI 8 a2 [a7]).bind λa5=>
 (some a5)))else(some a2)))))).bind λ(a6:(List Int))=>
 (some (.inl ((w64 (a0+1)),a6))))else(some (.inr a2)))
def Ze7 (N:Nat)(a0_:Zan)(a2_:Int)(i7:Int)(l8:(List Int))(l9:(List Int)):Option ((Int×(List Int)×(List Int))⊕(((List Int))⊕((List Int)))):=
 (((if(decide (((List.length l9:Nat):Int)<8))then(if(((List.length l9:Nat):Int)==0)then(some true)else((idx a0_.Station i7).bind λa8=>(some (!a8))))else(some false))).bind λ(a7:Bool)=>
 (if a7 then((Zg4 N a0_ i7).bind λa6=>
 ((ZaH (λx:Int×(List Int)=>Zb0 N a0_ l8 a6 x.1 x.2) N (0,[])).bind λa0=>
 (if(((List.length a0:Nat):Int)==0)then(some (.inr (.inr l9)))else((remI (w64 ((w64 (a2_))+(w64 (3*((List.length l9:Nat):Int))))) ((List.length a0:Nat):Int)).bind λa3=>
 ((idx a0 a3).bind λa2=>
 ((appI 8 l9 [a2]).bind λa5=>
 ((Zef N a0_ a2).bind λa1=>
 ((appI 8 l8 [a1]).bind λa4=>
 (some (.inl (a1,a4,a5)))))))))))else(some (.inr (.inl l9)))))
def Zks (N:Nat)(a0_:Zan)(a1_:Int)(a2_:Int):Option ((List Int)):=
 ((remI (w64 (a1_)) a0_.Nodes).bind λm1=>
 ((ZaH (λx:Int×(List Int)×(List Int)=>Ze7 N a0_ a2_ x.1 x.2.1 x.2.2) N (m1,[m1],[])).bind λa2=>match a2 with
 |(.inl a1)=>(some a1)
 |(.inr a0)=>(some a0)))
def Zc7 (N:Nat)(a0_:Int)(a1_:(List Int))(i1:Int)(i2:Int):Option ((Int×Int)⊕((Int))):=
 (if(decide (i2<((List.length a1_:Nat):Int)))then((idx a1_ i2).bind λa0=>
 ((ZgW N i1 a0).bind λa2=>
 ((quoI .i64 i1 a2).bind λa1=>
 (if(decide ((w64 (a1*a0))>a0_))then(some (.inr (w64 (a1*a0))))else(some (.inl ((w64 (a1*a0)),(w64 (i2+1)))))))))else(some (.inr i1)))
def Zhx (N:Nat)(a0_:Int)(a1_:(List Int)):Option (Int):=
 ((ZaH (λx:Int×Int=>Zc7 N a0_ a1_ x.1 x.2) N (1,0)).bind λa0=>
 (some a0))
def Zhp (N:Nat)(a0_:Int)(c0_:Zan):Option (Bool):=
 ((idx c0_.Links a0_).bind λe2=>
 ((((ZjD N c0_ e2.A).bind λr4=>(if r4 then((ZjD N c0_ e2.B).bind λr7=>(if r7 then(some (e2.A !=e2.B))else(some false)))else(some false)))).bind λ(a0:Bool)=>
 (some a0)))
def Zbu (N:Nat)(a0_:Zbc)(a3:Int)(a2:Int)(a1:Zat)(a8:Int)(a0:ZbH):Option ((Int×Int×Zat)×Nat):=
 (if(a8==0)then((a1.get a0.from_).bind λab=>
 (((Zat.set a1 a0.from_ true).get a0.to_).bind λa7=>
 (if a7 then(some ((a3,a2,(Zat.set a1 a0.from_ true)),1))else(((Zat.set a1 a0.from_ true).get a0.to_).bind λaa=>
 (some (((w64 (a3+1)),a0.to_,(Zat.set (Zat.set a1 a0.from_ true) a0.to_ true)),0))))))else(((if(a0.from_ !=a2)then(some true)else((idx a0_.Topo.Station a2).bind λa6=>(some a6)))).bind λ(a4:Bool)=>
 (if a4 then(some ((a3,a2,a1),1))else((a1.get a0.to_).bind λa5=>
 (if a5 then(some ((a3,a2,a1),1))else((a1.get a0.to_).bind λa9=>
 (some (((w64 (a3+1)),a0.to_,(Zat.set a1 a0.to_ true)),0))))))))
def Zco (N:Nat)(a0_:Zbc)(a1_:(List Int)):Option (Bool):=
 (if((decide (((List.length a1_:Nat):Int)<1))||(decide (((List.length a1_:Nat):Int)>8)))then(some false)else((((Zc6 N a0_ a1_).bind λa1=>
 ((Zc5 N (λ(s:(Int×Int×Zat)×Nat) (a3:Int) (a2:ZbH)=>Zgc (λv:Int×Int×Zat=>Zbu N a0_ v.1 v.2.1 v.2.2 a3 a2) s) a1.1 a1.2 ((0,0,(Zat.mk false false false false false false false false false false false false)),0)).bind λa0=>
 (if(a0.2==0)then(some a0.1.1)else(if(a0.2==1)then(some a0.1.1)else none))))).bind λ(a4:Int)=>
 (some (a4==((List.length a1_:Nat):Int)))))
def Zhw (N:Nat)(a0_:ZaG)(a1_:ZaG):Option (Int×Int×Int):=
 ((ZgW N a0_.Period a1_.Period).bind λr1=>
 (some (a0_.Long,(w64 (r1-a1_.Long)),r1)))
def ZbE (N:Nat)(a3:(List Int))(x13:Int)(x14:ZbH):Option ((List Int)):=
 (((if(x13==0)then((appI 8 a3 [x14.from_]).bind λa1=>
 (some a1))else(some a3))).bind λ(a2:(List Int))=>
 ((appI 8 a2 [x14.to_]).bind λa0=>
 (some a0)))
def ZcI (N:Nat)(a0_:Zbc)(a1_:(List Int)):Option ((List Int)):=
 ((Zhe 8 0 (w64 (((List.length a1_:Nat):Int)+1)) 0).bind λl3=>
 ((Zc6 N a0_ a1_).bind λr7=>
 ((Zc5 N (λ(s:(List Int)) (x13:Int) (x14:ZbH)=>ZdP (λv:(List Int)=>ZbE N v x13 x14) s) r7.1 r7.2 l3).bind λa0=>
 (some a0))))
def Zcl (N:Nat)(a0_:(List Int))(a1_:Int):Option (Bool):=
 ((ZdW N a0_ a1_).bind λr1=>
 (some (decide (r1≥0))))
def Ze2 (N:Nat)(a0_:Zbc)(c0_:(List Int)):Option ((List Int)×Int):=
 ((ZcI N a0_ c0_).bind λr2=>
 (some (r2,0)))
def Zhy (N:Nat)(a0_:Zan)(a1_:Zaq)(a4_:Int)(r1:(List ZaO))(i4:Int)(l5:(List ZaF)):Option ((Int×(List ZaF))⊕(((List ZaF)))):=
 (if(decide (i4<(w64 (2*((List.length a0_.Links:Nat):Int)))))then((Zkq N r1 i4 a4_ a1_.Grid).bind λa0=>
 ((appI 32 l5 [a0]).bind λa1=>
 (some (.inl ((w64 (i4+1)),a1)))))else(some (.inr l5)))
def ZoP (N:Nat)(a0_:Zan)(a1_:Zaq)(a2_:(List Zam))(a3_:(List Int))(a4_:Int):Option ((List ZaF)):=
 ((Ze3 N a0_ a1_ a2_ a3_).bind λr1=>
 ((ZaH (λx:Int×(List ZaF)=>Zhy N a0_ a1_ a4_ r1 x.1 x.2) N (0,[])).bind λa0=>
 (some a0)))
def ZfH (N:Nat)(a0_:Zan)(i13:Int)(a2:ZaI)(a0:Int):Option ((Int)⊕((Unit)⊕(Bool))):=
 (if(decide (a0<i13))then((idx a0_.Links a0).bind λa3=>
 ((Zg5 N a3 a2.A a2.B).bind λa1=>
 (if a1 then(some (.inr (.inr false)))else(some (.inl (w64 (a0+1)))))))else(some (.inr (.inl ()))))
def ZcW (N:Nat)(a0_:Zan)(i13:Int)(a2:(List Int)):Option ((Int×(List Int))⊕(((List Int))⊕(Bool))):=
 (if(decide (i13<((List.length a0_.Links:Nat):Int)))then((idx a0_.Links i13).bind λa0=>
 ((Zie N a0_ a0).bind λa6=>
 (if(!a6)then(some (.inr (.inr false)))else((ZaH (λx:Int=>ZfH N a0_ i13 a0 x) N 0).bind λa4=>match a4 with
 |(.inl a7)=>((idx a2 a0.A).bind λa1=>
 ((idx a2 a0.A).bind λa9=>
 ((idx (List.set a2 (Int.toNat a0.A) (w64 (a1+1))) a0.B).bind λa5=>
 ((idx (List.set a2 (Int.toNat a0.A) (w64 (a1+1))) a0.B).bind λa8=>
 (some (.inl ((w64 (i13+1)),(List.set (List.set a2 (Int.toNat a0.A) (w64 (a1+1))) (Int.toNat a0.B) (w64 (a5+1))))))))))
 |(.inr a3)=>(some (.inr (.inr a3)))))))else(some (.inr (.inl a2))))
def ZfG (N:Nat)(a0_:Zan)(a1:(List Int))(a2:(List Bool))(a0:Int):Option ((Int)⊕((Unit)⊕(Bool))):=
 (if(decide (a0<a0_.Nodes))then((((idx a2 a0).bind λa7=>(if(!a7)then(some true)else((idx a0_.Station a0).bind λa6=>(if a6 then((idx a1 a0).bind λa5=>(if(decide (a5<1))then(some true)else((idx a1 a0).bind λa4=>(some (decide (a4>2))))))else(some false)))))).bind λ(a3:Bool)=>
 (if a3 then(some (.inr (.inr false)))else(some (.inl (w64 (a0+1))))))else(some (.inr (.inl ()))))
def Zg3 (N:Nat)(a0_:Zan):Option (Bool):=
 (if((decide (a0_.Nodes<2))||((decide (a0_.Nodes>12))||((((List.length a0_.Station:Nat):Int)!=a0_.Nodes)||(decide (((List.length a0_.Links:Nat):Int)>24)))))then(some false)else((Zhe 8 a0_.Nodes a0_.Nodes 0).bind λa7=>
 ((ZaH (λx:Int×(List Int)=>ZcW N a0_ x.1 x.2) N (0,a7)).bind λa5=>match a5 with
 |(.inl a3)=>((ZiV N a0_ 0 ([])).bind λa0=>
 ((ZaH (λx:Int=>ZfG N a0_ a3 a0 x) N 0).bind λa4=>match a4 with
 |(.inl a6)=>(some true)
 |(.inr a2)=>(some a2)))
 |(.inr a1)=>(some a1))))
def ZlO (N:Nat)(a0_:Zaq)(a1_:Int)(a2_:Int)(a3_:ZaP):Option (Zay):=
 ((ZgY N a3_.Early a0_.Grid).bind λr1=>
 ((ZgY N (w64 (0-(w64 (a3_.Open+a3_.Long)))) a0_.Grid).bind λr2=>
 ((Zev N r1 a2_).bind λr3=>
 (some (Zay.mk a1_ a3_.Port r3 (w64 ((w64 (0-r2))-r1)))))))
def Znh (N:Nat)(a0_:ZaF)(a1_:Int)(a2_:Int):Option (Bool):=
 ((ZqR N a0_ a1_).bind λr1=>
 (if(r1.1 !=128)then(some false)else((ZqQ N a0_ a1_).bind λr3=>
 (some ((r3.2 !=0)||(decide (r3.1≥(w64 (a1_+a2_)))))))))
def Zdu (N:Nat)(a1_:Zan)(a2_:Int)(a3_:Int)(i14:Int):Option ((Int)⊕((Unit)⊕(Zan))):=
 (if(decide (i14<((List.length a1_.Links:Nat):Int)))then((idx a1_.Links i14).bind λa1=>
 ((Zg5 N a1 a2_ a3_).bind λa0=>
 (if a0 then(some (.inr (.inr a1_)))else(some (.inl (w64 (i14+1)))))))else(some (.inr (.inl ()))))
def Zbl (N:Nat)(a0_:Zbz)(a1_:Zan)(a2_:Int)(a3_:Int):Option (Zan):=
 ((ZeR N a0_.Pers ((List.length a1_.Links:Nat):Int)).bind λr2=>
 ((ZeR N a0_.Delays ((List.length a1_.Links:Nat):Int)).bind λr3=>
 (((if(((List.length a1_.Links:Nat):Int)==24)then(some true)else((Zie N a1_ (ZaI.mk a2_ a3_ (w64 (1+(Int.tmod r2 20))) (Int.tmod r3 50))).bind λr6=>(some (!r6))))).bind λ(a4:Bool)=>
 (if a4 then(some a1_)else((ZaH (λx:Int=>Zdu N a1_ a2_ a3_ x) N 0).bind λa1=>match a1 with
 |(.inl a3)=>((appI 32 a1_.Links [(ZaI.mk a2_ a3_ (w64 (1+(Int.tmod r2 20))) (Int.tmod r3 50))]).bind λa2=>
 (some (Zan.mk a1_.Nodes a1_.Station a2)))
 |(.inr a0)=>(some a0))))))
def ZhS (N:Nat)(a0_:Zap)(a1_:Int)(a2_:Int)(a3_:Int)(a4_:Int)(i1:Int)(a0:Int):Option ((Int)⊕((Unit)⊕(Bool))):=
 (if(decide (a0<((List.length a0_.Uses:Nat):Int)))then(((if(i1 !=a0)then((idx a0_.Uses i1).bind λa8=>(if(a8.Stream==a1_)then((idx a0_.Uses a0).bind λa7=>(if(a7.Stream==a3_)then((idx a0_.Uses i1).bind λa6=>((idx a0_.Uses a0).bind λa5=>(if(a6.Port==a5.Port)then((ZlQ N a0_ i1 a2_).bind λa3=>((ZlQ N a0_ a0 a4_).bind λa2=>((Zeu N a3 a2).bind λa1=>(some (!a1)))))else(some false))))else(some false)))else(some false)))else(some false))).bind λ(a4:Bool)=>
 (if a4 then(some (.inr (.inr true)))else(some (.inl (w64 (a0+1))))))else(some (.inr (.inl ()))))
def ZhT (N:Nat)(a0_:Zap)(a1_:Int)(a2_:Int)(a3_:Int)(a4_:Int)(i1:Int):Option ((Int)⊕((Unit)⊕(Bool))):=
 (if(decide (i1<((List.length a0_.Uses:Nat):Int)))then((ZaH (λx:Int=>ZhS N a0_ a1_ a2_ a3_ a4_ i1 x) N 0).bind λa1=>match a1 with
 |(.inl a2)=>(some (.inl (w64 (i1+1))))
 |(.inr a0)=>(some (.inr (.inr a0))))else(some (.inr (.inl ()))))
def Zfi (N:Nat)(a0_:Zap)(a1_:Int)(a2_:Int)(a3_:Int)(a4_:Int):Option (Bool):=
 ((ZaH (λx:Int=>ZhT N a0_ a1_ a2_ a3_ a4_ x) N 0).bind λa1=>match a1 with
 |(.inl a2)=>(some false)
 |(.inr a0)=>(some a0))
def Zew (N:Nat)(a0_:Zan)(a1_:Zam)(i27:Int):Option ((Int)⊕((Unit)⊕(Bool))):=
 (if(decide (i27<((List.length a1_.Routes:Nat):Int)))then((idx a1_.Routes i27).bind λa0=>
 ((((Zds N a0_ a0).bind λa3=>(if(!a3)then(some true)else((idx a0 0).bind λa6=>((Zc8 N a0_ a6).bind λa2=>(if(a2 !=a1_.Talker)then(some true)else((idx a0 (w64 (((List.length a0:Nat):Int)-1))).bind λa5=>((Zef N a0_ a5).bind λa1=>(some (a1 !=a1_.Listener)))))))))).bind λ(a4:Bool)=>
 (if a4 then(some (.inr (.inr false)))else(some (.inl (w64 (i27+1)))))))else(some (.inr (.inl ()))))
def Zk4 (N:Nat)(a0_:Zan)(a1_:Zam)(a1:Int):Option ((Int)⊕((Unit)⊕(Bool))):=
 (if(decide (a1<((List.length a1_.Routes:Nat):Int)))then((idx a1_.Routes a1).bind λa0=>
 ((((Zds N a0_ a0).bind λa4=>(if(!a4)then(some true)else((idx a0 0).bind λa7=>((Zc8 N a0_ a7).bind λa3=>(if(a3 !=a1_.Talker)then(some true)else((idx a0 (w64 (((List.length a0:Nat):Int)-1))).bind λa6=>((Zef N a0_ a6).bind λa2=>(some (a2 !=a1_.Listener)))))))))).bind λ(a5:Bool)=>
 (if a5 then(some (.inr (.inr false)))else(some (.inl (w64 (a1+1)))))))else(some (.inr (.inl ()))))
def Zg2 (N:Nat)(a0_:Zan)(a1_:Zam):Option (Bool):=
 ((((ZcZ N a1_.Id 1 4095).bind λr1=>(if(!r1)then(some true)else((Zdr N a0_ a1_.Talker).bind λr4=>(if(!r4)then(some true)else((Zdr N a0_ a1_.Listener).bind λr7=>(if(!r7)then(some true)else(if(a1_.Talker==a1_.Listener)then(some true)else((ZcZ N a1_.Size 84 1542).bind λaj=>(if(!aj)then(some true)else((ZcZ N a1_.Deadline 1 1099511627776).bind λai=>(some (!ai))))))))))))).bind λ(am:Bool)=>
 (if am then(some false)else(if(a1_.Class==7)then((((ZcZ N a1_.Period 1 240).bind λag=>(if(!ag)then(some true)else(some (!((a1_.Bucket.Burst==0)&&((a1_.Bucket.Rate==0)&&true))))))).bind λ(al:Bool)=>
 (if al then(some false)else(if((decide (((List.length a1_.Routes:Nat):Int)<1))||(decide (((List.length a1_.Routes:Nat):Int)>2)))then(some false)else((ZaH (λx:Int=>Zew N a0_ a1_ x) N 0).bind λaa=>match aa with
 |(.inl ak)=>(((if(((List.length a1_.Routes:Nat):Int)==1)then(some true)else((idx a1_.Routes 0).bind λae=>((idx a1_.Routes 1).bind λad=>((Zd0 N a0_ ae ad).bind λa8=>(some a8)))))).bind λ(ac:Bool)=>
 (some ac))
 |(.inr a9)=>(some a9)))))else(if(a1_.Class==6)then(((if(a1_.Period !=0)then(some true)else((ZcZ N a1_.Bucket.Burst a1_.Size 1048576).bind λa7=>(if(!a7)then(some true)else((ZcZ N a1_.Bucket.Rate 1 2097152).bind λa6=>(some (!a6))))))).bind λ(ab:Bool)=>
 (if ab then(some false)else(if((decide (((List.length a1_.Routes:Nat):Int)<1))||(decide (((List.length a1_.Routes:Nat):Int)>2)))then(some false)else((ZaH (λx:Int=>Zk4 N a0_ a1_ x) N 0).bind λa2=>match a2 with
 |(.inl af)=>(((if(((List.length a1_.Routes:Nat):Int)==1)then(some true)else((idx a1_.Routes 0).bind λa5=>((idx a1_.Routes 1).bind λa4=>((Zd0 N a0_ a5 a4).bind λa0=>(some a0)))))).bind λ(a3:Bool)=>
 (some a3))
 |(.inr a1)=>(some a1)))))else(some false)))))
def ZiR (N:Nat)(a0_:Zan)(a1_:Int)(a2_:Int)(i1:Int):Option ((Int)⊕((Unit)⊕((List Int)))):=
 (if(decide (i1<16))then((Zks N a0_ a1_ (IntKind.u8.wrap (a2_+(IntKind.u8.wrap (i1))))).bind λa0=>
 (((if(decide (((List.length a0:Nat):Int)>0))then((Zds N a0_ a0).bind λa3=>(if a3 then((idx a0 0).bind λa8=>((Zc8 N a0_ a8).bind λa2=>((idx a0_.Station a2).bind λa7=>(if a7 then((idx a0 (w64 (((List.length a0:Nat):Int)-1))).bind λa6=>((Zef N a0_ a6).bind λa1=>((idx a0_.Station a1).bind λa5=>(some a5))))else(some false)))))else(some false)))else(some false))).bind λ(a4:Bool)=>
 (if a4 then((neL a0).bind λ_=>(some (.inr (.inr a0))))else(some (.inl (w64 (i1+1)))))))else(some (.inr (.inl ()))))
def Zib (N:Nat)(a0_:Zan)(a1_:Int)(a2_:Int):Option ((List Int)):=
 ((ZaH (λx:Int=>ZiR N a0_ a1_ a2_ x) N 0).bind λa1=>match a1 with
 |(.inl a2)=>(some [])
 |(.inr a0)=>(some a0))
def Zlo (N:Nat)(a0_:Zap)(a1_:(List Int))(a2_:Int)(i1:Int):Option ((Int)⊕((Unit)⊕(Int))):=
 (if(decide (i1<((List.length a1_:Nat):Int)))then((idx a1_ i1).bind λa1=>
 ((Zfi N a0_ ((List.length a1_:Nat):Int) a2_ i1 a1).bind λa0=>
 (if a0 then(some (.inr (.inr i1)))else(some (.inl (w64 (i1+1)))))))else(some (.inr (.inl ()))))
def Zn6 (N:Nat)(a0_:Zap)(a1_:(List Int))(a2_:Int):Option (Int):=
 ((ZaH (λx:Int=>Zlo N a0_ a1_ a2_ x) N 0).bind λa2=>match a2 with
 |(.inl a3)=>((Zfi N a0_ ((List.length a1_:Nat):Int) a2_ ((List.length a1_:Nat):Int) a2_).bind λa0=>
 (if a0 then(some ((List.length a1_:Nat):Int))else(some (-1))))
 |(.inr a1)=>(some a1))
def ZeC (N:Nat)(a0_:(List ZaG))(i8:Int)(l9:(List Int)):Option ((Int×(List Int))⊕(((List Int)))):=
 (if(decide (i8<((List.length a0_:Nat):Int)))then((idx a0_ i8).bind λa0=>
 ((idx l9 i8).bind λa1=>
 (some (.inl ((w64 (i8+1)),(List.set l9 (Int.toNat i8) a0.Period))))))else(some (.inr l9)))
def Zgs (N:Nat)(a0_:(List ZaG)):Option (Int×Int):=
 ((ZeB N a0_).bind λr1=>
 (if(r1 !=0)then(some (0,r1))else((Zhe 8 ((List.length a0_:Nat):Int) ((List.length a0_:Nat):Int) 0).bind λl5=>
 ((ZaH (λx:Int×(List Int)=>ZeC N a0_ x.1 x.2) N (0,l5)).bind λa1=>
 ((Zhx N 960 a1).bind λa0=>
 (if(decide (a0>960))then(some (0,6))else(some (a0,0))))))))
def Zgk (N:Nat)(a0_:Zan)(i4:Int):Option ((Int)⊕((Unit)⊕(Bool))):=
 (if(decide (i4<((List.length a0_.Links:Nat):Int)))then((Zhp N i4 a0_).bind λa3=>
 (if(!a3)then(some (.inr (.inr false)))else((Zho N i4 a0_).bind λa2=>
 (if(!a2)then(some (.inr (.inr false)))else((ZfO N i4 a0_).bind λa1=>
 (if(!a1)then(some (.inr (.inr false)))else((Zhn N i4 a0_).bind λa0=>
 (if(!a0)then(some (.inr (.inr false)))else(some (.inl (w64 (i4+1))))))))))))else(some (.inr (.inl ()))))
def Zkl (N:Nat)(a0_:Zan):Option (Bool):=
 ((ZaH (λx:Int=>Zgk N a0_ x) N 0).bind λa1=>match a1 with
 |(.inl a2)=>(some true)
 |(.inr a0)=>(some a0))
def Zes (N:Nat)(c0_:Zam):Option (Bool):=
 (if(c0_.Class==7)then((((Zbw N c0_.Period 1 240).bind λr4=>(if r4 then(some ((c0_.Bucket.Burst==0)&&((c0_.Bucket.Rate==0)&&true)))else(some false)))).bind λ(j8:Bool)=>
 (some j8))else(if(c0_.Class==6)then(((if(c0_.Period==0)then((Zkh N c0_.Bucket).bind λa0=>(if(a0==0)then(some (decide (c0_.Bucket.Burst≥c0_.Size)))else(some false)))else(some false))).bind λ(a1:Bool)=>
 (some a1))else(some false)))
def Zgr (N:Nat)(a0_:ZaG)(a1_:ZaG):Option (Bool):=
 (if((a0_.Period==a1_.Period)&&((a0_.From==a1_.From)&&((a0_.Long==a1_.Long)&&true)))then(some false)else((Zhw N a0_ a1_).bind λr2=>
 ((ZiH N (w64 (a1_.From-a0_.From)) r2.2.2).bind λr3=>
 (some ((decide (r2.1<=r3))&&(decide (r3<=r2.2.1)))))))
def Zdo (N:Nat)(r2:(List Int))(l3:List Int)(i4:Int):Option ((Int)⊕((Unit)⊕(Bool))):=
 (if(decide (i4<((List.length l3:Nat):Int)))then((idx l3 i4).bind λa1=>
 ((Zcl N r2 a1).bind λa0=>
 (if a0 then(some (.inr (.inr true)))else(some (.inl (w64 (i4+1)))))))else(some (.inr (.inl ()))))
def Zdw (N:Nat)(a0_:Zbc)(a1_:(List Int))(a2_:(List Int)):Option (Bool):=
 ((ZcI N a0_ a1_).bind λr1=>
 ((ZcI N a0_ a2_).bind λr2=>
 ((subI r1 1 (w64 (((List.length r1:Nat):Int)-1))).bind λl3=>
 ((ZaH (λx:Int=>Zdo N r2 l3 x) N 0).bind λa1=>match a1 with
 |(.inl a2)=>(some false)
 |(.inr a0)=>(some a0)))))
def ZbQ (N:Nat)(a0_:Zbz)(i3:Int)(l4:(List Bool)):Option ((Int×(List Bool))⊕(((List Bool)))):=
 (if(decide (i3<(w64 ((w64 (1+(w64 ((Int.tmod a0_.Bridges 6)))))+(w64 (2+(w64 ((Int.tmod a0_.Stations 5)))))))))then((appI 1 l4 [(decide (i3≥(w64 (1+(w64 ((Int.tmod a0_.Bridges 6)))))))]).bind λa0=>
 (some (.inl ((w64 (i3+1)),a0))))else(some (.inr l4)))
def ZbP (N:Nat)(a0_:Zbz)(a1:Int)(a4:Int)(a3:(List Bool))(a2:(List ZaI)):Option ((Int×Int×(List Bool)×(List ZaI))⊕((Int×(List Bool)×(List ZaI)))):=
 (if(decide (a1<(w64 (1+(w64 ((Int.tmod a0_.Bridges 6)))))))then((Zbl N a0_ (Zan.mk a4 a3 a2) (w64 (a1-1)) a1).bind λa0=>
 (some (.inl ((w64 (a1+1)),a0.Nodes,a0.Station,a0.Links))))else(some (.inr (a4,a3,a2))))
def ZbO (N:Nat)(a0_:Zbz)(a0:Int)(a4:Int)(a3:(List Bool))(a2:(List ZaI)):Option ((Int×Int×(List Bool)×(List ZaI))⊕((Int×(List Bool)×(List ZaI)))):=
 (if(decide (a0<(w64 (2+(w64 ((Int.tmod a0_.Stations 5)))))))then((ZeR N a0_.Homes (w64 (2*a0))).bind λa5=>
 ((remI a5 (w64 (1+(w64 ((Int.tmod a0_.Bridges 6)))))).bind λa6=>
 ((Zbl N a0_ (Zan.mk a4 a3 a2) (w64 ((w64 (1+(w64 ((Int.tmod a0_.Bridges 6)))))+a0)) a6).bind λa1=>
 (some (.inl ((w64 (a0+1)),a1.Nodes,a1.Station,a1.Links))))))else(some (.inr (a4,a3,a2))))
def Zbv (N:Nat)(a0_:Zbz)(a0:Int)(a5:Int)(a3:(List Bool))(a2:(List ZaI)):Option ((Int×Int×(List Bool)×(List ZaI))⊕((Int×(List Bool)×(List ZaI)))):=
 (if(decide (a0<(w64 (2+(w64 ((Int.tmod a0_.Stations 5)))))))then((((ZeR N a0_.Homes (w64 ((w64 (2*a0))+1))).bind λa7=>
 (if(decide ((Int.tmod a7 3)>0))then((ZeR N a0_.Homes (w64 ((w64 (2*a0))+1))).bind λa6=>
 ((remI a6 (w64 (1+(w64 ((Int.tmod a0_.Bridges 6)))))).bind λa8=>
 ((Zbl N a0_ (Zan.mk a5 a3 a2) (w64 ((w64 (1+(w64 ((Int.tmod a0_.Bridges 6)))))+a0)) a8).bind λa1=>
 (some (a1.Nodes,a1.Station,a1.Links)))))else(some (a5,a3,a2))))).bind λ(a4:Int×(List Bool)×(List ZaI))=>
 (some (.inl ((w64 (a0+1)),a4.1,a4.2.1,a4.2.2))))else(some (.inr (a5,a3,a2))))
def Zcd (N:Nat)(a0_:Zbz)(a0:Int)(a4:Int)(a3:(List Bool))(a2:(List ZaI)):Option ((Int×Int×(List Bool)×(List ZaI))⊕((Int×(List Bool)×(List ZaI)))):=
 (if((decide ((w64 (a0+1))<((List.length a0_.Chords:Nat):Int)))&&(decide (a0<12)))then((idx a0_.Chords a0).bind λa8=>
 ((remI (w64 (a8)) (w64 (1+(w64 ((Int.tmod a0_.Bridges 6)))))).bind λa6=>
 ((idx a0_.Chords (w64 (a0+1))).bind λa7=>
 ((remI (w64 (a7)) (w64 (1+(w64 ((Int.tmod a0_.Bridges 6)))))).bind λa5=>
 ((Zbl N a0_ (Zan.mk a4 a3 a2) a6 a5).bind λa1=>
 (some (.inl ((w64 (a0+2)),a1.Nodes,a1.Station,a1.Links))))))))else(some (.inr (a4,a3,a2))))
def Zdz (N:Nat)(a0_:Zbz):Option (Zan):=
 ((ZaH (λx:Int×(List Bool)=>ZbQ N a0_ x.1 x.2) N (0,[])).bind λa6=>
 ((ZaH (λx:Int×Int×(List Bool)×(List ZaI)=>ZbP N a0_ x.1 x.2.1 x.2.2.1 x.2.2.2) N (1,(w64 ((w64 (1+(w64 ((Int.tmod a0_.Bridges 6)))))+(w64 (2+(w64 ((Int.tmod a0_.Stations 5))))))),a6,[])).bind λa4=>
 ((ZaH (λx:Int×Int×(List Bool)×(List ZaI)=>ZbO N a0_ x.1 x.2.1 x.2.2.1 x.2.2.2) N (0,a4.1,a4.2.1,a4.2.2)).bind λa0=>
 (((if((decide ((w64 (1+(w64 ((Int.tmod a0_.Bridges 6)))))>2))&&((Int.tmod a0_.Bridges 2)==0))then((Zbl N a0_ (Zan.mk a0.1 a0.2.1 a0.2.2) (w64 ((w64 (1+(w64 ((Int.tmod a0_.Bridges 6)))))-1)) 0).bind λa1=>
 (some (a1.Nodes,a1.Station,a1.Links)))else(some (a0.1,a0.2.1,a0.2.2)))).bind λ(a5:Int×(List Bool)×(List ZaI))=>
 ((ZaH (λx:Int×Int×(List Bool)×(List ZaI)=>Zbv N a0_ x.1 x.2.1 x.2.2.1 x.2.2.2) N (0,a5.1,a5.2.1,a5.2.2)).bind λa3=>
 ((ZaH (λx:Int×Int×(List Bool)×(List ZaI)=>Zcd N a0_ x.1 x.2.1 x.2.2.1 x.2.2.2) N (0,a3.1,a3.2.1,a3.2.2)).bind λa2=>
 (some (Zan.mk a2.1 a2.2.1 a2.2.2))))))))
def ZgZ (N:Nat)(a0_:Zap)(a1_:(List Int))(i1:Int)(a0:Int):Option ((Int)⊕((Unit)⊕(Bool))):=
 (if(decide (a0<=i1))then((idx a1_ i1).bind λa3=>
 ((idx a1_ a0).bind λa2=>
 ((Zfi N a0_ i1 a3 a0 a2).bind λa1=>
 (if a1 then(some (.inr (.inr false)))else(some (.inl (w64 (a0+1))))))))else(some (.inr (.inl ()))))
def Zg0 (N:Nat)(a0_:Zap)(a1_:(List Int))(i1:Int):Option ((Int)⊕((Unit)⊕(Bool))):=
 (if(decide (i1<((List.length a1_:Nat):Int)))then((ZaH (λx:Int=>ZgZ N a0_ a1_ i1 x) N 0).bind λa1=>match a1 with
 |(.inl a2)=>(some (.inl (w64 (i1+1))))
 |(.inr a0)=>(some (.inr (.inr a0))))else(some (.inr (.inl ()))))
def ZhA (N:Nat)(a0_:Zap)(a1_:(List Int)):Option (Bool):=
 ((ZaH (λx:Int=>Zg0 N a0_ a1_ x) N 0).bind λa1=>match a1 with
 |(.inl a2)=>(some true)
 |(.inr a0)=>(some a0))
def Zee (N:Nat)(a0_:Zan)(a1_:(List Zam))(i4:Int):Option ((Int)⊕((Unit)⊕(Int))):=
 (if(decide (i4<((List.length a1_:Nat):Int)))then((idx a1_ i4).bind λa1=>
 ((Zg2 N a0_ a1).bind λa0=>
 (if(!a0)then(some (.inr (.inr 321)))else(some (.inl (w64 (i4+1)))))))else(some (.inr (.inl ()))))
def ZcA (N:Nat)(a1_:(List Zam))(a1:Int)(a0:Int):Option ((Int)⊕((Unit)⊕(Int))):=
 (if(decide (a0<a1))then((idx a1_ a0).bind λa3=>
 ((idx a1_ a1).bind λa2=>
 (if(a3.Id==a2.Id)then(some (.inr (.inr 322)))else(some (.inl (w64 (a0+1)))))))else(some (.inr (.inl ()))))
def ZcB (N:Nat)(a1_:(List Zam))(a0:Int):Option ((Int)⊕((Unit)⊕(Int))):=
 (if(decide (a0<((List.length a1_:Nat):Int)))then((ZaH (λx:Int=>ZcA N a1_ a0 x) N 0).bind λa2=>match a2 with
 |(.inl a3)=>(some (.inl (w64 (a0+1))))
 |(.inr a1)=>(some (.inr (.inr a1))))else(some (.inr (.inl ()))))
def ZfB (N:Nat)(a0_:Zan)(a1_:(List Zam)):Option (Int):=
 ((Zg3 N a0_).bind λr1=>
 (if(!r1)then(some 260)else(if(decide (((List.length a1_:Nat):Int)>12))then(some 3)else((ZaH (λx:Int=>Zee N a0_ a1_ x) N 0).bind λa3=>match a3 with
 |(.inl a5)=>((ZaH (λx:Int=>ZcB N a1_ x) N 0).bind λa2=>match a2 with
 |(.inl a4)=>(some 0)
 |(.inr a1)=>(some a1))
 |(.inr a0)=>(some a0)))))
def ZdY (N:Nat)(a1_:Zan)(i2:Int)(i3:Int):Option ((Int×Int)⊕((Int))):=
 (((if(decide (i3<a1_.Nodes))then((idx a1_.Station i2).bind λa2=>(some (!a2)))else(some false))).bind λ(a1:Bool)=>
 (if a1 then((remI (w64 (i2+1)) a1_.Nodes).bind λa0=>
 (some (.inl (a0,(w64 (i3+1))))))else(some (.inr i2))))
def ZdX (N:Nat)(a0_:Zcc)(a1_:Zan)(ac:Int)(ab:(List Int))(aa:Int)(a2:Int)(a1:(List (List Int))):Option ((Int×(List (List Int)))⊕(((List (List Int))))):=
 (((if(decide (a2<24))then(if a0_.Two then(some (((List.length a1:Nat):Int)==1))else(some false))else(some false))).bind λ(a8:Bool)=>
 (if a8 then((((Zib N a1_ (IntKind.u8.wrap (ac)) (IntKind.u8.wrap (a0_.Way+(IntKind.u8.wrap (a2))))).bind λa0=>
 (if(List.isEmpty a0)then(some a1)else((((idx a0 (w64 (((List.length a0:Nat):Int)-1))).bind λa9=>((Zef N a1_ a9).bind λa4=>(if(a4==aa)then((Zd0 N a1_ ab a0).bind λa3=>(some a3))else(some false))))).bind λ(a6:Bool)=>
 (if a6 then((appI 24 a1 [a0]).bind λa5=>
 (some a5))else(some a1)))))).bind λ(a7:(List (List Int)))=>
 (some (.inl ((w64 (a2+1)),a7))))else(some (.inr a1))))
def ZdS (N:Nat)(a0_:Zcc)(a1_:Zan)(a2_:Int):Option (Zam×Bool):=
 ((remI (w64 (a0_.Node)) a1_.Nodes).bind λm1=>
 ((ZaH (λx:Int×Int=>ZdY N a1_ x.1 x.2) N (m1,0)).bind λa6=>
 ((Zib N a1_ (IntKind.u8.wrap (a6)) a0_.Way).bind λa1=>
 (if(List.isEmpty a1)then(some ((Zam.mk 0 0 0 0 0 0 (Zfo.mk 0 0) 0 ([])),false))else((idx a1 0).bind λa9=>
 ((Zc8 N a1_ a9).bind λa4=>
 ((idx a1 (w64 (((List.length a1:Nat):Int)-1))).bind λa8=>
 ((Zef N a1_ a8).bind λa3=>
 (((if a0_.Reserved then(some (6,0,(w64 ((w64 (84+(w64 (a0_.Size))))+(w64 (4*(w64 (a0_.Burst)))))),(w64 (1+(w64 (a0_.Rate))))))else((idx [4,6,8,12,16,24,48,10,5,240] (Int.tmod a0_.Period 10)).bind λa7=>
 (some (7,a7,0,0))))).bind λ(a0:Int×Int×Int×Int)=>
 ((ZaH (λx:Int×(List (List Int))=>ZdX N a0_ a1_ a6 a1 a3 x.1 x.2) N (0,[a1])).bind λa2=>
 ((Zg2 N a1_ (Zam.mk a2_ a4 a3 a0.1 (w64 (84+(w64 (a0_.Size)))) a0.2.1 (Zfo.mk a0.2.2.1 a0.2.2.2) 1099511627776 a2)).bind λa5=>
 (some ((Zam.mk a2_ a4 a3 a0.1 (w64 (84+(w64 (a0_.Size)))) a0.2.1 (Zfo.mk a0.2.2.1 a0.2.2.2) 1099511627776 a2),a5)))))))))))))
def ZdI (N:Nat)(rec_:Zap->ZaT->((List Int))->Int->Option (ZaT))(a0_:Zap)(a2_:(List Int))(a3_:Int)(i10:Int)(i11:Int)(a1:(List Zdd))(a5:(List Zb2))(ac:(List Int)):Option ((Int×Int×(List Zdd)×(List Zb2)×(List Int))⊕((Int×(List Zdd)×(List Zb2)×(List Int))⊕(ZaT))):=
 ((idx a0_.Periods ((List.length a2_:Nat):Int)).bind λaf=>
 (if(decide (i10<af))then(if((((List.length a2_:Nat):Int)==0)&&(i10==1))then((idx a0_.Periods 0).bind λae=>
 ((appI 32 a1 [(Zdd.mk 1 ae (-2) 0)]).bind λad=>
 (some (.inr (.inl (i11,ad,a5,ac))))))else((Zn6 N a0_ a2_ i10).bind λa4=>
 (if(a4 !=(-1))then(((((if(decide (((List.length a1:Nat):Int)>0))then((idx a1 (w64 (((List.length a1:Nat):Int)-1))).bind λab=>(some (ab.By==a4)))else(some false))).bind λ(a9:Bool)=>
 (if a9 then((idx a1 (w64 (((List.length a1:Nat):Int)-1))).bind λa3=>
 (some (List.set a1 (Int.toNat (w64 (((List.length a1:Nat):Int)-1))) (Zdd.mk a3.From (w64 (i10+1)) a3.By a3.Next))))else((appI 32 a1 [(Zdd.mk i10 (w64 (i10+1)) a4 0)]).bind λa8=>
 (some a8))))).bind λ(aa:(List Zdd))=>
 (some (.inl ((w64 (i10+1)),i11,aa,a5,ac))))else((appI 8 [] a2_).bind λa7=>
 ((appI 8 a7 [i10]).bind λa2=>
 (if(((List.length a2:Nat):Int)==((List.length a0_.Periods:Nat):Int))then(some (.inr (.inr (ZaT.mk a5 a2 1))))else((appI 32 a1 [(Zdd.mk i10 (w64 (i10+1)) (-1) ((List.length a5:Nat):Int))]).bind λa6=>
 ((rec_ a0_ (ZaT.mk a5 ac i11) a2 a3_).bind λa0=>
 (if(a0.What !=0)then(some (.inr (.inr a0)))else(some (.inl ((w64 (i10+1)),a0.What,a6,a0.Proof,a0.Offsets))))))))))))else(some (.inr (.inl (i11,a1,a5,ac))))))
def Zgv (N:Nat)(rec_:Zap->ZaT->((List Int))->Int->Option (ZaT))(a0_:Zap)(a1_:ZaT)(a2_:(List Int))(a3_:Int):Option (ZaT):=
 (if(decide (((List.length a1_.Proof:Nat):Int)>a3_))then(some (ZaT.mk a1_.Proof a1_.Offsets 2))else((appI 32 a1_.Proof [(Zb2.mk ((List.length a2_:Nat):Int) ([]))]).bind λl5=>
 ((ZaH (λx:Int×Int×(List Zdd)×(List Zb2)×(List Int)=>ZdI N rec_ a0_ a2_ a3_ x.1 x.2.1 x.2.2.1 x.2.2.2.1 x.2.2.2.2) N (0,a1_.What,[],l5,a1_.Offsets)).bind λa2=>match a2 with
 |(.inl a0)=>((idx a0.2.2.1 ((List.length a1_.Proof:Nat):Int)).bind λa3=>
 (some (ZaT.mk (List.set a0.2.2.1 (Int.toNat ((List.length a1_.Proof:Nat):Int)) (Zb2.mk a3.Stream a0.2.1)) a0.2.2.2 a0.1)))
 |(.inr a1)=>(some a1))))
def ZgX:Nat->Zap->ZaT->((List Int))->Int->Option (ZaT)
 |0=>λ_ _ _ _=>none
 |N+1=>λa0_ a1_ a2_ a3_=>Zgv N (ZgX N) a0_ a1_ a2_ a3_
def Zgy (N:Nat)(a0_:(List Int))(i6:Int)(l7:(List ZaG)):Option ((Int×(List ZaG))⊕(((List ZaG)))):=
 (if(decide (i6<((List.length a0_:Nat):Int)))then((idx a0_ i6).bind λa0=>
 ((idx l7 i6).bind λa1=>
 (some (.inl ((w64 (i6+1)),(List.set l7 (Int.toNat i6) (ZaG.mk a0 0 1)))))))else(some (.inr l7)))
def Zfm (N:Nat)(a0_:(List Int)):Option (Int×Int):=
 ((Zhe 24 ((List.length a0_:Nat):Int) ((List.length a0_:Nat):Int) (ZaG.mk 0 0 0)).bind λl3=>
 ((ZaH (λx:Int×(List ZaG)=>Zgy N a0_ x.1 x.2) N (0,l3)).bind λa1=>
 ((Zgs N a1).bind λa0=>
 (some (a0.1,a0.2)))))
def Zdl (N:Nat)(a0_:Zan)(i16:Int)(a2:(List Int)):Option ((Int×(List Int))⊕(((List Int)))):=
 (if(decide (i16<((List.length a0_.Links:Nat):Int)))then((idx a0_.Links i16).bind λa0=>
 ((idx a2 a0.A).bind λa1=>
 ((idx a2 a0.A).bind λa5=>
 ((idx (List.set a2 (Int.toNat a0.A) (w64 (a1+1))) a0.B).bind λa3=>
 ((idx (List.set a2 (Int.toNat a0.A) (w64 (a1+1))) a0.B).bind λa4=>
 (some (.inl ((w64 (i16+1)),(List.set (List.set a2 (Int.toNat a0.A) (w64 (a1+1))) (Int.toNat a0.B) (w64 (a3+1)))))))))))else(some (.inr a2)))
def Zgm (N:Nat)(a0_:Zan)(a1:(List Int))(a0:Int):Option ((Int)⊕((Unit)⊕(Int))):=
 (if(decide (a0<((List.length a0_.Station:Nat):Int)))then((idx a0_.Station a0).bind λa5=>
 (((if a5 then((idx a1 a0).bind λa4=>(if(decide (a4<1))then(some true)else((idx a1 a0).bind λa3=>(some (decide (a3>2))))))else(some false))).bind λ(a2:Bool)=>
 (if a2 then(some (.inr (.inr 260)))else(some (.inl (w64 (a0+1)))))))else(some (.inr (.inl ()))))
def ZgJ (N:Nat)(a0_:Zan):Option (Int):=
 (if((decide (a0_.Nodes<2))||((decide (a0_.Nodes>12))||(((List.length a0_.Station:Nat):Int)!=a0_.Nodes)))then(some 260)else(((if(decide (((List.length a0_.Links:Nat):Int)>24))then(some true)else((Zkl N a0_).bind λr8=>(some (!r8))))).bind λ(j9:Bool)=>
 (if j9 then(some 260)else((Zhe 8 a0_.Nodes a0_.Nodes 0).bind λa6=>
 ((ZaH (λx:Int×(List Int)=>Zdl N a0_ x.1 x.2) N (0,a6)).bind λa4=>
 ((ZaH (λx:Int=>Zgm N a0_ a4 x) N 0).bind λa3=>match a3 with
 |(.inl a5)=>((Zkm N a0_ 0 (Zbf.mk false false false false false false false false false false false false false false false false false false false false false false false false)).bind λa1=>
 ((Zb7 N a1 false).bind λa0=>
 (if a0 then(some 260)else(some 0))))
 |(.inr a2)=>(some a2)))))))
def Zgt (N:Nat)(a0_:ZaG)(a1_:ZaG):Option (Bool×Int):=
 ((Zec N a0_).bind λr1=>
 (if(r1 !=0)then(some (false,r1))else((Zec N a1_).bind λr3=>
 (if(r3 !=0)then(some (false,r3))else((Zgr N a0_ a1_).bind λr5=>
 (some (r5,0)))))))
def Zeb (N:Nat)(a0_:Zbc)(c0_:(List Int))(c1_:(List Int)):Option (Bool×Int):=
 ((Zco N a0_ c0_).bind λr2=>
 (if(!r2)then(some (false,310))else((((Zhv N c1_ c0_).bind λr6=>(if(!r6)then((Zdw N a0_ c1_ c0_).bind λa1=>(if(!a1)then((Zdw N a0_ c0_ c1_).bind λa0=>(some (!a0)))else(some false)))else(some false)))).bind λ(a2:Bool)=>
 (some (a2,0)))))
def ZeJ (N:Nat)(a0_:Zan)(a1_:(List Int)):Option (Int):=
 ((ZgJ N a0_).bind λr1=>
 (if(r1 !=0)then(some r1)else((Zco N (Zbc.mk a0_) a1_).bind λr3=>
 (if(!r3)then(some 310)else(some 0)))))
def ZdH (N:Nat)(a0_:Zan)(a1_:(List Int))(a2_:Zbc->Option ((List Int)×Int)):Option ((List Int)×Int):=
 ((ZeJ N a0_ a1_).bind λr1=>
 (if(r1 !=0)then(some ([],r1))else((a2_ (Zbc.mk a0_)).bind λr3=>
 (some (r3.1,r3.2)))))
def Zlr (N:Nat)(a1_:Zaq)(a2_:(List Zam))(i11:Int)(a7:(List Int))(a1:(List ZaP))(a0:Int)(a2:(List Zay)):Option ((Int×(List Zay))⊕(((List Zay)))):=
 (if(decide (a0<((List.length a1:Nat):Int)))then((idx a2_ i11).bind λa6=>
 ((idx a1 a0).bind λa5=>
 ((ZlO N a1_ ((List.length a7:Nat):Int) a6.Period a5).bind λa3=>
 ((appI 32 a2 [a3]).bind λa4=>
 (some (.inl ((w64 (a0+1)),a4)))))))else(some (.inr a2)))
def ZiO (N:Nat)(a0_:Zan)(a1_:Zaq)(a2_:(List Zam))(i11:Int)(af:(List Int))(a2:Bool)(a0:Int)(a1:(List Zay)):Option ((Bool×Int×(List Zay))⊕((Bool×(List Zay)))):=
 ((idx a2_ i11).bind λae=>
 (if(decide (a0<((List.length ae.Routes:Nat):Int)))then((idx a2_ i11).bind λad=>
 ((idx a2_ i11).bind λac=>
 ((idx ac.Routes a0).bind λab=>
 ((Zic N a0_ a1_ ad ab).bind λa4=>
 ((ZaH (λx:Int×(List Zay)=>Zlr N a1_ a2_ i11 af a4 x.1 x.2) N (0,a1)).bind λa5=>
 (((if a2 then(some true)else((idx a2_ i11).bind λaa=>((idx a2_ i11).bind λa9=>((idx a9.Routes a0).bind λa8=>((ZlV N a0_ a1_ aa a8).bind λa3=>((idx a2_ i11).bind λa7=>(if(decide ((w64 (a3+(w64 (2*a1_.Slack))))>a7.Deadline))then(some true)else(some false))))))))).bind λ(a6:Bool)=>
 (some (.inl (a6,(w64 (a0+1)),a5)))))))))else(some (.inr (a2,a1)))))
def ZiP (N:Nat)(a0_:Zan)(a1_:Zaq)(a2_:(List Zam))(b10:Bool)(i11:Int)(a5:(List Int))(a6:(List Zay)):Option ((Bool×Int×(List Int)×(List Zay))⊕((Bool×(List Int)×(List Zay)))):=
 (if(decide (i11<((List.length a2_:Nat):Int)))then((((idx a2_ i11).bind λa4=>
 (if(a4.Class !=7)then(some (b10,a5,a6))else((ZaH (λx:Bool×Int×(List Zay)=>ZiO N a0_ a1_ a2_ i11 a5 x.1 x.2.1 x.2.2) N (b10,0,a6)).bind λa1=>
 ((idx a2_ i11).bind λa3=>
 ((appI 8 a5 [a3.Period]).bind λa2=>
 (some (a1.1,a2,a1.2)))))))).bind λ(a0:Bool×(List Int)×(List Zay))=>
 (some (.inl (a0.1,(w64 (i11+1)),a0.2.1,a0.2.2))))else(some (.inr (b10,a5,a6))))
def ZiN (N:Nat)(a0:Bool×(List Int)×(List Zay))(a3:Int)(a6:Int)(a2:Int)(a1:Int):Option ((Int×Int)⊕((Int))):=
 (if(decide (a1<((List.length a0.2.2:Nat):Int)))then((((idx a0.2.2 a1).bind λa9=>
 (if(a9.Port==a6)then((idx a0.2.2 a1).bind λa8=>
 ((idx a0.2.1 a8.Stream).bind λa7=>
 ((quoI .i64 a3 a7).bind λa4=>
 (some (w64 (a2+a4))))))else(some a2)))).bind λ(a5:Int)=>
 (some (.inl (a5,(w64 (a1+1))))))else(some (.inr a2)))
def Zlq (N:Nat)(a0_:Zan)(a3:Bool×(List Int)×(List Zay))(a1:Int)(a0:Int):Option ((Int)⊕((Unit)⊕(Zap×Int))):=
 (if(decide (a0<(w64 (2*((List.length a0_.Links:Nat):Int)))))then((ZaH (λx:Int×Int=>ZiN N a3 a1 a0 x.1 x.2) N (0,0)).bind λa2=>
 (if(decide (a2>63))then(some (.inr (.inr ((Zap.mk ([]) ([])),7))))else(some (.inl (w64 (a0+1))))))else(some (.inr (.inl ()))))
def Zlp (N:Nat)(a0:Bool×(List Int)×(List Zay))(a2:Bool)(a1:Int):Option ((Bool×Int)⊕((Bool))):=
 (if(decide (a1<((List.length a0.2.2:Nat):Int)))then(((if a2 then(some true)else((idx a0.2.2 a1).bind λa6=>((idx a0.2.2 a1).bind λa5=>((idx a0.2.1 a5.Stream).bind λa4=>(if(decide (a6.Long>a4))then(some true)else(some false))))))).bind λ(a3:Bool)=>
 (some (.inl (a3,(w64 (a1+1))))))else(some (.inr a2)))
def Zkr (N:Nat)(a0_:Zan)(a1_:Zaq)(a2_:(List Zam)):Option (Zap×Int):=
 ((Zg3 N a0_).bind λr1=>
 (if(!r1)then(some ((Zap.mk ([]) ([])),260))else((ZiT N a1_).bind λr3=>
 (if(!r3)then(some ((Zap.mk ([]) ([])),320))else((ZfB N a0_ a2_).bind λr5=>
 (if(r5 !=0)then(some ((Zap.mk ([]) ([])),r5))else((ZaH (λx:Bool×Int×(List Int)×(List Zay)=>ZiP N a0_ a1_ a2_ x.1 x.2.1 x.2.2.1 x.2.2.2) N (false,0,[],[])).bind λa0=>
 ((Zg1 N a0.2.1).bind λa1=>
 (if(a1==0)then(some ((Zap.mk ([]) ([])),6))else((ZaH (λx:Int=>Zlq N a0_ a0 a1 x) N 0).bind λa4=>match a4 with
 |(.inl a5)=>((ZaH (λx:Bool×Int=>Zlp N a0 x.1 x.2) N (false,0)).bind λa3=>
 (if a3 then(some ((Zap.mk ([]) ([])),341))else(if a0.1 then(some ((Zap.mk ([]) ([])),342))else(some ((Zap.mk a0.2.1 a0.2.2),0)))))
 |(.inr a2)=>(some a2)))))))))))
def Zqb (N:Nat)(a4_:(List ZaF))(i5:Int):Option ((Int)⊕((Unit)⊕(Bool×Int))):=
 (if(decide (i5<((List.length a4_:Nat):Int)))then((idx a4_ i5).bind λa1=>
 ((ZtG N a1).bind λa0=>
 (if(!a0)then(some (.inr (.inr (false,370))))else(some (.inl (w64 (i5+1)))))))else(some (.inr (.inl ()))))
def Zqa (N:Nat)(a1_:Zaq)(a4_:(List ZaF))(r1:Zap×Int)(a0:Int):Option ((Int)⊕((Unit)⊕(Bool×Int))):=
 (if(decide (a0<((List.length a4_:Nat):Int)))then((idx a4_ a0).bind λa2=>
 ((Zg1 N r1.1.Periods).bind λa1=>
 (if(a2.Cycle !=(w64 (a1*a1_.Grid)))then(some (.inr (.inr (false,0))))else(some (.inl (w64 (a0+1)))))))else(some (.inr (.inl ()))))
def Zp9 (N:Nat)(a4_:(List ZaF))(a1:(List ZaO))(a0:Int):Option ((Int)⊕((Unit)⊕(Bool×Int))):=
 (if(decide (a0<((List.length a1:Nat):Int)))then((idx a1 a0).bind λa5=>
 ((idx a4_ a5.Port).bind λa4=>
 ((idx a1 a0).bind λa3=>
 ((ZsA N a4 a3).bind λa2=>
 (if(!a2)then(some (.inr (.inr (false,0))))else(some (.inl (w64 (a0+1)))))))))else(some (.inr (.inl ()))))
def Zyg (N:Nat)(a0_:Zan)(a1_:Zaq)(a2_:(List Zam))(a3_:(List Int))(a4_:(List ZaF)):Option (Bool×Int):=
 ((Zkr N a0_ a1_ a2_).bind λr1=>
 (if(r1.2 !=0)then(some (false,r1.2))else((Ze5 N r1.1 a3_).bind λr3=>
 (if(!r3)then(some (false,2))else((ZaH (λx:Int=>Zqb N a4_ x) N 0).bind λa6=>match a6 with
 |(.inl a9)=>(if(((List.length a4_:Nat):Int)!=(w64 (2*((List.length a0_.Links:Nat):Int))))then(some (false,0))else((ZaH (λx:Int=>Zqa N a1_ a4_ r1 x) N 0).bind λa5=>match a5 with
 |(.inl a8)=>((Ze3 N a0_ a1_ a2_ a3_).bind λa0=>
 ((ZaH (λx:Int=>Zp9 N a4_ a0 x) N 0).bind λa4=>match a4 with
 |(.inl a7)=>(some (true,0))
 |(.inr a3)=>(some a3)))
 |(.inr a2)=>(some a2)))
 |(.inr a1)=>(some a1))))))
def Zf8 (N:Nat)(a0_:Zan)(a1_:(List Zcc))(i3:Int)(l4:(List Zam)):Option ((Int×(List Zam))⊕(((List Zam)))):=
 (((if(decide (i3<((List.length a1_:Nat):Int)))then(some (decide (((List.length l4:Nat):Int)<6)))else(some false))).bind λ(a4:Bool)=>
 (if a4 then((((idx a1_ i3).bind λa3=>
 ((ZdS N a3 a0_ (w64 (((List.length l4:Nat):Int)+1))).bind λa0=>
 (if a0.2 then((appI 96 l4 [a0.1]).bind λa1=>
 (some a1))else(some l4))))).bind λ(a2:(List Zam))=>
 (some (.inl ((w64 (i3+1)),a2))))else(some (.inr l4))))
def Zgw (N:Nat)(a0_:Zan)(a1_:(List Zcc)):Option ((List Zam)):=
 ((ZaH (λx:Int×(List Zam)=>Zf8 N a0_ a1_ x.1 x.2) N (0,[])).bind λa0=>
 (some a0))
def ZiK (N:Nat)(a0_:Zap)(a1_:Int):Option ((List Int)×(List Zb2)×Int):=
 ((ZiM N a0_).bind λr1=>
 (if(!r1)then(some ([],[],340))else(if((decide (a1_<0))||(decide (a1_≥2000)))then(some ([],[],2))else(if(((List.length a0_.Periods:Nat):Int)==0)then(some ([],[],0))else((ZgX N a0_ (ZaT.mk ([]) ([]) 0) ([]) a1_).bind λr7=>
 (if(r7.What==1)then(some (r7.Offsets,[],0))else(if(r7.What==2)then(some ([],[],8))else(some ([],r7.Proof,4)))))))))
def Zcf (N:Nat)(a0_:ZbC)(i5:Int)(m5:(List (Int×(List Zay)))):Option ((Int×(List (Int×(List Zay))))⊕((List (Int×(List Zay))))):=
 (if(decide (i5<((List.length a0_.Problem.Uses:Nat):Int)))then((idx a0_.Problem.Uses i5).bind λa0=>
 ((appI 32 (ZhZ m5 a0.Port []) [a0]).bind λa1=>
 (some (.inl ((w64 (i5+1)),(Zd2 m5 a0.Port a1))))))else(some (.inr m5)))
def Zce (N:Nat)(a0_:ZbC)(r2:Int×Int)(us_:(List Zay))(a2:Int)(a0:Int):Option ((Int×Int)⊕((Int))):=
 (if(decide (a0<((List.length us_:Nat):Int)))then((idx us_ a0).bind λa4=>
 ((idx a0_.Problem.Periods a4.Stream).bind λa3=>
 ((quoI .i64 r2.1 a3).bind λa1=>
 (some (.inl ((w64 (a2+a1)),(w64 (a0+1))))))))else(some (.inr a2)))
def Zcm (N:Nat)(a0_:ZbC)(r2:Int×Int)(us_:(List Zay)):Option Bool:=
 ((ZaH (λx:Int×Int=>Zce N a0_ r2 us_ x.1 x.2) N (0,0)).bind λa0=>
 (some (decide (a0>63))))
def ZbR (N:Nat)(a0_:ZbC)(a0:Int):Option ((Int)⊕((Unit)⊕(Int))):=
 (if(decide (a0<((List.length a0_.Problem.Uses:Nat):Int)))then((idx a0_.Problem.Uses a0).bind λa1=>
 ((idx a0_.Problem.Periods a1.Stream).bind λa2=>
 (if(decide (a1.Long>a2))then(some (.inr (.inr 341)))else(some (.inl (w64 (a0+1)))))))else(some (.inr (.inl ()))))
def ZdA (N:Nat)(a0_:ZbC):Option (Int):=
 ((Zfm N a0_.Problem.Periods).bind λr2=>
 (if(r2.2 !=0)then(some r2.2)else((ZaH (λx:Int×(List (Int×(List Zay)))=>Zcf N a0_ x.1 x.2) N (0,[])).bind λa3=>
 ((rgF (Zcm N a0_ r2) a3).bind λa2=>
 (if a2 then(some 7)else((ZaH (λx:Int=>ZbR N a0_ x) N 0).bind λa1=>match a1 with
 |(.inl a4)=>(if a0_.late then(some 342)else(some 0))
 |(.inr a0)=>(some a0)))))))
def Zi6 (N:Nat)(a0_:Zap)(i4:Int):Option ((Int)⊕((Unit)⊕(Int))):=
 (if(decide (i4<((List.length a0_.Periods:Nat):Int)))then((idx a0_.Periods i4).bind λa0=>
 (if((decide (a0<1))||(decide (a0>240)))then(some (.inr (.inr 340)))else(some (.inl (w64 (i4+1))))))else(some (.inr (.inl ()))))
def Zi5 (N:Nat)(a0_:Zap)(a2:Int):Option ((Int)⊕((Unit)⊕(Int))):=
 (if(decide (a2<((List.length a0_.Uses:Nat):Int)))then((idx a0_.Uses a2).bind λa0=>
 (if((decide (a0.Stream<0))||((decide (a0.Stream≥((List.length a0_.Periods:Nat):Int)))||((decide (a0.Port<0))||(decide (a0.Port≥48)))))then(some (.inr (.inr 340)))else((idx a0_.Periods a0.Stream).bind λa1=>
 (if((decide (a0.From<0))||((decide (a0.From≥a1))||((decide (a0.Long<1))||(decide (a0.Long>a1)))))then(some (.inr (.inr 340)))else(some (.inl (w64 (a2+1))))))))else(some (.inr (.inl ()))))
def Zig (N:Nat)(a0_:Zap):Option (Int):=
 (if((decide (((List.length a0_.Periods:Nat):Int)>12))||(decide (((List.length a0_.Uses:Nat):Int)>192)))then(some 340)else((ZaH (λx:Int=>Zi6 N a0_ x) N 0).bind λa4=>match a4 with
 |(.inl a6)=>((Zfm N a0_.Periods).bind λa3=>
 (if(a3.2 !=0)then(some 340)else((ZaH (λx:Int=>Zi5 N a0_ x) N 0).bind λa2=>match a2 with
 |(.inl a5)=>(some 0)
 |(.inr a1)=>(some a1))))
 |(.inr a0)=>(some a0)))
def Zb4 (N:Nat)(a0_:Zap)(a2_:Int)(a4_:Int)(b18:Bool)(x16:Zay)(x17:Zay):Option ((Bool)×Nat):=
 (if((x16.Stream==x17.Stream)&&((x16.Port==x17.Port)&&((x16.From==x17.From)&&((x16.Long==x17.Long)&&true))))then(some (true,1))else((Ze9 N a0_ x16 a2_).bind λa2=>
 ((Ze9 N a0_ x17 a4_).bind λa1=>
 ((Zgt N a2 a1).bind λa0=>
 (if(!a0.1)then(some (true,1))else(some (b18,0)))))))
def Zgz (N:Nat)(a0_:Zap)(a1_:Int)(a2_:Int)(a3_:Int)(a4_:Int):Option (Bool):=
 ((Zku N a0_ a1_ a3_).bind λa1=>
 ((ZhD N (λ(s:(Bool)×Nat) (x16:Zay) (x17:Zay)=>Zgc (λv:Bool=>Zb4 N a0_ a2_ a4_ v x16 x17) s) a1.1 a1.2.1 a1.2.2 (false,0)).bind λa0=>
 (if(a0.2==0)then(some false)else(if(a0.2==1)then(some a0.1)else none))))
def ZdG (N:Nat)(a0_:Zan)(a1_:(List Int))(a2_:Zbc->Option (Bool×Int)):Option (Bool×Int):=
 ((ZeJ N a0_ a1_).bind λr1=>
 (if(r1 !=0)then(some (false,r1))else((a2_ (Zbc.mk a0_)).bind λr3=>
 (some (r3.1,r3.2)))))
def ZeI (N:Nat)(a0_:Zan)(a1_:(List Int)):Option ((List Int)×Int):=
 ((ZdH N a0_ a1_ (λx0=>Ze2 N x0 a1_)).bind λr4=>
 (some (r4.1,r4.2)))
def Zfe (N:Nat)(a0_:Zfn):Option (Zan×Zaq×(List Zam)×(List Int)):=
 ((Zdz N a0_.T).bind λr1=>
 ((ZiS N a0_.U.x0 a0_.U.x1 a0_.U.x2).bind λr2=>
 ((Zgw N r1 a0_.L).bind λr3=>
 ((Zkr N r1 r2 r3).bind λr4=>
 (if(r4.2 !=0)then(some (r1,r2,r3,[]))else(if a0_.Find then((ZiK N r4.1 40).bind λr7=>
 (if(r7.2.2==0)then(some (r1,r2,r3,r7.1))else((Zia N r4.1 a0_.Some).bind λr9=>
 (some (r1,r2,r3,r9)))))else((Zia N r4.1 a0_.Some).bind λa0=>
 (some (r1,r2,r3,a0)))))))))
def ZeL (N:Nat)(a0_:Zan)(a1_:Zaq)(a2_:(List Zam))(a3_:(List Int)):Option ((List ZaF)×Int):=
 ((Zkr N a0_ a1_ a2_).bind λr1=>
 (if(r1.2 !=0)then(some ([],r1.2))else((Ze5 N r1.1 a3_).bind λr3=>
 (if(!r3)then(some ([],2))else((ZhA N r1.1 a3_).bind λr5=>
 (if(!r5)then(some ([],380))else((Zg1 N r1.1.Periods).bind λr7=>
 ((ZoP N a0_ a1_ a2_ a3_ r7).bind λr8=>
 (some (r8,0))))))))))
def Zj3 (N:Nat)(a0_:Zap)(a1_:(List Int))(i4:Int):Option ((Int)⊕((Unit)⊕(Bool×Int))):=
 (if(decide (i4<((List.length a1_:Nat):Int)))then((idx a1_ i4).bind λa1=>
 ((Zi1 N a0_ i4 a1).bind λa0=>
 (if(!a0)then(some (.inr (.inr (false,2))))else(some (.inl (w64 (i4+1)))))))else(some (.inr (.inl ()))))
def Zj1 (N:Nat)(a0_:Zap)(a5:Int)(a4:Int)(a1:List Int)(a0:Int):Option ((Int)⊕((Unit)⊕(Bool×Int))):=
 (if(decide (a0<((List.length a1:Nat):Int)))then((idx a1 a0).bind λa3=>
 ((Zgz N a0_ a0 a3 a5 a4).bind λa2=>
 (if a2 then(some (.inr (.inr (false,0))))else(some (.inl (w64 (a0+1)))))))else(some (.inr (.inl ()))))
def Zj2 (N:Nat)(a0_:Zap)(a1_:(List Int))(a0:Int):Option ((Int)⊕((Unit)⊕(Bool×Int))):=
 (if(decide (a0<((List.length a1_:Nat):Int)))then((idx a1_ a0).bind λa4=>
 ((subI a1_ 0 (w64 (a0+1))).bind λa3=>
 ((ZaH (λx:Int=>Zj1 N a0_ a0 a4 a3 x) N 0).bind λa2=>match a2 with
 |(.inl a5)=>(some (.inl (w64 (a0+1))))
 |(.inr a1)=>(some (.inr (.inr a1))))))else(some (.inr (.inl ()))))
def Zj4 (N:Nat)(a0_:Zap)(a1_:(List Int)):Option (Bool×Int):=
 ((Zig N a0_).bind λr1=>
 (if(r1 !=0)then(some (false,r1))else(if(((List.length a1_:Nat):Int)!=((List.length a0_.Periods:Nat):Int))then(some (false,2))else((ZaH (λx:Int=>Zj3 N a0_ a1_ x) N 0).bind λa3=>match a3 with
 |(.inl a5)=>((ZaH (λx:Int=>Zj2 N a0_ a1_ x) N 0).bind λa2=>match a2 with
 |(.inl a4)=>(some (true,0))
 |(.inr a1)=>(some a1))
 |(.inr a0)=>(some a0)))))
def Zif (N:Nat)(a0_:Zap):Option (Int×Int):=
 ((Zig N a0_).bind λr1=>
 (if(r1 !=0)then(some (0,r1))else((Zfm N a0_.Periods).bind λr3=>
 (some (r3.1,r3.2)))))
def ZeK (N:Nat)(a0_:Zan)(a1_:(List Int))(a2_:(List Int)):Option (Bool×Int):=
 ((ZdG N a0_ a1_ (λx0=>Zeb N x0 a2_ a1_)).bind λr6=>
 (some (r6.1,r6.2)))
def ZeO (N:Nat)(a0_:Zan)(a1_:(List Int)):Option (Int×Int×Int):=
 ((ZeI N a0_ a1_).bind λr1=>
 (if(r1.2 !=0)then(some (0,0,r1.2))else((idx r1.1 0).bind λe3=>
 ((idx r1.1 (w64 (((List.length r1.1:Nat):Int)-1))).bind λe4=>
 (some (e3,e4,0))))))
def Zhr (N:Nat)(a0_:Zan)(a1_:(List Int))(a2_:Int)(a3_:Int):Option (Bool):=
 ((ZeO N a0_ a1_).bind λr1=>
 (some ((r1.2.2==0)&&((r1.1==a2_)&&(r1.2.1==a3_)))))
def Zeq (N:Nat)(c0_:Zam)(c1_:Zan):Option (Bool):=
 (if(decide (((List.length c0_.Routes:Nat):Int)<2))then(some true)else((idx c0_.Routes 0).bind λe5=>
 ((idx c0_.Routes 1).bind λe7=>
 ((ZeK N c1_ e5 e7).bind λr8=>
 (some ((r8.2==0)&&r8.1))))))
def Zea (N:Nat)(c0_:Zam)(c1_:Zan)(i2:Int):Option ((Int)⊕((Unit)⊕(Bool))):=
 (if(decide (i2<((List.length c0_.Routes:Nat):Int)))then((idx c0_.Routes i2).bind λa1=>
 ((Zhr N c1_ a1 c0_.Talker c0_.Listener).bind λa0=>
 (if(!a0)then(some (.inr (.inr false)))else(some (.inl (w64 (i2+1)))))))else(some (.inr (.inl ()))))
def Zer (N:Nat)(c0_:Zam)(c1_:Zan):Option (Bool):=
 ((ZaH (λx:Int=>Zea N c0_ c1_ x) N 0).bind λa1=>match a1 with
 |(.inl a2)=>(some true)
 |(.inr a0)=>(some a0))
def ZfP (N:Nat)(a0_:Zan)(a1_:Zam):Option (Bool):=
 ((Zfv N a1_).bind λr8=>
 (if(!r8)then(some false)else((Zfu N a0_ a1_).bind λa6=>
 (if(!a6)then(some false)else((Zft N a1_).bind λa5=>
 (if(!a5)then(some false)else((Zfs N a1_).bind λa4=>
 (if(!a4)then(some false)else((Zes N a1_).bind λa3=>
 (if(!a3)then(some false)else((Zfr N a1_).bind λa2=>
 (if(!a2)then(some false)else((Zer N a1_ a0_).bind λa1=>
 (if(!a1)then(some false)else((Zeq N a1_ a0_).bind λa0=>
 (if(!a0)then(some false)else(some true)))))))))))))))))
def Zh5 (N:Nat)(a0_:Zan)(a1_:Zaq)(a2_:Zam)(a3_:Int):Option (Int):=
 ((ZgJ N a0_).bind λr1=>
 (if(r1 !=0)then(some r1)else((Zc3 N a1_).bind λr3=>
 (if(r3 !=0)then(some r3)else((ZfP N a0_ a2_).bind λr5=>
 (if(!r5)then(some 321)else(((if(a2_.Class !=7)then(some true)else((Zbw N a3_ 0 (w64 (((List.length a2_.Routes:Nat):Int)-1))).bind λr9=>(some (!r9))))).bind λ(a0:Bool)=>
 (if a0 then(some 2)else(some 0)))))))))
def ZdQ (N:Nat)(a0_:Zan)(a1_:(List Zam))(i4:Int):Option ((Int)⊕((Unit)⊕(Int))):=
 (if(decide (i4<((List.length a1_:Nat):Int)))then((idx a1_ i4).bind λa1=>
 ((ZfP N a0_ a1).bind λa0=>
 (if(!a0)then(some (.inr (.inr 321)))else(some (.inl (w64 (i4+1)))))))else(some (.inr (.inl ()))))
def ZbA (N:Nat)(a1_:(List Zam))(a1:Int)(a2:(List (Int×Bool))):Option ((Int×(List (Int×Bool)))⊕((Unit)⊕(Int))):=
 (if(decide (a1<((List.length a1_:Nat):Int)))then((idx a1_ a1).bind λa0=>
 (if(ZhZ a2 a0.Id false)then(some (.inr (.inr 322)))else(some (.inl ((w64 (a1+1)),(Zd2 a2 a0.Id true))))))else(some (.inr (.inl ()))))
def ZdV (N:Nat)(a0_:Zan)(a1_:(List Zam)):Option (Int):=
 ((ZgJ N a0_).bind λr1=>
 (if(r1 !=0)then(some r1)else(if(decide (((List.length a1_:Nat):Int)>12))then(some 3)else((ZaH (λx:Int=>ZdQ N a0_ a1_ x) N 0).bind λa3=>match a3 with
 |(.inl a5)=>((ZaH (λx:Int×(List (Int×Bool))=>ZbA N a1_ x.1 x.2) N (0,[])).bind λa2=>match a2 with
 |(.inl a4)=>(some 0)
 |(.inr a1)=>(some a1))
 |(.inr a0)=>(some a0)))))
def Zcv (N:Nat)(a0_:Zan)(a1_:Zaq)(i22:Int)(x21:ZaP):Option (Int):=
 ((idx a0_.Links (w64 (Int.tdiv x21.Port 2))).bind λa0=>
 (some (w64 ((w64 ((w64 (x21.Open+x21.Long))+a0.Delay))+a1_.Proc))))
def Ziy (N:Nat)(a0_:Zan)(a1_:Zaq)(a2_:Zam)(a3_:Int):Option (Int×Int):=
 ((Zh5 N a0_ a1_ a2_ a3_).bind λr7=>
 (if(r7 !=0)then(some (0,r7))else((Zix N a0_ a1_ a2_ a3_).bind λa0=>
 ((Zdm N (λ(s:Int) (x21:ZaP)=>ZdP (λv:Int=>Zcv N a0_ a1_ v x21) s) a0.1 a0.2.1 a0.2.2.1 a0.2.2.2 0).bind λa1=>
 (some (a1,0))))))
def Zcw (N:Nat)(a1:(List ZaP))(x12:ZaP):Option ((List ZaP)):=
 ((appI 40 a1 [x12]).bind λa0=>
 (some a0))
def ZgO (N:Nat)(a0_:Zan)(a1_:Zaq)(a2_:Zam)(a3_:Int):Option ((List ZaP)×Int):=
 ((Zh5 N a0_ a1_ a2_ a3_).bind λr1=>
 (if(r1 !=0)then(some ([],r1))else((Zix N a0_ a1_ a2_ a3_).bind λr5=>
 ((Zdm N (λ(s:(List ZaP)) (x12:ZaP)=>ZdP (λv:(List ZaP)=>Zcw N v x12) s) r5.1 r5.2.1 r5.2.2.1 r5.2.2.2 []).bind λa0=>
 (some (a0,0))))))
def Zfk (N:Nat)(a0_:ZbC)(a2_:Zaq)(a3_:Zam)(a3:(List ZaP)×Int)(a2:Int)(a6:(List Zay)):Option ((Int×(List Zay))⊕(((List Zay)))):=
 (if(decide (a2<((List.length a3.1:Nat):Int)))then((idx a3.1 a2).bind λa0=>
 ((Zeh N a0.Early a2_.Grid).bind λa1=>
 ((Zeh N (w64 ((w64 ((w64 (a0.Open+a0.Long))+a2_.Grid))-1)) a2_.Grid).bind λa5=>
 ((Zeh N a1 a3_.Period).bind λa4=>
 ((appI 32 a6 [(Zay.mk ((List.length a0_.Problem.Periods:Nat):Int) a0.Port (w64 (a1-(w64 (a4*a3_.Period)))) (w64 (a5-a1)))]).bind λa7=>
 (some (.inl ((w64 (a2+1)),a7))))))))else(some (.inr a6)))
def Zfl (N:Nat)(a0_:ZbC)(a1_:Zan)(a2_:Zaq)(a3_:Zam)(l6:List Int)(i11:Int)(b12:Bool)(a4:(List Zay)):Option ((Int×Bool×(List Zay))⊕((Bool×(List Zay))⊕(Int×ZbC))):=
 (if(decide (i11<((List.length a3_.Routes:Nat):Int)))then((ZgO N a1_ a2_ a3_ i11).bind λa2=>
 (if(a2.2 !=0)then(some (.inr (.inr (a2.2,(ZbC.mk (Zap.mk l6 a4) b12)))))else((ZaH (λx:Int×(List Zay)=>Zfk N a0_ a2_ a3_ a2 x.1 x.2) N (0,a4)).bind λa1=>
 ((Ziy N a1_ a2_ a3_ i11).bind λa0=>
 (if(a0.2 !=0)then(some (.inr (.inr (a0.2,(ZbC.mk (Zap.mk l6 a1) b12)))))else(((if b12 then(some true)else(some (decide ((w64 (a0.1+(w64 (2*a2_.Slack))))>a3_.Deadline))))).bind λ(a3:Bool)=>
 (some (.inl ((w64 (i11+1)),a3,a1)))))))))else(some (.inr (.inl (b12,a4)))))
def ZfJ (N:Nat)(a0_:ZbC)(a1_:Zan)(a2_:Zaq)(a3_:Zam):Option (Int×ZbC):=
 ((appI 8 a0_.Problem.Periods [a3_.Period]).bind λl6=>
 ((ZaH (λx:Int×Bool×(List Zay)=>Zfl N a0_ a1_ a2_ a3_ l6 x.1 x.2.1 x.2.2) N (0,a0_.late,a0_.Problem.Uses)).bind λa2=>match a2 with
 |(.inl a0)=>(some (0,(ZbC.mk (Zap.mk l6 a0.2) a0.1)))
 |(.inr a1)=>(some a1)))
def ZbJ {σ:Type}(N:Nat)(y_:σ->Za2->Option (σ×Bool))(c3_:Zaq)(a6:Zam)(a5:Int)(a3:(List ZaP)×Int)(a1:Int)(a4:σ):Option ((Int×σ)⊕((σ)⊕(σ))):=
 (if(decide (a1<((List.length a3.1:Nat):Int)))then((idx a3.1 a1).bind λa2=>
 ((y_ a4 (Za2.mk a2.Port (w64 (a2.Open+(w64 (a5*c3_.Grid)))) a2.Long (w64 (a6.Period*c3_.Grid)))).bind λa0=>
 (if(!a0.2)then(some (.inr (.inr a0.1)))else(some (.inl ((w64 (a1+1)),a0.1))))))else(some (.inr (.inl a4))))
def ZbK {σ:Type}(N:Nat)(y_:σ->Za2->Option (σ×Bool))(c2_:Zan)(c3_:Zaq)(a1:Zam)(a7:Int)(a0:Int)(a6:σ):Option ((Int×σ)⊕((σ)⊕(σ))):=
 (if(decide (a0<((List.length a1.Routes:Nat):Int)))then((ZgO N c2_ c3_ a1 a0).bind λa2=>
 ((ZaH (λx:Int×σ=>ZbJ N y_ c3_ a1 a7 a2 x.1 x.2) N (0,a6)).bind λa5=>match a5 with
 |(.inl a4)=>(some (.inl ((w64 (a0+1)),a4)))
 |(.inr a3)=>(some (.inr (.inr a3)))))else(some (.inr (.inl a6))))
def Zci {σ:Type}(N:Nat)(y_:σ->Za2->Option (σ×Bool))(c0_:(List Zam))(c1_:(List Int))(c2_:Zan)(c3_:Zaq)(i4:Int)(i5:Int)(g6:σ):Option ((Int×Int×σ)⊕((σ)⊕(σ))):=
 (if(decide (i5<((List.length c0_:Nat):Int)))then((idx c0_ i5).bind λa3=>
 (if(a3.Class !=7)then(some (.inl (i4,(w64 (i5+1)),g6)))else((idx c1_ i4).bind λa4=>
 ((ZaH (λx:Int×σ=>ZbK N y_ c2_ c3_ a3 a4 x.1 x.2) N (0,g6)).bind λa2=>match a2 with
 |(.inl a1)=>(some (.inl ((w64 (i4+1)),(w64 (i5+1)),a1)))
 |(.inr a0)=>(some (.inr (.inr a0)))))))else(some (.inr (.inl g6))))
def ZdU {σ:Type}(N:Nat)(y_:σ->Za2->Option (σ×Bool))(c0_:(List Zam))(c1_:(List Int))(c2_:Zan)(c3_:Zaq)(s_:σ):Option (σ):=
 ((ZaH (λx:Int×Int×σ=>Zci N y_ c0_ c1_ c2_ c3_ x.1 x.2.1 x.2.2) N (0,0,s_)).bind λa2=>match a2 with
 |(.inl a1)=>(some a1)
 |(.inr a0)=>(some a0))
def Zkv (N:Nat)(a0_:Zan)(a1_:Zaq)(a2_:(List Zam))(i12:Int)(b13:Bool)(a3:(List Int))(a2:(List Zay)):Option ((Int×Bool×(List Int)×(List Zay))⊕((Bool×(List Int)×(List Zay))⊕(Zap×Int))):=
 (if(decide (i12<((List.length a2_:Nat):Int)))then((idx a2_ i12).bind λa1=>
 (if(a1.Class !=7)then(some (.inl ((w64 (i12+1)),b13,a3,a2)))else((ZfJ N (ZbC.mk (Zap.mk a3 a2) b13) a0_ a1_ a1).bind λa0=>
 (if(a0.1 !=0)then(some (.inr (.inr ((Zap.mk ([]) ([])),a0.1))))else(some (.inl ((w64 (i12+1)),a0.2.late,a0.2.Problem.Periods,a0.2.Problem.Uses)))))))else(some (.inr (.inl (b13,a3,a2)))))
def Zpa (N:Nat)(a0_:Zan)(a1_:Zaq)(a2_:(List Zam)):Option (Zap×Int):=
 ((ZdV N a0_ ([])).bind λr1=>
 (if(r1 !=0)then(some ((Zap.mk ([]) ([])),r1))else((Zc3 N a1_).bind λr3=>
 (if(r3 !=0)then(some ((Zap.mk ([]) ([])),r3))else((ZdV N a0_ a2_).bind λr5=>
 (if(r5 !=0)then(some ((Zap.mk ([]) ([])),r5))else((ZaH (λx:Int×Bool×(List Int)×(List Zay)=>Zkv N a0_ a1_ a2_ x.1 x.2.1 x.2.2.1 x.2.2.2) N (0,false,[],[])).bind λa3=>match a3 with
 |(.inl a0)=>((ZdA N (ZbC.mk (Zap.mk a0.2.1 a0.2.2) a0.1)).bind λa1=>
 (if(a1 !=0)then(some ((Zap.mk ([]) ([])),a1))else(some ((Zap.mk a0.2.1 a0.2.2),0))))
 |(.inr a2)=>(some a2))))))))
def ZcU (N:Nat)(r9:Int×Int)(a2:List (List Bool))(i25:Int)(a1:(List (List Bool))):Option ((Int×(List (List Bool)))⊕(((List (List Bool))))):=
 (if(decide (i25<((List.length a2:Nat):Int)))then((Zhe 1 r9.1 r9.1 false).bind λa0=>
 ((idx a1 i25).bind λa3=>
 (some (.inl ((w64 (i25+1)),(List.set a1 (Int.toNat i25) a0))))))else(some (.inr a1)))
def ZcS (N:Nat)(r9:Int×Int)(a2:Int)(a6:Int)(a5:Int)(a1:Int)(a0:(List (List Bool))):Option ((Int×(List (List Bool)))⊕(((List (List Bool))))):=
 (if(decide (a1<a5))then((idx a0 a2).bind λa4=>
 ((remI (w64 (a6+a1)) r9.1).bind λa3=>
 ((idx a4 a3).bind λa7=>
 (some (.inl ((w64 (a1+1)),(List.set a0 (Int.toNat a2) (List.set a4 (Int.toNat a3) true))))))))else(some (.inr a0)))
def ZdF (N:Nat)(r9:Int×Int)(a4:(List (List Bool)))(a2:Int)(a1:Int)(a0:Int):Option (((List (List Bool)))):=
 ((ZaH (λx:Int×(List (List Bool))=>ZcS N r9 a2 a1 a0 x.1 x.2) N (0,a4)).bind λa3=>
 (some a3))
def ZcT (N:Nat)(a1_:Zaq)(r9:Int×Int)(a2:Za2)(a8:Int)(a0:Int)(a1:(List (List Bool))):Option ((Int×(List (List Bool)))⊕(((List (List Bool))))):=
 (if(decide (a0<(w64 (a2.from_+(w64 (r9.1*a1_.Grid))))))then((quoI .i64 a0 a1_.Grid).bind λa7=>
 (((λ(s:(List (List Bool))) (a5:Int) (a4:Int) (a3:Int)=>ZdF N r9 s a5 a4 a3) a1 a2.port a7 a8).bind λa6=>
 (some (.inl ((w64 (a0+a2.period)),a6)))))else(some (.inr a1)))
def Zcu (N:Nat)(a1_:Zaq)(r9:Int×Int)(a3:(List (List Bool)))(a0:Za2):Option ((List (List Bool))):=
 ((quoI .i64 (w64 ((w64 (a0.long+a1_.Grid))-1)) a1_.Grid).bind λa1=>
 ((ZaH (λx:Int×(List (List Bool))=>ZcT N a1_ r9 a0 a1 x.1 x.2) N (a0.from_,a3)).bind λa2=>
 (some a2)))
def ZcR (N:Nat)(a1_:Zaq)(a3:(List (List Bool)))(a4:List ZaF)(a0:Int)(a1:(List ZaF)):Option ((Int×(List ZaF))⊕(((List ZaF)))):=
 (if(decide (a0<((List.length a4:Nat):Int)))then((idx a3 a0).bind λa5=>
 ((Zkn N a5 a1_.Grid).bind λa2=>
 ((idx a1 a0).bind λa6=>
 (some (.inl ((w64 (a0+1)),(List.set a1 (Int.toNat a0) a2)))))))else(some (.inr a1)))
def ZcV (N:Nat)(a0_:Zan)(a1_:Zaq)(a2_:(List Zam))(a3_:(List Int)):Option ((List ZaF)×Int):=
 ((Zpa N a0_ a1_ a2_).bind λr4=>
 (if(r4.2 !=0)then(some ([],r4.2))else((Zj4 N r4.1 a3_).bind λr6=>
 (if(r6.2 !=0)then(some ([],r6.2))else(if(!r6.1)then(some ([],380))else((Zif N r4.1).bind λr9=>
 (if(r9.2 !=0)then(some ([],r9.2))else((famI 24 (w64 (2*((List.length a0_.Links:Nat):Int)))).bind λa6=>
 ((ZaH (λx:Int×(List (List Bool))=>ZcU N r9 a6 x.1 x.2) N (0,a6)).bind λa5=>
 ((ZeZ N a0_ a1_ a2_ a3_).bind λa1=>
 ((ZdU N (λ(s:(List (List Bool))) (a4:Za2)=>ZdP (λv:(List (List Bool))=>Zcu N a1_ r9 v a4) s) a1.1 a1.2.1 a1.2.2.1 a1.2.2.2 a5).bind λa0=>
 ((Zhe 32 ((List.length a0:Nat):Int) ((List.length a0:Nat):Int) (ZaF.mk ([]) 0)).bind λa2=>
 ((ZaH (λx:Int×(List ZaF)=>ZcR N a1_ a0 a2 x.1 x.2) N (0,a2)).bind λa3=>
 (some (a3,0)))))))))))))))
def ZpW (N:Nat)(a4_:(List ZaF))(i19:Int):Option ((Int)⊕((Unit)⊕(Bool×Int))):=
 (if(decide (i19<((List.length a4_:Nat):Int)))then((idx a4_ i19).bind λa1=>
 ((ZlC N a1).bind λa0=>
 (if(a0 !=0)then(some (.inr (.inr (false,a0))))else(some (.inl (w64 (i19+1)))))))else(some (.inr (.inl ()))))
def ZpV (N:Nat)(a1_:Zaq)(a4_:(List ZaF))(a2:Int×Int)(a0:Int):Option ((Int)⊕((Unit)⊕(Bool×Int))):=
 (if(decide (a0<((List.length a4_:Nat):Int)))then((idx a4_ a0).bind λa1=>
 (if(a1.Cycle !=(w64 (a2.1*a1_.Grid)))then(some (.inr (.inr (false,0))))else(some (.inl (w64 (a0+1))))))else(some (.inr (.inl ()))))
def Zfq (N:Nat)(a1_:Zaq)(a4_:(List ZaF))(a4:Int×Int)(a0:Za2)(a1:Int):Option ((Int)⊕((Unit)⊕(Unit))):=
 (if(decide (a1<(w64 (a0.from_+(w64 (a4.1*a1_.Grid))))))then((idx a4_ a0.port).bind λa3=>
 ((Znh N a3 a1 a0.long).bind λa2=>
 (if(!a2)then(some (.inr (.inr ())))else(some (.inl (w64 (a1+a0.period)))))))else(some (.inr (.inl ()))))
def Zep (N:Nat)(a1_:Zaq)(a4_:(List ZaF))(a2:Int×Int)(a0:Za2):Option ((Unit)×Nat):=
 ((ZaH (λx:Int=>Zfq N a1_ a4_ a2 a0 x) N a0.from_).bind λa1=>match a1 with
 |(.inl a4)=>(some ((),0))
 |(.inr a3)=>(some ((),1)))
def Ziv (N:Nat)(a0_:Zan)(a1_:Zaq)(a2_:(List Zam))(a3_:(List Int))(a4_:(List ZaF)):Option (Bool×Int):=
 ((Zpa N a0_ a1_ a2_).bind λa7=>
 (if(a7.2 !=0)then(some (false,a7.2))else((Zj4 N a7.1 a3_).bind λa9=>
 (if(a9.2 !=0)then(some (false,a9.2))else((ZaH (λx:Int=>ZpW N a4_ x) N 0).bind λa8=>match a8 with
 |(.inl ab)=>((Zif N a7.1).bind λa1=>
 (if(a1.2 !=0)then(some (false,a1.2))else(if(((List.length a4_:Nat):Int)!=(w64 (2*((List.length a0_.Links:Nat):Int))))then(some (false,0))else((ZaH (λx:Int=>ZpV N a1_ a4_ a1 x) N 0).bind λa6=>match a6 with
 |(.inl aa)=>((ZeZ N a0_ a1_ a2_ a3_).bind λa0=>
 ((ZdU N (λ(s:(Unit)×Nat) (a3:Za2)=>Zgc (λv:Unit=>Zep N a1_ a4_ a1 a3) s) a0.1 a0.2.1 a0.2.2.1 a0.2.2.2 ((),0)).bind λa2=>
 (if(a2.2==0)then(some (true,0))else(if(a2.2==1)then(some (false,0))else none))))
 |(.inr a5)=>(some a5)))))
 |(.inr a4)=>(some a4))))))
def Zi9 (N:Nat):Option (Bool):=
 ((ZqM N).bind λr1=>
 ((Zpq N).bind λr2=>
 ((Zfd N 1 20).bind λr3=>
 ((ZcV N r1 r2 ([r3]) ([15])).bind λr4=>
 ((Zik N ([128,300,127,1200,128,500])).bind λr5=>
 ((Zik N ([127,2000])).bind λr6=>
 ((Zik N ([127,400,128,800,127,800])).bind λr7=>
 ((Zik N ([127,2000])).bind λr8=>
 ((ZcV N r1 r2 ([r3]) ([20])).bind λr9=>
 ((Zfd N 1 40).bind λa6=>
 ((Zfd N 2 40).bind λa5=>
 ((ZcV N r1 r2 ([a6,a5]) ([0,1])).bind λa4=>
 (((if(r4.2 !=0)then(some true)else((Zed N r4.1 ([r5,r6,r7,r8])).bind λa3=>(some (!a3))))).bind λ(a8:Bool)=>
 (if a8 then(some false)else((Ziv N r1 r2 ([r3]) ([15]) r4.1).bind λa2=>
 ((Ziv N r1 r2 ([r3]) ([14]) r4.1).bind λa1=>
 ((subI r4.1 0 3).bind λa7=>
 ((Ziv N r1 r2 ([r3]) ([15]) a7).bind λa0=>
 (some ((r9.2==2)&&((a4.2==380)&&(a2.1&&((a2.2==0)&&((!a1.1)&&((a1.2==0)&&((!a0.1)&&(a0.2==0)))))))))))))))))))))))))))
def Zga (N:Nat)(a0_:Zfn)(a1_:(List Int))(a2_:Int):Option (Bool):=
 ((Zfe N a0_).bind λr1=>
 ((ZcV N r1.1 r1.2.1 r1.2.2.1 r1.2.2.2).bind λr2=>
 ((ZeL N r1.1 r1.2.1 r1.2.2.1 r1.2.2.2).bind λr3=>
 (((if(r2.2 !=r3.2)then(some true)else((Zed N r2.1 r3.1).bind λr6=>(some (!r6))))).bind λ(j7:Bool)=>
 (if j7 then(some false)else((ZcV N r1.1 r1.2.1 r1.2.2.1 a1_).bind λr9=>
 ((ZeL N r1.1 r1.2.1 r1.2.2.1 a1_).bind λa4=>
 (((if(r9.2 !=a4.2)then(some true)else((Zed N r9.1 a4.1).bind λa8=>(some (!a8))))).bind λ(ab:Bool)=>
 (if ab then(some false)else((ZcV N r1.1 (Zaq.mk a2_ r1.2.1.Slack r1.2.1.Proc r1.2.1.Cap) r1.2.2.1 r1.2.2.2).bind λa3=>
 ((ZeL N r1.1 (Zaq.mk a2_ r1.2.1.Slack r1.2.1.Proc r1.2.1.Cap) r1.2.2.1 r1.2.2.2).bind λa2=>
 (((if(a3.2 !=a2.2)then(some true)else((Zed N a3.1 a2.1).bind λa7=>(some (!a7))))).bind λ(aa:Bool)=>
 (if aa then(some false)else((ZcV N r1.1 (Zaq.mk a2_ r1.2.1.Slack r1.2.1.Proc r1.2.1.Cap) r1.2.2.1 a1_).bind λa1=>
 ((ZeL N r1.1 (Zaq.mk a2_ r1.2.1.Slack r1.2.1.Proc r1.2.1.Cap) r1.2.2.1 a1_).bind λa0=>
 (((if(a1.2 !=a0.2)then(some true)else((Zed N a1.1 a0.1).bind λa6=>(some (!a6))))).bind λ(a9:Bool)=>
 (if a9 then(some false)else((Zi9 N).bind λa5=>
 (some a5)))))))))))))))))))
end Go.Sh

