/-Part of the proof. -/
import Derived.Test.YtlajapegdomhfaaGreatSynthRoomE26
set_option linter.all false
namespace Go.Sh
open Go Go.Eng
set_option maxRecDepth 100000
structure ZbI where
 Bridges:Int
 Stations:Int
 Chords:(List Int)
 Homes:(List Int)
 Pers:(List Int)
 Delays:(List Int)
structure Zcl where
 Reserved:Bool
 Two:Bool
 Node:Int
 Way:Int
 Size:Int
 Period:Int
 Burst:Int
 Rate:Int
def Zet (v:Zcl):List PC:=[.bool v.Reserved,.bool v.Two,.int .u8 v.Node,.int .u8 v.Way,.int .u8 v.Size,.int .u8 v.Period,.int .u8 v.Burst,.int .u16 v.Rate]
structure ZxK where
 x0:Int
 x1:Int
 x2:Int
structure Zfz where
 T:ZbI
 L:(List Zcl)
 U:ZxK
 Some:(List Int)
 Find:Bool
def ZtY (v:Zfz):List PC:=[.int .u8 v.T.Bridges,.int .u8 v.T.Stations,.sl 1 false (List.map (eI .u8) v.T.Chords),.sl 1 false (List.map (eI .u8) v.T.Homes),.sl 1 false (List.map (eI .u8) v.T.Pers),.sl 1 false (List.map (eI .u8) v.T.Delays),.sl 8 false (List.map Zet v.L),.int .u8 v.U.x0,.int .u8 v.U.x1,.int .u8 v.U.x2,.sl 1 false (List.map (eI .u8) v.Some),.bool v.Find]
structure ZaF where
 Mask:Int
 Long:Int
def ZaQ (v:ZaF):List PC:=[.int .i64 v.Mask,.int .i64 v.Long]
structure ZaI where
 Entries:(List ZaF)
 Cycle:Int
def ZaU (v:ZaI):List PC:=[.sl 2 false (List.map ZaQ v.Entries),.int .i64 v.Cycle]
structure ZaR where
 A:Int
 B:Int
 Per:Int
 Delay:Int
def ZaE (v:ZaR):List PC:=[.int .i64 v.A,.int .i64 v.B,.int .i64 v.Per,.int .i64 v.Delay]
structure Zav where
 Nodes:Int
 Station:(List Bool)
 Links:(List ZaR)
structure Zay where
 Grid:Int
 Slack:Int
 Proc:Int
 Cap:Int
structure ZfD where
 Burst:Int
 Rate:Int
structure Zat where
 Id:Int
 Talker:Int
 Listener:Int
 Class:Int
 Size:Int
 Period:Int
 Bucket:ZfD
 Deadline:Int
 Routes:(List (List Int))
def ZaD (v:Zat):List PC:=[.int .i64 v.Id,.int .i64 v.Talker,.int .i64 v.Listener,.int .i64 v.Class,.int .i64 v.Size,.int .i64 v.Period,.int .i64 v.Bucket.Burst,.int .i64 v.Bucket.Rate,.int .i64 v.Deadline,.sl 1 false (List.map (eSl 1 eI64) v.Routes)]
structure ZaH where
 Stream:Int
 Port:Int
 From:Int
 Long:Int
def Zaz (v:ZaH):List PC:=[.int .i64 v.Stream,.int .i64 v.Port,.int .i64 v.From,.int .i64 v.Long]
structure Zax where
 Periods:(List Int)
 Uses:(List ZaH)
structure ZaX where
 Port:Int
 Early:Int
 Late:Int
 Open:Int
 Long:Int
def Zbd (v:ZaX):List PC:=[.int .i64 v.Port,.int .i64 v.Early,.int .i64 v.Late,.int .i64 v.Open,.int .i64 v.Long]
structure Zdj where
 From:Int
 To:Int
 By:Int
 Next:Int
def ZcB (v:Zdj):List PC:=[.int .i64 v.From,.int .i64 v.To,.int .i64 v.By,.int .i64 v.Next]
structure Zcb where
 Stream:Int
 Arms:(List Zdj)
def Za3 (v:Zcb):List PC:=[.int .i64 v.Stream,.sl 4 false (List.map ZcB v.Arms)]
structure Zbl where
 Id:Int
 Port:Int
 Begin:Int
 Period:Int
 Long:Int
 Frame:Int
structure Za1 where
 Proof:(List Zcb)
 Offsets:(List Int)
 What:Int
structure ZbO where
 Problem:Zax
 late:Bool
structure ZaM where
 Period:Int
 From:Int
 Long:Int
def Zcp (v:ZaM):List PC:=[.int .i64 v.Period,.int .i64 v.From,.int .i64 v.Long]
structure Za9 where
 port:Int
 from_:Int
 long:Int
 period:Int
structure Zbj where
 x0:Bool
 x1:Bool
 x2:Bool
 x3:Bool
 x4:Bool
 x5:Bool
 x6:Bool
 x7:Bool
 x8:Bool
 x9:Bool
 x10:Bool
 x11:Bool
 x12:Bool
 x13:Bool
 x14:Bool
 x15:Bool
 x16:Bool
 x17:Bool
 x18:Bool
 x19:Bool
 x20:Bool
 x21:Bool
 x22:Bool
 x23:Bool
structure Zbg where
 Topo:Zav
structure ZaB where
 x0:Bool
 x1:Bool
 x2:Bool
 x3:Bool
 x4:Bool
 x5:Bool
 x6:Bool
 x7:Bool
 x8:Bool
 x9:Bool
 x10:Bool
 x11:Bool
structure ZbS where
 port:Int
 from_:Int
 to_:Int
abbrev ZaJ (f:Bool) (l:List Int):AV:=.p (.sl 1 f (List.map eI64 l))
abbrev Zg6 (f:Bool) (l:List Int):AV:=.p (.sl 1 f (List.map (eI .u8) l))
abbrev Zbz (f:Bool) (l:List ZaI):AV:=.p (.sl 2 f (List.map ZaU l))
abbrev ZaA (f:Bool) (l:List Zat):AV:=.p (.sl 10 f (List.map ZaD l))
abbrev ZiR (f:Bool) (l:List ZaF):AV:=.p (.sl 2 f (List.map ZaQ l))
abbrev s_eB (f:Bool) (l:List Bool):AV:=.p (.sl 1 f (List.map eB l))
abbrev ZjZ (f:Bool) (l:List Zcl):AV:=.p (.sl 8 f (List.map Zet l))
abbrev ZvM (f:Bool) (l:List (List Bool)):AV:=.p (.sl 1 f (List.map (eSl 1 eB) l))
abbrev Zbk (f:Bool) (l:List ZaR):AV:=.p (.sl 4 f (List.map ZaE l))
abbrev Zdn (f:Bool) (l:List (List Int)):AV:=.p (.sl 1 f (List.map (eSl 1 eI64) l))
abbrev Zck (f:Bool) (l:List ZaH):AV:=.p (.sl 4 f (List.map Zaz l))
abbrev ZcG (f:Bool) (l:List Zcb):AV:=.p (.sl 2 f (List.map Za3 l))
abbrev Zuh (f:Bool) (l:List Zdj):AV:=.p (.sl 4 f (List.map ZcB l))
abbrev Znu (f:Bool) (l:List ZaM):AV:=.p (.sl 3 f (List.map Zcp l))
abbrev ZeU (f:Bool) (l:List ZaX):AV:=.p (.sl 5 f (List.map Zbd l))
abbrev ZdA (v:ZbI):List AV:=[.p (.int .u8 v.Bridges),.p (.int .u8 v.Stations),Zg6 false v.Chords,Zg6 false v.Homes,Zg6 false v.Pers,Zg6 false v.Delays]
abbrev Zju (v:Zcl):List AV:=[bv v.Reserved,bv v.Two,.p (.int .u8 v.Node),.p (.int .u8 v.Way),.p (.int .u8 v.Size),.p (.int .u8 v.Period),.p (.int .u8 v.Burst),.p (.int .u16 v.Rate)]
abbrev ZnP (v:Zfz):List AV:=[.p (.int .u8 v.T.Bridges),.p (.int .u8 v.T.Stations),Zg6 false v.T.Chords,Zg6 false v.T.Homes,Zg6 false v.T.Pers,Zg6 false v.T.Delays,ZjZ false v.L,.p (.int .u8 v.U.x0),.p (.int .u8 v.U.x1),.p (.int .u8 v.U.x2),Zg6 false v.Some,bv v.Find]
abbrev ZbQ (v:ZaI):List AV:=[ZiR false v.Entries,iv v.Cycle]
abbrev Zrm (v:ZaR):List AV:=[iv v.A,iv v.B,iv v.Per,iv v.Delay]
abbrev Zau (v:Zav):List AV:=[iv v.Nodes,s_eB false v.Station,Zbk false v.Links]
abbrev Zaw (v:Zay):List AV:=[iv v.Grid,iv v.Slack,iv v.Proc,iv v.Cap]
abbrev Zt1 (v:ZfD):List AV:=[iv v.Burst,iv v.Rate]
abbrev ZaK (v:Zat):List AV:=[iv v.Id,iv v.Talker,iv v.Listener,iv v.Class,iv v.Size,iv v.Period,iv v.Bucket.Burst,iv v.Bucket.Rate,iv v.Deadline,Zdn false v.Routes]
abbrev ZdH (v:ZaH):List AV:=[iv v.Stream,iv v.Port,iv v.From,iv v.Long]
abbrev ZaC (v:Zax):List AV:=[ZaJ false v.Periods,Zck false v.Uses]
abbrev ZpT (v:ZaX):List AV:=[iv v.Port,iv v.Early,iv v.Late,iv v.Open,iv v.Long]
abbrev Zeu (v:ZaM):List AV:=[iv v.Period,iv v.From,iv v.Long]
abbrev ZfZ (v:Za9):List AV:=[iv v.port,iv v.from_,iv v.long,iv v.period]
abbrev Zkt (v:Zbj):List AV:=[bv v.x0,bv v.x1,bv v.x2,bv v.x3,bv v.x4,bv v.x5,bv v.x6,bv v.x7,bv v.x8,bv v.x9,bv v.x10,bv v.x11,bv v.x12,bv v.x13,bv v.x14,bv v.x15,bv v.x16,bv v.x17,bv v.x18,bv v.x19,bv v.x20,bv v.x21,bv v.x22,bv v.x23]
def Zbj.l (v:Zbj):List Bool:=[v.x0,v.x1,v.x2,v.x3,v.x4,v.x5,v.x6,v.x7,v.x8,v.x9,v.x10,v.x11,v.x12,v.x13,v.x14,v.x15,v.x16,v.x17,v.x18,v.x19,v.x20,v.x21,v.x22,v.x23]
def Zbj.ofL (l:List Bool):Zbj:=⟨l.getD 0 false,l.getD 1 false,l.getD 2 false,l.getD 3 false,l.getD 4 false,l.getD 5 false,l.getD 6 false,l.getD 7 false,l.getD 8 false,l.getD 9 false,l.getD 10 false,l.getD 11 false,l.getD 12 false,l.getD 13 false,l.getD 14 false,l.getD 15 false,l.getD 16 false,l.getD 17 false,l.getD 18 false,l.getD 19 false,l.getD 20 false,l.getD 21 false,l.getD 22 false,l.getD 23 false⟩
def Zbj.get (v:Zbj)(i:Int):Option Bool:=idx v.l i
def Zbj.set (v:Zbj)(i:Int)(x:Bool):Zbj:=Zbj.ofL (v.l.set i.toNat x)
theorem Zbj.l_ofL (l:List Bool)(h:l.length=24):(Zbj.ofL l).l=l:=Zux 24 false l h rfl
theorem Zbj.l_set (v:Zbj)(i:Int)(x:Bool):(v.set i x).l=v.l.set i.toNat x:=Zbj.l_ofL _ (by rw[List.length_set];rfl)
theorem Zbj.c_set (v:Zbj)(i:Int)(x:Bool):Zkt (v.set i x)=(v.l.set i.toNat x).map (λx=>bv x):=by rw[←Zbj.l_set];rfl
abbrev Zbc (v:ZaB):List AV:=[bv v.x0,bv v.x1,bv v.x2,bv v.x3,bv v.x4,bv v.x5,bv v.x6,bv v.x7,bv v.x8,bv v.x9,bv v.x10,bv v.x11]
def ZaB.l (v:ZaB):List Bool:=[v.x0,v.x1,v.x2,v.x3,v.x4,v.x5,v.x6,v.x7,v.x8,v.x9,v.x10,v.x11]
def ZaB.ofL (l:List Bool):ZaB:=⟨l.getD 0 false,l.getD 1 false,l.getD 2 false,l.getD 3 false,l.getD 4 false,l.getD 5 false,l.getD 6 false,l.getD 7 false,l.getD 8 false,l.getD 9 false,l.getD 10 false,l.getD 11 false⟩
def ZaB.get (v:ZaB)(i:Int):Option Bool:=idx v.l i
def ZaB.set (v:ZaB)(i:Int)(x:Bool):ZaB:=ZaB.ofL (v.l.set i.toNat x)
theorem ZaB.l_ofL (l:List Bool)(h:l.length=12):(ZaB.ofL l).l=l:=Zux 12 false l h rfl
theorem ZaB.l_set (v:ZaB)(i:Int)(x:Bool):(v.set i x).l=v.l.set i.toNat x:=ZaB.l_ofL _ (by rw[List.length_set];rfl)
theorem ZaB.c_set (v:ZaB)(i:Int)(x:Bool):Zbc (v.set i x)=(v.l.set i.toNat x).map (λx=>bv x):=by rw[←ZaB.l_set];rfl
abbrev ZpS (v:ZbS):List AV:=[iv v.port,iv v.from_,iv v.to_]
def ZrO (N:Nat)(a0_:(List ZaI))(a1_:(List ZaI))(i2:Int)(a0:Int):Option ((Int)⊕((Unit)⊕(Bool))):=
 ((idx a0_ i2).bind λa5=>
 (if(decide (a0<((List.length a5.Entries:Nat):Int)))then((idx a0_ i2).bind λa4=>
 ((idx a4.Entries a0).bind λa2=>
 ((idx a1_ i2).bind λa3=>
 ((idx a3.Entries a0).bind λa1=>
 (if(!((a2.Mask==a1.Mask)&&((a2.Long==a1.Long)&&true)))then(some (.inr (.inr false)))else(some (.inl (w64 (a0+1)))))))))else(some (.inr (.inl ())))))
def ZrP (N:Nat)(a0_:(List ZaI))(a1_:(List ZaI))(i2:Int):Option ((Int)⊕((Unit)⊕(Bool))):=
 (if(decide (i2<((List.length a0_:Nat):Int)))then((((idx a0_ i2).bind λa6=>((idx a1_ i2).bind λa5=>(if(a6.Cycle !=a5.Cycle)then(some true)else((idx a0_ i2).bind λa4=>((idx a1_ i2).bind λa3=>(some (((List.length a4.Entries:Nat):Int)!=((List.length a3.Entries:Nat):Int))))))))).bind λ(a2:Bool)=>
 (if a2 then(some (.inr (.inr false)))else((ZaO (λx:Int=>ZrO N a0_ a1_ i2 x) N 0).bind λa1=>match a1 with
 |(.inl a7)=>(some (.inl (w64 (i2+1))))
 |(.inr a0)=>(some (.inr (.inr a0))))))else(some (.inr (.inl ()))))
def ZqU (N:Nat)(a0_:(List ZaI))(a1_:(List ZaI)):Option (Bool):=
 (if(((List.length a0_:Nat):Int)!=((List.length a1_:Nat):Int))then(some false)else((ZaO (λx:Int=>ZrP N a0_ a1_ x) N 0).bind λa1=>match a1 with
 |(.inl a2)=>(some true)
 |(.inr a0)=>(some a0)))
def ZhM (N:Nat)(a0_:(List Int))(i1:Int)(a4:Bool)(a0:Int):Option ((Bool×Int)⊕((Bool))):=
 (if(decide (a0<((List.length a0_:Nat):Int)))then(((if a4 then((idx a0_ a0).bind λa3=>((remI i1 a3).bind λa1=>(if(a1==0)then(some true)else(some false))))else(some false))).bind λ(a2:Bool)=>
 (some (.inl (a2,(w64 (a0+1))))))else(some (.inr a4)))
def Zf6 (N:Nat)(a0_:(List Int))(i1:Int):Option ((Int)⊕((Unit)⊕(Int))):=
 (if(decide (i1<=960))then((ZaO (λx:Bool×Int=>ZhM N a0_ i1 x.1 x.2) N (true,0)).bind λa0=>
 (if a0 then(some (.inr (.inr i1)))else(some (.inl (w64 (i1+1))))))else(some (.inr (.inl ()))))
def Zil (N:Nat)(a0_:(List Int)):Option (Int):=
 ((ZaO (λx:Int=>Zf6 N a0_ x) N 1).bind λa1=>match a1 with
 |(.inl a2)=>(some 0)
 |(.inr a0)=>(some a0))
def ZiX (N:Nat)(a0_:Zax)(a1_:(List Int))(i3:Int)(l4:(List Int)):Option ((Int×(List Int))⊕(((List Int)))):=
 (if(decide (i3<((List.length a0_.Periods:Nat):Int)))then(((if(decide (i3<((List.length a1_:Nat):Int)))then((idx a1_ i3).bind λa4=>
 ((idx a0_.Periods i3).bind λa3=>
 ((remI (w64 (a4)) a3).bind λa0=>
 (some a0))))else(some 0))).bind λ(a2:Int)=>
 ((appI 8 l4 [a2]).bind λa1=>
 (some (.inl ((w64 (i3+1)),a1)))))else(some (.inr l4)))
def Zik (N:Nat)(a0_:Zax)(a1_:(List Int)):Option ((List Int)):=
 ((ZaO (λx:Int×(List Int)=>ZiX N a0_ a1_ x.1 x.2) N (0,[])).bind λa0=>
 (some a0))
def ZeL (N:Nat)(a0_:ZaI)(i4:Int)(i5:Int):Option ((Int×Int)⊕((Int)⊕(Int))):=
 (if(decide (i5<((List.length a0_.Entries:Nat):Int)))then((idx a0_.Entries i5).bind λa0=>
 (if((decide (a0.Mask<0))||((decide (a0.Mask>255))||((decide (a0.Long<1))||(decide (a0.Long>9600000)))))then(some (.inr (.inr 370)))else(some (.inl ((w64 (i4+a0.Long)),(w64 (i5+1)))))))else(some (.inr (.inl i4))))
def Zhu (N:Nat)(a0_:ZaI):Option (Int):=
 (if((decide (((List.length a0_.Entries:Nat):Int)<1))||(decide (((List.length a0_.Entries:Nat):Int)>128)))then(some 370)else((ZaO (λx:Int×Int=>ZeL N a0_ x.1 x.2) N (0,0)).bind λa2=>match a2 with
 |(.inl a0)=>(if((a0 !=a0_.Cycle)||(decide (a0>9600000)))then(some 370)else(some 0))
 |(.inr a1)=>(some a1)))
def Zi4 (N:Nat)(a0_:Int)(a1_:Int)(a2_:Int):Option (Zay):=
 (some (Zay.mk (w64 (100+(w64 (20*(w64 (a0_)))))) (w64 ((Int.tmod a1_ 40))) (w64 (a2_)) 8000))
def Zfe (N:Nat)(a0_:Zav)(a1_:Zay)(a2_:(List Zat))(a3_:(List Int)):Option ((List Zat)×(List Int)×Zav×Zay):=
 (some (a2_,a3_,a0_,a1_))
def Zgz (N:Nat)(a0_:(List Bool))(a1_:Int)(i3:Int)(i4:Int)(i5:Int)(l6:(List ZaF)):Option ((Int×Int×Int×(List ZaF))⊕(((List ZaF)))):=
 (if(decide (i3<((List.length a0_:Nat):Int)))then((idx a0_ i3).bind λa5=>
 (((if a5 then(some 128)else(some 127))).bind λ(a0:Int)=>
 (((if((a0==i4)&&((a1_==i5)&&true))then((idx l6 (w64 (((List.length l6:Nat):Int)-1))).bind λa4=>
 ((idx l6 (w64 (((List.length l6:Nat):Int)-1))).bind λa3=>
 (some (List.set l6 (Int.toNat (w64 (((List.length l6:Nat):Int)-1))) (ZaF.mk a3.Mask (w64 (a4.Long+a1_)))))))else((appI 16 l6 [(ZaF.mk a0 a1_)]).bind λa1=>
 (some a1)))).bind λ(a2:(List ZaF))=>
 (some (.inl ((w64 (i3+1)),a0,a1_,a2))))))else(some (.inr l6)))
def ZkA (N:Nat)(a0_:(List Bool))(a1_:Int):Option (ZaI):=
 ((ZaO (λx:Int×Int×Int×(List ZaF)=>Zgz N a0_ a1_ x.1 x.2.1 x.2.2.1 x.2.2.2) N (0,0,0,[])).bind λa0=>
 (some (ZaI.mk a0 (w64 (((List.length a0_:Nat):Int)*a1_)))))
def Zq3 (N:Nat):Option (Zav):=
 (some (Zav.mk 3 ([true,false,true]) ([(ZaR.mk 0 1 8 5),(ZaR.mk 1 2 8 5)])))
def Zpx (N:Nat):Option (Zay):=
 (some (Zay.mk 100 2 10 8000))
def Zfp (N:Nat)(a0_:Int)(a1_:Int):Option (Zat):=
 (some (Zat.mk a0_ 0 2 7 100 a1_ (ZfD.mk 0 0) 10000 ([[0,2]])))
def Zsg (N:Nat)(a0_:(List Int))(i3:Int)(i4:Int)(l5:(List ZaF)):Option ((Int×Int×(List ZaF))⊕((Int×(List ZaF)))):=
 (if(decide ((w64 (i3+1))<((List.length a0_:Nat):Int)))then((idx a0_ i3).bind λa3=>
 ((idx a0_ (w64 (i3+1))).bind λa2=>
 ((appI 16 l5 [(ZaF.mk a3 a2)]).bind λa0=>
 ((idx a0_ (w64 (i3+1))).bind λa1=>
 (some (.inl ((w64 (i3+2)),(w64 (i4+a1)),a0)))))))else(some (.inr (i4,l5))))
def Ziw (N:Nat)(a0_:(List Int)):Option (ZaI):=
 ((ZaO (λx:Int×Int×(List ZaF)=>Zsg N a0_ x.1 x.2.1 x.2.2) N (0,0,[])).bind λa0=>
 (some (ZaI.mk a0.2 a0.1)))
def Zqn (N:Nat)(a0_:ZaI)(i4:Int)(i5:Int):Option ((Int×Int)⊕((Int)⊕(Bool))):=
 (if(decide (i5<((List.length a0_.Entries:Nat):Int)))then((idx a0_.Entries i5).bind λa0=>
 (if((decide (a0.Mask<0))||((decide (a0.Mask>255))||((decide (a0.Long<1))||(decide (a0.Long>9600000)))))then(some (.inr (.inr false)))else(some (.inl ((w64 (i4+a0.Long)),(w64 (i5+1)))))))else(some (.inr (.inl i4))))
def Zuk (N:Nat)(a0_:ZaI):Option (Bool):=
 (if((decide (((List.length a0_.Entries:Nat):Int)<1))||(decide (((List.length a0_.Entries:Nat):Int)>128)))then(some false)else((ZaO (λx:Int×Int=>Zqn N a0_ x.1 x.2) N (0,0)).bind λa2=>match a2 with
 |(.inl a0)=>(some ((a0==a0_.Cycle)&&(decide (a0<=9600000))))
 |(.inr a1)=>(some a1)))
def ZiJ (N:Nat)(a0_:Zav)(a1_:Zay)(a2_:Zat)(a3_:Int):Option (Zat×Int×Zav×Zay):=
 (some (a2_,a3_,a0_,a1_))
def Zeg (N:Nat)(a0_:ZaI)(a1_:Int)(a2_:Int)(a3_:Int):Option (Int):=
 ((Zhu N a0_).bind λr1=>
 (if(r1 !=0)then(some r1)else(if((decide (a1_<0))||((decide (a1_≥8))||((decide (a2_<(-1099511627776)))||((decide (a2_>1099511627776))||((decide (a3_<0))||(decide (a3_>1099511627776)))))))then(some 2)else(some 0))))
def Zdz (N:Nat)(a0_:ZaI)(i3:Int)(i4:Int):Option ((Int×Int)⊕((Int×Int))):=
 ((idx a0_.Entries i4).bind λa2=>
 (if(decide (i3≥a2.Long))then((idx a0_.Entries i4).bind λa1=>
 (some (.inl ((w64 (i3-a1.Long)),(w64 (i4+1))))))else((idx a0_.Entries i4).bind λa0=>
 (some (.inr (i4,(w64 (a0.Long-i3))))))))
def Zg0 (N:Nat)(a0_:ZaI)(a1_:Int):Option (Int×Int):=
 ((remI a1_ a0_.Cycle).bind λm1=>
 ((remI (w64 (m1+a0_.Cycle)) a0_.Cycle).bind λm2=>
 ((ZaO (λx:Int×Int=>Zdz N a0_ x.1 x.2) N (m2,0)).bind λa0=>
 (some a0))))
def Zcf (N:Nat)(a0_:ZaI)(a2_:Int->Option (Bool))(i2:Int)(i3:Int)(i4:Int)(i5:Int):Option ((Int×Int×Int×Int)⊕((Unit)⊕(Int))):=
 (if(decide (i5<(w64 (((List.length a0_.Entries:Nat):Int)+1))))then((idx a0_.Entries i2).bind λa3=>
 ((a2_ a3.Mask).bind λa1=>
 (if(!a1)then(some (.inr (.inr i4)))else((remI (w64 (i2+1)) ((List.length a0_.Entries:Nat):Int)).bind λa0=>
 ((idx a0_.Entries a0).bind λa2=>
 (some (.inl (a0,a2.Long,(w64 (i4+i3)),(w64 (i5+1))))))))))else(some (.inr (.inl ()))))
def ZcX (N:Nat)(a0_:ZaI)(a1_:Int)(a2_:Int->Option (Bool)):Option (Int):=
 ((Zg0 N a0_ a1_).bind λr1=>
 ((ZaO (λx:Int×Int×Int×Int=>Zcf N a0_ a2_ x.1 x.2.1 x.2.2.1 x.2.2.2) N (r1.1,r1.2,0,0)).bind λa1=>match a1 with
 |(.inl a2)=>(some a0_.Cycle)
 |(.inr a0)=>(some a0)))
def ZfC (N:Nat)(a0_:Int)(c0_:Int):Option (Bool):=
 ((shrI .i64 a0_ c0_).bind λsh2=>
 (some ((andI .i64 sh2 1)==0)))
def Ze5 (N:Nat)(a0_:(List Int))(a1_:Int):Option (Int):=
 (if(decide (a1_<((List.length a0_:Nat):Int)))then((idx a0_ a1_).bind λe2=>
 (some (w64 (e2))))else(some 0))
def Zh1 (N:Nat)(a0_:Zax)(i4:Int):Option ((Int)⊕((Unit)⊕(Bool))):=
 (if(decide (i4<((List.length a0_.Periods:Nat):Int)))then((((idx a0_.Periods i4).bind λa2=>(if(decide (a2<1))then(some true)else((idx a0_.Periods i4).bind λa1=>(some (decide (a1>240))))))).bind λ(a0:Bool)=>
 (if a0 then(some (.inr (.inr false)))else(some (.inl (w64 (i4+1))))))else(some (.inr (.inl ()))))
def Zh0 (N:Nat)(a0_:Zax)(a1:Int):Option ((Int)⊕((Unit)⊕(Bool))):=
 (if(decide (a1<((List.length a0_.Uses:Nat):Int)))then((idx a0_.Uses a1).bind λa0=>
 (if((decide (a0.Stream<0))||((decide (a0.Stream≥((List.length a0_.Periods:Nat):Int)))||((decide (a0.Port<0))||(decide (a0.Port≥48)))))then(some (.inr (.inr false)))else(((if(decide (a0.From<0))then(some true)else((idx a0_.Periods a0.Stream).bind λa4=>(if(decide (a0.From≥a4))then(some true)else(if(decide (a0.Long<1))then(some true)else((idx a0_.Periods a0.Stream).bind λa3=>(some (decide (a0.Long>a3))))))))).bind λ(a2:Bool)=>
 (if a2 then(some (.inr (.inr false)))else(some (.inl (w64 (a1+1))))))))else(some (.inr (.inl ()))))
def ZiY (N:Nat)(a0_:Zax):Option (Bool):=
 (if((decide (((List.length a0_.Periods:Nat):Int)>12))||(decide (((List.length a0_.Uses:Nat):Int)>192)))then(some false)else((ZaO (λx:Int=>Zh1 N a0_ x) N 0).bind λa4=>match a4 with
 |(.inl a6)=>((ZaO (λx:Int=>Zh0 N a0_ x) N 0).bind λa3=>match a3 with
 |(.inl a5)=>((Zil N a0_.Periods).bind λa0=>
 (some (decide (a0>0))))
 |(.inr a2)=>(some a2))
 |(.inr a1)=>(some a1)))
def Zjd (N:Nat)(a0_:Zax)(a1_:Int)(a2_:Int):Option (Bool):=
 (((if(decide (a2_≥0))then((idx a0_.Periods a1_).bind λe2=>(some (decide (a2_<e2))))else(some false))).bind λ(j4:Bool)=>
 (some j4))
def Ztb (N:Nat)(a0_:Zax)(a1_:Int)(a2_:Int):Option (Bool):=
 (((if(decide (a1_≥0))then(if(decide (a1_<((List.length a0_.Periods:Nat):Int)))then(if(decide (a2_≥0))then((idx a0_.Periods a1_).bind λe4=>(some (decide (a2_<e4))))else(some false))else(some false))else(some false))).bind λ(j8:Bool)=>
 (some j8))
def Zhj (N:Nat)(a0_:ZaR)(a1_:Int)(a2_:Int):Option (Bool):=
 (some (if(a0_.A==a1_)then((a0_.B==a2_)||((a0_.A==a2_)&&(a0_.B==a1_)))else((a0_.A==a2_)&&(a0_.B==a1_))))
def Zc7 (N:Nat)(a0_:Int)(a1_:Int)(a2_:Int):Option (Bool):=
 (some ((decide (a0_≥a1_))&&(decide (a0_<=a2_))))
def Zka (N:Nat)(a0_:Zav)(a1_:Int):Option (Int):=
 ((idx a0_.Links (w64 (Int.tdiv a1_ 2))).bind λe1=>
 (some e1.Per))
def Zhk (N:Nat)(a0_:Zav)(a1_:Int):Option (Int):=
 ((idx a0_.Links (w64 (Int.tdiv a1_ 2))).bind λe1=>
 (some e1.Delay))
def Zhf (N:Nat)(a0_:Int)(a1_:Int):Option (Int):=
 ((remI a0_ a1_).bind λm1=>
 (((if(decide (m1<0))then(some (w64 (m1+a1_)))else(some m1))).bind λ(a0:Int)=>
 (some a0)))
def Zul (N:Nat)(a0_:ZaI)(a1:Int)(a0:Int):Option ((Int×Int)⊕((Int×Int))):=
 ((idx a0_.Entries a0).bind λa3=>
 (if(decide (a1≥a3.Long))then((idx a0_.Entries a0).bind λa2=>
 (some (.inl ((w64 (a1-a2.Long)),(w64 (a0+1))))))else(some (.inr (a1,a0)))))
def Zyb (N:Nat)(a0_:ZaI)(a1_:Int):Option (Int×Int):=
 ((remI a1_ a0_.Cycle).bind λm1=>
 (((if(decide (m1<0))then(some (w64 (m1+a0_.Cycle)))else(some m1))).bind λ(a1:Int)=>
 ((ZaO (λx:Int×Int=>Zul N a0_ x.1 x.2) N (a1,0)).bind λa0=>
 (some (a0.2,a0.1)))))
def ZbD (N:Nat)(a0_:Int)(a1_:Int)(a2_:Int):Option (Bool):=
 (some ((decide (a0_≥a1_))&&(decide (a0_<=a2_))))
def ZbR {σ:Type}(N:Nat)(y_:σ->ZaX->Option (σ×Bool))(c0_:Zat)(c2_:Zav)(c3_:Zay)(e3:(List Int))(i6:Int)(i7:Int)(i10:Int)(i11:Int)(i12:Int)(i8:Int)(g9:σ):Option ((Int×Int×Int×Int×Int×Int×σ)⊕((σ)⊕(σ))):=
 (if(decide (i6<((List.length e3:Nat):Int)))then((idx e3 i6).bind λa4=>
 (((if(decide (i6>0))then((idx c2_.Links (w64 (Int.tdiv i7 2))).bind λa2=>
 ((quoI .i64 (w64 ((w64 ((w64 ((w64 ((w64 ((w64 (i12+i8))+a2.Delay))+c3_.Proc))+(w64 (2*c3_.Slack))))+c3_.Grid))-1)) c3_.Grid).bind λa5=>
 (some ((w64 ((w64 ((w64 ((w64 (i12+i8))+a2.Delay))+c3_.Proc))-(w64 (2*c3_.Slack)))),(w64 ((w64 ((w64 ((w64 (i12+i8))+a2.Delay))+c3_.Proc))+(w64 (2*c3_.Slack)))),(w64 (a5*c3_.Grid))))))else(some (i10,i11,i12)))).bind λ(a0:Int×Int×Int)=>
 ((idx c2_.Links (w64 (Int.tdiv a4 2))).bind λa3=>
 ((y_ g9 (ZaX.mk a4 a0.1 a0.2.1 a0.2.2 (w64 (c0_.Size*a3.Per)))).bind λa1=>
 (if(!a1.2)then(some (.inr (.inr a1.1)))else(some (.inl ((w64 (i6+1)),a4,a0.1,a0.2.1,a0.2.2,(w64 (c0_.Size*a3.Per)),a1.1))))))))else(some (.inr (.inl g9))))
def Zdr {σ:Type}(N:Nat)(y_:σ->ZaX->Option (σ×Bool))(c0_:Zat)(c1_:Int)(c2_:Zav)(c3_:Zay)(s_:σ):Option (σ):=
 ((idx c0_.Routes c1_).bind λe3=>
 ((ZaO (λx:Int×Int×Int×Int×Int×Int×σ=>ZbR N y_ c0_ c2_ c3_ e3 x.1 x.2.1 x.2.2.1 x.2.2.2.1 x.2.2.2.2.1 x.2.2.2.2.2.1 x.2.2.2.2.2.2) N (0,0,0,0,0,0,s_)).bind λa2=>match a2 with
 |(.inl a1)=>(some a1)
 |(.inr a0)=>(some a0)))
def Ze7 (N:Nat)(a0_:Int)(c0_:Int):Option (Bool):=
 ((shrI .i64 a0_ c0_).bind λsh2=>
 (some ((andI .i64 sh2 1)==1)))
def Zdf (N:Nat)(a0_:Zav)(a1_:Int):Option (Int):=
 ((idx a0_.Links (w64 (Int.tdiv a1_ 2))).bind λe1=>
 (if((Int.tmod a1_ 2)==1)then(some e1.B)else(some e1.A)))
def Zep (N:Nat)(a0_:Zav)(a1_:Int):Option (Int):=
 ((idx a0_.Links (w64 (Int.tdiv a1_ 2))).bind λe1=>
 (if((Int.tmod a1_ 2)==1)then(some e1.A)else(some e1.B)))
def Zer (N:Nat)(a0_:Int)(a1_:Int):Option (Int):=
 ((quoI .i64 a0_ a1_).bind λq1=>
 ((((remI a0_ a1_).bind λa0=>
 (if(decide (a0<0))then(some (w64 (q1-1)))else(some q1)))).bind λ(a1:Int)=>
 (some a1)))
def ZkG (N:Nat)(a0_:Zax)(a1_:Int)(a2_:Int):Option (Zax×Int×Int):=
 (some (a0_,a1_,a2_))
def Zfl (N:Nat)(a0_:Zax)(a1_:ZaH)(a2_:Int):Option (ZaM):=
 ((idx a0_.Periods a1_.Stream).bind λe1=>
 ((remI (w64 (a1_.From+a2_)) e1).bind λm2=>
 (some (ZaM.mk e1 m2 a1_.Long))))
def Zl4 (N:Nat)(a0_:Zax)(a1_:Int)(a2_:Int):Option (ZaM):=
 ((idx a0_.Uses a1_).bind λe1=>
 ((idx a0_.Periods e1.Stream).bind λe2=>
 ((idx a0_.Uses a1_).bind λe3=>
 ((remI (w64 (e3.From+a2_)) e2).bind λm4=>
 ((idx a0_.Uses a1_).bind λe5=>
 (some (ZaM.mk e2 m4 e5.Long)))))))
def Zio (N:Nat)(a0_:Zav)(a1_:Int):Option (Bool):=
 (some ((decide (a1_≥0))&&(decide (a1_<a0_.Nodes))))
def Zja (N:Nat)(a0_:(List Int))(a1_:Int)(i1:Int):Option ((Int)⊕((Unit)⊕(Bool))):=
 (if(decide (i1<((List.length a0_:Nat):Int)))then((idx a0_ i1).bind λa0=>
 (if(a0==a1_)then(some (.inr (.inr true)))else(some (.inl (w64 (i1+1))))))else(some (.inr (.inl ()))))
def Zjb (N:Nat)(a0_:(List Int))(a1_:Int):Option (Bool):=
 ((ZaO (λx:Int=>Zja N a0_ a1_ x) N 0).bind λa1=>match a1 with
 |(.inl a2)=>(some false)
 |(.inr a0)=>(some a0))
def Zdv (N:Nat)(a0_:Zav)(a1_:Int):Option (Bool):=
 ((((Zc7 N a1_ 0 (w64 (a0_.Nodes-1))).bind λr1=>(if r1 then((idx a0_.Station a1_).bind λe3=>(some e3))else(some false)))).bind λ(j5:Bool)=>
 (some j5))
def ZhR (N:Nat)(a0_:Int)(c0_:Int):Option (Bool):=
 (some (a0_==c0_))
def Zdp (N:Nat)(a0_:Zav)(a2_:Zbj)(a2:Int)(a1:(List Bool)):Option ((Int×(List Bool))⊕(((List Bool)))):=
 (if(decide (a2<((List.length a0_.Links:Nat):Int)))then((((idx a0_.Links a2).bind λa0=>
 ((((a2_.get a2).bind λa7=>(if(!a7)then((idx a1 a0.A).bind λa6=>((idx a1 a0.B).bind λa5=>(some (a6 !=a5))))else(some false)))).bind λ(a3:Bool)=>
 (if a3 then((idx a1 a0.A).bind λa9=>
 ((idx (List.set a1 (Int.toNat a0.A) true) a0.B).bind λa8=>
 (some (List.set (List.set a1 (Int.toNat a0.A) true) (Int.toNat a0.B) true))))else(some a1))))).bind λ(a4:(List Bool))=>
 (some (.inl ((w64 (a2+1)),a4))))else(some (.inr a1)))
def Zek (N:Nat)(a0_:Zav)(a2_:Zbj)(i10:Int)(a1:(List Bool)):Option ((Int×(List Bool))⊕(((List Bool)))):=
 (if(decide (i10<a0_.Nodes))then((ZaO (λx:Int×(List Bool)=>Zdp N a0_ a2_ x.1 x.2) N (0,a1)).bind λa0=>
 (some (.inl ((w64 (i10+1)),a0))))else(some (.inr a1)))
def Zkz (N:Nat)(a0_:Zav)(a1_:Int)(a2_:Zbj):Option ((List Bool)):=
 ((Zhr 1 a0_.Nodes a0_.Nodes false).bind λl3=>
 ((idx l3 a1_).bind λe4=>
 ((ZaO (λx:Int×(List Bool)=>Zek N a0_ a2_ x.1 x.2) N (0,(List.set l3 (Int.toNat a1_) true))).bind λa0=>
 (some a0))))
def ZfL (N:Nat)(c0_:Zat):Option (Bool):=
 ((ZbD N c0_.Id 1 4095).bind λr2=>
 (some r2))
def ZeE (N:Nat)(a0_:Zav)(a1_:Int):Option (Bool):=
 ((((ZbD N a1_ 0 (w64 (a0_.Nodes-1))).bind λr1=>(if r1 then((idx a0_.Station a1_).bind λe3=>(some e3))else(some false)))).bind λ(j5:Bool)=>
 (some j5))
def ZfJ (N:Nat)(c0_:Zat):Option (Bool):=
 ((ZbD N c0_.Size 84 1542).bind λr2=>
 (some r2))
def ZfI (N:Nat)(c0_:Zat):Option (Bool):=
 ((ZbD N c0_.Deadline 1 1099511627776).bind λr2=>
 (some r2))
def ZfH (N:Nat)(c0_:Zat):Option (Bool):=
 ((ZbD N ((List.length c0_.Routes:Nat):Int) 1 2).bind λr2=>
 (some r2))
def ZeQ (N:Nat)(a0_:(List Int))(a1_:(List Int))(i1:Int):Option ((Int)⊕((Unit)⊕(Bool))):=
 (if(decide (i1<(w64 (((List.length a0_:Nat):Int)-1))))then((idx a0_ i1).bind λa1=>
 ((Zjb N a1_ a1).bind λa0=>
 (if a0 then(some (.inr (.inr true)))else(some (.inl (w64 (i1+1)))))))else(some (.inr (.inl ()))))
def Zfi (N:Nat)(a0_:(List Int))(a1_:(List Int)):Option (Bool):=
 ((ZaO (λx:Int=>ZeQ N a0_ a1_ x) N 1).bind λa1=>match a1 with
 |(.inl a2)=>(some false)
 |(.inr a0)=>(some a0))
def ZdN (N:Nat)(a0_:Zav)(a1_:(List Int))(i7:Int)(l8:(List Int)):Option ((Int×(List Int))⊕(((List Int)))):=
 (if(decide (i7<((List.length a1_:Nat):Int)))then((idx a1_ i7).bind λa2=>
 ((Zep N a0_ a2).bind λa0=>
 ((appI 8 l8 [a0]).bind λa1=>
 (some (.inl ((w64 (i7+1)),a1))))))else(some (.inr l8)))
def Zd9 (N:Nat)(a0_:Zav)(a1_:(List Int)):Option ((List Int)):=
 ((idx a1_ 0).bind λe1=>
 ((Zdf N a0_ e1).bind λr2=>
 ((ZaO (λx:Int×(List Int)=>ZdN N a0_ a1_ x.1 x.2) N (0,[r2])).bind λa0=>
 (some a0))))
def Zdg {σ:Type}(N:Nat)(y_:σ->ZaH->ZaH->Option (σ×Bool))(c0_:Zax)(c2_:Int)(i4:Int)(a5:ZaH)(a1:Int)(a3:σ):Option ((Int×σ)⊕((σ)⊕(σ))):=
 (if(decide (a1<((List.length c0_.Uses:Nat):Int)))then((idx c0_.Uses a1).bind λa2=>
 (((if(a1==i4)then(some true)else(if(a2.Stream !=c2_)then(some true)else(some (a2.Port !=a5.Port))))).bind λ(a4:Bool)=>
 (if a4 then(some (.inl ((w64 (a1+1)),a3)))else((y_ a3 a5 a2).bind λa0=>
 (if(!a0.2)then(some (.inr (.inr a0.1)))else(some (.inl ((w64 (a1+1)),a0.1))))))))else(some (.inr (.inl a3))))
def Zdh {σ:Type}(N:Nat)(y_:σ->ZaH->ZaH->Option (σ×Bool))(c0_:Zax)(c1_:Int)(c2_:Int)(i4:Int)(g5:σ):Option ((Int×σ)⊕((σ)⊕(σ))):=
 (if(decide (i4<((List.length c0_.Uses:Nat):Int)))then((idx c0_.Uses i4).bind λa3=>
 (if(a3.Stream !=c1_)then(some (.inl ((w64 (i4+1)),g5)))else((ZaO (λx:Int×σ=>Zdg N y_ c0_ c2_ i4 a3 x.1 x.2) N (0,g5)).bind λa2=>match a2 with
 |(.inl a1)=>(some (.inl ((w64 (i4+1)),a1)))
 |(.inr a0)=>(some (.inr (.inr a0))))))else(some (.inr (.inl g5))))
def ZhN {σ:Type}(N:Nat)(y_:σ->ZaH->ZaH->Option (σ×Bool))(c0_:Zax)(c1_:Int)(c2_:Int)(s_:σ):Option (σ):=
 ((ZaO (λx:Int×σ=>Zdh N y_ c0_ c1_ c2_ x.1 x.2) N (0,s_)).bind λa2=>match a2 with
 |(.inl a1)=>(some a1)
 |(.inr a0)=>(some a0))
def Zen (N:Nat)(a0_:ZaM):Option (Int):=
 (if((decide (a0_.Period<1))||((decide (a0_.Period>960))||((decide (a0_.From<0))||(decide (a0_.From≥a0_.Period)))))then(some 330)else(if((decide (a0_.Long<1))||(decide (a0_.Long>a0_.Period)))then(some 330)else(some 0)))
def Zdu (N:Nat)(a0_:(List ZaM))(i2:Int):Option ((Int)⊕((Unit)⊕(Int))):=
 (if(decide (i2<((List.length a0_:Nat):Int)))then((idx a0_ i2).bind λa1=>
 ((Zen N a1).bind λa0=>
 (if(a0 !=0)then(some (.inr (.inr a0)))else(some (.inl (w64 (i2+1)))))))else(some (.inr (.inl ()))))
def ZeO (N:Nat)(a0_:(List ZaM)):Option (Int):=
 (if(decide (((List.length a0_:Nat):Int)>32))then(some 3)else((ZaO (λx:Int=>Zdu N a0_ x) N 0).bind λa1=>match a1 with
 |(.inl a2)=>(some 0)
 |(.inr a0)=>(some a0)))
def Zf7 (N:Nat)(a0_:Int)(a1_:Int)(i1:Int):Option ((Int)⊕((Unit)⊕(Int))):=
 (if(decide (i1>1))then((((remI a0_ i1).bind λa1=>(if(a1==0)then((remI a1_ i1).bind λa0=>(some (a0==0)))else(some false)))).bind λ(a2:Bool)=>
 (if a2 then(some (.inr (.inr i1)))else(some (.inl (w64 (i1-1))))))else(some (.inr (.inl ()))))
def Zl5 (N:Nat)(a0_:Int)(a1_:Int):Option (Int):=
 ((ZaO (λx:Int=>Zf7 N a0_ a1_ x) N a0_).bind λa1=>match a1 with
 |(.inl a2)=>(some 1)
 |(.inr a0)=>(some a0))
def ZkF (N:Nat)(a0_:Zav)(a1_:Int):Option (Bool):=
 (some ((decide (a1_≥0))&&(decide (a1_<(w64 (2*((List.length a0_.Links:Nat):Int)))))))
def ZjS (N:Nat)(a0_:Zav)(a1_:Int):Option (Bool):=
 (some ((decide (a1_≥0))&&(decide (a1_<a0_.Nodes))))
def ZhC (N:Nat)(a0_:Int)(c0_:Zav):Option (Bool):=
 ((idx c0_.Links a0_).bind λe2=>
 ((((idx c0_.Station e2.A).bind λe4=>(if(!e4)then(some true)else((idx c0_.Station e2.B).bind λe8=>(some (!e8)))))).bind λ(j9:Bool)=>
 (some j9)))
def Zfc (N:Nat)(e2:ZaR)(l4:List ZaR)(i5:Int):Option ((Int)⊕((Unit)⊕(Bool))):=
 (if(decide (i5<((List.length l4:Nat):Int)))then((idx l4 i5).bind λa0=>
 (if(if(e2.A==a0.A)then((e2.B==a0.B)||((e2.A==a0.B)&&(e2.B==a0.A)))else((e2.A==a0.B)&&(e2.B==a0.A)))then(some (.inr (.inr false)))else(some (.inl (w64 (i5+1))))))else(some (.inr (.inl ()))))
def Zf2 (N:Nat)(a0_:Int)(c0_:Zav):Option (Bool):=
 ((idx c0_.Links a0_).bind λe2=>
 ((subI c0_.Links 0 a0_).bind λl4=>
 ((ZaO (λx:Int=>Zfc N e2 l4 x) N 0).bind λa1=>match a1 with
 |(.inl a2)=>(some true)
 |(.inr a0)=>(some a0))))
def ZhB (N:Nat)(a0_:Int)(c0_:Zav):Option (Bool):=
 ((idx c0_.Links a0_).bind λe2=>
 (some ((decide (e2.Per≥1))&&((decide (e2.Per<=1000))&&((decide (e2.Delay≥0))&&(decide (e2.Delay<=10000)))))))
def Zcg (N:Nat)(a0_:(List Bool))(a1_:Bool)(i1:Int):Option ((Int)⊕((Unit)⊕(Int))):=
 (if(decide (i1<((List.length a0_:Nat):Int)))then((idx a0_ i1).bind λa0=>
 (if(a1_==a0)then(some (.inr (.inr i1)))else(some (.inl (w64 (i1+1))))))else(some (.inr (.inl ()))))
def Zds (N:Nat)(a0_:(List Bool))(a1_:Bool):Option (Int):=
 ((ZaO (λx:Int=>Zcg N a0_ a1_ x) N 0).bind λa1=>match a1 with
 |(.inl a2)=>(some (-1))
 |(.inr a0)=>(some a0))
def Zev (N:Nat)(a0_:Int)(a1_:Int)(a2_:Int):Option (Bool):=
 (some ((decide (a1_<=a0_))&&(decide (a0_<=a2_))))
def Zff (N:Nat)(a1_:(List Int))(a2:Int)(a0:Int):Option ((Int)⊕((Unit)⊕(Bool))):=
 (if(decide (a0<((List.length a1_:Nat):Int)))then((idx a1_ a0).bind λa1=>
 (if((w64 (Int.tdiv a2 2))==(w64 (Int.tdiv a1 2)))then(some (.inr (.inr true)))else(some (.inl (w64 (a0+1))))))else(some (.inr (.inl ()))))
def Zfg (N:Nat)(a0_:(List Int))(a1_:(List Int))(i1:Int):Option ((Int)⊕((Unit)⊕(Bool))):=
 (if(decide (i1<((List.length a0_:Nat):Int)))then((idx a0_ i1).bind λa2=>
 ((ZaO (λx:Int=>Zff N a1_ a2 x) N 0).bind λa1=>match a1 with
 |(.inl a3)=>(some (.inl (w64 (i1+1))))
 |(.inr a0)=>(some (.inr (.inr a0)))))else(some (.inr (.inl ()))))
def ZhJ (N:Nat)(a0_:(List Int))(a1_:(List Int)):Option (Bool):=
 ((ZaO (λx:Int=>Zfg N a0_ a1_ x) N 0).bind λa1=>match a1 with
 |(.inl a2)=>(some false)
 |(.inr a0)=>(some a0))
def ZdP (N:Nat)(a0_:Zav)(a1_:Int)(i3:Int)(l4:(List Int)):Option ((Int×(List Int))⊕(((List Int)))):=
 (if(decide (i3<(w64 (2*((List.length a0_.Links:Nat):Int)))))then((((Zdf N a0_ i3).bind λa0=>
 (if(a0==a1_)then((appI 8 l4 [i3]).bind λa1=>
 (some a1))else(some l4)))).bind λ(a2:(List Int))=>
 (some (.inl ((w64 (i3+1)),a2))))else(some (.inr l4)))
def Zhi (N:Nat)(a0_:Zav)(a1_:Int):Option ((List Int)):=
 ((ZaO (λx:Int×(List Int)=>ZdP N a0_ a1_ x.1 x.2) N (0,[])).bind λa0=>
 (some a0))
def ZiV (N:Nat)(a0_:Int)(a1_:Int):Option (Int):=
 ((remI a0_ a1_).bind λm1=>
 ((remI (w64 (m1+a1_)) a1_).bind λm2=>
 (some m2)))
def ZfO (N:Nat)(i1:Int)(i2:Int):Option ((Int×Int)⊕((Int))):=
 (if(i2 !=0)then((remI i1 i2).bind λa0=>
 (some (.inl (i2,a0))))else(some (.inr i1)))
def Zhb (N:Nat)(a0_:Int)(a1_:Int):Option (Int):=
 ((ZaO (λx:Int×Int=>ZfO N x.1 x.2) N (a0_,a1_)).bind λa0=>
 (some a0))
def Zdd (N:Nat)(a0_:Zbg)(a1_:(List Int)):Option ((List Int)×Zbg):=
 (some (a1_,a0_))
def Za6 {σ:Type}(N:Nat)(y_:σ->Int->ZbS->Option (σ×Bool))(c0_:(List Int))(c1_:Zbg)(i4:Int)(g5:σ):Option ((Int×σ)⊕((σ))):=
 (if(decide (i4<((List.length c0_:Nat):Int)))then((idx c0_ i4).bind λa1=>
 (((if(decide (a1<0))then(some true)else(some (decide (a1≥(w64 (2*((List.length c1_.Topo.Links:Nat):Int)))))))).bind λ(a4:Bool)=>
 (if a4 then(some (.inr g5))else((idx c1_.Topo.Links (w64 (Int.tdiv a1 2))).bind λa2=>
 (((if((Int.tmod a1 2)==1)then(some (a2.B,a2.A))else(some (a2.A,a2.B)))).bind λ(a3:Int×Int)=>
 ((y_ g5 i4 (ZbS.mk a1 a3.1 a3.2)).bind λa0=>
 (if(!a0.2)then(some (.inr a0.1))else(some (.inl ((w64 (i4+1)),a0.1))))))))))else(some (.inr g5)))
def Zdc {σ:Type}(N:Nat)(y_:σ->Int->ZbS->Option (σ×Bool))(c0_:(List Int))(c1_:Zbg)(s_:σ):Option (σ):=
 ((ZaO (λx:Int×σ=>Za6 N y_ c0_ c1_ x.1 x.2) N (0,s_)).bind λa0=>
 (some a0))
def Zct (N:Nat)(a0_:(List Int))(a1_:Int)(i1:Int):Option ((Int)⊕((Unit)⊕(Int))):=
 (if(decide (i1<((List.length a0_:Nat):Int)))then((idx a0_ i1).bind λa0=>
 (if(a1_==a0)then(some (.inr (.inr i1)))else(some (.inl (w64 (i1+1))))))else(some (.inr (.inl ()))))
def Zd5 (N:Nat)(a0_:(List Int))(a1_:Int):Option (Int):=
 ((ZaO (λx:Int=>Zct N a0_ a1_ x) N 0).bind λa1=>match a1 with
 |(.inl a2)=>(some (-1))
 |(.inr a0)=>(some a0))
def Zq8 (N:Nat)(a0_:ZaI)(a1_:Int):Option (Int×Int):=
 ((Zeg N a0_ 0 a1_ 0).bind λr1=>
 (if(r1 !=0)then(some (0,r1))else((Zg0 N a0_ a1_).bind λr3=>
 ((idx a0_.Entries r3.1).bind λe4=>
 (some (e4.Mask,0))))))
def Zn7 (N:Nat)(a0_:Zax)(a1_:(List Int))(i2:Int):Option ((Int)⊕((Unit)⊕(Bool))):=
 (if(decide (i2<((List.length a1_:Nat):Int)))then((idx a1_ i2).bind λa1=>
 ((Ztb N a0_ i2 a1).bind λa0=>
 (if(!a0)then(some (.inr (.inr false)))else(some (.inl (w64 (i2+1)))))))else(some (.inr (.inl ()))))
def ZrR (N:Nat)(a0_:Zax)(a1_:(List Int)):Option (Bool):=
 (if(((List.length a1_:Nat):Int)!=((List.length a0_.Periods:Nat):Int))then(some false)else((ZaO (λx:Int=>Zn7 N a0_ a1_ x) N 0).bind λa1=>match a1 with
 |(.inl a2)=>(some true)
 |(.inr a0)=>(some a0)))
def Zi5 (N:Nat)(a0_:Zay):Option (Bool):=
 ((((Zc7 N a0_.Grid 1 10000).bind λr1=>(if r1 then((Zc7 N a0_.Slack 0 1000).bind λr3=>(if r3 then((Zc7 N a0_.Proc 0 10000).bind λr5=>(if r5 then((Zc7 N a0_.Cap 1542 65536).bind λr7=>(some r7))else(some false)))else(some false)))else(some false)))).bind λ(a0:Bool)=>
 (some a0))
def Zj8 (N:Nat)(a1_:Zay)(a1:ZaX)(a2:Int)(a0:Int):Option ((Int)⊕((Int))):=
 (if(decide (a0<(w64 ((w64 ((w64 ((w64 (a1.Open+a1.Long))+a2))+a1_.Proc))+(w64 (2*a1_.Slack))))))then(some (.inl (w64 (a0+a1_.Grid))))else(some (.inr a0)))
def Ze4 (N:Nat)(a0_:Zav)(a1_:Zay)(a2_:Zat)(a3_:(List Int))(i8:Int)(l9:(List ZaX)):Option ((Int×(List ZaX))⊕(((List ZaX)))):=
 (if(decide (i8<((List.length a3_:Nat):Int)))then((idx l9 (w64 (i8-1))).bind λa0=>
 ((Zhk N a0_ a0.Port).bind λa1=>
 ((idx a3_ i8).bind λa6=>
 ((idx a3_ i8).bind λa5=>
 ((Zka N a0_ a5).bind λa4=>
 ((ZaO (λx:Int=>Zj8 N a1_ a0 a1 x) N 0).bind λa2=>
 ((appI 40 l9 [(ZaX.mk a6 (w64 ((w64 ((w64 ((w64 (a0.Open+a0.Long))+a1))+a1_.Proc))-(w64 (2*a1_.Slack)))) (w64 ((w64 ((w64 ((w64 (a0.Open+a0.Long))+a1))+a1_.Proc))+(w64 (2*a1_.Slack)))) a2 (w64 (a2_.Size*a4)))]).bind λa3=>
 (some (.inl ((w64 (i8+1)),a3))))))))))else(some (.inr l9)))
def Zin (N:Nat)(a0_:Zav)(a1_:Zay)(a2_:Zat)(a3_:(List Int)):Option ((List ZaX)):=
 ((idx a3_ 0).bind λe1=>
 ((idx a3_ 0).bind λe2=>
 ((Zka N a0_ e2).bind λr3=>
 ((ZaO (λx:Int×(List ZaX)=>Ze4 N a0_ a1_ a2_ a3_ x.1 x.2) N (1,[(ZaX.mk e1 0 0 0 (w64 (a2_.Size*r3)))])).bind λa0=>
 (some a0)))))
def Zl9 (N:Nat)(a0_:Zav)(a1_:Zay)(a2_:Zat)(a3_:(List Int)):Option (Int):=
 ((Zin N a0_ a1_ a2_ a3_).bind λr1=>
 ((idx r1 (w64 (((List.length r1:Nat):Int)-1))).bind λe2=>
 ((Zhk N a0_ e2.Port).bind λr3=>
 (some (w64 ((w64 ((w64 (e2.Open+e2.Long))+r3))+a1_.Proc))))))
def Zn3 (N:Nat)(a1_:Zay)(a2_:(List Zat))(a3_:(List Int))(i3:Int)(i4:Int)(a1:(List ZaX))(a0:Int)(a2:(List Zbl)):Option ((Int×(List Zbl))⊕(((List Zbl)))):=
 (if(decide (a0<((List.length a1:Nat):Int)))then((idx a1 a0).bind λab=>
 ((quoI .i64 (w64 ((w64 (ab.Long+a1_.Grid))-1)) a1_.Grid).bind λa3=>
 ((idx a2_ i4).bind λaa=>
 ((idx a1 a0).bind λa9=>
 ((idx a1 a0).bind λa8=>
 ((idx a3_ i3).bind λa7=>
 ((idx a2_ i4).bind λa6=>
 ((idx a1 a0).bind λa5=>
 ((appI 48 a2 [(Zbl.mk aa.Id a9.Port (w64 (a8.Open+(w64 (a7*a1_.Grid)))) (w64 (a6.Period*a1_.Grid)) (w64 (a3*a1_.Grid)) a5.Long)]).bind λa4=>
 (some (.inl ((w64 (a0+1)),a4))))))))))))else(some (.inr a2)))
def Zn4 (N:Nat)(a0_:Zav)(a1_:Zay)(a2_:(List Zat))(a3_:(List Int))(i3:Int)(i4:Int)(a0:Int)(a1:(List Zbl)):Option ((Int×(List Zbl))⊕(((List Zbl)))):=
 ((idx a2_ i4).bind λa7=>
 (if(decide (a0<((List.length a7.Routes:Nat):Int)))then((idx a2_ i4).bind λa6=>
 ((idx a2_ i4).bind λa5=>
 ((idx a5.Routes a0).bind λa4=>
 ((Zin N a0_ a1_ a6 a4).bind λa2=>
 ((ZaO (λx:Int×(List Zbl)=>Zn3 N a1_ a2_ a3_ i3 i4 a2 x.1 x.2) N (0,a1)).bind λa3=>
 (some (.inl ((w64 (a0+1)),a3))))))))else(some (.inr a1))))
def Zn5 (N:Nat)(a0_:Zav)(a1_:Zay)(a2_:(List Zat))(a3_:(List Int))(i3:Int)(i4:Int)(l5:(List Zbl)):Option ((Int×Int×(List Zbl))⊕(((List Zbl)))):=
 (if(decide (i4<((List.length a2_:Nat):Int)))then((((idx a2_ i4).bind λa2=>
 (if(a2.Class !=7)then(some (i3,l5))else((ZaO (λx:Int×(List Zbl)=>Zn4 N a0_ a1_ a2_ a3_ i3 i4 x.1 x.2) N (0,l5)).bind λa1=>
 (some ((w64 (i3+1)),a1)))))).bind λ(a0:Int×(List Zbl))=>
 (some (.inl (a0.1,(w64 (i4+1)),a0.2))))else(some (.inr l5)))
def ZrM (N:Nat)(a0_:Zav)(a1_:Zay)(a2_:(List Zat))(a3_:(List Int)):Option ((List Zbl)):=
 ((ZaO (λx:Int×Int×(List Zbl)=>Zn5 N a0_ a1_ a2_ a3_ x.1 x.2.1 x.2.2) N (0,0,[])).bind λa0=>
 (some a0))
def ZoZ (N:Nat)(a0_:ZaI)(a1_:Zbl)(i2:Int)(a1:Int):Option ((Int)⊕((Unit)⊕(Bool))):=
 (if(decide (a1<(w64 (i2+a1_.Frame))))then((Zyb N a0_ a1).bind λa0=>
 ((idx a0_.Entries a0.1).bind λa3=>
 (if(a3.Mask !=128)then(some (.inr (.inr false)))else((idx a0_.Entries a0.1).bind λa2=>
 (some (.inl (w64 ((w64 (a1-a0.2))+a2.Long))))))))else(some (.inr (.inl ()))))
def Zo0 (N:Nat)(a0_:ZaI)(a1_:Zbl)(i2:Int):Option ((Int)⊕((Unit)⊕(Bool))):=
 (if(decide (i2<a0_.Cycle))then((ZaO (λx:Int=>ZoZ N a0_ a1_ i2 x) N i2).bind λa1=>match a1 with
 |(.inl a2)=>(some (.inl (w64 (i2+a1_.Period))))
 |(.inr a0)=>(some (.inr (.inr a0))))else(some (.inr (.inl ()))))
def Zs8 (N:Nat)(a0_:ZaI)(a1_:Zbl):Option (Bool):=
 ((Zhf N a1_.Begin a1_.Period).bind λr1=>
 ((ZaO (λx:Int=>Zo0 N a0_ a1_ x) N r1).bind λa1=>match a1 with
 |(.inl a2)=>(some true)
 |(.inr a0)=>(some a0)))
def ZgZ (N:Nat)(a0_:ZaI)(a1_:Int)(a2_:Int):Option (Int):=
 ((ZcX N a0_ a2_ (λx0=>Ze7 N x0 a1_)).bind λr3=>
 (if(r3==a0_.Cycle)then(some 1099511627776)else(some r3)))
def Zda (N:Nat)(a0_:Zay):Option (Int):=
 ((((ZbD N a0_.Grid 1 10000).bind λr1=>(if(!r1)then(some true)else((ZbD N a0_.Slack 0 1000).bind λr4=>(some (!r4)))))).bind λ(j5:Bool)=>
 (if j5 then(some 320)else((((ZbD N a0_.Proc 0 10000).bind λr7=>(if(!r7)then(some true)else((ZbD N a0_.Cap 1542 65536).bind λa0=>(some (!a0)))))).bind λ(a1:Bool)=>
 (if a1 then(some 320)else(some 0)))))
def Zip (N:Nat)(a0_:Zav)(a1_:ZaR):Option (Bool):=
 ((((Zio N a0_ a1_.A).bind λr1=>(if(!r1)then(some true)else((Zio N a0_ a1_.B).bind λr4=>(if(!r4)then(some true)else(if(a1_.A==a1_.B)then(some true)else((idx a0_.Station a1_.A).bind λe9=>(if e9 then((idx a0_.Station a1_.B).bind λa1=>(some a1))else(some false))))))))).bind λ(a0:Bool)=>
 (if a0 then(some false)else(some ((decide (a1_.Per≥1))&&((decide (a1_.Per<=1000))&&((decide (a1_.Delay≥0))&&(decide (a1_.Delay<=10000))))))))
def Zc4 (N:Nat)(a0_:Zav)(a2_:(List Int))(a2:Int)(a1:(List Bool)):Option ((Int×(List Bool))⊕(((List Bool)))):=
 (if(decide (a2<((List.length a0_.Links:Nat):Int)))then((((idx a0_.Links a2).bind λa0=>
 ((((Zjb N a2_ a2).bind λa3=>(if(!a3)then((idx a1 a0.A).bind λa7=>(if a7 then(some true)else((idx a1 a0.B).bind λa6=>(some a6))))else(some false)))).bind λ(a4:Bool)=>
 (if a4 then((idx a1 a0.A).bind λa9=>
 ((idx (List.set a1 (Int.toNat a0.A) true) a0.B).bind λa8=>
 (some (List.set (List.set a1 (Int.toNat a0.A) true) (Int.toNat a0.B) true))))else(some a1))))).bind λ(a5:(List Bool))=>
 (some (.inl ((w64 (a2+1)),a5))))else(some (.inr a1)))
def ZdO (N:Nat)(a0_:Zav)(a2_:(List Int))(i10:Int)(a1:(List Bool)):Option ((Int×(List Bool))⊕(((List Bool)))):=
 (if(decide (i10<a0_.Nodes))then((ZaO (λx:Int×(List Bool)=>Zc4 N a0_ a2_ x.1 x.2) N (0,a1)).bind λa0=>
 (some (.inl ((w64 (i10+1)),a0))))else(some (.inr a1)))
def Zi7 (N:Nat)(a0_:Zav)(a1_:Int)(a2_:(List Int)):Option ((List Bool)):=
 ((Zhr 1 a0_.Nodes a0_.Nodes false).bind λl3=>
 ((idx l3 a1_).bind λe4=>
 ((ZaO (λx:Int×(List Bool)=>ZdO N a0_ a2_ x.1 x.2) N (0,(List.set l3 (Int.toNat a1_) true))).bind λa0=>
 (some a0))))
def Zhd (N:Nat)(a0_:Int)(a1_:Int):Option (Int):=
 ((Zhf N a0_ a1_).bind λr1=>
 ((quoI .i64 (w64 (a0_-r1)) a1_).bind λq2=>
 (some q2)))
def Zq7 (N:Nat)(a0_:ZaI)(a1_:Int):Option (Int×Int):=
 ((Zeg N a0_ 0 a1_ 0).bind λr1=>
 (if(r1 !=0)then(some (0,r1))else((Zg0 N a0_ a1_).bind λr3=>
 ((idx a0_.Entries r3.1).bind λe4=>
 ((ZcX N a0_ a1_ (λx0=>ZhR N x0 e4.Mask)).bind λr8=>
 (if(r8==a0_.Cycle)then(some (0,4))else(some ((w64 (a1_+r8)),0))))))))
def ZfS (N:Nat)(a1_:(List Int))(a2_:(List Int))(i1:Int)(a0:Int):Option ((Int)⊕((Unit)⊕(Bool))):=
 (if(decide (a0<((List.length a2_:Nat):Int)))then((idx a1_ i1).bind λa2=>
 ((idx a2_ a0).bind λa1=>
 (if((w64 (Int.tdiv a2 2))==(w64 (Int.tdiv a1 2)))then(some (.inr (.inr false)))else(some (.inl (w64 (a0+1)))))))else(some (.inr (.inl ()))))
def ZfT (N:Nat)(a1_:(List Int))(a2_:(List Int))(i1:Int):Option ((Int)⊕((Unit)⊕(Bool))):=
 (if(decide (i1<((List.length a1_:Nat):Int)))then((ZaO (λx:Int=>ZfS N a1_ a2_ i1 x) N 0).bind λa1=>match a1 with
 |(.inl a2)=>(some (.inl (w64 (i1+1))))
 |(.inr a0)=>(some (.inr (.inr a0))))else(some (.inr (.inl ()))))
def Zea (N:Nat)(a0_:Zav)(a1_:(List Int))(a2_:(List Int)):Option (Bool):=
 ((ZaO (λx:Int=>ZfT N a1_ a2_ x) N 0).bind λa7=>match a7 with
 |(.inl a9)=>((((Zd9 N a0_ a1_).bind λa5=>((Zd9 N a0_ a2_).bind λa4=>((Zfi N a5 a4).bind λa3=>(if(!a3)then((Zd9 N a0_ a2_).bind λa2=>((Zd9 N a0_ a1_).bind λa1=>((Zfi N a2 a1).bind λa0=>(some (!a0)))))else(some false)))))).bind λ(a8:Bool)=>
 (some a8))
 |(.inr a6)=>(some a6))
def ZcH (N:Nat)(a0_:ZaM)(a1_:ZaM)(r1:Int)(i2:Int):Option ((Int)⊕((Unit)⊕(Bool))):=
 (if(decide (i2<a0_.Long))then((Zhf N (w64 ((w64 (a1_.From-a0_.From))-i2)) r1).bind λa0=>
 (if(a0==0)then(some (.inr (.inr false)))else(some (.inl (w64 (i2+1))))))else(some (.inr (.inl ()))))
def ZeF (N:Nat)(a0_:ZaM)(a1_:ZaM):Option (Bool):=
 ((Zl5 N a0_.Period a1_.Period).bind λr1=>
 ((ZaO (λx:Int=>ZcH N a0_ a1_ r1 x) N (w64 (1-a1_.Long))).bind λa1=>match a1 with
 |(.inl a2)=>(some true)
 |(.inr a0)=>(some a0)))
def ZfR (N:Nat)(a0_:Zav)(a1_:(List Int))(i4:Int):Option ((Int)⊕((Unit)⊕(Bool))):=
 (if(decide (i4<((List.length a1_:Nat):Int)))then((idx a1_ i4).bind λa1=>
 ((ZkF N a0_ a1).bind λa0=>
 (if(!a0)then(some (.inr (.inr false)))else(some (.inl (w64 (i4+1)))))))else(some (.inr (.inl ()))))
def ZfQ (N:Nat)(a0_:Zav)(a1_:(List Int))(a1:(List Int))(a0:Int):Option ((Int)⊕((Unit)⊕(Bool))):=
 (if(decide (a0<((List.length a1:Nat):Int)))then((subI a1 0 a0).bind λa4=>
 ((idx a1 a0).bind λaa=>
 ((Zjb N a4 aa).bind λa3=>
 (if a3 then(some (.inr (.inr false)))else(((if(decide (a0>0))then(if(decide (a0<((List.length a1_:Nat):Int)))then((idx a1 a0).bind λa9=>((idx a0_.Station a9).bind λa8=>(if a8 then(some true)else((idx a1_ a0).bind λa7=>((Zdf N a0_ a7).bind λa2=>((idx a1 a0).bind λa6=>(some (a2 !=a6))))))))else(some false))else(some false))).bind λ(a5:Bool)=>
 (if a5 then(some (.inr (.inr false)))else(some (.inl (w64 (a0+1))))))))))else(some (.inr (.inl ()))))
def Zdw (N:Nat)(a0_:Zav)(a1_:(List Int)):Option (Bool):=
 (if((decide (((List.length a1_:Nat):Int)<1))||(decide (((List.length a1_:Nat):Int)>8)))then(some false)else((ZaO (λx:Int=>ZfR N a0_ a1_ x) N 0).bind λa4=>match a4 with
 |(.inl a6)=>((Zd9 N a0_ a1_).bind λa3=>
 ((ZaO (λx:Int=>ZfQ N a0_ a1_ a3 x) N 0).bind λa2=>match a2 with
 |(.inl a5)=>(some true)
 |(.inr a1)=>(some a1)))
 |(.inr a0)=>(some a0)))
def Zch (N:Nat)(a0_:(List Bool))(a1_:Bool):Option (Bool):=
 ((Zds N a0_ a1_).bind λr1=>
 (some (decide (r1≥0))))
def ZfK (N:Nat)(c0_:Zav)(c1_:Zat):Option (Bool):=
 ((((ZeE N c0_ c1_.Talker).bind λr3=>(if r3 then((ZeE N c0_ c1_.Listener).bind λr7=>(if r7 then(some (c1_.Talker !=c1_.Listener))else(some false)))else(some false)))).bind λ(a0:Bool)=>
 (some a0))
def Zku (N:Nat)(a0_:ZfD):Option (Int):=
 ((((Zev N a0_.Burst 1 1048576).bind λr1=>(if(!r1)then(some true)else((Zev N a0_.Rate 1 2097152).bind λr4=>(some (!r4)))))).bind λ(j5:Bool)=>
 (if j5 then(some 130)else(some 0)))
def Zb9 (N:Nat)(a0_:Zav)(l8:(List Int))(a1:(List Int))(a0:Int)(a2:(List Int)):Option ((Int×(List Int))⊕(((List Int)))):=
 (if(decide (a0<((List.length a1:Nat):Int)))then((((idx a1 a0).bind λa8=>
 ((Zep N a0_ a8).bind λa4=>
 ((Zjb N l8 a4).bind λa3=>
 (if(!a3)then((idx a1 a0).bind λa7=>
 ((appI 8 a2 [a7]).bind λa5=>
 (some a5)))else(some a2)))))).bind λ(a6:(List Int))=>
 (some (.inl ((w64 (a0+1)),a6))))else(some (.inr a2)))
def Zfj (N:Nat)(a0_:Zav)(a2_:Int)(i7:Int)(l8:(List Int))(l9:(List Int)):Option ((Int×(List Int)×(List Int))⊕(((List Int))⊕((List Int)))):=
 (((if(decide (((List.length l9:Nat):Int)<8))then(if(((List.length l9:Nat):Int)==0)then(some true)else((idx a0_.Station i7).bind λa8=>(some (!a8))))else(some false))).bind λ(a7:Bool)=>
 (if a7 then((Zhi N a0_ i7).bind λa6=>
 ((ZaO (λx:Int×(List Int)=>Zb9 N a0_ l8 a6 x.1 x.2) N (0,[])).bind λa0=>
 (if(((List.length a0:Nat):Int)==0)then(some (.inr (.inr l9)))else((remI (w64 ((w64 (a2_))+(w64 (3*((List.length l9:Nat):Int))))) ((List.length a0:Nat):Int)).bind λa3=>
 ((idx a0 a3).bind λa2=>
 ((appI 8 l9 [a2]).bind λa5=>
 ((Zep N a0_ a2).bind λa1=>
 ((appI 8 l8 [a1]).bind λa4=>
 (some (.inl (a1,a4,a5)))))))))))else(some (.inr (.inl l9)))))
def ZkE (N:Nat)(a0_:Zav)(a1_:Int)(a2_:Int):Option ((List Int)):=
 ((remI (w64 (a1_)) a0_.Nodes).bind λm1=>
 ((ZaO (λx:Int×(List Int)×(List Int)=>Zfj N a0_ a2_ x.1 x.2.1 x.2.2) N (m1,[m1],[])).bind λa2=>match a2 with
 |(.inl a1)=>(some a1)
 |(.inr a0)=>(some a0)))
def Zde (N:Nat)(a0_:Int)(a1_:(List Int))(i1:Int)(i2:Int):Option ((Int×Int)⊕((Int))):=
 (if(decide (i2<((List.length a1_:Nat):Int)))then((idx a1_ i2).bind λa0=>
 ((Zhb N i1 a0).bind λa2=>
 ((quoI .i64 i1 a2).bind λa1=>
 (if(decide ((w64 (a1*a0))>a0_))then(some (.inr (w64 (a1*a0))))else(some (.inl ((w64 (a1*a0)),(w64 (i2+1)))))))))else(some (.inr i1)))
def ZhL (N:Nat)(a0_:Int)(a1_:(List Int)):Option (Int):=
 ((ZaO (λx:Int×Int=>Zde N a0_ a1_ x.1 x.2) N (1,0)).bind λa0=>
 (some a0))
def ZhD (N:Nat)(a0_:Int)(c0_:Zav):Option (Bool):=
 ((idx c0_.Links a0_).bind λe2=>
 ((((ZjS N c0_ e2.A).bind λr4=>(if r4 then((ZjS N c0_ e2.B).bind λr7=>(if r7 then(some (e2.A !=e2.B))else(some false)))else(some false)))).bind λ(a0:Bool)=>
 (some a0)))
def ZbA (N:Nat)(a0_:Zbg)(a3:Int)(a2:Int)(a1:ZaB)(a8:Int)(a0:ZbS):Option ((Int×Int×ZaB)×Nat):=
 (if(a8==0)then((a1.get a0.from_).bind λab=>
 (((ZaB.set a1 a0.from_ true).get a0.to_).bind λa7=>
 (if a7 then(some ((a3,a2,(ZaB.set a1 a0.from_ true)),1))else(((ZaB.set a1 a0.from_ true).get a0.to_).bind λaa=>
 (some (((w64 (a3+1)),a0.to_,(ZaB.set (ZaB.set a1 a0.from_ true) a0.to_ true)),0))))))else(((if(a0.from_ !=a2)then(some true)else((idx a0_.Topo.Station a2).bind λa6=>(some a6)))).bind λ(a4:Bool)=>
 (if a4 then(some ((a3,a2,a1),1))else((a1.get a0.to_).bind λa5=>
 (if a5 then(some ((a3,a2,a1),1))else((a1.get a0.to_).bind λa9=>
 (some (((w64 (a3+1)),a0.to_,(ZaB.set a1 a0.to_ true)),0))))))))
def Zcx (N:Nat)(a0_:Zbg)(a1_:(List Int)):Option (Bool):=
 (if((decide (((List.length a1_:Nat):Int)<1))||(decide (((List.length a1_:Nat):Int)>8)))then(some false)else((((Zdd N a0_ a1_).bind λa1=>
 ((Zdc N (λ(s:(Int×Int×ZaB)×Nat) (a3:Int) (a2:ZbS)=>Zgn (λv:Int×Int×ZaB=>ZbA N a0_ v.1 v.2.1 v.2.2 a3 a2) s) a1.1 a1.2 ((0,0,(ZaB.mk false false false false false false false false false false false false)),0)).bind λa0=>
 (if(a0.2==0)then(some a0.1.1)else(if(a0.2==1)then(some a0.1.1)else none))))).bind λ(a4:Int)=>
 (some (a4==((List.length a1_:Nat):Int)))))
def ZhK (N:Nat)(a0_:ZaM)(a1_:ZaM):Option (Int×Int×Int):=
 ((Zhb N a0_.Period a1_.Period).bind λr1=>
 (some (a0_.Long,(w64 (r1-a1_.Long)),r1)))
def ZbP (N:Nat)(a3:(List Int))(x13:Int)(x14:ZbS):Option ((List Int)):=
 (((if(x13==0)then((appI 8 a3 [x14.from_]).bind λa1=>
 (some a1))else(some a3))).bind λ(a2:(List Int))=>
 ((appI 8 a2 [x14.to_]).bind λa0=>
 (some a0)))
def ZcP (N:Nat)(a0_:Zbg)(a1_:(List Int)):Option ((List Int)):=
 ((Zhr 8 0 (w64 (((List.length a1_:Nat):Int)+1)) 0).bind λl3=>
 ((Zdd N a0_ a1_).bind λr7=>
 ((Zdc N (λ(s:(List Int)) (x13:Int) (x14:ZbS)=>ZdS (λv:(List Int)=>ZbP N v x13 x14) s) r7.1 r7.2 l3).bind λa0=>
 (some a0))))
def Zcu (N:Nat)(a0_:(List Int))(a1_:Int):Option (Bool):=
 ((Zd5 N a0_ a1_).bind λr1=>
 (some (decide (r1≥0))))
def Zfh (N:Nat)(a0_:Zbg)(c0_:(List Int)):Option ((List Int)×Int):=
 ((ZcP N a0_ c0_).bind λr2=>
 (some (r2,0)))
def ZkN (N:Nat)(a0_:ZaI)(a1_:Int)(a2_:Int)(a3_:Int):Option (Bool×Int):=
 ((Zeg N a0_ a1_ a2_ a3_).bind λr1=>
 (if(r1 !=0)then(some (false,r1))else((ZgZ N a0_ a1_ a2_).bind λr3=>
 (some ((decide (r3≥a3_)),0)))))
def Ze8 (N:Nat)(a0_:ZaI)(a1_:Int)(a2_:Int)(a3_:Int)(i6:Int):Option ((Int)⊕((Unit)⊕(Int×Int))):=
 (if(decide (i6<(w64 (a2_+(w64 (2*a0_.Cycle))))))then((ZgZ N a0_ a1_ i6).bind λa0=>
 (if(decide (a0≥a3_))then(some (.inr (.inr (i6,0))))else((ZcX N a0_ (w64 (i6+a0)) (λx0=>ZfC N x0 a1_)).bind λa1=>
 (some (.inl (w64 ((w64 (i6+a0))+a1)))))))else(some (.inr (.inl ()))))
def Zkr (N:Nat)(a0_:ZaI)(a1_:Int)(a2_:Int)(a3_:Int):Option (Int×Int):=
 ((Zeg N a0_ a1_ a2_ a3_).bind λr4=>
 (if(r4 !=0)then(some (0,r4))else((ZaO (λx:Int=>Ze8 N a0_ a1_ a2_ a3_ x) N a2_).bind λa1=>match a1 with
 |(.inl a2)=>(some (0,4))
 |(.inr a0)=>(some a0))))
def ZkM (N:Nat)(a0_:ZaI)(a1_:Int)(a2_:Int):Option (Int×Int):=
 ((Zeg N a0_ a1_ a2_ 0).bind λr1=>
 (if(r1 !=0)then(some (0,r1))else((ZgZ N a0_ a1_ a2_).bind λr3=>
 (some (r3,0)))))
def ZfV (N:Nat)(a0_:Zav)(i13:Int)(a2:ZaR)(a0:Int):Option ((Int)⊕((Unit)⊕(Bool))):=
 (if(decide (a0<i13))then((idx a0_.Links a0).bind λa3=>
 ((Zhj N a3 a2.A a2.B).bind λa1=>
 (if a1 then(some (.inr (.inr false)))else(some (.inl (w64 (a0+1)))))))else(some (.inr (.inl ()))))
def Zc3 (N:Nat)(a0_:Zav)(i13:Int)(a2:(List Int)):Option ((Int×(List Int))⊕(((List Int))⊕(Bool))):=
 (if(decide (i13<((List.length a0_.Links:Nat):Int)))then((idx a0_.Links i13).bind λa0=>
 ((Zip N a0_ a0).bind λa6=>
 (if(!a6)then(some (.inr (.inr false)))else((ZaO (λx:Int=>ZfV N a0_ i13 a0 x) N 0).bind λa4=>match a4 with
 |(.inl a7)=>((idx a2 a0.A).bind λa1=>
 ((idx a2 a0.A).bind λa9=>
 ((idx (List.set a2 (Int.toNat a0.A) (w64 (a1+1))) a0.B).bind λa5=>
 ((idx (List.set a2 (Int.toNat a0.A) (w64 (a1+1))) a0.B).bind λa8=>
 (some (.inl ((w64 (i13+1)),(List.set (List.set a2 (Int.toNat a0.A) (w64 (a1+1))) (Int.toNat a0.B) (w64 (a5+1))))))))))
 |(.inr a3)=>(some (.inr (.inr a3)))))))else(some (.inr (.inl a2))))
def ZfU (N:Nat)(a0_:Zav)(a1:(List Int))(a2:(List Bool))(a0:Int):Option ((Int)⊕((Unit)⊕(Bool))):=
 (if(decide (a0<a0_.Nodes))then((((idx a2 a0).bind λa7=>(if(!a7)then(some true)else((idx a0_.Station a0).bind λa6=>(if a6 then((idx a1 a0).bind λa5=>(if(decide (a5<1))then(some true)else((idx a1 a0).bind λa4=>(some (decide (a4>2))))))else(some false)))))).bind λ(a3:Bool)=>
 (if a3 then(some (.inr (.inr false)))else(some (.inl (w64 (a0+1))))))else(some (.inr (.inl ()))))
def Zhh (N:Nat)(a0_:Zav):Option (Bool):=
 (if((decide (a0_.Nodes<2))||((decide (a0_.Nodes>12))||((((List.length a0_.Station:Nat):Int)!=a0_.Nodes)||(decide (((List.length a0_.Links:Nat):Int)>24)))))then(some false)else((Zhr 8 a0_.Nodes a0_.Nodes 0).bind λa7=>
 ((ZaO (λx:Int×(List Int)=>Zc3 N a0_ x.1 x.2) N (0,a7)).bind λa5=>match a5 with
 |(.inl a3)=>((Zi7 N a0_ 0 ([])).bind λa0=>
 ((ZaO (λx:Int=>ZfU N a0_ a3 a0 x) N 0).bind λa4=>match a4 with
 |(.inl a6)=>(some true)
 |(.inr a2)=>(some a2)))
 |(.inr a1)=>(some a1))))
def Zl1 (N:Nat)(a0_:Zay)(a1_:Int)(a2_:Int)(a3_:ZaX):Option (ZaH):=
 ((Zhd N a3_.Early a0_.Grid).bind λr1=>
 ((Zhd N (w64 (0-(w64 (a3_.Open+a3_.Long)))) a0_.Grid).bind λr2=>
 ((Zhf N r1 a2_).bind λr3=>
 (some (ZaH.mk a1_ a3_.Port r3 (w64 ((w64 (0-r2))-r1)))))))
def Zns (N:Nat)(a0_:ZaI)(a1_:Int)(a2_:Int):Option (Bool):=
 ((Zq8 N a0_ a1_).bind λr1=>
 (if(r1.1 !=128)then(some false)else((Zq7 N a0_ a1_).bind λr3=>
 (some ((r3.2 !=0)||(decide (r3.1≥(w64 (a1_+a2_)))))))))
def Zdy (N:Nat)(a1_:Zav)(a2_:Int)(a3_:Int)(i14:Int):Option ((Int)⊕((Unit)⊕(Zav))):=
 (if(decide (i14<((List.length a1_.Links:Nat):Int)))then((idx a1_.Links i14).bind λa1=>
 ((Zhj N a1 a2_ a3_).bind λa0=>
 (if a0 then(some (.inr (.inr a1_)))else(some (.inl (w64 (i14+1)))))))else(some (.inr (.inl ()))))
def Zbs (N:Nat)(a0_:ZbI)(a1_:Zav)(a2_:Int)(a3_:Int):Option (Zav):=
 ((Ze5 N a0_.Pers ((List.length a1_.Links:Nat):Int)).bind λr2=>
 ((Ze5 N a0_.Delays ((List.length a1_.Links:Nat):Int)).bind λr3=>
 (((if(((List.length a1_.Links:Nat):Int)==24)then(some true)else((Zip N a1_ (ZaR.mk a2_ a3_ (w64 (1+(Int.tmod r2 20))) (Int.tmod r3 50))).bind λr6=>(some (!r6))))).bind λ(a4:Bool)=>
 (if a4 then(some a1_)else((ZaO (λx:Int=>Zdy N a1_ a2_ a3_ x) N 0).bind λa1=>match a1 with
 |(.inl a3)=>((appI 32 a1_.Links [(ZaR.mk a2_ a3_ (w64 (1+(Int.tmod r2 20))) (Int.tmod r3 50))]).bind λa2=>
 (some (Zav.mk a1_.Nodes a1_.Station a2)))
 |(.inr a0)=>(some a0))))))
def Zh2 (N:Nat)(a0_:Zax)(a1_:Int)(a2_:Int)(a3_:Int)(a4_:Int)(i1:Int)(a0:Int):Option ((Int)⊕((Unit)⊕(Bool))):=
 (if(decide (a0<((List.length a0_.Uses:Nat):Int)))then(((if(i1 !=a0)then((idx a0_.Uses i1).bind λa8=>(if(a8.Stream==a1_)then((idx a0_.Uses a0).bind λa7=>(if(a7.Stream==a3_)then((idx a0_.Uses i1).bind λa6=>((idx a0_.Uses a0).bind λa5=>(if(a6.Port==a5.Port)then((Zl4 N a0_ i1 a2_).bind λa3=>((Zl4 N a0_ a0 a4_).bind λa2=>((ZeF N a3 a2).bind λa1=>(some (!a1)))))else(some false))))else(some false)))else(some false)))else(some false))).bind λ(a4:Bool)=>
 (if a4 then(some (.inr (.inr true)))else(some (.inl (w64 (a0+1))))))else(some (.inr (.inl ()))))
def Zh3 (N:Nat)(a0_:Zax)(a1_:Int)(a2_:Int)(a3_:Int)(a4_:Int)(i1:Int):Option ((Int)⊕((Unit)⊕(Bool))):=
 (if(decide (i1<((List.length a0_.Uses:Nat):Int)))then((ZaO (λx:Int=>Zh2 N a0_ a1_ a2_ a3_ a4_ i1 x) N 0).bind λa1=>match a1 with
 |(.inl a2)=>(some (.inl (w64 (i1+1))))
 |(.inr a0)=>(some (.inr (.inr a0))))else(some (.inr (.inl ()))))
def Zhe (N:Nat)(a0_:Zax)(a1_:Int)(a2_:Int)(a3_:Int)(a4_:Int):Option (Bool):=
 ((ZaO (λx:Int=>Zh3 N a0_ a1_ a2_ a3_ a4_ x) N 0).bind λa1=>match a1 with
 |(.inl a2)=>(some false)
 |(.inr a0)=>(some a0))
def ZeG (N:Nat)(a0_:Zav)(a1_:Zat)(i27:Int):Option ((Int)⊕((Unit)⊕(Bool))):=
 (if(decide (i27<((List.length a1_.Routes:Nat):Int)))then((idx a1_.Routes i27).bind λa0=>
 ((((Zdw N a0_ a0).bind λa3=>(if(!a3)then(some true)else((idx a0 0).bind λa6=>((Zdf N a0_ a6).bind λa2=>(if(a2 !=a1_.Talker)then(some true)else((idx a0 (w64 (((List.length a0:Nat):Int)-1))).bind λa5=>((Zep N a0_ a5).bind λa1=>(some (a1 !=a1_.Listener)))))))))).bind λ(a4:Bool)=>
 (if a4 then(some (.inr (.inr false)))else(some (.inl (w64 (i27+1)))))))else(some (.inr (.inl ()))))
def Zli (N:Nat)(a0_:Zav)(a1_:Zat)(a1:Int):Option ((Int)⊕((Unit)⊕(Bool))):=
 (if(decide (a1<((List.length a1_.Routes:Nat):Int)))then((idx a1_.Routes a1).bind λa0=>
 ((((Zdw N a0_ a0).bind λa4=>(if(!a4)then(some true)else((idx a0 0).bind λa7=>((Zdf N a0_ a7).bind λa3=>(if(a3 !=a1_.Talker)then(some true)else((idx a0 (w64 (((List.length a0:Nat):Int)-1))).bind λa6=>((Zep N a0_ a6).bind λa2=>(some (a2 !=a1_.Listener)))))))))).bind λ(a5:Bool)=>
 (if a5 then(some (.inr (.inr false)))else(some (.inl (w64 (a1+1)))))))else(some (.inr (.inl ()))))
def Zhg (N:Nat)(a0_:Zav)(a1_:Zat):Option (Bool):=
 ((((Zc7 N a1_.Id 1 4095).bind λr1=>(if(!r1)then(some true)else((Zdv N a0_ a1_.Talker).bind λr4=>(if(!r4)then(some true)else((Zdv N a0_ a1_.Listener).bind λr7=>(if(!r7)then(some true)else(if(a1_.Talker==a1_.Listener)then(some true)else((Zc7 N a1_.Size 84 1542).bind λaj=>(if(!aj)then(some true)else((Zc7 N a1_.Deadline 1 1099511627776).bind λai=>(some (!ai))))))))))))).bind λ(am:Bool)=>
 (if am then(some false)else(if(a1_.Class==7)then((((Zc7 N a1_.Period 1 240).bind λag=>(if(!ag)then(some true)else(some (!((a1_.Bucket.Burst==0)&&((a1_.Bucket.Rate==0)&&true))))))).bind λ(al:Bool)=>
 (if al then(some false)else(if((decide (((List.length a1_.Routes:Nat):Int)<1))||(decide (((List.length a1_.Routes:Nat):Int)>2)))then(some false)else((ZaO (λx:Int=>ZeG N a0_ a1_ x) N 0).bind λaa=>match aa with
 |(.inl ak)=>(((if(((List.length a1_.Routes:Nat):Int)==1)then(some true)else((idx a1_.Routes 0).bind λae=>((idx a1_.Routes 1).bind λad=>((Zea N a0_ ae ad).bind λa8=>(some a8)))))).bind λ(ac:Bool)=>
 (some ac))
 |(.inr a9)=>(some a9)))))else(if(a1_.Class==6)then(((if(a1_.Period !=0)then(some true)else((Zc7 N a1_.Bucket.Burst a1_.Size 1048576).bind λa7=>(if(!a7)then(some true)else((Zc7 N a1_.Bucket.Rate 1 2097152).bind λa6=>(some (!a6))))))).bind λ(ab:Bool)=>
 (if ab then(some false)else(if((decide (((List.length a1_.Routes:Nat):Int)<1))||(decide (((List.length a1_.Routes:Nat):Int)>2)))then(some false)else((ZaO (λx:Int=>Zli N a0_ a1_ x) N 0).bind λa2=>match a2 with
 |(.inl af)=>(((if(((List.length a1_.Routes:Nat):Int)==1)then(some true)else((idx a1_.Routes 0).bind λa5=>((idx a1_.Routes 1).bind λa4=>((Zea N a0_ a5 a4).bind λa0=>(some a0)))))).bind λ(a3:Bool)=>
 (some a3))
 |(.inr a1)=>(some a1)))))else(some false)))))
def Zi3 (N:Nat)(a0_:Zav)(a1_:Int)(a2_:Int)(i1:Int):Option ((Int)⊕((Unit)⊕((List Int)))):=
 (if(decide (i1<16))then((ZkE N a0_ a1_ (IntKind.u8.wrap (a2_+(IntKind.u8.wrap (i1))))).bind λa0=>
 (((if(decide (((List.length a0:Nat):Int)>0))then((Zdw N a0_ a0).bind λa3=>(if a3 then((idx a0 0).bind λa8=>((Zdf N a0_ a8).bind λa2=>((idx a0_.Station a2).bind λa7=>(if a7 then((idx a0 (w64 (((List.length a0:Nat):Int)-1))).bind λa6=>((Zep N a0_ a6).bind λa1=>((idx a0_.Station a1).bind λa5=>(some a5))))else(some false)))))else(some false)))else(some false))).bind λ(a4:Bool)=>
 (if a4 then((neL a0).bind λ_=>(some (.inr (.inr a0))))else(some (.inl (w64 (i1+1)))))))else(some (.inr (.inl ()))))
def Zim (N:Nat)(a0_:Zav)(a1_:Int)(a2_:Int):Option ((List Int)):=
 ((ZaO (λx:Int=>Zi3 N a0_ a1_ a2_ x) N 0).bind λa1=>match a1 with
 |(.inl a2)=>(some [])
 |(.inr a0)=>(some a0))
def ZlB (N:Nat)(a0_:Zax)(a1_:(List Int))(a2_:Int)(i1:Int):Option ((Int)⊕((Unit)⊕(Int))):=
 (if(decide (i1<((List.length a1_:Nat):Int)))then((idx a1_ i1).bind λa1=>
 ((Zhe N a0_ ((List.length a1_:Nat):Int) a2_ i1 a1).bind λa0=>
 (if a0 then(some (.inr (.inr i1)))else(some (.inl (w64 (i1+1)))))))else(some (.inr (.inl ()))))
def Zok (N:Nat)(a0_:Zax)(a1_:(List Int))(a2_:Int):Option (Int):=
 ((ZaO (λx:Int=>ZlB N a0_ a1_ a2_ x) N 0).bind λa2=>match a2 with
 |(.inl a3)=>((Zhe N a0_ ((List.length a1_:Nat):Int) a2_ ((List.length a1_:Nat):Int) a2_).bind λa0=>
 (if a0 then(some ((List.length a1_:Nat):Int))else(some (-1))))
 |(.inr a1)=>(some a1))
def ZeP (N:Nat)(a0_:(List ZaM))(i8:Int)(l9:(List Int)):Option ((Int×(List Int))⊕(((List Int)))):=
 (if(decide (i8<((List.length a0_:Nat):Int)))then((idx a0_ i8).bind λa0=>
 ((idx l9 i8).bind λa1=>
 (some (.inl ((w64 (i8+1)),(List.set l9 (Int.toNat i8) a0.Period))))))else(some (.inr l9)))
def ZgD (N:Nat)(a0_:(List ZaM)):Option (Int×Int):=
 ((ZeO N a0_).bind λr1=>
 (if(r1 !=0)then(some (0,r1))else((Zhr 8 ((List.length a0_:Nat):Int) ((List.length a0_:Nat):Int) 0).bind λl5=>
 ((ZaO (λx:Int×(List Int)=>ZeP N a0_ x.1 x.2) N (0,l5)).bind λa1=>
 ((ZhL N 960 a1).bind λa0=>
 (if(decide (a0>960))then(some (0,6))else(some (a0,0))))))))
def Zgv (N:Nat)(a0_:Zav)(i4:Int):Option ((Int)⊕((Unit)⊕(Bool))):=
 (if(decide (i4<((List.length a0_.Links:Nat):Int)))then((ZhD N i4 a0_).bind λa3=>
 (if(!a3)then(some (.inr (.inr false)))else((ZhC N i4 a0_).bind λa2=>
 (if(!a2)then(some (.inr (.inr false)))else((Zf2 N i4 a0_).bind λa1=>
 (if(!a1)then(some (.inr (.inr false)))else((ZhB N i4 a0_).bind λa0=>
 (if(!a0)then(some (.inr (.inr false)))else(some (.inl (w64 (i4+1))))))))))))else(some (.inr (.inl ()))))
def Zky (N:Nat)(a0_:Zav):Option (Bool):=
 ((ZaO (λx:Int=>Zgv N a0_ x) N 0).bind λa1=>match a1 with
 |(.inl a2)=>(some true)
 |(.inr a0)=>(some a0))
def ZeD (N:Nat)(c0_:Zat):Option (Bool):=
 (if(c0_.Class==7)then((((ZbD N c0_.Period 1 240).bind λr4=>(if r4 then(some ((c0_.Bucket.Burst==0)&&((c0_.Bucket.Rate==0)&&true)))else(some false)))).bind λ(j8:Bool)=>
 (some j8))else(if(c0_.Class==6)then(((if(c0_.Period==0)then((Zku N c0_.Bucket).bind λa0=>(if(a0==0)then(some (decide (c0_.Bucket.Burst≥c0_.Size)))else(some false)))else(some false))).bind λ(a1:Bool)=>
 (some a1))else(some false)))
def ZgC (N:Nat)(a0_:ZaM)(a1_:ZaM):Option (Bool):=
 (if((a0_.Period==a1_.Period)&&((a0_.From==a1_.From)&&((a0_.Long==a1_.Long)&&true)))then(some false)else((ZhK N a0_ a1_).bind λr2=>
 ((ZiV N (w64 (a1_.From-a0_.From)) r2.2.2).bind λr3=>
 (some ((decide (r2.1<=r3))&&(decide (r3<=r2.2.1)))))))
def Zdt (N:Nat)(r2:(List Int))(l3:List Int)(i4:Int):Option ((Int)⊕((Unit)⊕(Bool))):=
 (if(decide (i4<((List.length l3:Nat):Int)))then((idx l3 i4).bind λa1=>
 ((Zcu N r2 a1).bind λa0=>
 (if a0 then(some (.inr (.inr true)))else(some (.inl (w64 (i4+1)))))))else(some (.inr (.inl ()))))
def ZdB (N:Nat)(a0_:Zbg)(a1_:(List Int))(a2_:(List Int)):Option (Bool):=
 ((ZcP N a0_ a1_).bind λr1=>
 ((ZcP N a0_ a2_).bind λr2=>
 ((subI r1 1 (w64 (((List.length r1:Nat):Int)-1))).bind λl3=>
 ((ZaO (λx:Int=>Zdt N r2 l3 x) N 0).bind λa1=>match a1 with
 |(.inl a2)=>(some false)
 |(.inr a0)=>(some a0)))))
def Zb1 (N:Nat)(a0_:ZbI)(i3:Int)(l4:(List Bool)):Option ((Int×(List Bool))⊕(((List Bool)))):=
 (if(decide (i3<(w64 ((w64 (1+(w64 ((Int.tmod a0_.Bridges 6)))))+(w64 (2+(w64 ((Int.tmod a0_.Stations 5)))))))))then((appI 1 l4 [(decide (i3≥(w64 (1+(w64 ((Int.tmod a0_.Bridges 6)))))))]).bind λa0=>
 (some (.inl ((w64 (i3+1)),a0))))else(some (.inr l4)))
def Zb0 (N:Nat)(a0_:ZbI)(a1:Int)(a4:Int)(a3:(List Bool))(a2:(List ZaR)):Option ((Int×Int×(List Bool)×(List ZaR))⊕((Int×(List Bool)×(List ZaR)))):=
 (if(decide (a1<(w64 (1+(w64 ((Int.tmod a0_.Bridges 6)))))))then((Zbs N a0_ (Zav.mk a4 a3 a2) (w64 (a1-1)) a1).bind λa0=>
 (some (.inl ((w64 (a1+1)),a0.Nodes,a0.Station,a0.Links))))else(some (.inr (a4,a3,a2))))
def ZbZ (N:Nat)(a0_:ZbI)(a0:Int)(a4:Int)(a3:(List Bool))(a2:(List ZaR)):Option ((Int×Int×(List Bool)×(List ZaR))⊕((Int×(List Bool)×(List ZaR)))):=
 (if(decide (a0<(w64 (2+(w64 ((Int.tmod a0_.Stations 5)))))))then((Ze5 N a0_.Homes (w64 (2*a0))).bind λa5=>
 ((remI a5 (w64 (1+(w64 ((Int.tmod a0_.Bridges 6)))))).bind λa6=>
 ((Zbs N a0_ (Zav.mk a4 a3 a2) (w64 ((w64 (1+(w64 ((Int.tmod a0_.Bridges 6)))))+a0)) a6).bind λa1=>
 (some (.inl ((w64 (a0+1)),a1.Nodes,a1.Station,a1.Links))))))else(some (.inr (a4,a3,a2))))
def ZbB (N:Nat)(a0_:ZbI)(a0:Int)(a5:Int)(a3:(List Bool))(a2:(List ZaR)):Option ((Int×Int×(List Bool)×(List ZaR))⊕((Int×(List Bool)×(List ZaR)))):=
 (if(decide (a0<(w64 (2+(w64 ((Int.tmod a0_.Stations 5)))))))then((((Ze5 N a0_.Homes (w64 ((w64 (2*a0))+1))).bind λa7=>
 (if(decide ((Int.tmod a7 3)>0))then((Ze5 N a0_.Homes (w64 ((w64 (2*a0))+1))).bind λa6=>
 ((remI a6 (w64 (1+(w64 ((Int.tmod a0_.Bridges 6)))))).bind λa8=>
 ((Zbs N a0_ (Zav.mk a5 a3 a2) (w64 ((w64 (1+(w64 ((Int.tmod a0_.Bridges 6)))))+a0)) a8).bind λa1=>
 (some (a1.Nodes,a1.Station,a1.Links)))))else(some (a5,a3,a2))))).bind λ(a4:Int×(List Bool)×(List ZaR))=>
 (some (.inl ((w64 (a0+1)),a4.1,a4.2.1,a4.2.2))))else(some (.inr (a5,a3,a2))))
def Zcm (N:Nat)(a0_:ZbI)(a0:Int)(a4:Int)(a3:(List Bool))(a2:(List ZaR)):Option ((Int×Int×(List Bool)×(List ZaR))⊕((Int×(List Bool)×(List ZaR)))):=
 (if((decide ((w64 (a0+1))<((List.length a0_.Chords:Nat):Int)))&&(decide (a0<12)))then((idx a0_.Chords a0).bind λa8=>
 ((remI (w64 (a8)) (w64 (1+(w64 ((Int.tmod a0_.Bridges 6)))))).bind λa6=>
 ((idx a0_.Chords (w64 (a0+1))).bind λa7=>
 ((remI (w64 (a7)) (w64 (1+(w64 ((Int.tmod a0_.Bridges 6)))))).bind λa5=>
 ((Zbs N a0_ (Zav.mk a4 a3 a2) a6 a5).bind λa1=>
 (some (.inl ((w64 (a0+2)),a1.Nodes,a1.Station,a1.Links))))))))else(some (.inr (a4,a3,a2))))
def ZdC (N:Nat)(a0_:ZbI):Option (Zav):=
 ((ZaO (λx:Int×(List Bool)=>Zb1 N a0_ x.1 x.2) N (0,[])).bind λa6=>
 ((ZaO (λx:Int×Int×(List Bool)×(List ZaR)=>Zb0 N a0_ x.1 x.2.1 x.2.2.1 x.2.2.2) N (1,(w64 ((w64 (1+(w64 ((Int.tmod a0_.Bridges 6)))))+(w64 (2+(w64 ((Int.tmod a0_.Stations 5))))))),a6,[])).bind λa4=>
 ((ZaO (λx:Int×Int×(List Bool)×(List ZaR)=>ZbZ N a0_ x.1 x.2.1 x.2.2.1 x.2.2.2) N (0,a4.1,a4.2.1,a4.2.2)).bind λa0=>
 (((if((decide ((w64 (1+(w64 ((Int.tmod a0_.Bridges 6)))))>2))&&((Int.tmod a0_.Bridges 2)==0))then((Zbs N a0_ (Zav.mk a0.1 a0.2.1 a0.2.2) (w64 ((w64 (1+(w64 ((Int.tmod a0_.Bridges 6)))))-1)) 0).bind λa1=>
 (some (a1.Nodes,a1.Station,a1.Links)))else(some (a0.1,a0.2.1,a0.2.2)))).bind λ(a5:Int×(List Bool)×(List ZaR))=>
 ((ZaO (λx:Int×Int×(List Bool)×(List ZaR)=>ZbB N a0_ x.1 x.2.1 x.2.2.1 x.2.2.2) N (0,a5.1,a5.2.1,a5.2.2)).bind λa3=>
 ((ZaO (λx:Int×Int×(List Bool)×(List ZaR)=>Zcm N a0_ x.1 x.2.1 x.2.2.1 x.2.2.2) N (0,a3.1,a3.2.1,a3.2.2)).bind λa2=>
 (some (Zav.mk a2.1 a2.2.1 a2.2.2))))))))
def Zeo (N:Nat)(a0_:Zav)(a1_:(List Zat))(i4:Int):Option ((Int)⊕((Unit)⊕(Int))):=
 (if(decide (i4<((List.length a1_:Nat):Int)))then((idx a1_ i4).bind λa1=>
 ((Zhg N a0_ a1).bind λa0=>
 (if(!a0)then(some (.inr (.inr 321)))else(some (.inl (w64 (i4+1)))))))else(some (.inr (.inl ()))))
def ZcI (N:Nat)(a1_:(List Zat))(a1:Int)(a0:Int):Option ((Int)⊕((Unit)⊕(Int))):=
 (if(decide (a0<a1))then((idx a1_ a0).bind λa3=>
 ((idx a1_ a1).bind λa2=>
 (if(a3.Id==a2.Id)then(some (.inr (.inr 322)))else(some (.inl (w64 (a0+1)))))))else(some (.inr (.inl ()))))
def ZcJ (N:Nat)(a1_:(List Zat))(a0:Int):Option ((Int)⊕((Unit)⊕(Int))):=
 (if(decide (a0<((List.length a1_:Nat):Int)))then((ZaO (λx:Int=>ZcI N a1_ a0 x) N 0).bind λa2=>match a2 with
 |(.inl a3)=>(some (.inl (w64 (a0+1))))
 |(.inr a1)=>(some (.inr (.inr a1))))else(some (.inr (.inl ()))))
def ZfP (N:Nat)(a0_:Zav)(a1_:(List Zat)):Option (Int):=
 ((Zhh N a0_).bind λr1=>
 (if(!r1)then(some 260)else(if(decide (((List.length a1_:Nat):Int)>12))then(some 3)else((ZaO (λx:Int=>Zeo N a0_ a1_ x) N 0).bind λa3=>match a3 with
 |(.inl a5)=>((ZaO (λx:Int=>ZcJ N a1_ x) N 0).bind λa2=>match a2 with
 |(.inl a4)=>(some 0)
 |(.inr a1)=>(some a1))
 |(.inr a0)=>(some a0)))))
def Zd8 (N:Nat)(a1_:Zav)(i2:Int)(i3:Int):Option ((Int×Int)⊕((Int))):=
 (((if(decide (i3<a1_.Nodes))then((idx a1_.Station i2).bind λa2=>(some (!a2)))else(some false))).bind λ(a1:Bool)=>
 (if a1 then((remI (w64 (i2+1)) a1_.Nodes).bind λa0=>
 (some (.inl (a0,(w64 (i3+1))))))else(some (.inr i2))))
def Zd7 (N:Nat)(a0_:Zcl)(a1_:Zav)(ac:Int)(ab:(List Int))(aa:Int)(a2:Int)(a1:(List (List Int))):Option ((Int×(List (List Int)))⊕(((List (List Int))))):=
 (((if(decide (a2<24))then(if a0_.Two then(some (((List.length a1:Nat):Int)==1))else(some false))else(some false))).bind λ(a8:Bool)=>
 (if a8 then((((Zim N a1_ (IntKind.u8.wrap (ac)) (IntKind.u8.wrap (a0_.Way+(IntKind.u8.wrap (a2))))).bind λa0=>
 (if(List.isEmpty a0)then(some a1)else((((idx a0 (w64 (((List.length a0:Nat):Int)-1))).bind λa9=>((Zep N a1_ a9).bind λa4=>(if(a4==aa)then((Zea N a1_ ab a0).bind λa3=>(some a3))else(some false))))).bind λ(a6:Bool)=>
 (if a6 then((appI 24 a1 [a0]).bind λa5=>
 (some a5))else(some a1)))))).bind λ(a7:(List (List Int)))=>
 (some (.inl ((w64 (a2+1)),a7))))else(some (.inr a1))))
def ZdV (N:Nat)(a0_:Zcl)(a1_:Zav)(a2_:Int):Option (Zat×Bool):=
 ((remI (w64 (a0_.Node)) a1_.Nodes).bind λm1=>
 ((ZaO (λx:Int×Int=>Zd8 N a1_ x.1 x.2) N (m1,0)).bind λa6=>
 ((Zim N a1_ (IntKind.u8.wrap (a6)) a0_.Way).bind λa1=>
 (if(List.isEmpty a1)then(some ((Zat.mk 0 0 0 0 0 0 (ZfD.mk 0 0) 0 ([])),false))else((idx a1 0).bind λa9=>
 ((Zdf N a1_ a9).bind λa4=>
 ((idx a1 (w64 (((List.length a1:Nat):Int)-1))).bind λa8=>
 ((Zep N a1_ a8).bind λa3=>
 (((if a0_.Reserved then(some (6,0,(w64 ((w64 (84+(w64 (a0_.Size))))+(w64 (4*(w64 (a0_.Burst)))))),(w64 (1+(w64 (a0_.Rate))))))else((idx [4,6,8,12,16,24,48,10,5,240] (Int.tmod a0_.Period 10)).bind λa7=>
 (some (7,a7,0,0))))).bind λ(a0:Int×Int×Int×Int)=>
 ((ZaO (λx:Int×(List (List Int))=>Zd7 N a0_ a1_ a6 a1 a3 x.1 x.2) N (0,[a1])).bind λa2=>
 ((Zhg N a1_ (Zat.mk a2_ a4 a3 a0.1 (w64 (84+(w64 (a0_.Size)))) a0.2.1 (ZfD.mk a0.2.2.1 a0.2.2.2) 1099511627776 a2)).bind λa5=>
 (some ((Zat.mk a2_ a4 a3 a0.1 (w64 (84+(w64 (a0_.Size)))) a0.2.1 (ZfD.mk a0.2.2.1 a0.2.2.2) 1099511627776 a2),a5)))))))))))))
def ZdM (N:Nat)(rec_:Zax->Za1->((List Int))->Int->Option (Za1))(a0_:Zax)(a2_:(List Int))(a3_:Int)(i10:Int)(i11:Int)(l12:(List Zdj))(a4:(List Zcb))(ab:(List Int)):Option ((Int×Int×(List Zdj)×(List Zcb)×(List Int))⊕((Int×(List Zdj)×(List Zcb)×(List Int))⊕(Za1))):=
 ((idx a0_.Periods ((List.length a2_:Nat):Int)).bind λae=>
 (if(decide (i10<ae))then(if((((List.length a2_:Nat):Int)==0)&&(i10==1))then((idx a0_.Periods 0).bind λad=>
 ((appI 32 l12 [(Zdj.mk 1 ad (-2) 0)]).bind λac=>
 (some (.inr (.inl (i11,ac,a4,ab))))))else((Zok N a0_ a2_ i10).bind λa3=>
 (if(a3 !=(-1))then(((((if(decide (((List.length l12:Nat):Int)>0))then((idx l12 (w64 (((List.length l12:Nat):Int)-1))).bind λaa=>(some (aa.By==a3)))else(some false))).bind λ(a8:Bool)=>
 (if a8 then((idx l12 (w64 (((List.length l12:Nat):Int)-1))).bind λa2=>
 (some (List.set l12 (Int.toNat (w64 (((List.length l12:Nat):Int)-1))) (Zdj.mk a2.From (w64 (i10+1)) a2.By a2.Next))))else((appI 32 l12 [(Zdj.mk i10 (w64 (i10+1)) a3 0)]).bind λa7=>
 (some a7))))).bind λ(a9:(List Zdj))=>
 (some (.inl ((w64 (i10+1)),i11,a9,a4,ab))))else((appI 8 [] a2_).bind λa6=>
 ((appI 8 a6 [i10]).bind λa1=>
 (if(((List.length a1:Nat):Int)==((List.length a0_.Periods:Nat):Int))then(some (.inr (.inr (Za1.mk a4 a1 1))))else((appI 32 l12 [(Zdj.mk i10 (w64 (i10+1)) (-1) ((List.length a4:Nat):Int))]).bind λa5=>
 ((rec_ a0_ (Za1.mk a4 ab i11) a1 a3_).bind λa0=>
 (if(a0.What !=0)then(some (.inr (.inr a0)))else(some (.inl ((w64 (i10+1)),a0.What,a5,a0.Proof,a0.Offsets))))))))))))else(some (.inr (.inl (i11,l12,a4,ab))))))
def ZgF (N:Nat)(rec_:Zax->Za1->((List Int))->Int->Option (Za1))(a0_:Zax)(a1_:Za1)(a2_:(List Int))(a3_:Int):Option (Za1):=
 (if(decide (((List.length a1_.Proof:Nat):Int)>a3_))then(some (Za1.mk a1_.Proof a1_.Offsets 2))else((appI 32 a1_.Proof [(Zcb.mk ((List.length a2_:Nat):Int) ([]))]).bind λl5=>
 ((ZaO (λx:Int×Int×(List Zdj)×(List Zcb)×(List Int)=>ZdM N rec_ a0_ a2_ a3_ x.1 x.2.1 x.2.2.1 x.2.2.2.1 x.2.2.2.2) N (0,a1_.What,[],l5,a1_.Offsets)).bind λa2=>match a2 with
 |(.inl a0)=>((idx a0.2.2.1 ((List.length a1_.Proof:Nat):Int)).bind λa3=>
 (some (Za1.mk (List.set a0.2.2.1 (Int.toNat ((List.length a1_.Proof:Nat):Int)) (Zcb.mk a3.Stream a0.2.1)) a0.2.2.2 a0.1)))
 |(.inr a1)=>(some a1))))
def Zhc:Nat->Zax->Za1->((List Int))->Int->Option (Za1)
 |0=>λ_ _ _ _=>none
 |N+1=>λa0_ a1_ a2_ a3_=>ZgF N (Zhc N) a0_ a1_ a2_ a3_
def ZgJ (N:Nat)(a0_:(List Int))(i6:Int)(l7:(List ZaM)):Option ((Int×(List ZaM))⊕(((List ZaM)))):=
 (if(decide (i6<((List.length a0_:Nat):Int)))then((idx a0_ i6).bind λa0=>
 ((idx l7 i6).bind λa1=>
 (some (.inl ((w64 (i6+1)),(List.set l7 (Int.toNat i6) (ZaM.mk a0 0 1)))))))else(some (.inr l7)))
def Zfy (N:Nat)(a0_:(List Int)):Option (Int×Int):=
 ((Zhr 24 ((List.length a0_:Nat):Int) ((List.length a0_:Nat):Int) (ZaM.mk 0 0 0)).bind λl3=>
 ((ZaO (λx:Int×(List ZaM)=>ZgJ N a0_ x.1 x.2) N (0,l3)).bind λa1=>
 ((ZgD N a1).bind λa0=>
 (some (a0.1,a0.2)))))
def Zdq (N:Nat)(a0_:Zav)(i16:Int)(a2:(List Int)):Option ((Int×(List Int))⊕(((List Int)))):=
 (if(decide (i16<((List.length a0_.Links:Nat):Int)))then((idx a0_.Links i16).bind λa0=>
 ((idx a2 a0.A).bind λa1=>
 ((idx a2 a0.A).bind λa5=>
 ((idx (List.set a2 (Int.toNat a0.A) (w64 (a1+1))) a0.B).bind λa3=>
 ((idx (List.set a2 (Int.toNat a0.A) (w64 (a1+1))) a0.B).bind λa4=>
 (some (.inl ((w64 (i16+1)),(List.set (List.set a2 (Int.toNat a0.A) (w64 (a1+1))) (Int.toNat a0.B) (w64 (a3+1)))))))))))else(some (.inr a2)))
def Zgx (N:Nat)(a0_:Zav)(a1:(List Int))(a0:Int):Option ((Int)⊕((Unit)⊕(Int))):=
 (if(decide (a0<((List.length a0_.Station:Nat):Int)))then((idx a0_.Station a0).bind λa5=>
 (((if a5 then((idx a1 a0).bind λa4=>(if(decide (a4<1))then(some true)else((idx a1 a0).bind λa3=>(some (decide (a3>2))))))else(some false))).bind λ(a2:Bool)=>
 (if a2 then(some (.inr (.inr 260)))else(some (.inl (w64 (a0+1)))))))else(some (.inr (.inl ()))))
def ZgV (N:Nat)(a0_:Zav):Option (Int):=
 (if((decide (a0_.Nodes<2))||((decide (a0_.Nodes>12))||(((List.length a0_.Station:Nat):Int)!=a0_.Nodes)))then(some 260)else(((if(decide (((List.length a0_.Links:Nat):Int)>24))then(some true)else((Zky N a0_).bind λr8=>(some (!r8))))).bind λ(j9:Bool)=>
 (if j9 then(some 260)else((Zhr 8 a0_.Nodes a0_.Nodes 0).bind λa6=>
 ((ZaO (λx:Int×(List Int)=>Zdq N a0_ x.1 x.2) N (0,a6)).bind λa4=>
 ((ZaO (λx:Int=>Zgx N a0_ a4 x) N 0).bind λa3=>match a3 with
 |(.inl a5)=>((Zkz N a0_ 0 (Zbj.mk false false false false false false false false false false false false false false false false false false false false false false false false)).bind λa1=>
 ((Zch N a1 false).bind λa0=>
 (if a0 then(some 260)else(some 0))))
 |(.inr a2)=>(some a2)))))))
def ZgE (N:Nat)(a0_:ZaM)(a1_:ZaM):Option (Bool×Int):=
 ((Zen N a0_).bind λr1=>
 (if(r1 !=0)then(some (false,r1))else((Zen N a1_).bind λr3=>
 (if(r3 !=0)then(some (false,r3))else((ZgC N a0_ a1_).bind λr5=>
 (some (r5,0)))))))
def Zem (N:Nat)(a0_:Zbg)(c0_:(List Int))(c1_:(List Int)):Option (Bool×Int):=
 ((Zcx N a0_ c0_).bind λr2=>
 (if(!r2)then(some (false,310))else((((ZhJ N c1_ c0_).bind λr6=>(if(!r6)then((ZdB N a0_ c1_ c0_).bind λa1=>(if(!a1)then((ZdB N a0_ c0_ c1_).bind λa0=>(some (!a0)))else(some false)))else(some false)))).bind λ(a2:Bool)=>
 (some (a2,0)))))
def ZeX (N:Nat)(a0_:Zav)(a1_:(List Int)):Option (Int):=
 ((ZgV N a0_).bind λr1=>
 (if(r1 !=0)then(some r1)else((Zcx N (Zbg.mk a0_) a1_).bind λr3=>
 (if(!r3)then(some 310)else(some 0)))))
def ZdL (N:Nat)(a0_:Zav)(a1_:(List Int))(a2_:Zbg->Option ((List Int)×Int)):Option ((List Int)×Int):=
 ((ZeX N a0_ a1_).bind λr1=>
 (if(r1 !=0)then(some ([],r1))else((a2_ (Zbg.mk a0_)).bind λr3=>
 (some (r3.1,r3.2)))))
def ZlE (N:Nat)(a1_:Zay)(a2_:(List Zat))(i11:Int)(l12:(List Int))(a1:(List ZaX))(a0:Int)(a2:(List ZaH)):Option ((Int×(List ZaH))⊕(((List ZaH)))):=
 (if(decide (a0<((List.length a1:Nat):Int)))then((idx a2_ i11).bind λa6=>
 ((idx a1 a0).bind λa5=>
 ((Zl1 N a1_ ((List.length l12:Nat):Int) a6.Period a5).bind λa3=>
 ((appI 32 a2 [a3]).bind λa4=>
 (some (.inl ((w64 (a0+1)),a4)))))))else(some (.inr a2)))
def Zi0 (N:Nat)(a0_:Zav)(a1_:Zay)(a2_:(List Zat))(i11:Int)(l12:(List Int))(a2:Bool)(a0:Int)(a1:(List ZaH)):Option ((Bool×Int×(List ZaH))⊕((Bool×(List ZaH)))):=
 ((idx a2_ i11).bind λae=>
 (if(decide (a0<((List.length ae.Routes:Nat):Int)))then((idx a2_ i11).bind λad=>
 ((idx a2_ i11).bind λac=>
 ((idx ac.Routes a0).bind λab=>
 ((Zin N a0_ a1_ ad ab).bind λa4=>
 ((ZaO (λx:Int×(List ZaH)=>ZlE N a1_ a2_ i11 l12 a4 x.1 x.2) N (0,a1)).bind λa5=>
 (((if a2 then(some true)else((idx a2_ i11).bind λaa=>((idx a2_ i11).bind λa9=>((idx a9.Routes a0).bind λa8=>((Zl9 N a0_ a1_ aa a8).bind λa3=>((idx a2_ i11).bind λa7=>(if(decide ((w64 (a3+(w64 (2*a1_.Slack))))>a7.Deadline))then(some true)else(some false))))))))).bind λ(a6:Bool)=>
 (some (.inl (a6,(w64 (a0+1)),a5)))))))))else(some (.inr (a2,a1)))))
def Zi1 (N:Nat)(a0_:Zav)(a1_:Zay)(a2_:(List Zat))(b10:Bool)(i11:Int)(l12:(List Int))(a5:(List ZaH)):Option ((Bool×Int×(List Int)×(List ZaH))⊕((Bool×(List Int)×(List ZaH)))):=
 (if(decide (i11<((List.length a2_:Nat):Int)))then((((idx a2_ i11).bind λa4=>
 (if(a4.Class !=7)then(some (b10,l12,a5))else((ZaO (λx:Bool×Int×(List ZaH)=>Zi0 N a0_ a1_ a2_ i11 l12 x.1 x.2.1 x.2.2) N (b10,0,a5)).bind λa1=>
 ((idx a2_ i11).bind λa3=>
 ((appI 8 l12 [a3.Period]).bind λa2=>
 (some (a1.1,a2,a1.2)))))))).bind λ(a0:Bool×(List Int)×(List ZaH))=>
 (some (.inl (a0.1,(w64 (i11+1)),a0.2.1,a0.2.2))))else(some (.inr (b10,l12,a5))))
def ZiZ (N:Nat)(a0:Bool×(List Int)×(List ZaH))(a3:Int)(a6:Int)(a2:Int)(a1:Int):Option ((Int×Int)⊕((Int))):=
 (if(decide (a1<((List.length a0.2.2:Nat):Int)))then((((idx a0.2.2 a1).bind λa9=>
 (if(a9.Port==a6)then((idx a0.2.2 a1).bind λa8=>
 ((idx a0.2.1 a8.Stream).bind λa7=>
 ((quoI .i64 a3 a7).bind λa4=>
 (some (w64 (a2+a4))))))else(some a2)))).bind λ(a5:Int)=>
 (some (.inl (a5,(w64 (a1+1))))))else(some (.inr a2)))
def ZlD (N:Nat)(a0_:Zav)(a3:Bool×(List Int)×(List ZaH))(a1:Int)(a0:Int):Option ((Int)⊕((Unit)⊕(Zax×Int))):=
 (if(decide (a0<(w64 (2*((List.length a0_.Links:Nat):Int)))))then((ZaO (λx:Int×Int=>ZiZ N a3 a1 a0 x.1 x.2) N (0,0)).bind λa2=>
 (if(decide (a2>63))then(some (.inr (.inr ((Zax.mk ([]) ([])),7))))else(some (.inl (w64 (a0+1))))))else(some (.inr (.inl ()))))
def ZlC (N:Nat)(a0:Bool×(List Int)×(List ZaH))(a2:Bool)(a1:Int):Option ((Bool×Int)⊕((Bool))):=
 (if(decide (a1<((List.length a0.2.2:Nat):Int)))then(((if a2 then(some true)else((idx a0.2.2 a1).bind λa6=>((idx a0.2.2 a1).bind λa5=>((idx a0.2.1 a5.Stream).bind λa4=>(if(decide (a6.Long>a4))then(some true)else(some false))))))).bind λ(a3:Bool)=>
 (some (.inl (a3,(w64 (a1+1))))))else(some (.inr a2)))
def Zl3 (N:Nat)(a0_:Zav)(a1_:Zay)(a2_:(List Zat)):Option (Zax×Int):=
 ((Zhh N a0_).bind λr1=>
 (if(!r1)then(some ((Zax.mk ([]) ([])),260))else((Zi5 N a1_).bind λr3=>
 (if(!r3)then(some ((Zax.mk ([]) ([])),320))else((ZfP N a0_ a2_).bind λr5=>
 (if(r5 !=0)then(some ((Zax.mk ([]) ([])),r5))else((ZaO (λx:Bool×Int×(List Int)×(List ZaH)=>Zi1 N a0_ a1_ a2_ x.1 x.2.1 x.2.2.1 x.2.2.2) N (false,0,[],[])).bind λa0=>
 ((Zil N a0.2.1).bind λa1=>
 (if(a1==0)then(some ((Zax.mk ([]) ([])),6))else((ZaO (λx:Int=>ZlD N a0_ a0 a1 x) N 0).bind λa4=>match a4 with
 |(.inl a5)=>((ZaO (λx:Bool×Int=>ZlC N a0 x.1 x.2) N (false,0)).bind λa3=>
 (if a3 then(some ((Zax.mk ([]) ([])),341))else(if a0.1 then(some ((Zax.mk ([]) ([])),342))else(some ((Zax.mk a0.2.1 a0.2.2),0)))))
 |(.inr a2)=>(some a2)))))))))))
def Zqm (N:Nat)(a4_:(List ZaI))(i5:Int):Option ((Int)⊕((Unit)⊕(Bool×Int))):=
 (if(decide (i5<((List.length a4_:Nat):Int)))then((idx a4_ i5).bind λa1=>
 ((Zuk N a1).bind λa0=>
 (if(!a0)then(some (.inr (.inr (false,370))))else(some (.inl (w64 (i5+1)))))))else(some (.inr (.inl ()))))
def Zql (N:Nat)(a1_:Zay)(a4_:(List ZaI))(r1:Zax×Int)(a0:Int):Option ((Int)⊕((Unit)⊕(Bool×Int))):=
 (if(decide (a0<((List.length a4_:Nat):Int)))then((idx a4_ a0).bind λa2=>
 ((Zil N r1.1.Periods).bind λa1=>
 (if(a2.Cycle !=(w64 (a1*a1_.Grid)))then(some (.inr (.inr (false,0))))else(some (.inl (w64 (a0+1)))))))else(some (.inr (.inl ()))))
def Zqk (N:Nat)(a4_:(List ZaI))(a1:(List Zbl))(a0:Int):Option ((Int)⊕((Unit)⊕(Bool×Int))):=
 (if(decide (a0<((List.length a1:Nat):Int)))then((idx a1 a0).bind λa5=>
 ((idx a4_ a5.Port).bind λa4=>
 ((idx a1 a0).bind λa3=>
 ((Zs8 N a4 a3).bind λa2=>
 (if(!a2)then(some (.inr (.inr (false,0))))else(some (.inl (w64 (a0+1)))))))))else(some (.inr (.inl ()))))
def Zzx (N:Nat)(a0_:Zav)(a1_:Zay)(a2_:(List Zat))(a3_:(List Int))(a4_:(List ZaI)):Option (Bool×Int):=
 ((Zl3 N a0_ a1_ a2_).bind λr1=>
 (if(r1.2 !=0)then(some (false,r1.2))else((ZrR N r1.1 a3_).bind λr3=>
 (if(!r3)then(some (false,2))else((ZaO (λx:Int=>Zqm N a4_ x) N 0).bind λa6=>match a6 with
 |(.inl a9)=>(if(((List.length a4_:Nat):Int)!=(w64 (2*((List.length a0_.Links:Nat):Int))))then(some (false,0))else((ZaO (λx:Int=>Zql N a1_ a4_ r1 x) N 0).bind λa5=>match a5 with
 |(.inl a8)=>((ZrM N a0_ a1_ a2_ a3_).bind λa0=>
 ((ZaO (λx:Int=>Zqk N a4_ a0 x) N 0).bind λa4=>match a4 with
 |(.inl a7)=>(some (true,0))
 |(.inr a3)=>(some a3)))
 |(.inr a2)=>(some a2)))
 |(.inr a1)=>(some a1))))))
def Zgj (N:Nat)(a0_:Zav)(a1_:(List Zcl))(i3:Int)(l4:(List Zat)):Option ((Int×(List Zat))⊕(((List Zat)))):=
 (((if(decide (i3<((List.length a1_:Nat):Int)))then(some (decide (((List.length l4:Nat):Int)<6)))else(some false))).bind λ(a4:Bool)=>
 (if a4 then((((idx a1_ i3).bind λa3=>
 ((ZdV N a3 a0_ (w64 (((List.length l4:Nat):Int)+1))).bind λa0=>
 (if a0.2 then((appI 96 l4 [a0.1]).bind λa1=>
 (some a1))else(some l4))))).bind λ(a2:(List Zat))=>
 (some (.inl ((w64 (i3+1)),a2))))else(some (.inr l4))))
def ZgG (N:Nat)(a0_:Zav)(a1_:(List Zcl)):Option ((List Zat)):=
 ((ZaO (λx:Int×(List Zat)=>Zgj N a0_ a1_ x.1 x.2) N (0,[])).bind λa0=>
 (some a0))
def ZiW (N:Nat)(a0_:Zax)(a1_:Int):Option ((List Int)×(List Zcb)×Int):=
 ((ZiY N a0_).bind λr1=>
 (if(!r1)then(some ([],[],340))else(if((decide (a1_<0))||(decide (a1_≥2000)))then(some ([],[],2))else(if(((List.length a0_.Periods:Nat):Int)==0)then(some ([],[],0))else((Zhc N a0_ (Za1.mk ([]) ([]) 0) ([]) a1_).bind λr7=>
 (if(r7.What==1)then(some (r7.Offsets,[],0))else(if(r7.What==2)then(some ([],[],8))else(some ([],r7.Proof,4)))))))))
def Zco (N:Nat)(a0_:ZbO)(i5:Int)(m5:(List (Int×(List ZaH)))):Option ((Int×(List (Int×(List ZaH))))⊕((List (Int×(List ZaH))))):=
 (if(decide (i5<((List.length a0_.Problem.Uses:Nat):Int)))then((idx a0_.Problem.Uses i5).bind λa0=>
 ((appI 32 (Zh8 m5 a0.Port []) [a0]).bind λa1=>
 (some (.inl ((w64 (i5+1)),(Zec m5 a0.Port a1))))))else(some (.inr m5)))
def Zcn (N:Nat)(a0_:ZbO)(r2:Int×Int)(us_:(List ZaH))(a2:Int)(a0:Int):Option ((Int×Int)⊕((Int))):=
 (if(decide (a0<((List.length us_:Nat):Int)))then((idx us_ a0).bind λa4=>
 ((idx a0_.Problem.Periods a4.Stream).bind λa3=>
 ((quoI .i64 r2.1 a3).bind λa1=>
 (some (.inl ((w64 (a2+a1)),(w64 (a0+1))))))))else(some (.inr a2)))
def Zcv (N:Nat)(a0_:ZbO)(r2:Int×Int)(us_:(List ZaH)):Option Bool:=
 ((ZaO (λx:Int×Int=>Zcn N a0_ r2 us_ x.1 x.2) N (0,0)).bind λa0=>
 (some (decide (a0>63))))
def Zb2 (N:Nat)(a0_:ZbO)(a0:Int):Option ((Int)⊕((Unit)⊕(Int))):=
 (if(decide (a0<((List.length a0_.Problem.Uses:Nat):Int)))then((idx a0_.Problem.Uses a0).bind λa1=>
 ((idx a0_.Problem.Periods a1.Stream).bind λa2=>
 (if(decide (a1.Long>a2))then(some (.inr (.inr 341)))else(some (.inl (w64 (a0+1)))))))else(some (.inr (.inl ()))))
def ZdD (N:Nat)(a0_:ZbO):Option (Int):=
 ((Zfy N a0_.Problem.Periods).bind λr2=>
 (if(r2.2 !=0)then(some r2.2)else((ZaO (λx:Int×(List (Int×(List ZaH)))=>Zco N a0_ x.1 x.2) N (0,[])).bind λa3=>
 ((rgF (Zcv N a0_ r2) a3).bind λa2=>
 (if a2 then(some 7)else((ZaO (λx:Int=>Zb2 N a0_ x) N 0).bind λa1=>match a1 with
 |(.inl a4)=>(if a0_.late then(some 342)else(some 0))
 |(.inr a0)=>(some a0)))))))
def Zji (N:Nat)(a0_:Zax)(i4:Int):Option ((Int)⊕((Unit)⊕(Int))):=
 (if(decide (i4<((List.length a0_.Periods:Nat):Int)))then((idx a0_.Periods i4).bind λa0=>
 (if((decide (a0<1))||(decide (a0>240)))then(some (.inr (.inr 340)))else(some (.inl (w64 (i4+1))))))else(some (.inr (.inl ()))))
def Zjh (N:Nat)(a0_:Zax)(a2:Int):Option ((Int)⊕((Unit)⊕(Int))):=
 (if(decide (a2<((List.length a0_.Uses:Nat):Int)))then((idx a0_.Uses a2).bind λa0=>
 (if((decide (a0.Stream<0))||((decide (a0.Stream≥((List.length a0_.Periods:Nat):Int)))||((decide (a0.Port<0))||(decide (a0.Port≥48)))))then(some (.inr (.inr 340)))else((idx a0_.Periods a0.Stream).bind λa1=>
 (if((decide (a0.From<0))||((decide (a0.From≥a1))||((decide (a0.Long<1))||(decide (a0.Long>a1)))))then(some (.inr (.inr 340)))else(some (.inl (w64 (a2+1))))))))else(some (.inr (.inl ()))))
def Zit (N:Nat)(a0_:Zax):Option (Int):=
 (if((decide (((List.length a0_.Periods:Nat):Int)>12))||(decide (((List.length a0_.Uses:Nat):Int)>192)))then(some 340)else((ZaO (λx:Int=>Zji N a0_ x) N 0).bind λa4=>match a4 with
 |(.inl a6)=>((Zfy N a0_.Periods).bind λa3=>
 (if(a3.2 !=0)then(some 340)else((ZaO (λx:Int=>Zjh N a0_ x) N 0).bind λa2=>match a2 with
 |(.inl a5)=>(some 0)
 |(.inr a1)=>(some a1))))
 |(.inr a0)=>(some a0)))
def Zcd (N:Nat)(a0_:Zax)(a2_:Int)(a4_:Int)(b18:Bool)(x16:ZaH)(x17:ZaH):Option ((Bool)×Nat):=
 (if((x16.Stream==x17.Stream)&&((x16.Port==x17.Port)&&((x16.From==x17.From)&&((x16.Long==x17.Long)&&true))))then(some (true,1))else((Zfl N a0_ x16 a2_).bind λa2=>
 ((Zfl N a0_ x17 a4_).bind λa1=>
 ((ZgE N a2 a1).bind λa0=>
 (if(!a0.1)then(some (true,1))else(some (b18,0)))))))
def ZgK (N:Nat)(a0_:Zax)(a1_:Int)(a2_:Int)(a3_:Int)(a4_:Int):Option (Bool):=
 ((ZkG N a0_ a1_ a3_).bind λa1=>
 ((ZhN N (λ(s:(Bool)×Nat) (x16:ZaH) (x17:ZaH)=>Zgn (λv:Bool=>Zcd N a0_ a2_ a4_ v x16 x17) s) a1.1 a1.2.1 a1.2.2 (false,0)).bind λa0=>
 (if(a0.2==0)then(some false)else(if(a0.2==1)then(some a0.1)else none))))
def ZdK (N:Nat)(a0_:Zav)(a1_:(List Int))(a2_:Zbg->Option (Bool×Int)):Option (Bool×Int):=
 ((ZeX N a0_ a1_).bind λr1=>
 (if(r1 !=0)then(some (false,r1))else((a2_ (Zbg.mk a0_)).bind λr3=>
 (some (r3.1,r3.2)))))
def ZeW (N:Nat)(a0_:Zav)(a1_:(List Int)):Option ((List Int)×Int):=
 ((ZdL N a0_ a1_ (λx0=>Zfh N x0 a1_)).bind λr4=>
 (some (r4.1,r4.2)))
def Zfq (N:Nat)(a0_:Zfz):Option (Zav×Zay×(List Zat)×(List Int)):=
 ((ZdC N a0_.T).bind λr1=>
 ((Zi4 N a0_.U.x0 a0_.U.x1 a0_.U.x2).bind λr2=>
 ((ZgG N r1 a0_.L).bind λr3=>
 ((Zl3 N r1 r2 r3).bind λr4=>
 (if(r4.2 !=0)then(some (r1,r2,r3,[]))else(if a0_.Find then((ZiW N r4.1 40).bind λr7=>
 (if(r7.2.2==0)then(some (r1,r2,r3,r7.1))else((Zik N r4.1 a0_.Some).bind λr9=>
 (some (r1,r2,r3,r9)))))else((Zik N r4.1 a0_.Some).bind λa0=>
 (some (r1,r2,r3,a0)))))))))
def Zke (N:Nat)(a0_:Zax)(a1_:(List Int))(i4:Int):Option ((Int)⊕((Unit)⊕(Bool×Int))):=
 (if(decide (i4<((List.length a1_:Nat):Int)))then((idx a1_ i4).bind λa1=>
 ((Zjd N a0_ i4 a1).bind λa0=>
 (if(!a0)then(some (.inr (.inr (false,2))))else(some (.inl (w64 (i4+1)))))))else(some (.inr (.inl ()))))
def Zkc (N:Nat)(a0_:Zax)(a5:Int)(a4:Int)(a1:List Int)(a0:Int):Option ((Int)⊕((Unit)⊕(Bool×Int))):=
 (if(decide (a0<((List.length a1:Nat):Int)))then((idx a1 a0).bind λa3=>
 ((ZgK N a0_ a0 a3 a5 a4).bind λa2=>
 (if a2 then(some (.inr (.inr (false,0))))else(some (.inl (w64 (a0+1)))))))else(some (.inr (.inl ()))))
def Zkd (N:Nat)(a0_:Zax)(a1_:(List Int))(a0:Int):Option ((Int)⊕((Unit)⊕(Bool×Int))):=
 (if(decide (a0<((List.length a1_:Nat):Int)))then((idx a1_ a0).bind λa4=>
 ((subI a1_ 0 (w64 (a0+1))).bind λa3=>
 ((ZaO (λx:Int=>Zkc N a0_ a0 a4 a3 x) N 0).bind λa2=>match a2 with
 |(.inl a5)=>(some (.inl (w64 (a0+1))))
 |(.inr a1)=>(some (.inr (.inr a1))))))else(some (.inr (.inl ()))))
def Zkf (N:Nat)(a0_:Zax)(a1_:(List Int)):Option (Bool×Int):=
 ((Zit N a0_).bind λr1=>
 (if(r1 !=0)then(some (false,r1))else(if(((List.length a1_:Nat):Int)!=((List.length a0_.Periods:Nat):Int))then(some (false,2))else((ZaO (λx:Int=>Zke N a0_ a1_ x) N 0).bind λa3=>match a3 with
 |(.inl a5)=>((ZaO (λx:Int=>Zkd N a0_ a1_ x) N 0).bind λa2=>match a2 with
 |(.inl a4)=>(some (true,0))
 |(.inr a1)=>(some a1))
 |(.inr a0)=>(some a0)))))
def Zis (N:Nat)(a0_:Zax):Option (Int×Int):=
 ((Zit N a0_).bind λr1=>
 (if(r1 !=0)then(some (0,r1))else((Zfy N a0_.Periods).bind λr3=>
 (some (r3.1,r3.2)))))
def ZeY (N:Nat)(a0_:Zav)(a1_:(List Int))(a2_:(List Int)):Option (Bool×Int):=
 ((ZdK N a0_ a1_ (λx0=>Zem N x0 a2_ a1_)).bind λr6=>
 (some (r6.1,r6.2)))
def Ze2 (N:Nat)(a0_:Zav)(a1_:(List Int)):Option (Int×Int×Int):=
 ((ZeW N a0_ a1_).bind λr1=>
 (if(r1.2 !=0)then(some (0,0,r1.2))else((idx r1.1 0).bind λe3=>
 ((idx r1.1 (w64 (((List.length r1.1:Nat):Int)-1))).bind λe4=>
 (some (e3,e4,0))))))
def ZhF (N:Nat)(a0_:Zav)(a1_:(List Int))(a2_:Int)(a3_:Int):Option (Bool):=
 ((Ze2 N a0_ a1_).bind λr1=>
 (some ((r1.2.2==0)&&((r1.1==a2_)&&(r1.2.1==a3_)))))
def ZeB (N:Nat)(c0_:Zat)(c1_:Zav):Option (Bool):=
 (if(decide (((List.length c0_.Routes:Nat):Int)<2))then(some true)else((idx c0_.Routes 0).bind λe5=>
 ((idx c0_.Routes 1).bind λe7=>
 ((ZeY N c1_ e5 e7).bind λr8=>
 (some ((r8.2==0)&&r8.1))))))
def Zel (N:Nat)(c0_:Zat)(c1_:Zav)(i2:Int):Option ((Int)⊕((Unit)⊕(Bool))):=
 (if(decide (i2<((List.length c0_.Routes:Nat):Int)))then((idx c0_.Routes i2).bind λa1=>
 ((ZhF N c1_ a1 c0_.Talker c0_.Listener).bind λa0=>
 (if(!a0)then(some (.inr (.inr false)))else(some (.inl (w64 (i2+1)))))))else(some (.inr (.inl ()))))
def ZeC (N:Nat)(c0_:Zat)(c1_:Zav):Option (Bool):=
 ((ZaO (λx:Int=>Zel N c0_ c1_ x) N 0).bind λa1=>match a1 with
 |(.inl a2)=>(some true)
 |(.inr a0)=>(some a0))
def Zf3 (N:Nat)(a0_:Zav)(a1_:Zat):Option (Bool):=
 ((ZfL N a1_).bind λr8=>
 (if(!r8)then(some false)else((ZfK N a0_ a1_).bind λa6=>
 (if(!a6)then(some false)else((ZfJ N a1_).bind λa5=>
 (if(!a5)then(some false)else((ZfI N a1_).bind λa4=>
 (if(!a4)then(some false)else((ZeD N a1_).bind λa3=>
 (if(!a3)then(some false)else((ZfH N a1_).bind λa2=>
 (if(!a2)then(some false)else((ZeC N a1_ a0_).bind λa1=>
 (if(!a1)then(some false)else((ZeB N a1_ a0_).bind λa0=>
 (if(!a0)then(some false)else(some true)))))))))))))))))
def Zif (N:Nat)(a0_:Zav)(a1_:Zay)(a2_:Zat)(a3_:Int):Option (Int):=
 ((ZgV N a0_).bind λr1=>
 (if(r1 !=0)then(some r1)else((Zda N a1_).bind λr3=>
 (if(r3 !=0)then(some r3)else((Zf3 N a0_ a2_).bind λr5=>
 (if(!r5)then(some 321)else(((if(a2_.Class !=7)then(some true)else((ZbD N a3_ 0 (w64 (((List.length a2_.Routes:Nat):Int)-1))).bind λr9=>(some (!r9))))).bind λ(a0:Bool)=>
 (if a0 then(some 2)else(some 0)))))))))
def ZdU (N:Nat)(a0_:Zav)(a1_:(List Zat))(i4:Int):Option ((Int)⊕((Unit)⊕(Int))):=
 (if(decide (i4<((List.length a1_:Nat):Int)))then((idx a1_ i4).bind λa1=>
 ((Zf3 N a0_ a1).bind λa0=>
 (if(!a0)then(some (.inr (.inr 321)))else(some (.inl (w64 (i4+1)))))))else(some (.inr (.inl ()))))
def ZbJ (N:Nat)(a1_:(List Zat))(a1:Int)(a2:(List (Int×Bool))):Option ((Int×(List (Int×Bool)))⊕((Unit)⊕(Int))):=
 (if(decide (a1<((List.length a1_:Nat):Int)))then((idx a1_ a1).bind λa0=>
 (if(Zh8 a2 a0.Id false)then(some (.inr (.inr 322)))else(some (.inl ((w64 (a1+1)),(Zec a2 a0.Id true))))))else(some (.inr (.inl ()))))
def Zd3 (N:Nat)(a0_:Zav)(a1_:(List Zat)):Option (Int):=
 ((ZgV N a0_).bind λr1=>
 (if(r1 !=0)then(some r1)else(if(decide (((List.length a1_:Nat):Int)>12))then(some 3)else((ZaO (λx:Int=>ZdU N a0_ a1_ x) N 0).bind λa3=>match a3 with
 |(.inl a5)=>((ZaO (λx:Int×(List (Int×Bool))=>ZbJ N a1_ x.1 x.2) N (0,[])).bind λa2=>match a2 with
 |(.inl a4)=>(some 0)
 |(.inr a1)=>(some a1))
 |(.inr a0)=>(some a0)))))
def ZcE (N:Nat)(a0_:Zav)(a1_:Zay)(i22:Int)(x21:ZaX):Option (Int):=
 ((idx a0_.Links (w64 (Int.tdiv x21.Port 2))).bind λa0=>
 (some (w64 ((w64 ((w64 (x21.Open+x21.Long))+a0.Delay))+a1_.Proc))))
def ZiK (N:Nat)(a0_:Zav)(a1_:Zay)(a2_:Zat)(a3_:Int):Option (Int×Int):=
 ((Zif N a0_ a1_ a2_ a3_).bind λr7=>
 (if(r7 !=0)then(some (0,r7))else((ZiJ N a0_ a1_ a2_ a3_).bind λa0=>
 ((Zdr N (λ(s:Int) (x21:ZaX)=>ZdS (λv:Int=>ZcE N a0_ a1_ v x21) s) a0.1 a0.2.1 a0.2.2.1 a0.2.2.2 0).bind λa1=>
 (some (a1,0))))))
def ZcF (N:Nat)(a1:(List ZaX))(x12:ZaX):Option ((List ZaX)):=
 ((appI 40 a1 [x12]).bind λa0=>
 (some a0))
def Zfu (N:Nat)(a0_:Zav)(a1_:Zay)(a2_:Zat)(a3_:Int):Option ((List ZaX)×Int):=
 ((Zif N a0_ a1_ a2_ a3_).bind λr1=>
 (if(r1 !=0)then(some ([],r1))else((ZiJ N a0_ a1_ a2_ a3_).bind λr5=>
 ((Zdr N (λ(s:(List ZaX)) (x12:ZaX)=>ZdS (λv:(List ZaX)=>ZcF N v x12) s) r5.1 r5.2.1 r5.2.2.1 r5.2.2.2 []).bind λa0=>
 (some (a0,0))))))
def Zfw (N:Nat)(a0_:ZbO)(a2_:Zay)(a3_:Zat)(a3:(List ZaX)×Int)(a2:Int)(a6:(List ZaH)):Option ((Int×(List ZaH))⊕(((List ZaH)))):=
 (if(decide (a2<((List.length a3.1:Nat):Int)))then((idx a3.1 a2).bind λa0=>
 ((Zer N a0.Early a2_.Grid).bind λa1=>
 ((Zer N (w64 ((w64 ((w64 (a0.Open+a0.Long))+a2_.Grid))-1)) a2_.Grid).bind λa5=>
 ((Zer N a1 a3_.Period).bind λa4=>
 ((appI 32 a6 [(ZaH.mk ((List.length a0_.Problem.Periods:Nat):Int) a0.Port (w64 (a1-(w64 (a4*a3_.Period)))) (w64 (a5-a1)))]).bind λa7=>
 (some (.inl ((w64 (a2+1)),a7))))))))else(some (.inr a6)))
def Zfx (N:Nat)(a0_:ZbO)(a1_:Zav)(a2_:Zay)(a3_:Zat)(l6:List Int)(i11:Int)(b12:Bool)(a4:(List ZaH)):Option ((Int×Bool×(List ZaH))⊕((Bool×(List ZaH))⊕(Int×ZbO))):=
 (if(decide (i11<((List.length a3_.Routes:Nat):Int)))then((Zfu N a1_ a2_ a3_ i11).bind λa2=>
 (if(a2.2 !=0)then(some (.inr (.inr (a2.2,(ZbO.mk (Zax.mk l6 a4) b12)))))else((ZaO (λx:Int×(List ZaH)=>Zfw N a0_ a2_ a3_ a2 x.1 x.2) N (0,a4)).bind λa1=>
 ((ZiK N a1_ a2_ a3_ i11).bind λa0=>
 (if(a0.2 !=0)then(some (.inr (.inr (a0.2,(ZbO.mk (Zax.mk l6 a1) b12)))))else(((if b12 then(some true)else(some (decide ((w64 (a0.1+(w64 (2*a2_.Slack))))>a3_.Deadline))))).bind λ(a3:Bool)=>
 (some (.inl ((w64 (i11+1)),a3,a1)))))))))else(some (.inr (.inl (b12,a4)))))
def ZfX (N:Nat)(a0_:ZbO)(a1_:Zav)(a2_:Zay)(a3_:Zat):Option (Int×ZbO):=
 ((appI 8 a0_.Problem.Periods [a3_.Period]).bind λl6=>
 ((ZaO (λx:Int×Bool×(List ZaH)=>Zfx N a0_ a1_ a2_ a3_ l6 x.1 x.2.1 x.2.2) N (0,a0_.late,a0_.Problem.Uses)).bind λa2=>match a2 with
 |(.inl a0)=>(some (0,(ZbO.mk (Zax.mk l6 a0.2) a0.1)))
 |(.inr a1)=>(some a1)))
def ZbT {σ:Type}(N:Nat)(y_:σ->Za9->Option (σ×Bool))(c3_:Zay)(a6:Zat)(a5:Int)(a3:(List ZaX)×Int)(a1:Int)(a4:σ):Option ((Int×σ)⊕((σ)⊕(σ))):=
 (if(decide (a1<((List.length a3.1:Nat):Int)))then((idx a3.1 a1).bind λa2=>
 ((y_ a4 (Za9.mk a2.Port (w64 (a2.Open+(w64 (a5*c3_.Grid)))) a2.Long (w64 (a6.Period*c3_.Grid)))).bind λa0=>
 (if(!a0.2)then(some (.inr (.inr a0.1)))else(some (.inl ((w64 (a1+1)),a0.1))))))else(some (.inr (.inl a4))))
def ZbU {σ:Type}(N:Nat)(y_:σ->Za9->Option (σ×Bool))(c2_:Zav)(c3_:Zay)(a1:Zat)(a7:Int)(a0:Int)(a6:σ):Option ((Int×σ)⊕((σ)⊕(σ))):=
 (if(decide (a0<((List.length a1.Routes:Nat):Int)))then((Zfu N c2_ c3_ a1 a0).bind λa2=>
 ((ZaO (λx:Int×σ=>ZbT N y_ c3_ a1 a7 a2 x.1 x.2) N (0,a6)).bind λa5=>match a5 with
 |(.inl a4)=>(some (.inl ((w64 (a0+1)),a4)))
 |(.inr a3)=>(some (.inr (.inr a3)))))else(some (.inr (.inl a6))))
def Zcs {σ:Type}(N:Nat)(y_:σ->Za9->Option (σ×Bool))(c0_:(List Zat))(c1_:(List Int))(c2_:Zav)(c3_:Zay)(i4:Int)(i5:Int)(g6:σ):Option ((Int×Int×σ)⊕((σ)⊕(σ))):=
 (if(decide (i5<((List.length c0_:Nat):Int)))then((idx c0_ i5).bind λa3=>
 (if(a3.Class !=7)then(some (.inl (i4,(w64 (i5+1)),g6)))else((idx c1_ i4).bind λa4=>
 ((ZaO (λx:Int×σ=>ZbU N y_ c2_ c3_ a3 a4 x.1 x.2) N (0,g6)).bind λa2=>match a2 with
 |(.inl a1)=>(some (.inl ((w64 (i4+1)),(w64 (i5+1)),a1)))
 |(.inr a0)=>(some (.inr (.inr a0)))))))else(some (.inr (.inl g6))))
def Zd1 {σ:Type}(N:Nat)(y_:σ->Za9->Option (σ×Bool))(c0_:(List Zat))(c1_:(List Int))(c2_:Zav)(c3_:Zay)(s_:σ):Option (σ):=
 ((ZaO (λx:Int×Int×σ=>Zcs N y_ c0_ c1_ c2_ c3_ x.1 x.2.1 x.2.2) N (0,0,s_)).bind λa2=>match a2 with
 |(.inl a1)=>(some a1)
 |(.inr a0)=>(some a0))
def ZkH (N:Nat)(a0_:Zav)(a1_:Zay)(a2_:(List Zat))(i12:Int)(b13:Bool)(a3:(List Int))(a2:(List ZaH)):Option ((Int×Bool×(List Int)×(List ZaH))⊕((Bool×(List Int)×(List ZaH))⊕(Zax×Int))):=
 (if(decide (i12<((List.length a2_:Nat):Int)))then((idx a2_ i12).bind λa1=>
 (if(a1.Class !=7)then(some (.inl ((w64 (i12+1)),b13,a3,a2)))else((ZfX N (ZbO.mk (Zax.mk a3 a2) b13) a0_ a1_ a1).bind λa0=>
 (if(a0.1 !=0)then(some (.inr (.inr ((Zax.mk ([]) ([])),a0.1))))else(some (.inl ((w64 (i12+1)),a0.2.late,a0.2.Problem.Periods,a0.2.Problem.Uses)))))))else(some (.inr (.inl (b13,a3,a2)))))
def Zpg (N:Nat)(a0_:Zav)(a1_:Zay)(a2_:(List Zat)):Option (Zax×Int):=
 ((Zd3 N a0_ ([])).bind λr1=>
 (if(r1 !=0)then(some ((Zax.mk ([]) ([])),r1))else((Zda N a1_).bind λr3=>
 (if(r3 !=0)then(some ((Zax.mk ([]) ([])),r3))else((Zd3 N a0_ a2_).bind λr5=>
 (if(r5 !=0)then(some ((Zax.mk ([]) ([])),r5))else((ZaO (λx:Int×Bool×(List Int)×(List ZaH)=>ZkH N a0_ a1_ a2_ x.1 x.2.1 x.2.2.1 x.2.2.2) N (0,false,[],[])).bind λa3=>match a3 with
 |(.inl a0)=>((ZdD N (ZbO.mk (Zax.mk a0.2.1 a0.2.2) a0.1)).bind λa1=>
 (if(a1 !=0)then(some ((Zax.mk ([]) ([])),a1))else(some ((Zax.mk a0.2.1 a0.2.2),0))))
 |(.inr a2)=>(some a2))))))))
def Zc2 (N:Nat)(r9:Int×Int)(a2:List (List Bool))(i25:Int)(a1:(List (List Bool))):Option ((Int×(List (List Bool)))⊕(((List (List Bool))))):=
 (if(decide (i25<((List.length a2:Nat):Int)))then((Zhr 1 r9.1 r9.1 false).bind λa0=>
 ((idx a1 i25).bind λa3=>
 (some (.inl ((w64 (i25+1)),(List.set a1 (Int.toNat i25) a0))))))else(some (.inr a1)))
def Zc0 (N:Nat)(r9:Int×Int)(a2:Int)(a6:Int)(a5:Int)(a1:Int)(a0:(List (List Bool))):Option ((Int×(List (List Bool)))⊕(((List (List Bool))))):=
 (if(decide (a1<a5))then((idx a0 a2).bind λa4=>
 ((remI (w64 (a6+a1)) r9.1).bind λa3=>
 ((idx a4 a3).bind λa7=>
 (some (.inl ((w64 (a1+1)),(List.set a0 (Int.toNat a2) (List.set a4 (Int.toNat a3) true))))))))else(some (.inr a0)))
def ZdI (N:Nat)(r9:Int×Int)(a4:(List (List Bool)))(a2:Int)(a1:Int)(a0:Int):Option (((List (List Bool)))):=
 ((ZaO (λx:Int×(List (List Bool))=>Zc0 N r9 a2 a1 a0 x.1 x.2) N (0,a4)).bind λa3=>
 (some a3))
def Zc1 (N:Nat)(a1_:Zay)(r9:Int×Int)(a2:Za9)(a8:Int)(a0:Int)(a1:(List (List Bool))):Option ((Int×(List (List Bool)))⊕(((List (List Bool))))):=
 (if(decide (a0<(w64 (a2.from_+(w64 (r9.1*a1_.Grid))))))then((quoI .i64 a0 a1_.Grid).bind λa7=>
 (((λ(s:(List (List Bool))) (a5:Int) (a4:Int) (a3:Int)=>ZdI N r9 s a5 a4 a3) a1 a2.port a7 a8).bind λa6=>
 (some (.inl ((w64 (a0+a2.period)),a6)))))else(some (.inr a1)))
def ZcD (N:Nat)(a1_:Zay)(r9:Int×Int)(a3:(List (List Bool)))(a0:Za9):Option ((List (List Bool))):=
 ((quoI .i64 (w64 ((w64 (a0.long+a1_.Grid))-1)) a1_.Grid).bind λa1=>
 ((ZaO (λx:Int×(List (List Bool))=>Zc1 N a1_ r9 a0 a1 x.1 x.2) N (a0.from_,a3)).bind λa2=>
 (some a2)))
def ZcZ (N:Nat)(a1_:Zay)(a3:(List (List Bool)))(a4:List ZaI)(a0:Int)(a1:(List ZaI)):Option ((Int×(List ZaI))⊕(((List ZaI)))):=
 (if(decide (a0<((List.length a4:Nat):Int)))then((idx a3 a0).bind λa5=>
 ((ZkA N a5 a1_.Grid).bind λa2=>
 ((idx a1 a0).bind λa6=>
 (some (.inl ((w64 (a0+1)),(List.set a1 (Int.toNat a0) a2)))))))else(some (.inr a1)))
def ZeS (N:Nat)(a0_:Zav)(a1_:Zay)(a2_:(List Zat))(a3_:(List Int)):Option ((List ZaI)×Int):=
 ((Zpg N a0_ a1_ a2_).bind λr4=>
 (if(r4.2 !=0)then(some ([],r4.2))else((Zkf N r4.1 a3_).bind λr6=>
 (if(r6.2 !=0)then(some ([],r6.2))else(if(!r6.1)then(some ([],380))else((Zis N r4.1).bind λr9=>
 (if(r9.2 !=0)then(some ([],r9.2))else((famI 24 (w64 (2*((List.length a0_.Links:Nat):Int)))).bind λa6=>
 ((ZaO (λx:Int×(List (List Bool))=>Zc2 N r9 a6 x.1 x.2) N (0,a6)).bind λa5=>
 ((Zfe N a0_ a1_ a2_ a3_).bind λa1=>
 ((Zd1 N (λ(s:(List (List Bool))) (a4:Za9)=>ZdS (λv:(List (List Bool))=>ZcD N a1_ r9 v a4) s) a1.1 a1.2.1 a1.2.2.1 a1.2.2.2 a5).bind λa0=>
 ((Zhr 32 ((List.length a0:Nat):Int) ((List.length a0:Nat):Int) (ZaI.mk ([]) 0)).bind λa2=>
 ((ZaO (λx:Int×(List ZaI)=>ZcZ N a1_ a0 a2 x.1 x.2) N (0,a2)).bind λa3=>
 (some (a3,0)))))))))))))))
def Zp7 (N:Nat)(a4_:(List ZaI))(i19:Int):Option ((Int)⊕((Unit)⊕(Bool×Int))):=
 (if(decide (i19<((List.length a4_:Nat):Int)))then((idx a4_ i19).bind λa1=>
 ((Zhu N a1).bind λa0=>
 (if(a0 !=0)then(some (.inr (.inr (false,a0))))else(some (.inl (w64 (i19+1)))))))else(some (.inr (.inl ()))))
def Zp6 (N:Nat)(a1_:Zay)(a4_:(List ZaI))(a2:Int×Int)(a0:Int):Option ((Int)⊕((Unit)⊕(Bool×Int))):=
 (if(decide (a0<((List.length a4_:Nat):Int)))then((idx a4_ a0).bind λa1=>
 (if(a1.Cycle !=(w64 (a2.1*a1_.Grid)))then(some (.inr (.inr (false,0))))else(some (.inl (w64 (a0+1))))))else(some (.inr (.inl ()))))
def ZfG (N:Nat)(a1_:Zay)(a4_:(List ZaI))(a4:Int×Int)(a0:Za9)(a1:Int):Option ((Int)⊕((Unit)⊕(Unit))):=
 (if(decide (a1<(w64 (a0.from_+(w64 (a4.1*a1_.Grid))))))then((idx a4_ a0.port).bind λa3=>
 ((Zns N a3 a1 a0.long).bind λa2=>
 (if(!a2)then(some (.inr (.inr ())))else(some (.inl (w64 (a1+a0.period)))))))else(some (.inr (.inl ()))))
def ZeA (N:Nat)(a1_:Zay)(a4_:(List ZaI))(a2:Int×Int)(a0:Za9):Option ((Unit)×Nat):=
 ((ZaO (λx:Int=>ZfG N a1_ a4_ a2 a0 x) N a0.from_).bind λa1=>match a1 with
 |(.inl a4)=>(some ((),0))
 |(.inr a3)=>(some ((),1)))
def ZiG (N:Nat)(a0_:Zav)(a1_:Zay)(a2_:(List Zat))(a3_:(List Int))(a4_:(List ZaI)):Option (Bool×Int):=
 ((Zpg N a0_ a1_ a2_).bind λa7=>
 (if(a7.2 !=0)then(some (false,a7.2))else((Zkf N a7.1 a3_).bind λa9=>
 (if(a9.2 !=0)then(some (false,a9.2))else((ZaO (λx:Int=>Zp7 N a4_ x) N 0).bind λa8=>match a8 with
 |(.inl ab)=>((Zis N a7.1).bind λa1=>
 (if(a1.2 !=0)then(some (false,a1.2))else(if(((List.length a4_:Nat):Int)!=(w64 (2*((List.length a0_.Links:Nat):Int))))then(some (false,0))else((ZaO (λx:Int=>Zp6 N a1_ a4_ a1 x) N 0).bind λa6=>match a6 with
 |(.inl aa)=>((Zfe N a0_ a1_ a2_ a3_).bind λa0=>
 ((Zd1 N (λ(s:(Unit)×Nat) (a3:Za9)=>Zgn (λv:Unit=>ZeA N a1_ a4_ a1 a3) s) a0.1 a0.2.1 a0.2.2.1 a0.2.2.2 ((),0)).bind λa2=>
 (if(a2.2==0)then(some (true,0))else(if(a2.2==1)then(some (false,0))else none))))
 |(.inr a5)=>(some a5)))))
 |(.inr a4)=>(some a4))))))
def Zjl (N:Nat):Option (Bool):=
 ((Zq3 N).bind λr1=>
 ((Zpx N).bind λr2=>
 ((Zfp N 1 20).bind λr3=>
 ((ZeS N r1 r2 ([r3]) ([15])).bind λr4=>
 ((Ziw N ([128,300,127,1200,128,500])).bind λr5=>
 ((Ziw N ([127,2000])).bind λr6=>
 ((Ziw N ([127,400,128,800,127,800])).bind λr7=>
 ((Ziw N ([127,2000])).bind λr8=>
 ((ZeS N r1 r2 ([r3]) ([20])).bind λr9=>
 ((Zfp N 1 40).bind λa6=>
 ((Zfp N 2 40).bind λa5=>
 ((ZeS N r1 r2 ([a6,a5]) ([0,1])).bind λa4=>
 (((if(r4.2 !=0)then(some true)else((ZqU N r4.1 ([r5,r6,r7,r8])).bind λa3=>(some (!a3))))).bind λ(a8:Bool)=>
 (if a8 then(some false)else((ZiG N r1 r2 ([r3]) ([15]) r4.1).bind λa2=>
 ((ZiG N r1 r2 ([r3]) ([14]) r4.1).bind λa1=>
 ((subI r4.1 0 3).bind λa7=>
 ((ZiG N r1 r2 ([r3]) ([15]) a7).bind λa0=>
 (some ((r9.2==2)&&((a4.2==380)&&(a2.1&&((a2.2==0)&&((!a1.1)&&((a1.2==0)&&((!a0.1)&&(a0.2==0)))))))))))))))))))))))))))
def ZdW (N:Nat)(a1_:Int)(r3:Zav×Zay×(List Zat)×(List Int))(r4:(List ZaI)×Int)(i7:Int)(i8:Int)(a7:(List ZaX)×Int)(a4:Int):Option ((Int)⊕((Unit)⊕(Bool))):=
 (if(decide (a4<((List.length a7.1:Nat):Int)))then((idx a7.1 a4).bind λa0=>
 ((idx r3.2.2.2 i7).bind λa2=>
 ((idx r3.2.2.1 i8).bind λa1=>
 ((idx r4.1 a0.Port).bind λaa=>
 ((ZkN N aa 7 (w64 ((w64 ((w64 (a2+(w64 ((w64 (a1_))*a1.Period))))*r3.2.1.Grid))+a0.Open)) a0.Long).bind λa6=>
 ((idx r4.1 a0.Port).bind λa9=>
 ((Zkr N a9 6 (w64 ((w64 ((w64 (a2+(w64 ((w64 (a1_))*a1.Period))))*r3.2.1.Grid))+a0.Open)) 1).bind λa5=>
 ((idx r4.1 a0.Port).bind λa8=>
 ((ZkM N a8 7 (w64 ((w64 ((w64 (a2+(w64 ((w64 (a1_))*a1.Period))))*r3.2.1.Grid))+a0.Early))).bind λa3=>
 (if((!a6.1)||((a6.2 !=0)||((a3.2 !=0)||(if(a5.2==0)then((decide (a5.1<(w64 ((w64 ((w64 ((w64 (a2+(w64 ((w64 (a1_))*a1.Period))))*r3.2.1.Grid))+a0.Open))+a0.Long))))||((decide (a3.1>0))&&(decide (a0.Early<a0.Open))))else((decide (a3.1>0))&&(decide (a0.Early<a0.Open)))))))then(some (.inr (.inr false)))else(some (.inl (w64 (a4+1))))))))))))))else(some (.inr (.inl ()))))
def ZdX (N:Nat)(a1_:Int)(r3:Zav×Zay×(List Zat)×(List Int))(r4:(List ZaI)×Int)(i7:Int)(i8:Int)(a1:Int):Option ((Int)⊕((Unit)⊕(Bool))):=
 ((idx r3.2.2.1 i8).bind λa5=>
 (if(decide (a1<((List.length a5.Routes:Nat):Int)))then((idx r3.2.2.1 i8).bind λa4=>
 ((Zfu N r3.1 r3.2.1 a4 a1).bind λa0=>
 (if(a0.2 !=0)then(some (.inr (.inr false)))else((ZaO (λx:Int=>ZdW N a1_ r3 r4 i7 i8 a0 x) N 0).bind λa3=>match a3 with
 |(.inl a6)=>(some (.inl (w64 (a1+1))))
 |(.inr a2)=>(some (.inr (.inr a2)))))))else(some (.inr (.inl ())))))
def ZdY (N:Nat)(a1_:Int)(r3:Zav×Zay×(List Zat)×(List Int))(r4:(List ZaI)×Int)(i7:Int)(i8:Int):Option ((Int×Int)⊕((Unit)⊕(Bool))):=
 (if(decide (i8<((List.length r3.2.2.1:Nat):Int)))then((idx r3.2.2.1 i8).bind λa2=>
 (if(a2.Class !=7)then(some (.inl (i7,(w64 (i8+1)))))else((ZaO (λx:Int=>ZdX N a1_ r3 r4 i7 i8 x) N 0).bind λa1=>match a1 with
 |(.inl a3)=>(some (.inl ((w64 (i7+1)),(w64 (i8+1)))))
 |(.inr a0)=>(some (.inr (.inr a0))))))else(some (.inr (.inl ()))))
def Zhs (N:Nat)(a0_:Zfz)(a1_:Int):Option (Bool):=
 ((Zjl N).bind λr1=>
 (if(!r1)then(some false)else((Zfq N a0_).bind λr3=>
 ((ZeS N r3.1 r3.2.1 r3.2.2.1 r3.2.2.2).bind λr4=>
 (if(r4.2 !=0)then(some (((List.length r4.1:Nat):Int)==0))else((ZaO (λx:Int×Int=>ZdY N a1_ r3 r4 x.1 x.2) N (0,0)).bind λa1=>match a1 with
 |(.inl a2)=>(some true)
 |(.inr a0)=>(some a0)))))))
end Go.Sh

