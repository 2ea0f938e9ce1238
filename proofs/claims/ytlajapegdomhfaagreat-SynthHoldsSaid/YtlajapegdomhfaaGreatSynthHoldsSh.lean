/-Part of the proof. -/
import Derived.Test.YtlajapegdomhfaaGreatSynthHoldsE26
set_option linter.all false
namespace Go.Sh
open Go Go.Eng
set_option maxRecDepth 100000
structure ZbA where
 Bridges:Int
 Stations:Int
 Chords:(List Int)
 Homes:(List Int)
 Pers:(List Int)
 Delays:(List Int)
structure Zce where
 Reserved:Bool
 Two:Bool
 Node:Int
 Way:Int
 Size:Int
 Period:Int
 Burst:Int
 Rate:Int
def Zep (v:Zce):List PC:=[.bool v.Reserved,.bool v.Two,.int .u8 v.Node,.int .u8 v.Way,.int .u8 v.Size,.int .u8 v.Period,.int .u8 v.Burst,.int .u16 v.Rate]
structure Zxt where
 x0:Int
 x1:Int
 x2:Int
structure Zfz where
 T:ZbA
 L:(List Zce)
 U:Zxt
 Some:(List Int)
 Find:Bool
def ZtC (v:Zfz):List PC:=[.int .u8 v.T.Bridges,.int .u8 v.T.Stations,.sl 1 false (List.map (eI .u8) v.T.Chords),.sl 1 false (List.map (eI .u8) v.T.Homes),.sl 1 false (List.map (eI .u8) v.T.Pers),.sl 1 false (List.map (eI .u8) v.T.Delays),.sl 8 false (List.map Zep v.L),.int .u8 v.U.x0,.int .u8 v.U.x1,.int .u8 v.U.x2,.sl 1 false (List.map (eI .u8) v.Some),.bool v.Find]
structure Zqf where
 x0:Int
 x1:Int
def Zw9 (v:Zqf):List PC:=[.int .u8 v.x0,.int .u8 v.x1]
structure Zaw where
 Mask:Int
 Long:Int
def Zat (v:Zaw):List PC:=[.int .i64 v.Mask,.int .i64 v.Long]
structure Zas where
 Entries:(List Zaw)
 Cycle:Int
def Zaz (v:Zas):List PC:=[.sl 2 false (List.map Zat v.Entries),.int .i64 v.Cycle]
structure ZaK where
 A:Int
 B:Int
 Per:Int
 Delay:Int
def ZaA (v:ZaK):List PC:=[.int .i64 v.A,.int .i64 v.B,.int .i64 v.Per,.int .i64 v.Delay]
structure Zan where
 Nodes:Int
 Station:(List Bool)
 Links:(List ZaK)
structure Zar where
 Grid:Int
 Slack:Int
 Proc:Int
 Cap:Int
structure ZfA where
 Burst:Int
 Rate:Int
structure Zal where
 Id:Int
 Talker:Int
 Listener:Int
 Class:Int
 Size:Int
 Period:Int
 Bucket:ZfA
 Deadline:Int
 Routes:(List (List Int))
def Zay (v:Zal):List PC:=[.int .i64 v.Id,.int .i64 v.Talker,.int .i64 v.Listener,.int .i64 v.Class,.int .i64 v.Size,.int .i64 v.Period,.int .i64 v.Bucket.Burst,.int .i64 v.Bucket.Rate,.int .i64 v.Deadline,.sl 1 false (List.map (eSl 1 eI64) v.Routes)]
structure ZaD where
 Stream:Int
 Port:Int
 From:Int
 Long:Int
def Zau (v:ZaD):List PC:=[.int .i64 v.Stream,.int .i64 v.Port,.int .i64 v.From,.int .i64 v.Long]
structure Zap where
 Periods:(List Int)
 Uses:(List ZaD)
structure ZaQ where
 Port:Int
 Early:Int
 Late:Int
 Open:Int
 Long:Int
def Za2 (v:ZaQ):List PC:=[.int .i64 v.Port,.int .i64 v.Early,.int .i64 v.Late,.int .i64 v.Open,.int .i64 v.Long]
structure Zde where
 From:Int
 To:Int
 By:Int
 Next:Int
def Zcy (v:Zde):List PC:=[.int .i64 v.From,.int .i64 v.To,.int .i64 v.By,.int .i64 v.Next]
structure Zb3 where
 Stream:Int
 Arms:(List Zde)
def ZaZ (v:Zb3):List PC:=[.int .i64 v.Stream,.sl 4 false (List.map Zcy v.Arms)]
structure ZaN where
 Id:Int
 Port:Int
 Begin:Int
 Period:Int
 Long:Int
 Frame:Int
def ZaT (v:ZaN):List PC:=[.int .i64 v.Id,.int .i64 v.Port,.int .i64 v.Begin,.int .i64 v.Period,.int .i64 v.Long,.int .i64 v.Frame]
structure ZaW where
 Proof:(List Zb3)
 Offsets:(List Int)
 What:Int
structure ZbH where
 Problem:Zap
 late:Bool
structure ZaJ where
 Period:Int
 From:Int
 Long:Int
def Zci (v:ZaJ):List PC:=[.int .i64 v.Period,.int .i64 v.From,.int .i64 v.Long]
structure ZaX where
 port:Int
 from_:Int
 long:Int
 period:Int
structure Zbh where
 x0:Bool
 x1:Bool
 x2:Bool
 x3:Bool
 x4:Bool
 x5:Bool
 x6:Bool
 x7:Bool
 x8:Bool
 x9:Bool
 x10:Bool
 x11:Bool
 x12:Bool
 x13:Bool
 x14:Bool
 x15:Bool
 x16:Bool
 x17:Bool
 x18:Bool
 x19:Bool
 x20:Bool
 x21:Bool
 x22:Bool
 x23:Bool
structure Zbf where
 Topo:Zan
structure Zax where
 x0:Bool
 x1:Bool
 x2:Bool
 x3:Bool
 x4:Bool
 x5:Bool
 x6:Bool
 x7:Bool
 x8:Bool
 x9:Bool
 x10:Bool
 x11:Bool
structure ZbM where
 port:Int
 from_:Int
 to_:Int
abbrev ZaC (f:Bool) (l:List Int):AV:=.p (.sl 1 f (List.map eI64 l))
abbrev Zev (f:Bool) (l:List Int):AV:=.p (.sl 1 f (List.map (eI .u8) l))
abbrev ZaS (f:Bool) (l:List Zas):AV:=.p (.sl 2 f (List.map Zaz l))
abbrev Zaq (f:Bool) (l:List Zal):AV:=.p (.sl 10 f (List.map Zay l))
abbrev Zeg (f:Bool) (l:List Zaw):AV:=.p (.sl 2 f (List.map Zat l))
abbrev s_eB (f:Bool) (l:List Bool):AV:=.p (.sl 1 f (List.map eB l))
abbrev Zka (f:Bool) (l:List Zce):AV:=.p (.sl 8 f (List.map Zep l))
abbrev Zvy (f:Bool) (l:List (List Bool)):AV:=.p (.sl 1 f (List.map (eSl 1 eB) l))
abbrev Zbi (f:Bool) (l:List ZaK):AV:=.p (.sl 4 f (List.map ZaA l))
abbrev Zdj (f:Bool) (l:List (List Int)):AV:=.p (.sl 1 f (List.map (eSl 1 eI64) l))
abbrev Zgj (f:Bool) (l:List ZaN):AV:=.p (.sl 6 f (List.map ZaT l))
abbrev Zcd (f:Bool) (l:List ZaD):AV:=.p (.sl 4 f (List.map Zau l))
abbrev ZcD (f:Bool) (l:List Zb3):AV:=.p (.sl 2 f (List.map ZaZ l))
abbrev ZtY (f:Bool) (l:List Zde):AV:=.p (.sl 4 f (List.map Zcy l))
abbrev ZnL (f:Bool) (l:List ZaJ):AV:=.p (.sl 3 f (List.map Zci l))
abbrev ZeR (f:Bool) (l:List ZaQ):AV:=.p (.sl 5 f (List.map Za2 l))
abbrev Zdz (v:ZbA):List AV:=[.p (.int .u8 v.Bridges),.p (.int .u8 v.Stations),Zev false v.Chords,Zev false v.Homes,Zev false v.Pers,Zev false v.Delays]
abbrev ZjI (v:Zce):List AV:=[bv v.Reserved,bv v.Two,.p (.int .u8 v.Node),.p (.int .u8 v.Way),.p (.int .u8 v.Size),.p (.int .u8 v.Period),.p (.int .u8 v.Burst),.p (.int .u16 v.Rate)]
abbrev Zn4 (v:Zfz):List AV:=[.p (.int .u8 v.T.Bridges),.p (.int .u8 v.T.Stations),Zev false v.T.Chords,Zev false v.T.Homes,Zev false v.T.Pers,Zev false v.T.Delays,Zka false v.L,.p (.int .u8 v.U.x0),.p (.int .u8 v.U.x1),.p (.int .u8 v.U.x2),Zev false v.Some,bv v.Find]
abbrev ZtG (v:Zqf):List AV:=[.p (.int .u8 v.x0),.p (.int .u8 v.x1)]
abbrev Zp5 (v:Zaw):List AV:=[iv v.Mask,iv v.Long]
abbrev Zb2 (v:Zas):List AV:=[Zeg false v.Entries,iv v.Cycle]
abbrev Zrm (v:ZaK):List AV:=[iv v.A,iv v.B,iv v.Per,iv v.Delay]
abbrev Zam (v:Zan):List AV:=[iv v.Nodes,s_eB false v.Station,Zbi false v.Links]
abbrev Zao (v:Zar):List AV:=[iv v.Grid,iv v.Slack,iv v.Proc,iv v.Cap]
abbrev ZtF (v:ZfA):List AV:=[iv v.Burst,iv v.Rate]
abbrev ZaF (v:Zal):List AV:=[iv v.Id,iv v.Talker,iv v.Listener,iv v.Class,iv v.Size,iv v.Period,iv v.Bucket.Burst,iv v.Bucket.Rate,iv v.Deadline,Zdj false v.Routes]
abbrev ZdH (v:ZaD):List AV:=[iv v.Stream,iv v.Port,iv v.From,iv v.Long]
abbrev Zav (v:Zap):List AV:=[ZaC false v.Periods,Zcd false v.Uses]
abbrev Zp4 (v:ZaQ):List AV:=[iv v.Port,iv v.Early,iv v.Late,iv v.Open,iv v.Long]
abbrev ZqR (v:ZaN):List AV:=[iv v.Id,iv v.Port,iv v.Begin,iv v.Period,iv v.Long,iv v.Frame]
abbrev Zeq (v:ZaJ):List AV:=[iv v.Period,iv v.From,iv v.Long]
abbrev Zf0 (v:ZaX):List AV:=[iv v.port,iv v.from_,iv v.long,iv v.period]
abbrev ZkF (v:Zbh):List AV:=[bv v.x0,bv v.x1,bv v.x2,bv v.x3,bv v.x4,bv v.x5,bv v.x6,bv v.x7,bv v.x8,bv v.x9,bv v.x10,bv v.x11,bv v.x12,bv v.x13,bv v.x14,bv v.x15,bv v.x16,bv v.x17,bv v.x18,bv v.x19,bv v.x20,bv v.x21,bv v.x22,bv v.x23]
def Zbh.l (v:Zbh):List Bool:=[v.x0,v.x1,v.x2,v.x3,v.x4,v.x5,v.x6,v.x7,v.x8,v.x9,v.x10,v.x11,v.x12,v.x13,v.x14,v.x15,v.x16,v.x17,v.x18,v.x19,v.x20,v.x21,v.x22,v.x23]
def Zbh.ofL (l:List Bool):Zbh:=⟨l.getD 0 false,l.getD 1 false,l.getD 2 false,l.getD 3 false,l.getD 4 false,l.getD 5 false,l.getD 6 false,l.getD 7 false,l.getD 8 false,l.getD 9 false,l.getD 10 false,l.getD 11 false,l.getD 12 false,l.getD 13 false,l.getD 14 false,l.getD 15 false,l.getD 16 false,l.getD 17 false,l.getD 18 false,l.getD 19 false,l.getD 20 false,l.getD 21 false,l.getD 22 false,l.getD 23 false⟩
def Zbh.get (v:Zbh)(i:Int):Option Bool:=idx v.l i
def Zbh.set (v:Zbh)(i:Int)(x:Bool):Zbh:=Zbh.ofL (v.l.set i.toNat x)
theorem Zbh.l_ofL (l:List Bool)(h:l.length=24):(Zbh.ofL l).l=l:=Zue 24 false l h rfl
theorem Zbh.l_set (v:Zbh)(i:Int)(x:Bool):(v.set i x).l=v.l.set i.toNat x:=Zbh.l_ofL _ (by rw[List.length_set];rfl)
theorem Zbh.c_set (v:Zbh)(i:Int)(x:Bool):ZkF (v.set i x)=(v.l.set i.toNat x).map (λx=>bv x):=by rw[←Zbh.l_set];rfl
abbrev Za8 (v:Zax):List AV:=[bv v.x0,bv v.x1,bv v.x2,bv v.x3,bv v.x4,bv v.x5,bv v.x6,bv v.x7,bv v.x8,bv v.x9,bv v.x10,bv v.x11]
def Zax.l (v:Zax):List Bool:=[v.x0,v.x1,v.x2,v.x3,v.x4,v.x5,v.x6,v.x7,v.x8,v.x9,v.x10,v.x11]
def Zax.ofL (l:List Bool):Zax:=⟨l.getD 0 false,l.getD 1 false,l.getD 2 false,l.getD 3 false,l.getD 4 false,l.getD 5 false,l.getD 6 false,l.getD 7 false,l.getD 8 false,l.getD 9 false,l.getD 10 false,l.getD 11 false⟩
def Zax.get (v:Zax)(i:Int):Option Bool:=idx v.l i
def Zax.set (v:Zax)(i:Int)(x:Bool):Zax:=Zax.ofL (v.l.set i.toNat x)
theorem Zax.l_ofL (l:List Bool)(h:l.length=12):(Zax.ofL l).l=l:=Zue 12 false l h rfl
theorem Zax.l_set (v:Zax)(i:Int)(x:Bool):(v.set i x).l=v.l.set i.toNat x:=Zax.l_ofL _ (by rw[List.length_set];rfl)
theorem Zax.c_set (v:Zax)(i:Int)(x:Bool):Za8 (v.set i x)=(v.l.set i.toNat x).map (λx=>bv x):=by rw[←Zax.l_set];rfl
abbrev Zp3 (v:ZbM):List AV:=[iv v.port,iv v.from_,iv v.to_]
def ZrL (N:Nat)(a0_:(List Zas))(a1_:(List Zas))(i2:Int)(a0:Int):Option ((Int)⊕((Unit)⊕(Bool))):=
 ((idx a0_ i2).bind λa5=>
 (if(decide (a0<((List.length a5.Entries:Nat):Int)))then((idx a0_ i2).bind λa4=>
 ((idx a4.Entries a0).bind λa2=>
 ((idx a1_ i2).bind λa3=>
 ((idx a3.Entries a0).bind λa1=>
 (if(!((a2.Mask==a1.Mask)&&((a2.Long==a1.Long)&&true)))then(some (.inr (.inr false)))else(some (.inl (w64 (a0+1)))))))))else(some (.inr (.inl ())))))
def ZrM (N:Nat)(a0_:(List Zas))(a1_:(List Zas))(i2:Int):Option ((Int)⊕((Unit)⊕(Bool))):=
 (if(decide (i2<((List.length a0_:Nat):Int)))then((((idx a0_ i2).bind λa6=>((idx a1_ i2).bind λa5=>(if(a6.Cycle !=a5.Cycle)then(some true)else((idx a0_ i2).bind λa4=>((idx a1_ i2).bind λa3=>(some (((List.length a4.Entries:Nat):Int)!=((List.length a3.Entries:Nat):Int))))))))).bind λ(a2:Bool)=>
 (if a2 then(some (.inr (.inr false)))else((ZaI (λx:Int=>ZrL N a0_ a1_ i2 x) N 0).bind λa1=>match a1 with
 |(.inl a7)=>(some (.inl (w64 (i2+1))))
 |(.inr a0)=>(some (.inr (.inr a0))))))else(some (.inr (.inl ()))))
def ZqZ (N:Nat)(a0_:(List Zas))(a1_:(List Zas)):Option (Bool):=
 (if(((List.length a0_:Nat):Int)!=((List.length a1_:Nat):Int))then(some false)else((ZaI (λx:Int=>ZrM N a0_ a1_ x) N 0).bind λa1=>match a1 with
 |(.inl a2)=>(some true)
 |(.inr a0)=>(some a0)))
def ZhX (N:Nat)(a0_:(List Int))(i1:Int)(a4:Bool)(a0:Int):Option ((Bool×Int)⊕((Bool))):=
 (if(decide (a0<((List.length a0_:Nat):Int)))then(((if a4 then((idx a0_ a0).bind λa3=>((remI i1 a3).bind λa1=>(if(a1==0)then(some true)else(some false))))else(some false))).bind λ(a2:Bool)=>
 (some (.inl (a2,(w64 (a0+1))))))else(some (.inr a4)))
def Zf7 (N:Nat)(a0_:(List Int))(i1:Int):Option ((Int)⊕((Unit)⊕(Int))):=
 (if(decide (i1<=960))then((ZaI (λx:Bool×Int=>ZhX N a0_ i1 x.1 x.2) N (true,0)).bind λa0=>
 (if a0 then(some (.inr (.inr i1)))else(some (.inl (w64 (i1+1))))))else(some (.inr (.inl ()))))
def Zf8 (N:Nat)(a0_:(List Int)):Option (Int):=
 ((ZaI (λx:Int=>Zf7 N a0_ x) N 1).bind λa1=>match a1 with
 |(.inl a2)=>(some 0)
 |(.inr a0)=>(some a0))
def Zi9 (N:Nat)(a0_:Zap)(a1_:(List Int))(i3:Int)(l4:(List Int)):Option ((Int×(List Int))⊕(((List Int)))):=
 (if(decide (i3<((List.length a0_.Periods:Nat):Int)))then(((if(decide (i3<((List.length a1_:Nat):Int)))then((idx a1_ i3).bind λa4=>
 ((idx a0_.Periods i3).bind λa3=>
 ((remI (w64 (a4)) a3).bind λa0=>
 (some a0))))else(some 0))).bind λ(a2:Int)=>
 ((appI 8 l4 [a2]).bind λa1=>
 (some (.inl ((w64 (i3+1)),a1)))))else(some (.inr l4)))
def Zfu (N:Nat)(a0_:Zap)(a1_:(List Int)):Option ((List Int)):=
 ((ZaI (λx:Int×(List Int)=>Zi9 N a0_ a1_ x.1 x.2) N (0,[])).bind λa0=>
 (some a0))
def ZeL (N:Nat)(a0_:Zas)(i4:Int)(i5:Int):Option ((Int×Int)⊕((Int)⊕(Int))):=
 (if(decide (i5<((List.length a0_.Entries:Nat):Int)))then((idx a0_.Entries i5).bind λa0=>
 (if((decide (a0.Mask<0))||((decide (a0.Mask>255))||((decide (a0.Long<1))||(decide (a0.Long>9600000)))))then(some (.inr (.inr 370)))else(some (.inl ((w64 (i4+a0.Long)),(w64 (i5+1)))))))else(some (.inr (.inl i4))))
def Zhu (N:Nat)(a0_:Zas):Option (Int):=
 (if((decide (((List.length a0_.Entries:Nat):Int)<1))||(decide (((List.length a0_.Entries:Nat):Int)>128)))then(some 370)else((ZaI (λx:Int×Int=>ZeL N a0_ x.1 x.2) N (0,0)).bind λa2=>match a2 with
 |(.inl a0)=>(if((a0 !=a0_.Cycle)||(decide (a0>9600000)))then(some 370)else(some 0))
 |(.inr a1)=>(some a1)))
def Zjg (N:Nat)(a0_:Int)(a1_:Int)(a2_:Int):Option (Zar):=
 (some (Zar.mk (w64 (100+(w64 (20*(w64 (a0_)))))) (w64 ((Int.tmod a1_ 40))) (w64 (a2_)) 8000))
def Zfa (N:Nat)(a0_:Zan)(a1_:Zar)(a2_:(List Zal))(a3_:(List Int)):Option ((List Zal)×(List Int)×Zan×Zar):=
 (some (a2_,a3_,a0_,a1_))
def ZrC (N:Nat)(a0_:(List Bool))(a1_:Int)(i3:Int)(i4:Int)(i5:Int)(l6:(List Zaw)):Option ((Int×Int×Int×(List Zaw))⊕(((List Zaw)))):=
 (if(decide (i3<((List.length a0_:Nat):Int)))then((idx a0_ i3).bind λa5=>
 (((if a5 then(some 128)else(some 127))).bind λ(a0:Int)=>
 (((if((a0==i4)&&((a1_==i5)&&true))then((idx l6 (w64 (((List.length l6:Nat):Int)-1))).bind λa4=>
 ((idx l6 (w64 (((List.length l6:Nat):Int)-1))).bind λa3=>
 (some (List.set l6 (Int.toNat (w64 (((List.length l6:Nat):Int)-1))) (Zaw.mk a3.Mask (w64 (a4.Long+a1_)))))))else((appI 16 l6 [(Zaw.mk a0 a1_)]).bind λa1=>
 (some a1)))).bind λ(a2:(List Zaw))=>
 (some (.inl ((w64 (i3+1)),a0,a1_,a2))))))else(some (.inr l6)))
def ZqU (N:Nat)(a0_:(List Bool))(a1_:Int):Option (Zas):=
 ((ZaI (λx:Int×Int×Int×(List Zaw)=>ZrC N a0_ a1_ x.1 x.2.1 x.2.2.1 x.2.2.2) N (0,0,0,[])).bind λa0=>
 (some (Zas.mk a0 (w64 (((List.length a0_:Nat):Int)*a1_)))))
def Zq6 (N:Nat):Option (Zan):=
 (some (Zan.mk 3 ([true,false,true]) ([(ZaK.mk 0 1 8 5),(ZaK.mk 1 2 8 5)])))
def ZpN (N:Nat):Option (Zar):=
 (some (Zar.mk 100 2 10 8000))
def Zfn (N:Nat)(a0_:Int)(a1_:Int):Option (Zal):=
 (some (Zal.mk a0_ 0 2 7 100 a1_ (ZfA.mk 0 0) 10000 ([[0,2]])))
def Zr9 (N:Nat)(a0_:(List Int))(i3:Int)(i4:Int)(l5:(List Zaw)):Option ((Int×Int×(List Zaw))⊕((Int×(List Zaw)))):=
 (if(decide ((w64 (i3+1))<((List.length a0_:Nat):Int)))then((idx a0_ i3).bind λa3=>
 ((idx a0_ (w64 (i3+1))).bind λa2=>
 ((appI 16 l5 [(Zaw.mk a3 a2)]).bind λa0=>
 ((idx a0_ (w64 (i3+1))).bind λa1=>
 (some (.inl ((w64 (i3+2)),(w64 (i4+a1)),a0)))))))else(some (.inr (i4,l5))))
def ZiJ (N:Nat)(a0_:(List Int)):Option (Zas):=
 ((ZaI (λx:Int×Int×(List Zaw)=>Zr9 N a0_ x.1 x.2.1 x.2.2) N (0,0,[])).bind λa0=>
 (some (Zas.mk a0.2 a0.1)))
def ZeE (N:Nat)(a0_:Zas)(i4:Int)(i5:Int):Option ((Int×Int)⊕((Int)⊕(Bool))):=
 (if(decide (i5<((List.length a0_.Entries:Nat):Int)))then((idx a0_.Entries i5).bind λa0=>
 (if((decide (a0.Mask<0))||((decide (a0.Mask>255))||((decide (a0.Long<1))||(decide (a0.Long>9600000)))))then(some (.inr (.inr false)))else(some (.inl ((w64 (i4+a0.Long)),(w64 (i5+1)))))))else(some (.inr (.inl i4))))
def Zi5 (N:Nat)(a0_:Zas):Option (Bool):=
 (if((decide (((List.length a0_.Entries:Nat):Int)<1))||(decide (((List.length a0_.Entries:Nat):Int)>128)))then(some false)else((ZaI (λx:Int×Int=>ZeE N a0_ x.1 x.2) N (0,0)).bind λa2=>match a2 with
 |(.inl a0)=>(some ((a0==a0_.Cycle)&&(decide (a0<=9600000))))
 |(.inr a1)=>(some a1)))
def ZiU (N:Nat)(a0_:Zan)(a1_:Zar)(a2_:Zal)(a3_:Int):Option (Zal×Int×Zan×Zar):=
 (some (a2_,a3_,a0_,a1_))
def Zht (N:Nat)(a0_:Zas)(a1_:Int)(a2_:Int)(a3_:Int):Option (Int):=
 ((Zhu N a0_).bind λr1=>
 (if(r1 !=0)then(some r1)else(if((decide (a1_<0))||((decide (a1_≥8))||((decide (a2_<(-1099511627776)))||((decide (a2_>1099511627776))||((decide (a3_<0))||(decide (a3_>1099511627776)))))))then(some 2)else(some 0))))
def Zdy (N:Nat)(a0_:Zas)(i3:Int)(i4:Int):Option ((Int×Int)⊕((Int×Int))):=
 ((idx a0_.Entries i4).bind λa2=>
 (if(decide (i3≥a2.Long))then((idx a0_.Entries i4).bind λa1=>
 (some (.inl ((w64 (i3-a1.Long)),(w64 (i4+1))))))else((idx a0_.Entries i4).bind λa0=>
 (some (.inr (i4,(w64 (a0.Long-i3))))))))
def Zg0 (N:Nat)(a0_:Zas)(a1_:Int):Option (Int×Int):=
 ((remI a1_ a0_.Cycle).bind λm1=>
 ((remI (w64 (m1+a0_.Cycle)) a0_.Cycle).bind λm2=>
 ((ZaI (λx:Int×Int=>Zdy N a0_ x.1 x.2) N (m2,0)).bind λa0=>
 (some a0))))
def Zb7 (N:Nat)(a0_:Zas)(a2_:Int->Option (Bool))(i2:Int)(i3:Int)(i4:Int)(i5:Int):Option ((Int×Int×Int×Int)⊕((Unit)⊕(Int))):=
 (if(decide (i5<(w64 (((List.length a0_.Entries:Nat):Int)+1))))then((idx a0_.Entries i2).bind λa3=>
 ((a2_ a3.Mask).bind λa1=>
 (if(!a1)then(some (.inr (.inr i4)))else((remI (w64 (i2+1)) ((List.length a0_.Entries:Nat):Int)).bind λa0=>
 ((idx a0_.Entries a0).bind λa2=>
 (some (.inl (a0,a2.Long,(w64 (i4+i3)),(w64 (i5+1))))))))))else(some (.inr (.inl ()))))
def Zeo (N:Nat)(a0_:Zas)(a1_:Int)(a2_:Int->Option (Bool)):Option (Int):=
 ((Zg0 N a0_ a1_).bind λr1=>
 ((ZaI (λx:Int×Int×Int×Int=>Zb7 N a0_ a2_ x.1 x.2.1 x.2.2.1 x.2.2.2) N (r1.1,r1.2,0,0)).bind λa1=>match a1 with
 |(.inl a2)=>(some a0_.Cycle)
 |(.inr a0)=>(some a0)))
def Ze2 (N:Nat)(a0_:(List Int))(a1_:Int):Option (Int):=
 (if(decide (a1_<((List.length a0_:Nat):Int)))then((idx a0_ a1_).bind λe2=>
 (some (w64 (e2))))else(some 0))
def Zih (N:Nat)(a0_:Zap)(i4:Int):Option ((Int)⊕((Unit)⊕(Bool))):=
 (if(decide (i4<((List.length a0_.Periods:Nat):Int)))then((((idx a0_.Periods i4).bind λa2=>(if(decide (a2<1))then(some true)else((idx a0_.Periods i4).bind λa1=>(some (decide (a1>240))))))).bind λ(a0:Bool)=>
 (if a0 then(some (.inr (.inr false)))else(some (.inl (w64 (i4+1))))))else(some (.inr (.inl ()))))
def Zig (N:Nat)(a0_:Zap)(a1:Int):Option ((Int)⊕((Unit)⊕(Bool))):=
 (if(decide (a1<((List.length a0_.Uses:Nat):Int)))then((idx a0_.Uses a1).bind λa0=>
 (if((decide (a0.Stream<0))||((decide (a0.Stream≥((List.length a0_.Periods:Nat):Int)))||((decide (a0.Port<0))||(decide (a0.Port≥48)))))then(some (.inr (.inr false)))else(((if(decide (a0.From<0))then(some true)else((idx a0_.Periods a0.Stream).bind λa4=>(if(decide (a0.From≥a4))then(some true)else(if(decide (a0.Long<1))then(some true)else((idx a0_.Periods a0.Stream).bind λa3=>(some (decide (a0.Long>a3))))))))).bind λ(a2:Bool)=>
 (if a2 then(some (.inr (.inr false)))else(some (.inl (w64 (a1+1))))))))else(some (.inr (.inl ()))))
def Zja (N:Nat)(a0_:Zap):Option (Bool):=
 (if((decide (((List.length a0_.Periods:Nat):Int)>12))||(decide (((List.length a0_.Uses:Nat):Int)>192)))then(some false)else((ZaI (λx:Int=>Zih N a0_ x) N 0).bind λa4=>match a4 with
 |(.inl a6)=>((ZaI (λx:Int=>Zig N a0_ x) N 0).bind λa3=>match a3 with
 |(.inl a5)=>((Zf8 N a0_.Periods).bind λa0=>
 (some (decide (a0>0))))
 |(.inr a2)=>(some a2))
 |(.inr a1)=>(some a1)))
def Zjq (N:Nat)(a0_:Zap)(a1_:Int)(a2_:Int):Option (Bool):=
 (((if(decide (a2_≥0))then((idx a0_.Periods a1_).bind λe2=>(some (decide (a2_<e2))))else(some false))).bind λ(j4:Bool)=>
 (some j4))
def ZhU (N:Nat)(a0_:Zap)(a1_:Int)(a2_:Int):Option (Bool):=
 (((if(decide (a1_≥0))then(if(decide (a1_<((List.length a0_.Periods:Nat):Int)))then(if(decide (a2_≥0))then((idx a0_.Periods a1_).bind λe4=>(some (decide (a2_<e4))))else(some false))else(some false))else(some false))).bind λ(j8:Bool)=>
 (some j8))
def Zhi (N:Nat)(a0_:ZaK)(a1_:Int)(a2_:Int):Option (Bool):=
 (some (if(a0_.A==a1_)then((a0_.B==a2_)||((a0_.A==a2_)&&(a0_.B==a1_)))else((a0_.A==a2_)&&(a0_.B==a1_))))
def Zc0 (N:Nat)(a0_:Int)(a1_:Int)(a2_:Int):Option (Bool):=
 (some ((decide (a0_≥a1_))&&(decide (a0_<=a2_))))
def Zkn (N:Nat)(a0_:Zan)(a1_:Int):Option (Int):=
 ((idx a0_.Links (w64 (Int.tdiv a1_ 2))).bind λe1=>
 (some e1.Per))
def Zhj (N:Nat)(a0_:Zan)(a1_:Int):Option (Int):=
 ((idx a0_.Links (w64 (Int.tdiv a1_ 2))).bind λe1=>
 (some e1.Delay))
def ZeG (N:Nat)(a0_:Int)(a1_:Int):Option (Int):=
 ((remI a0_ a1_).bind λm1=>
 (((if(decide (m1<0))then(some (w64 (m1+a1_)))else(some m1))).bind λ(a0:Int)=>
 (some a0)))
def ZlR (N:Nat)(a0_:(List ZaN))(a1_:Int)(a2_:Int)(i1:Int):Option ((Int)⊕((Unit)⊕(Bool))):=
 (if(decide (i1<((List.length a0_:Nat):Int)))then((((idx a0_ i1).bind λa5=>(if(a5.Port==a1_)then((idx a0_ i1).bind λa4=>((idx a0_ i1).bind λa3=>((ZeG N (w64 (a2_-a4.Begin)) a3.Period).bind λa0=>((idx a0_ i1).bind λa2=>(some (decide (a0<a2.Long)))))))else(some false)))).bind λ(a1:Bool)=>
 (if a1 then(some (.inr (.inr true)))else(some (.inl (w64 (i1+1))))))else(some (.inr (.inl ()))))
def Zml (N:Nat)(a0_:(List ZaN))(a1_:Int)(a2_:Int):Option (Bool):=
 ((ZaI (λx:Int=>ZlR N a0_ a1_ a2_ x) N 0).bind λa1=>match a1 with
 |(.inl a2)=>(some false)
 |(.inr a0)=>(some a0))
def Zi6 (N:Nat)(a0_:Zas)(a1:Int)(a0:Int):Option ((Int×Int)⊕((Int×Int))):=
 ((idx a0_.Entries a0).bind λa3=>
 (if(decide (a1≥a3.Long))then((idx a0_.Entries a0).bind λa2=>
 (some (.inl ((w64 (a1-a2.Long)),(w64 (a0+1))))))else(some (.inr (a1,a0)))))
def Zoy (N:Nat)(a0_:Zas)(a1_:Int):Option (Int×Int):=
 ((remI a1_ a0_.Cycle).bind λm1=>
 (((if(decide (m1<0))then(some (w64 (m1+a0_.Cycle)))else(some m1))).bind λ(a1:Int)=>
 ((ZaI (λx:Int×Int=>Zi6 N a0_ x.1 x.2) N (a1,0)).bind λa0=>
 (some (a0.2,a0.1)))))
def Zbx (N:Nat)(a0_:Int)(a1_:Int)(a2_:Int):Option (Bool):=
 (some ((decide (a0_≥a1_))&&(decide (a0_<=a2_))))
def ZbJ {σ:Type}(N:Nat)(y_:σ->ZaQ->Option (σ×Bool))(c0_:Zal)(c2_:Zan)(c3_:Zar)(e3:(List Int))(i6:Int)(i7:Int)(i10:Int)(i11:Int)(i12:Int)(i8:Int)(g9:σ):Option ((Int×Int×Int×Int×Int×Int×σ)⊕((σ)⊕(σ))):=
 (if(decide (i6<((List.length e3:Nat):Int)))then((idx e3 i6).bind λa4=>
 (((if(decide (i6>0))then((idx c2_.Links (w64 (Int.tdiv i7 2))).bind λa2=>
 ((quoI .i64 (w64 ((w64 ((w64 ((w64 ((w64 ((w64 (i12+i8))+a2.Delay))+c3_.Proc))+(w64 (2*c3_.Slack))))+c3_.Grid))-1)) c3_.Grid).bind λa5=>
 (some ((w64 ((w64 ((w64 ((w64 (i12+i8))+a2.Delay))+c3_.Proc))-(w64 (2*c3_.Slack)))),(w64 ((w64 ((w64 ((w64 (i12+i8))+a2.Delay))+c3_.Proc))+(w64 (2*c3_.Slack)))),(w64 (a5*c3_.Grid))))))else(some (i10,i11,i12)))).bind λ(a0:Int×Int×Int)=>
 ((idx c2_.Links (w64 (Int.tdiv a4 2))).bind λa3=>
 ((y_ g9 (ZaQ.mk a4 a0.1 a0.2.1 a0.2.2 (w64 (c0_.Size*a3.Per)))).bind λa1=>
 (if(!a1.2)then(some (.inr (.inr a1.1)))else(some (.inl ((w64 (i6+1)),a4,a0.1,a0.2.1,a0.2.2,(w64 (c0_.Size*a3.Per)),a1.1))))))))else(some (.inr (.inl g9))))
def Zdn {σ:Type}(N:Nat)(y_:σ->ZaQ->Option (σ×Bool))(c0_:Zal)(c1_:Int)(c2_:Zan)(c3_:Zar)(s_:σ):Option (σ):=
 ((idx c0_.Routes c1_).bind λe3=>
 ((ZaI (λx:Int×Int×Int×Int×Int×Int×σ=>ZbJ N y_ c0_ c2_ c3_ e3 x.1 x.2.1 x.2.2.1 x.2.2.2.1 x.2.2.2.2.1 x.2.2.2.2.2.1 x.2.2.2.2.2.2) N (0,0,0,0,0,0,s_)).bind λa2=>match a2 with
 |(.inl a1)=>(some a1)
 |(.inr a0)=>(some a0)))
def Zc9 (N:Nat)(a0_:Zan)(a1_:Int):Option (Int):=
 ((idx a0_.Links (w64 (Int.tdiv a1_ 2))).bind λe1=>
 (if((Int.tmod a1_ 2)==1)then(some e1.B)else(some e1.A)))
def Zek (N:Nat)(a0_:Zan)(a1_:Int):Option (Int):=
 ((idx a0_.Links (w64 (Int.tdiv a1_ 2))).bind λe1=>
 (if((Int.tmod a1_ 2)==1)then(some e1.A)else(some e1.B)))
def Zem (N:Nat)(a0_:Int)(a1_:Int):Option (Int):=
 ((quoI .i64 a0_ a1_).bind λq1=>
 ((((remI a0_ a1_).bind λa0=>
 (if(decide (a0<0))then(some (w64 (q1-1)))else(some q1)))).bind λ(a1:Int)=>
 (some a1)))
def ZkU (N:Nat)(a0_:Zap)(a1_:Int)(a2_:Int):Option (Zap×Int×Int):=
 (some (a0_,a1_,a2_))
def Zfj (N:Nat)(a0_:Zap)(a1_:ZaD)(a2_:Int):Option (ZaJ):=
 ((idx a0_.Periods a1_.Stream).bind λe1=>
 ((remI (w64 (a1_.From+a2_)) e1).bind λm2=>
 (some (ZaJ.mk e1 m2 a1_.Long))))
def Zmo (N:Nat)(a0_:Zap)(a1_:Int)(a2_:Int):Option (ZaJ):=
 ((idx a0_.Uses a1_).bind λe1=>
 ((idx a0_.Periods e1.Stream).bind λe2=>
 ((idx a0_.Uses a1_).bind λe3=>
 ((remI (w64 (e3.From+a2_)) e2).bind λm4=>
 ((idx a0_.Uses a1_).bind λe5=>
 (some (ZaJ.mk e2 m4 e5.Long)))))))
def ZiC (N:Nat)(a0_:Zan)(a1_:Int):Option (Bool):=
 (some ((decide (a1_≥0))&&(decide (a1_<a0_.Nodes))))
def Zjm (N:Nat)(a0_:(List Int))(a1_:Int)(i1:Int):Option ((Int)⊕((Unit)⊕(Bool))):=
 (if(decide (i1<((List.length a0_:Nat):Int)))then((idx a0_ i1).bind λa0=>
 (if(a0==a1_)then(some (.inr (.inr true)))else(some (.inl (w64 (i1+1))))))else(some (.inr (.inl ()))))
def Zjn (N:Nat)(a0_:(List Int))(a1_:Int):Option (Bool):=
 ((ZaI (λx:Int=>Zjm N a0_ a1_ x) N 0).bind λa1=>match a1 with
 |(.inl a2)=>(some false)
 |(.inr a0)=>(some a0))
def Zds (N:Nat)(a0_:Zan)(a1_:Int):Option (Bool):=
 ((((Zc0 N a1_ 0 (w64 (a0_.Nodes-1))).bind λr1=>(if r1 then((idx a0_.Station a1_).bind λe3=>(some e3))else(some false)))).bind λ(j5:Bool)=>
 (some j5))
def Zh1 (N:Nat)(a0_:Int)(c0_:Int):Option (Bool):=
 (some (a0_==c0_))
def Zdl (N:Nat)(a0_:Zan)(a2_:Zbh)(a2:Int)(a1:(List Bool)):Option ((Int×(List Bool))⊕(((List Bool)))):=
 (if(decide (a2<((List.length a0_.Links:Nat):Int)))then((((idx a0_.Links a2).bind λa0=>
 ((((a2_.get a2).bind λa7=>(if(!a7)then((idx a1 a0.A).bind λa6=>((idx a1 a0.B).bind λa5=>(some (a6 !=a5))))else(some false)))).bind λ(a3:Bool)=>
 (if a3 then((idx a1 a0.A).bind λa9=>
 ((idx (List.set a1 (Int.toNat a0.A) true) a0.B).bind λa8=>
 (some (List.set (List.set a1 (Int.toNat a0.A) true) (Int.toNat a0.B) true))))else(some a1))))).bind λ(a4:(List Bool))=>
 (some (.inl ((w64 (a2+1)),a4))))else(some (.inr a1)))
def Zee (N:Nat)(a0_:Zan)(a2_:Zbh)(i10:Int)(a1:(List Bool)):Option ((Int×(List Bool))⊕(((List Bool)))):=
 (if(decide (i10<a0_.Nodes))then((ZaI (λx:Int×(List Bool)=>Zdl N a0_ a2_ x.1 x.2) N (0,a1)).bind λa0=>
 (some (.inl ((w64 (i10+1)),a0))))else(some (.inr a1)))
def ZkM (N:Nat)(a0_:Zan)(a1_:Int)(a2_:Zbh):Option ((List Bool)):=
 ((Zjy 1 a0_.Nodes a0_.Nodes false).bind λl3=>
 ((idx l3 a1_).bind λe4=>
 ((ZaI (λx:Int×(List Bool)=>Zee N a0_ a2_ x.1 x.2) N (0,(List.set l3 (Int.toNat a1_) true))).bind λa0=>
 (some a0))))
def ZfK (N:Nat)(c0_:Zal):Option (Bool):=
 ((Zbx N c0_.Id 1 4095).bind λr2=>
 (some r2))
def ZeC (N:Nat)(a0_:Zan)(a1_:Int):Option (Bool):=
 ((((Zbx N a1_ 0 (w64 (a0_.Nodes-1))).bind λr1=>(if r1 then((idx a0_.Station a1_).bind λe3=>(some e3))else(some false)))).bind λ(j5:Bool)=>
 (some j5))
def ZfI (N:Nat)(c0_:Zal):Option (Bool):=
 ((Zbx N c0_.Size 84 1542).bind λr2=>
 (some r2))
def ZfH (N:Nat)(c0_:Zal):Option (Bool):=
 ((Zbx N c0_.Deadline 1 1099511627776).bind λr2=>
 (some r2))
def ZfG (N:Nat)(c0_:Zal):Option (Bool):=
 ((Zbx N ((List.length c0_.Routes:Nat):Int) 1 2).bind λr2=>
 (some r2))
def ZeP (N:Nat)(a0_:(List Int))(a1_:(List Int))(i1:Int):Option ((Int)⊕((Unit)⊕(Bool))):=
 (if(decide (i1<(w64 (((List.length a0_:Nat):Int)-1))))then((idx a0_ i1).bind λa1=>
 ((Zjn N a1_ a1).bind λa0=>
 (if a0 then(some (.inr (.inr true)))else(some (.inl (w64 (i1+1)))))))else(some (.inr (.inl ()))))
def Zfg (N:Nat)(a0_:(List Int))(a1_:(List Int)):Option (Bool):=
 ((ZaI (λx:Int=>ZeP N a0_ a1_ x) N 1).bind λa1=>match a1 with
 |(.inl a2)=>(some false)
 |(.inr a0)=>(some a0))
def ZdN (N:Nat)(a0_:Zan)(a1_:(List Int))(i7:Int)(l8:(List Int)):Option ((Int×(List Int))⊕(((List Int)))):=
 (if(decide (i7<((List.length a1_:Nat):Int)))then((idx a1_ i7).bind λa2=>
 ((Zek N a0_ a2).bind λa0=>
 ((appI 8 l8 [a0]).bind λa1=>
 (some (.inl ((w64 (i7+1)),a1))))))else(some (.inr l8)))
def Zd3 (N:Nat)(a0_:Zan)(a1_:(List Int)):Option ((List Int)):=
 ((idx a1_ 0).bind λe1=>
 ((Zc9 N a0_ e1).bind λr2=>
 ((ZaI (λx:Int×(List Int)=>ZdN N a0_ a1_ x.1 x.2) N (0,[r2])).bind λa0=>
 (some a0))))
def Zda {σ:Type}(N:Nat)(y_:σ->ZaD->ZaD->Option (σ×Bool))(c0_:Zap)(c2_:Int)(i4:Int)(a5:ZaD)(a1:Int)(a3:σ):Option ((Int×σ)⊕((σ)⊕(σ))):=
 (if(decide (a1<((List.length c0_.Uses:Nat):Int)))then((idx c0_.Uses a1).bind λa2=>
 (((if(a1==i4)then(some true)else(if(a2.Stream !=c2_)then(some true)else(some (a2.Port !=a5.Port))))).bind λ(a4:Bool)=>
 (if a4 then(some (.inl ((w64 (a1+1)),a3)))else((y_ a3 a5 a2).bind λa0=>
 (if(!a0.2)then(some (.inr (.inr a0.1)))else(some (.inl ((w64 (a1+1)),a0.1))))))))else(some (.inr (.inl a3))))
def Zdb {σ:Type}(N:Nat)(y_:σ->ZaD->ZaD->Option (σ×Bool))(c0_:Zap)(c1_:Int)(c2_:Int)(i4:Int)(g5:σ):Option ((Int×σ)⊕((σ)⊕(σ))):=
 (if(decide (i4<((List.length c0_.Uses:Nat):Int)))then((idx c0_.Uses i4).bind λa3=>
 (if(a3.Stream !=c1_)then(some (.inl ((w64 (i4+1)),g5)))else((ZaI (λx:Int×σ=>Zda N y_ c0_ c2_ i4 a3 x.1 x.2) N (0,g5)).bind λa2=>match a2 with
 |(.inl a1)=>(some (.inl ((w64 (i4+1)),a1)))
 |(.inr a0)=>(some (.inr (.inr a0))))))else(some (.inr (.inl g5))))
def ZhY {σ:Type}(N:Nat)(y_:σ->ZaD->ZaD->Option (σ×Bool))(c0_:Zap)(c1_:Int)(c2_:Int)(s_:σ):Option (σ):=
 ((ZaI (λx:Int×σ=>Zdb N y_ c0_ c1_ c2_ x.1 x.2) N (0,s_)).bind λa2=>match a2 with
 |(.inl a1)=>(some a1)
 |(.inr a0)=>(some a0))
def Zei (N:Nat)(a0_:ZaJ):Option (Int):=
 (if((decide (a0_.Period<1))||((decide (a0_.Period>960))||((decide (a0_.From<0))||(decide (a0_.From≥a0_.Period)))))then(some 330)else(if((decide (a0_.Long<1))||(decide (a0_.Long>a0_.Period)))then(some 330)else(some 0)))
def Zdq (N:Nat)(a0_:(List ZaJ))(i2:Int):Option ((Int)⊕((Unit)⊕(Int))):=
 (if(decide (i2<((List.length a0_:Nat):Int)))then((idx a0_ i2).bind λa1=>
 ((Zei N a1).bind λa0=>
 (if(a0 !=0)then(some (.inr (.inr a0)))else(some (.inl (w64 (i2+1)))))))else(some (.inr (.inl ()))))
def ZeN (N:Nat)(a0_:(List ZaJ)):Option (Int):=
 (if(decide (((List.length a0_:Nat):Int)>32))then(some 3)else((ZaI (λx:Int=>Zdq N a0_ x) N 0).bind λa1=>match a1 with
 |(.inl a2)=>(some 0)
 |(.inr a0)=>(some a0)))
def Zga (N:Nat)(a0_:Int)(a1_:Int)(i1:Int):Option ((Int)⊕((Unit)⊕(Int))):=
 (if(decide (i1>1))then((((remI a0_ i1).bind λa1=>(if(a1==0)then((remI a1_ i1).bind λa0=>(some (a0==0)))else(some false)))).bind λ(a2:Bool)=>
 (if a2 then(some (.inr (.inr i1)))else(some (.inl (w64 (i1-1))))))else(some (.inr (.inl ()))))
def Zmp (N:Nat)(a0_:Int)(a1_:Int):Option (Int):=
 ((ZaI (λx:Int=>Zga N a0_ a1_ x) N a0_).bind λa1=>match a1 with
 |(.inl a2)=>(some 1)
 |(.inr a0)=>(some a0))
def ZkS (N:Nat)(a0_:Zan)(a1_:Int):Option (Bool):=
 (some ((decide (a1_≥0))&&(decide (a1_<(w64 (2*((List.length a0_.Links:Nat):Int)))))))
def Zj3 (N:Nat)(a0_:Zan)(a1_:Int):Option (Bool):=
 (some ((decide (a1_≥0))&&(decide (a1_<a0_.Nodes))))
def ZhH (N:Nat)(a0_:Int)(c0_:Zan):Option (Bool):=
 ((idx c0_.Links a0_).bind λe2=>
 ((((idx c0_.Station e2.A).bind λe4=>(if(!e4)then(some true)else((idx c0_.Station e2.B).bind λe8=>(some (!e8)))))).bind λ(j9:Bool)=>
 (some j9)))
def Ze7 (N:Nat)(e2:ZaK)(l4:List ZaK)(i5:Int):Option ((Int)⊕((Unit)⊕(Bool))):=
 (if(decide (i5<((List.length l4:Nat):Int)))then((idx l4 i5).bind λa0=>
 (if(if(e2.A==a0.A)then((e2.B==a0.B)||((e2.A==a0.B)&&(e2.B==a0.A)))else((e2.A==a0.B)&&(e2.B==a0.A)))then(some (.inr (.inr false)))else(some (.inl (w64 (i5+1))))))else(some (.inr (.inl ()))))
def Zf3 (N:Nat)(a0_:Int)(c0_:Zan):Option (Bool):=
 ((idx c0_.Links a0_).bind λe2=>
 ((subI c0_.Links 0 a0_).bind λl4=>
 ((ZaI (λx:Int=>Ze7 N e2 l4 x) N 0).bind λa1=>match a1 with
 |(.inl a2)=>(some true)
 |(.inr a0)=>(some a0))))
def ZhG (N:Nat)(a0_:Int)(c0_:Zan):Option (Bool):=
 ((idx c0_.Links a0_).bind λe2=>
 (some ((decide (e2.Per≥1))&&((decide (e2.Per<=1000))&&((decide (e2.Delay≥0))&&(decide (e2.Delay<=10000)))))))
def Zb8 (N:Nat)(a0_:(List Bool))(a1_:Bool)(i1:Int):Option ((Int)⊕((Unit)⊕(Int))):=
 (if(decide (i1<((List.length a0_:Nat):Int)))then((idx a0_ i1).bind λa0=>
 (if(a1_==a0)then(some (.inr (.inr i1)))else(some (.inl (w64 (i1+1))))))else(some (.inr (.inl ()))))
def Zdo (N:Nat)(a0_:(List Bool))(a1_:Bool):Option (Int):=
 ((ZaI (λx:Int=>Zb8 N a0_ a1_ x) N 0).bind λa1=>match a1 with
 |(.inl a2)=>(some (-1))
 |(.inr a0)=>(some a0))
def Zer (N:Nat)(a0_:Int)(a1_:Int)(a2_:Int):Option (Bool):=
 (some ((decide (a1_<=a0_))&&(decide (a0_<=a2_))))
def Zfb (N:Nat)(a1_:(List Int))(a2:Int)(a0:Int):Option ((Int)⊕((Unit)⊕(Bool))):=
 (if(decide (a0<((List.length a1_:Nat):Int)))then((idx a1_ a0).bind λa1=>
 (if((w64 (Int.tdiv a2 2))==(w64 (Int.tdiv a1 2)))then(some (.inr (.inr true)))else(some (.inl (w64 (a0+1))))))else(some (.inr (.inl ()))))
def Zfc (N:Nat)(a0_:(List Int))(a1_:(List Int))(i1:Int):Option ((Int)⊕((Unit)⊕(Bool))):=
 (if(decide (i1<((List.length a0_:Nat):Int)))then((idx a0_ i1).bind λa2=>
 ((ZaI (λx:Int=>Zfb N a1_ a2 x) N 0).bind λa1=>match a1 with
 |(.inl a3)=>(some (.inl (w64 (i1+1))))
 |(.inr a0)=>(some (.inr (.inr a0)))))else(some (.inr (.inl ()))))
def ZhP (N:Nat)(a0_:(List Int))(a1_:(List Int)):Option (Bool):=
 ((ZaI (λx:Int=>Zfc N a0_ a1_ x) N 0).bind λa1=>match a1 with
 |(.inl a2)=>(some false)
 |(.inr a0)=>(some a0))
def ZdP (N:Nat)(a0_:Zan)(a1_:Int)(i3:Int)(l4:(List Int)):Option ((Int×(List Int))⊕(((List Int)))):=
 (if(decide (i3<(w64 (2*((List.length a0_.Links:Nat):Int)))))then((((Zc9 N a0_ i3).bind λa0=>
 (if(a0==a1_)then((appI 8 l4 [i3]).bind λa1=>
 (some a1))else(some l4)))).bind λ(a2:(List Int))=>
 (some (.inl ((w64 (i3+1)),a2))))else(some (.inr l4)))
def Zhh (N:Nat)(a0_:Zan)(a1_:Int):Option ((List Int)):=
 ((ZaI (λx:Int×(List Int)=>ZdP N a0_ a1_ x.1 x.2) N (0,[])).bind λa0=>
 (some a0))
def Zi4 (N:Nat)(a0_:Int)(a1_:Int):Option (Int):=
 ((remI a0_ a1_).bind λm1=>
 ((remI (w64 (m1+a1_)) a1_).bind λm2=>
 (some m2)))
def ZfO (N:Nat)(i1:Int)(i2:Int):Option ((Int×Int)⊕((Int))):=
 (if(i2 !=0)then((remI i1 i2).bind λa0=>
 (some (.inl (i2,a0))))else(some (.inr i1)))
def Zha (N:Nat)(a0_:Int)(a1_:Int):Option (Int):=
 ((ZaI (λx:Int×Int=>ZfO N x.1 x.2) N (a0_,a1_)).bind λa0=>
 (some a0))
def Zc7 (N:Nat)(a0_:Zbf)(a1_:(List Int)):Option ((List Int)×Zbf):=
 (some (a1_,a0_))
def Za3 {σ:Type}(N:Nat)(y_:σ->Int->ZbM->Option (σ×Bool))(c0_:(List Int))(c1_:Zbf)(i4:Int)(g5:σ):Option ((Int×σ)⊕((σ))):=
 (if(decide (i4<((List.length c0_:Nat):Int)))then((idx c0_ i4).bind λa1=>
 (((if(decide (a1<0))then(some true)else(some (decide (a1≥(w64 (2*((List.length c1_.Topo.Links:Nat):Int)))))))).bind λ(a4:Bool)=>
 (if a4 then(some (.inr g5))else((idx c1_.Topo.Links (w64 (Int.tdiv a1 2))).bind λa2=>
 (((if((Int.tmod a1 2)==1)then(some (a2.B,a2.A))else(some (a2.A,a2.B)))).bind λ(a3:Int×Int)=>
 ((y_ g5 i4 (ZbM.mk a1 a3.1 a3.2)).bind λa0=>
 (if(!a0.2)then(some (.inr a0.1))else(some (.inl ((w64 (i4+1)),a0.1))))))))))else(some (.inr g5)))
def Zc6 {σ:Type}(N:Nat)(y_:σ->Int->ZbM->Option (σ×Bool))(c0_:(List Int))(c1_:Zbf)(s_:σ):Option (σ):=
 ((ZaI (λx:Int×σ=>Za3 N y_ c0_ c1_ x.1 x.2) N (0,s_)).bind λa0=>
 (some a0))
def Zcp (N:Nat)(a0_:(List Int))(a1_:Int)(i1:Int):Option ((Int)⊕((Unit)⊕(Int))):=
 (if(decide (i1<((List.length a0_:Nat):Int)))then((idx a0_ i1).bind λa0=>
 (if(a1_==a0)then(some (.inr (.inr i1)))else(some (.inl (w64 (i1+1))))))else(some (.inr (.inl ()))))
def Zd0 (N:Nat)(a0_:(List Int))(a1_:Int):Option (Int):=
 ((ZaI (λx:Int=>Zcp N a0_ a1_ x) N 0).bind λa1=>match a1 with
 |(.inl a2)=>(some (-1))
 |(.inr a0)=>(some a0))
def Zk1 (N:Nat)(a0_:Zas)(a1_:Int):Option (Int×Int):=
 ((Zht N a0_ 0 a1_ 0).bind λr1=>
 (if(r1 !=0)then(some (0,r1))else((Zg0 N a0_ a1_).bind λr3=>
 ((idx a0_.Entries r3.1).bind λe4=>
 (some (e4.Mask,0))))))
def Zgn (N:Nat)(a0_:Zap)(a1_:(List Int))(i2:Int):Option ((Int)⊕((Unit)⊕(Bool))):=
 (if(decide (i2<((List.length a1_:Nat):Int)))then((idx a1_ i2).bind λa1=>
 ((ZhU N a0_ i2 a1).bind λa0=>
 (if(!a0)then(some (.inr (.inr false)))else(some (.inl (w64 (i2+1)))))))else(some (.inr (.inl ()))))
def ZgK (N:Nat)(a0_:Zap)(a1_:(List Int)):Option (Bool):=
 (if(((List.length a1_:Nat):Int)!=((List.length a0_.Periods:Nat):Int))then(some false)else((ZaI (λx:Int=>Zgn N a0_ a1_ x) N 0).bind λa1=>match a1 with
 |(.inl a2)=>(some true)
 |(.inr a0)=>(some a0)))
def Zjh (N:Nat)(a0_:Zar):Option (Bool):=
 ((((Zc0 N a0_.Grid 1 10000).bind λr1=>(if r1 then((Zc0 N a0_.Slack 0 1000).bind λr3=>(if r3 then((Zc0 N a0_.Proc 0 10000).bind λr5=>(if r5 then((Zc0 N a0_.Cap 1542 65536).bind λr7=>(some r7))else(some false)))else(some false)))else(some false)))).bind λ(a0:Bool)=>
 (some a0))
def Zkl (N:Nat)(a1_:Zar)(a1:ZaQ)(a2:Int)(a0:Int):Option ((Int)⊕((Int))):=
 (if(decide (a0<(w64 ((w64 ((w64 ((w64 (a1.Open+a1.Long))+a2))+a1_.Proc))+(w64 (2*a1_.Slack))))))then(some (.inl (w64 (a0+a1_.Grid))))else(some (.inr a0)))
def Ze1 (N:Nat)(a0_:Zan)(a1_:Zar)(a2_:Zal)(a3_:(List Int))(i8:Int)(l9:(List ZaQ)):Option ((Int×(List ZaQ))⊕(((List ZaQ)))):=
 (if(decide (i8<((List.length a3_:Nat):Int)))then((idx l9 (w64 (i8-1))).bind λa0=>
 ((Zhj N a0_ a0.Port).bind λa1=>
 ((idx a3_ i8).bind λa6=>
 ((idx a3_ i8).bind λa5=>
 ((Zkn N a0_ a5).bind λa4=>
 ((ZaI (λx:Int=>Zkl N a1_ a0 a1 x) N 0).bind λa2=>
 ((appI 40 l9 [(ZaQ.mk a6 (w64 ((w64 ((w64 ((w64 (a0.Open+a0.Long))+a1))+a1_.Proc))-(w64 (2*a1_.Slack)))) (w64 ((w64 ((w64 ((w64 (a0.Open+a0.Long))+a1))+a1_.Proc))+(w64 (2*a1_.Slack)))) a2 (w64 (a2_.Size*a4)))]).bind λa3=>
 (some (.inl ((w64 (i8+1)),a3))))))))))else(some (.inr l9)))
def ZiB (N:Nat)(a0_:Zan)(a1_:Zar)(a2_:Zal)(a3_:(List Int)):Option ((List ZaQ)):=
 ((idx a3_ 0).bind λe1=>
 ((idx a3_ 0).bind λe2=>
 ((Zkn N a0_ e2).bind λr3=>
 ((ZaI (λx:Int×(List ZaQ)=>Ze1 N a0_ a1_ a2_ a3_ x.1 x.2) N (1,[(ZaQ.mk e1 0 0 0 (w64 (a2_.Size*r3)))])).bind λa0=>
 (some a0)))))
def Zmt (N:Nat)(a0_:Zan)(a1_:Zar)(a2_:Zal)(a3_:(List Int)):Option (Int):=
 ((ZiB N a0_ a1_ a2_ a3_).bind λr1=>
 ((idx r1 (w64 (((List.length r1:Nat):Int)-1))).bind λe2=>
 ((Zhj N a0_ e2.Port).bind λr3=>
 (some (w64 ((w64 ((w64 (e2.Open+e2.Long))+r3))+a1_.Proc))))))
def ZdB (N:Nat)(a1_:Zar)(a2_:(List Zal))(a3_:(List Int))(i3:Int)(i4:Int)(a1:(List ZaQ))(a0:Int)(a2:(List ZaN)):Option ((Int×(List ZaN))⊕(((List ZaN)))):=
 (if(decide (a0<((List.length a1:Nat):Int)))then((idx a1 a0).bind λab=>
 ((quoI .i64 (w64 ((w64 (ab.Long+a1_.Grid))-1)) a1_.Grid).bind λa3=>
 ((idx a2_ i4).bind λaa=>
 ((idx a1 a0).bind λa9=>
 ((idx a1 a0).bind λa8=>
 ((idx a3_ i3).bind λa7=>
 ((idx a2_ i4).bind λa6=>
 ((idx a1 a0).bind λa5=>
 ((appI 48 a2 [(ZaN.mk aa.Id a9.Port (w64 (a8.Open+(w64 (a7*a1_.Grid)))) (w64 (a6.Period*a1_.Grid)) (w64 (a3*a1_.Grid)) a5.Long)]).bind λa4=>
 (some (.inl ((w64 (a0+1)),a4))))))))))))else(some (.inr a2)))
def ZdC (N:Nat)(a0_:Zan)(a1_:Zar)(a2_:(List Zal))(a3_:(List Int))(i3:Int)(i4:Int)(a0:Int)(a1:(List ZaN)):Option ((Int×(List ZaN))⊕(((List ZaN)))):=
 ((idx a2_ i4).bind λa7=>
 (if(decide (a0<((List.length a7.Routes:Nat):Int)))then((idx a2_ i4).bind λa6=>
 ((idx a2_ i4).bind λa5=>
 ((idx a5.Routes a0).bind λa4=>
 ((ZiB N a0_ a1_ a6 a4).bind λa2=>
 ((ZaI (λx:Int×(List ZaN)=>ZdB N a1_ a2_ a3_ i3 i4 a2 x.1 x.2) N (0,a1)).bind λa3=>
 (some (.inl ((w64 (a0+1)),a3))))))))else(some (.inr a1))))
def Zgm (N:Nat)(a0_:Zan)(a1_:Zar)(a2_:(List Zal))(a3_:(List Int))(i3:Int)(i4:Int)(l5:(List ZaN)):Option ((Int×Int×(List ZaN))⊕(((List ZaN)))):=
 (if(decide (i4<((List.length a2_:Nat):Int)))then((((idx a2_ i4).bind λa2=>
 (if(a2.Class !=7)then(some (i3,l5))else((ZaI (λx:Int×(List ZaN)=>ZdC N a0_ a1_ a2_ a3_ i3 i4 x.1 x.2) N (0,l5)).bind λa1=>
 (some ((w64 (i3+1)),a1)))))).bind λ(a0:Int×(List ZaN))=>
 (some (.inl (a0.1,(w64 (i4+1)),a0.2))))else(some (.inr l5)))
def Zff (N:Nat)(a0_:Zan)(a1_:Zar)(a2_:(List Zal))(a3_:(List Int)):Option ((List ZaN)):=
 ((ZaI (λx:Int×Int×(List ZaN)=>Zgm N a0_ a1_ a2_ a3_ x.1 x.2.1 x.2.2) N (0,0,[])).bind λa0=>
 (some a0))
def ZgI (N:Nat)(a0_:(List ZaN))(a1_:Int)(a2_:Int)(a3_:Int)(i3:Int)(l4:(List Zaw)):Option ((Int×(List Zaw))⊕(((List Zaw)))):=
 (if(decide (i3<a2_))then((((((Zml N a0_ a1_ (w64 (i3*a3_))).bind λa1=>
 (if a1 then(some 128)else(some 127)))).bind λ(a0:Int)=>
 (((if(decide (((List.length l4:Nat):Int)>0))then((idx l4 (w64 (((List.length l4:Nat):Int)-1))).bind λa7=>(some (a7.Mask==a0)))else(some false))).bind λ(a3:Bool)=>
 (if a3 then((idx l4 (w64 (((List.length l4:Nat):Int)-1))).bind λa6=>
 ((idx l4 (w64 (((List.length l4:Nat):Int)-1))).bind λa5=>
 (some (List.set l4 (Int.toNat (w64 (((List.length l4:Nat):Int)-1))) (Zaw.mk a5.Mask (w64 (a6.Long+a3_)))))))else((appI 16 l4 [(Zaw.mk a0 a3_)]).bind λa2=>
 (some a2)))))).bind λ(a4:(List Zaw))=>
 (some (.inl ((w64 (i3+1)),a4))))else(some (.inr l4)))
def ZkP (N:Nat)(a0_:(List ZaN))(a1_:Int)(a2_:Int)(a3_:Int):Option (Zas):=
 ((ZaI (λx:Int×(List Zaw)=>ZgI N a0_ a1_ a2_ a3_ x.1 x.2) N (0,[])).bind λa0=>
 (some (Zas.mk a0 (w64 (a2_*a3_)))))
def Zfe (N:Nat)(a0_:Zas)(a1_:ZaN)(i2:Int)(a1:Int):Option ((Int)⊕((Unit)⊕(Bool))):=
 (if(decide (a1<(w64 (i2+a1_.Frame))))then((Zoy N a0_ a1).bind λa0=>
 ((idx a0_.Entries a0.1).bind λa3=>
 (if(a3.Mask !=128)then(some (.inr (.inr false)))else((idx a0_.Entries a0.1).bind λa2=>
 (some (.inl (w64 ((w64 (a1-a0.2))+a2.Long))))))))else(some (.inr (.inl ()))))
def Zhb (N:Nat)(a0_:Zas)(a1_:ZaN)(i2:Int):Option ((Int)⊕((Unit)⊕(Bool))):=
 (if(decide (i2<a0_.Cycle))then((ZaI (λx:Int=>Zfe N a0_ a1_ i2 x) N i2).bind λa1=>match a1 with
 |(.inl a2)=>(some (.inl (w64 (i2+a1_.Period))))
 |(.inr a0)=>(some (.inr (.inr a0))))else(some (.inr (.inl ()))))
def ZhS (N:Nat)(a0_:Zas)(a1_:ZaN):Option (Bool):=
 ((ZeG N a1_.Begin a1_.Period).bind λr1=>
 ((ZaI (λx:Int=>Zhb N a0_ a1_ x) N r1).bind λa1=>match a1 with
 |(.inl a2)=>(some true)
 |(.inr a0)=>(some a0)))
def Zc4 (N:Nat)(a0_:Zar):Option (Int):=
 ((((Zbx N a0_.Grid 1 10000).bind λr1=>(if(!r1)then(some true)else((Zbx N a0_.Slack 0 1000).bind λr4=>(some (!r4)))))).bind λ(j5:Bool)=>
 (if j5 then(some 320)else((((Zbx N a0_.Proc 0 10000).bind λr7=>(if(!r7)then(some true)else((Zbx N a0_.Cap 1542 65536).bind λa0=>(some (!a0)))))).bind λ(a1:Bool)=>
 (if a1 then(some 320)else(some 0)))))
def ZiD (N:Nat)(a0_:Zan)(a1_:ZaK):Option (Bool):=
 ((((ZiC N a0_ a1_.A).bind λr1=>(if(!r1)then(some true)else((ZiC N a0_ a1_.B).bind λr4=>(if(!r4)then(some true)else(if(a1_.A==a1_.B)then(some true)else((idx a0_.Station a1_.A).bind λe9=>(if e9 then((idx a0_.Station a1_.B).bind λa1=>(some a1))else(some false))))))))).bind λ(a0:Bool)=>
 (if a0 then(some false)else(some ((decide (a1_.Per≥1))&&((decide (a1_.Per<=1000))&&((decide (a1_.Delay≥0))&&(decide (a1_.Delay<=10000))))))))
def ZcY (N:Nat)(a0_:Zan)(a2_:(List Int))(a2:Int)(a1:(List Bool)):Option ((Int×(List Bool))⊕(((List Bool)))):=
 (if(decide (a2<((List.length a0_.Links:Nat):Int)))then((((idx a0_.Links a2).bind λa0=>
 ((((Zjn N a2_ a2).bind λa3=>(if(!a3)then((idx a1 a0.A).bind λa7=>(if a7 then(some true)else((idx a1 a0.B).bind λa6=>(some a6))))else(some false)))).bind λ(a4:Bool)=>
 (if a4 then((idx a1 a0.A).bind λa9=>
 ((idx (List.set a1 (Int.toNat a0.A) true) a0.B).bind λa8=>
 (some (List.set (List.set a1 (Int.toNat a0.A) true) (Int.toNat a0.B) true))))else(some a1))))).bind λ(a5:(List Bool))=>
 (some (.inl ((w64 (a2+1)),a5))))else(some (.inr a1)))
def ZdO (N:Nat)(a0_:Zan)(a2_:(List Int))(i10:Int)(a1:(List Bool)):Option ((Int×(List Bool))⊕(((List Bool)))):=
 (if(decide (i10<a0_.Nodes))then((ZaI (λx:Int×(List Bool)=>ZcY N a0_ a2_ x.1 x.2) N (0,a1)).bind λa0=>
 (some (.inl ((w64 (i10+1)),a0))))else(some (.inr a1)))
def Zjj (N:Nat)(a0_:Zan)(a1_:Int)(a2_:(List Int)):Option ((List Bool)):=
 ((Zjy 1 a0_.Nodes a0_.Nodes false).bind λl3=>
 ((idx l3 a1_).bind λe4=>
 ((ZaI (λx:Int×(List Bool)=>ZdO N a0_ a2_ x.1 x.2) N (0,(List.set l3 (Int.toNat a1_) true))).bind λa0=>
 (some a0))))
def Zhd (N:Nat)(a0_:Int)(a1_:Int):Option (Int):=
 ((ZeG N a0_ a1_).bind λr1=>
 ((quoI .i64 (w64 (a0_-r1)) a1_).bind λq2=>
 (some q2)))
def Zk0 (N:Nat)(a0_:Zas)(a1_:Int):Option (Int×Int):=
 ((Zht N a0_ 0 a1_ 0).bind λr1=>
 (if(r1 !=0)then(some (0,r1))else((Zg0 N a0_ a1_).bind λr3=>
 ((idx a0_.Entries r3.1).bind λe4=>
 ((Zeo N a0_ a1_ (λx0=>Zh1 N x0 e4.Mask)).bind λr8=>
 (if(r8==a0_.Cycle)then(some (0,4))else(some ((w64 (a1_+r8)),0))))))))
def ZfS (N:Nat)(a1_:(List Int))(a2_:(List Int))(i1:Int)(a0:Int):Option ((Int)⊕((Unit)⊕(Bool))):=
 (if(decide (a0<((List.length a2_:Nat):Int)))then((idx a1_ i1).bind λa2=>
 ((idx a2_ a0).bind λa1=>
 (if((w64 (Int.tdiv a2 2))==(w64 (Int.tdiv a1 2)))then(some (.inr (.inr false)))else(some (.inl (w64 (a0+1)))))))else(some (.inr (.inl ()))))
def ZfT (N:Nat)(a1_:(List Int))(a2_:(List Int))(i1:Int):Option ((Int)⊕((Unit)⊕(Bool))):=
 (if(decide (i1<((List.length a1_:Nat):Int)))then((ZaI (λx:Int=>ZfS N a1_ a2_ i1 x) N 0).bind λa1=>match a1 with
 |(.inl a2)=>(some (.inl (w64 (i1+1))))
 |(.inr a0)=>(some (.inr (.inr a0))))else(some (.inr (.inl ()))))
def Zd4 (N:Nat)(a0_:Zan)(a1_:(List Int))(a2_:(List Int)):Option (Bool):=
 ((ZaI (λx:Int=>ZfT N a1_ a2_ x) N 0).bind λa7=>match a7 with
 |(.inl a9)=>((((Zd3 N a0_ a1_).bind λa5=>((Zd3 N a0_ a2_).bind λa4=>((Zfg N a5 a4).bind λa3=>(if(!a3)then((Zd3 N a0_ a2_).bind λa2=>((Zd3 N a0_ a1_).bind λa1=>((Zfg N a2 a1).bind λa0=>(some (!a0)))))else(some false)))))).bind λ(a8:Bool)=>
 (some a8))
 |(.inr a6)=>(some a6))
def ZcE (N:Nat)(a0_:ZaJ)(a1_:ZaJ)(r1:Int)(i2:Int):Option ((Int)⊕((Unit)⊕(Bool))):=
 (if(decide (i2<a0_.Long))then((ZeG N (w64 ((w64 (a1_.From-a0_.From))-i2)) r1).bind λa0=>
 (if(a0==0)then(some (.inr (.inr false)))else(some (.inl (w64 (i2+1))))))else(some (.inr (.inl ()))))
def ZeF (N:Nat)(a0_:ZaJ)(a1_:ZaJ):Option (Bool):=
 ((Zmp N a0_.Period a1_.Period).bind λr1=>
 ((ZaI (λx:Int=>ZcE N a0_ a1_ r1 x) N (w64 (1-a1_.Long))).bind λa1=>match a1 with
 |(.inl a2)=>(some true)
 |(.inr a0)=>(some a0)))
def ZfR (N:Nat)(a0_:Zan)(a1_:(List Int))(i4:Int):Option ((Int)⊕((Unit)⊕(Bool))):=
 (if(decide (i4<((List.length a1_:Nat):Int)))then((idx a1_ i4).bind λa1=>
 ((ZkS N a0_ a1).bind λa0=>
 (if(!a0)then(some (.inr (.inr false)))else(some (.inl (w64 (i4+1)))))))else(some (.inr (.inl ()))))
def ZfQ (N:Nat)(a0_:Zan)(a1_:(List Int))(a1:(List Int))(a0:Int):Option ((Int)⊕((Unit)⊕(Bool))):=
 (if(decide (a0<((List.length a1:Nat):Int)))then((subI a1 0 a0).bind λa4=>
 ((idx a1 a0).bind λaa=>
 ((Zjn N a4 aa).bind λa3=>
 (if a3 then(some (.inr (.inr false)))else(((if(decide (a0>0))then(if(decide (a0<((List.length a1_:Nat):Int)))then((idx a1 a0).bind λa9=>((idx a0_.Station a9).bind λa8=>(if a8 then(some true)else((idx a1_ a0).bind λa7=>((Zc9 N a0_ a7).bind λa2=>((idx a1 a0).bind λa6=>(some (a2 !=a6))))))))else(some false))else(some false))).bind λ(a5:Bool)=>
 (if a5 then(some (.inr (.inr false)))else(some (.inl (w64 (a0+1))))))))))else(some (.inr (.inl ()))))
def Zdt (N:Nat)(a0_:Zan)(a1_:(List Int)):Option (Bool):=
 (if((decide (((List.length a1_:Nat):Int)<1))||(decide (((List.length a1_:Nat):Int)>8)))then(some false)else((ZaI (λx:Int=>ZfR N a0_ a1_ x) N 0).bind λa4=>match a4 with
 |(.inl a6)=>((Zd3 N a0_ a1_).bind λa3=>
 ((ZaI (λx:Int=>ZfQ N a0_ a1_ a3 x) N 0).bind λa2=>match a2 with
 |(.inl a5)=>(some true)
 |(.inr a1)=>(some a1)))
 |(.inr a0)=>(some a0)))
def Zb9 (N:Nat)(a0_:(List Bool))(a1_:Bool):Option (Bool):=
 ((Zdo N a0_ a1_).bind λr1=>
 (some (decide (r1≥0))))
def ZfJ (N:Nat)(c0_:Zan)(c1_:Zal):Option (Bool):=
 ((((ZeC N c0_ c1_.Talker).bind λr3=>(if r3 then((ZeC N c0_ c1_.Listener).bind λr7=>(if r7 then(some (c1_.Talker !=c1_.Listener))else(some false)))else(some false)))).bind λ(a0:Bool)=>
 (some a0))
def ZkG (N:Nat)(a0_:ZfA):Option (Int):=
 ((((Zer N a0_.Burst 1 1048576).bind λr1=>(if(!r1)then(some true)else((Zer N a0_.Rate 1 2097152).bind λr4=>(some (!r4)))))).bind λ(j5:Bool)=>
 (if j5 then(some 130)else(some 0)))
def Zb0 (N:Nat)(a0_:Zan)(l8:(List Int))(a1:(List Int))(a0:Int)(a2:(List Int)):Option ((Int×(List Int))⊕(((List Int)))):=
 (if(decide (a0<((List.length a1:Nat):Int)))then((((idx a1 a0).bind λa8=>
 ((Zek N a0_ a8).bind λa4=>
 ((Zjn N l8 a4).bind λa3=>
 (if(!a3)then((idx a1 a0).bind λa7=>
 ((appI 8 a2 [a7]).bind λa5=>
 (some a5)))else(some a2)))))).bind λ(a6:(List Int))=>
 (some (.inl ((w64 (a0+1)),a6))))else(some (.inr a2)))
def Zfh (N:Nat)(a0_:Zan)(a2_:Int)(i7:Int)(l8:(List Int))(l9:(List Int)):Option ((Int×(List Int)×(List Int))⊕(((List Int))⊕((List Int)))):=
 (((if(decide (((List.length l9:Nat):Int)<8))then(if(((List.length l9:Nat):Int)==0)then(some true)else((idx a0_.Station i7).bind λa8=>(some (!a8))))else(some false))).bind λ(a7:Bool)=>
 (if a7 then((Zhh N a0_ i7).bind λa6=>
 ((ZaI (λx:Int×(List Int)=>Zb0 N a0_ l8 a6 x.1 x.2) N (0,[])).bind λa0=>
 (if(((List.length a0:Nat):Int)==0)then(some (.inr (.inr l9)))else((remI (w64 ((w64 (a2_))+(w64 (3*((List.length l9:Nat):Int))))) ((List.length a0:Nat):Int)).bind λa3=>
 ((idx a0 a3).bind λa2=>
 ((appI 8 l9 [a2]).bind λa5=>
 ((Zek N a0_ a2).bind λa1=>
 ((appI 8 l8 [a1]).bind λa4=>
 (some (.inl (a1,a4,a5)))))))))))else(some (.inr (.inl l9)))))
def ZkR (N:Nat)(a0_:Zan)(a1_:Int)(a2_:Int):Option ((List Int)):=
 ((remI (w64 (a1_)) a0_.Nodes).bind λm1=>
 ((ZaI (λx:Int×(List Int)×(List Int)=>Zfh N a0_ a2_ x.1 x.2.1 x.2.2) N (m1,[m1],[])).bind λa2=>match a2 with
 |(.inl a1)=>(some a1)
 |(.inr a0)=>(some a0)))
def Zc8 (N:Nat)(a0_:Int)(a1_:(List Int))(i1:Int)(i2:Int):Option ((Int×Int)⊕((Int))):=
 (if(decide (i2<((List.length a1_:Nat):Int)))then((idx a1_ i2).bind λa0=>
 ((Zha N i1 a0).bind λa2=>
 ((quoI .i64 i1 a2).bind λa1=>
 (if(decide ((w64 (a1*a0))>a0_))then(some (.inr (w64 (a1*a0))))else(some (.inl ((w64 (a1*a0)),(w64 (i2+1)))))))))else(some (.inr i1)))
def ZhR (N:Nat)(a0_:Int)(a1_:(List Int)):Option (Int):=
 ((ZaI (λx:Int×Int=>Zc8 N a0_ a1_ x.1 x.2) N (1,0)).bind λa0=>
 (some a0))
def ZhI (N:Nat)(a0_:Int)(c0_:Zan):Option (Bool):=
 ((idx c0_.Links a0_).bind λe2=>
 ((((Zj3 N c0_ e2.A).bind λr4=>(if r4 then((Zj3 N c0_ e2.B).bind λr7=>(if r7 then(some (e2.A !=e2.B))else(some false)))else(some false)))).bind λ(a0:Bool)=>
 (some a0)))
def Zbt (N:Nat)(a0_:Zbf)(a3:Int)(a2:Int)(a1:Zax)(a8:Int)(a0:ZbM):Option ((Int×Int×Zax)×Nat):=
 (if(a8==0)then((a1.get a0.from_).bind λab=>
 (((Zax.set a1 a0.from_ true).get a0.to_).bind λa7=>
 (if a7 then(some ((a3,a2,(Zax.set a1 a0.from_ true)),1))else(((Zax.set a1 a0.from_ true).get a0.to_).bind λaa=>
 (some (((w64 (a3+1)),a0.to_,(Zax.set (Zax.set a1 a0.from_ true) a0.to_ true)),0))))))else(((if(a0.from_ !=a2)then(some true)else((idx a0_.Topo.Station a2).bind λa6=>(some a6)))).bind λ(a4:Bool)=>
 (if a4 then(some ((a3,a2,a1),1))else((a1.get a0.to_).bind λa5=>
 (if a5 then(some ((a3,a2,a1),1))else((a1.get a0.to_).bind λa9=>
 (some (((w64 (a3+1)),a0.to_,(Zax.set a1 a0.to_ true)),0))))))))
def Zcv (N:Nat)(a0_:Zbf)(a1_:(List Int)):Option (Bool):=
 (if((decide (((List.length a1_:Nat):Int)<1))||(decide (((List.length a1_:Nat):Int)>8)))then(some false)else((((Zc7 N a0_ a1_).bind λa1=>
 ((Zc6 N (λ(s:(Int×Int×Zax)×Nat) (a3:Int) (a2:ZbM)=>Zft (λv:Int×Int×Zax=>Zbt N a0_ v.1 v.2.1 v.2.2 a3 a2) s) a1.1 a1.2 ((0,0,(Zax.mk false false false false false false false false false false false false)),0)).bind λa0=>
 (if(a0.2==0)then(some a0.1.1)else(if(a0.2==1)then(some a0.1.1)else none))))).bind λ(a4:Int)=>
 (some (a4==((List.length a1_:Nat):Int)))))
def ZhQ (N:Nat)(a0_:ZaJ)(a1_:ZaJ):Option (Int×Int×Int):=
 ((Zha N a0_.Period a1_.Period).bind λr1=>
 (some (a0_.Long,(w64 (r1-a1_.Long)),r1)))
def ZbI (N:Nat)(a3:(List Int))(x13:Int)(x14:ZbM):Option ((List Int)):=
 (((if(x13==0)then((appI 8 a3 [x14.from_]).bind λa1=>
 (some a1))else(some a3))).bind λ(a2:(List Int))=>
 ((appI 8 a2 [x14.to_]).bind λa0=>
 (some a0)))
def ZcO (N:Nat)(a0_:Zbf)(a1_:(List Int)):Option ((List Int)):=
 ((Zjy 8 0 (w64 (((List.length a1_:Nat):Int)+1)) 0).bind λl3=>
 ((Zc7 N a0_ a1_).bind λr7=>
 ((Zc6 N (λ(s:(List Int)) (x13:Int) (x14:ZbM)=>Zet (λv:(List Int)=>ZbI N v x13 x14) s) r7.1 r7.2 l3).bind λa0=>
 (some a0))))
def Zcq (N:Nat)(a0_:(List Int))(a1_:Int):Option (Bool):=
 ((Zd0 N a0_ a1_).bind λr1=>
 (some (decide (r1≥0))))
def Zfd (N:Nat)(a0_:Zbf)(c0_:(List Int)):Option ((List Int)×Int):=
 ((ZcO N a0_ c0_).bind λr2=>
 (some (r2,0)))
def ZhT (N:Nat)(a0_:Zan)(a1_:Zar)(a4_:Int)(r1:(List ZaN))(i4:Int)(l5:(List Zas)):Option ((Int×(List Zas))⊕(((List Zas)))):=
 (if(decide (i4<(w64 (2*((List.length a0_.Links:Nat):Int)))))then((ZkP N r1 i4 a4_ a1_.Grid).bind λa0=>
 ((appI 32 l5 [a0]).bind λa1=>
 (some (.inl ((w64 (i4+1)),a1)))))else(some (.inr l5)))
def Zkf (N:Nat)(a0_:Zan)(a1_:Zar)(a2_:(List Zal))(a3_:(List Int))(a4_:Int):Option ((List Zas)):=
 ((Zff N a0_ a1_ a2_ a3_).bind λr1=>
 ((ZaI (λx:Int×(List Zas)=>ZhT N a0_ a1_ a4_ r1 x.1 x.2) N (0,[])).bind λa0=>
 (some a0)))
def ZfV (N:Nat)(a0_:Zan)(i13:Int)(a2:ZaK)(a0:Int):Option ((Int)⊕((Unit)⊕(Bool))):=
 (if(decide (a0<i13))then((idx a0_.Links a0).bind λa3=>
 ((Zhi N a3 a2.A a2.B).bind λa1=>
 (if a1 then(some (.inr (.inr false)))else(some (.inl (w64 (a0+1)))))))else(some (.inr (.inl ()))))
def ZcX (N:Nat)(a0_:Zan)(i13:Int)(a2:(List Int)):Option ((Int×(List Int))⊕(((List Int))⊕(Bool))):=
 (if(decide (i13<((List.length a0_.Links:Nat):Int)))then((idx a0_.Links i13).bind λa0=>
 ((ZiD N a0_ a0).bind λa6=>
 (if(!a6)then(some (.inr (.inr false)))else((ZaI (λx:Int=>ZfV N a0_ i13 a0 x) N 0).bind λa4=>match a4 with
 |(.inl a7)=>((idx a2 a0.A).bind λa1=>
 ((idx a2 a0.A).bind λa9=>
 ((idx (List.set a2 (Int.toNat a0.A) (w64 (a1+1))) a0.B).bind λa5=>
 ((idx (List.set a2 (Int.toNat a0.A) (w64 (a1+1))) a0.B).bind λa8=>
 (some (.inl ((w64 (i13+1)),(List.set (List.set a2 (Int.toNat a0.A) (w64 (a1+1))) (Int.toNat a0.B) (w64 (a5+1))))))))))
 |(.inr a3)=>(some (.inr (.inr a3)))))))else(some (.inr (.inl a2))))
def ZfU (N:Nat)(a0_:Zan)(a1:(List Int))(a2:(List Bool))(a0:Int):Option ((Int)⊕((Unit)⊕(Bool))):=
 (if(decide (a0<a0_.Nodes))then((((idx a2 a0).bind λa7=>(if(!a7)then(some true)else((idx a0_.Station a0).bind λa6=>(if a6 then((idx a1 a0).bind λa5=>(if(decide (a5<1))then(some true)else((idx a1 a0).bind λa4=>(some (decide (a4>2))))))else(some false)))))).bind λ(a3:Bool)=>
 (if a3 then(some (.inr (.inr false)))else(some (.inl (w64 (a0+1))))))else(some (.inr (.inl ()))))
def Zhg (N:Nat)(a0_:Zan):Option (Bool):=
 (if((decide (a0_.Nodes<2))||((decide (a0_.Nodes>12))||((((List.length a0_.Station:Nat):Int)!=a0_.Nodes)||(decide (((List.length a0_.Links:Nat):Int)>24)))))then(some false)else((Zjy 8 a0_.Nodes a0_.Nodes 0).bind λa7=>
 ((ZaI (λx:Int×(List Int)=>ZcX N a0_ x.1 x.2) N (0,a7)).bind λa5=>match a5 with
 |(.inl a3)=>((Zjj N a0_ 0 ([])).bind λa0=>
 ((ZaI (λx:Int=>ZfU N a0_ a3 a0 x) N 0).bind λa4=>match a4 with
 |(.inl a6)=>(some true)
 |(.inr a2)=>(some a2)))
 |(.inr a1)=>(some a1))))
def Zmm (N:Nat)(a0_:Zar)(a1_:Int)(a2_:Int)(a3_:ZaQ):Option (ZaD):=
 ((Zhd N a3_.Early a0_.Grid).bind λr1=>
 ((Zhd N (w64 (0-(w64 (a3_.Open+a3_.Long)))) a0_.Grid).bind λr2=>
 ((ZeG N r1 a2_).bind λr3=>
 (some (ZaD.mk a1_ a3_.Port r3 (w64 ((w64 (0-r2))-r1)))))))
def ZhK (N:Nat)(a0_:Zas)(a1_:Int)(a2_:Int):Option (Bool):=
 ((Zk1 N a0_ a1_).bind λr1=>
 (if(r1.1 !=128)then(some false)else((Zk0 N a0_ a1_).bind λr3=>
 (some ((r3.2 !=0)||(decide (r3.1≥(w64 (a1_+a2_)))))))))
def Zdv (N:Nat)(a1_:Zan)(a2_:Int)(a3_:Int)(i14:Int):Option ((Int)⊕((Unit)⊕(Zan))):=
 (if(decide (i14<((List.length a1_.Links:Nat):Int)))then((idx a1_.Links i14).bind λa1=>
 ((Zhi N a1 a2_ a3_).bind λa0=>
 (if a0 then(some (.inr (.inr a1_)))else(some (.inl (w64 (i14+1)))))))else(some (.inr (.inl ()))))
def Zbm (N:Nat)(a0_:ZbA)(a1_:Zan)(a2_:Int)(a3_:Int):Option (Zan):=
 ((Ze2 N a0_.Pers ((List.length a1_.Links:Nat):Int)).bind λr2=>
 ((Ze2 N a0_.Delays ((List.length a1_.Links:Nat):Int)).bind λr3=>
 (((if(((List.length a1_.Links:Nat):Int)==24)then(some true)else((ZiD N a1_ (ZaK.mk a2_ a3_ (w64 (1+(Int.tmod r2 20))) (Int.tmod r3 50))).bind λr6=>(some (!r6))))).bind λ(a4:Bool)=>
 (if a4 then(some a1_)else((ZaI (λx:Int=>Zdv N a1_ a2_ a3_ x) N 0).bind λa1=>match a1 with
 |(.inl a3)=>((appI 32 a1_.Links [(ZaK.mk a2_ a3_ (w64 (1+(Int.tmod r2 20))) (Int.tmod r3 50))]).bind λa2=>
 (some (Zan.mk a1_.Nodes a1_.Station a2)))
 |(.inr a0)=>(some a0))))))
def Zii (N:Nat)(a0_:Zap)(a1_:Int)(a2_:Int)(a3_:Int)(a4_:Int)(i1:Int)(a0:Int):Option ((Int)⊕((Unit)⊕(Bool))):=
 (if(decide (a0<((List.length a0_.Uses:Nat):Int)))then(((if(i1 !=a0)then((idx a0_.Uses i1).bind λa8=>(if(a8.Stream==a1_)then((idx a0_.Uses a0).bind λa7=>(if(a7.Stream==a3_)then((idx a0_.Uses i1).bind λa6=>((idx a0_.Uses a0).bind λa5=>(if(a6.Port==a5.Port)then((Zmo N a0_ i1 a2_).bind λa3=>((Zmo N a0_ a0 a4_).bind λa2=>((ZeF N a3 a2).bind λa1=>(some (!a1)))))else(some false))))else(some false)))else(some false)))else(some false))).bind λ(a4:Bool)=>
 (if a4 then(some (.inr (.inr true)))else(some (.inl (w64 (a0+1))))))else(some (.inr (.inl ()))))
def Zij (N:Nat)(a0_:Zap)(a1_:Int)(a2_:Int)(a3_:Int)(a4_:Int)(i1:Int):Option ((Int)⊕((Unit)⊕(Bool))):=
 (if(decide (i1<((List.length a0_.Uses:Nat):Int)))then((ZaI (λx:Int=>Zii N a0_ a1_ a2_ a3_ a4_ i1 x) N 0).bind λa1=>match a1 with
 |(.inl a2)=>(some (.inl (w64 (i1+1))))
 |(.inr a0)=>(some (.inr (.inr a0))))else(some (.inr (.inl ()))))
def Zhe (N:Nat)(a0_:Zap)(a1_:Int)(a2_:Int)(a3_:Int)(a4_:Int):Option (Bool):=
 ((ZaI (λx:Int=>Zij N a0_ a1_ a2_ a3_ a4_ x) N 0).bind λa1=>match a1 with
 |(.inl a2)=>(some false)
 |(.inr a0)=>(some a0))
def ZeH (N:Nat)(a0_:Zan)(a1_:Zal)(i27:Int):Option ((Int)⊕((Unit)⊕(Bool))):=
 (if(decide (i27<((List.length a1_.Routes:Nat):Int)))then((idx a1_.Routes i27).bind λa0=>
 ((((Zdt N a0_ a0).bind λa3=>(if(!a3)then(some true)else((idx a0 0).bind λa6=>((Zc9 N a0_ a6).bind λa2=>(if(a2 !=a1_.Talker)then(some true)else((idx a0 (w64 (((List.length a0:Nat):Int)-1))).bind λa5=>((Zek N a0_ a5).bind λa1=>(some (a1 !=a1_.Listener)))))))))).bind λ(a4:Bool)=>
 (if a4 then(some (.inr (.inr false)))else(some (.inl (w64 (i27+1)))))))else(some (.inr (.inl ()))))
def Zlx (N:Nat)(a0_:Zan)(a1_:Zal)(a1:Int):Option ((Int)⊕((Unit)⊕(Bool))):=
 (if(decide (a1<((List.length a1_.Routes:Nat):Int)))then((idx a1_.Routes a1).bind λa0=>
 ((((Zdt N a0_ a0).bind λa4=>(if(!a4)then(some true)else((idx a0 0).bind λa7=>((Zc9 N a0_ a7).bind λa3=>(if(a3 !=a1_.Talker)then(some true)else((idx a0 (w64 (((List.length a0:Nat):Int)-1))).bind λa6=>((Zek N a0_ a6).bind λa2=>(some (a2 !=a1_.Listener)))))))))).bind λ(a5:Bool)=>
 (if a5 then(some (.inr (.inr false)))else(some (.inl (w64 (a1+1)))))))else(some (.inr (.inl ()))))
def Zhf (N:Nat)(a0_:Zan)(a1_:Zal):Option (Bool):=
 ((((Zc0 N a1_.Id 1 4095).bind λr1=>(if(!r1)then(some true)else((Zds N a0_ a1_.Talker).bind λr4=>(if(!r4)then(some true)else((Zds N a0_ a1_.Listener).bind λr7=>(if(!r7)then(some true)else(if(a1_.Talker==a1_.Listener)then(some true)else((Zc0 N a1_.Size 84 1542).bind λaj=>(if(!aj)then(some true)else((Zc0 N a1_.Deadline 1 1099511627776).bind λai=>(some (!ai))))))))))))).bind λ(am:Bool)=>
 (if am then(some false)else(if(a1_.Class==7)then((((Zc0 N a1_.Period 1 240).bind λag=>(if(!ag)then(some true)else(some (!((a1_.Bucket.Burst==0)&&((a1_.Bucket.Rate==0)&&true))))))).bind λ(al:Bool)=>
 (if al then(some false)else(if((decide (((List.length a1_.Routes:Nat):Int)<1))||(decide (((List.length a1_.Routes:Nat):Int)>2)))then(some false)else((ZaI (λx:Int=>ZeH N a0_ a1_ x) N 0).bind λaa=>match aa with
 |(.inl ak)=>(((if(((List.length a1_.Routes:Nat):Int)==1)then(some true)else((idx a1_.Routes 0).bind λae=>((idx a1_.Routes 1).bind λad=>((Zd4 N a0_ ae ad).bind λa8=>(some a8)))))).bind λ(ac:Bool)=>
 (some ac))
 |(.inr a9)=>(some a9)))))else(if(a1_.Class==6)then(((if(a1_.Period !=0)then(some true)else((Zc0 N a1_.Bucket.Burst a1_.Size 1048576).bind λa7=>(if(!a7)then(some true)else((Zc0 N a1_.Bucket.Rate 1 2097152).bind λa6=>(some (!a6))))))).bind λ(ab:Bool)=>
 (if ab then(some false)else(if((decide (((List.length a1_.Routes:Nat):Int)<1))||(decide (((List.length a1_.Routes:Nat):Int)>2)))then(some false)else((ZaI (λx:Int=>Zlx N a0_ a1_ x) N 0).bind λa2=>match a2 with
 |(.inl af)=>(((if(((List.length a1_.Routes:Nat):Int)==1)then(some true)else((idx a1_.Routes 0).bind λa5=>((idx a1_.Routes 1).bind λa4=>((Zd4 N a0_ a5 a4).bind λa0=>(some a0)))))).bind λ(a3:Bool)=>
 (some a3))
 |(.inr a1)=>(some a1)))))else(some false)))))
def Zjf (N:Nat)(a0_:Zan)(a1_:Int)(a2_:Int)(i1:Int):Option ((Int)⊕((Unit)⊕((List Int)))):=
 (if(decide (i1<16))then((ZkR N a0_ a1_ (IntKind.u8.wrap (a2_+(IntKind.u8.wrap (i1))))).bind λa0=>
 (((if(decide (((List.length a0:Nat):Int)>0))then((Zdt N a0_ a0).bind λa3=>(if a3 then((idx a0 0).bind λa8=>((Zc9 N a0_ a8).bind λa2=>((idx a0_.Station a2).bind λa7=>(if a7 then((idx a0 (w64 (((List.length a0:Nat):Int)-1))).bind λa6=>((Zek N a0_ a6).bind λa1=>((idx a0_.Station a1).bind λa5=>(some a5))))else(some false)))))else(some false)))else(some false))).bind λ(a4:Bool)=>
 (if a4 then((neL a0).bind λ_=>(some (.inr (.inr a0))))else(some (.inl (w64 (i1+1)))))))else(some (.inr (.inl ()))))
def ZiA (N:Nat)(a0_:Zan)(a1_:Int)(a2_:Int):Option ((List Int)):=
 ((ZaI (λx:Int=>Zjf N a0_ a1_ a2_ x) N 0).bind λa1=>match a1 with
 |(.inl a2)=>(some [])
 |(.inr a0)=>(some a0))
def ZlS (N:Nat)(a0_:Zap)(a1_:(List Int))(a2_:Int)(i1:Int):Option ((Int)⊕((Unit)⊕(Int))):=
 (if(decide (i1<((List.length a1_:Nat):Int)))then((idx a1_ i1).bind λa1=>
 ((Zhe N a0_ ((List.length a1_:Nat):Int) a2_ i1 a1).bind λa0=>
 (if a0 then(some (.inr (.inr i1)))else(some (.inl (w64 (i1+1)))))))else(some (.inr (.inl ()))))
def Zoz (N:Nat)(a0_:Zap)(a1_:(List Int))(a2_:Int):Option (Int):=
 ((ZaI (λx:Int=>ZlS N a0_ a1_ a2_ x) N 0).bind λa2=>match a2 with
 |(.inl a3)=>((Zhe N a0_ ((List.length a1_:Nat):Int) a2_ ((List.length a1_:Nat):Int) a2_).bind λa0=>
 (if a0 then(some ((List.length a1_:Nat):Int))else(some (-1))))
 |(.inr a1)=>(some a1))
def ZeO (N:Nat)(a0_:(List ZaJ))(i8:Int)(l9:(List Int)):Option ((Int×(List Int))⊕(((List Int)))):=
 (if(decide (i8<((List.length a0_:Nat):Int)))then((idx a0_ i8).bind λa0=>
 ((idx l9 i8).bind λa1=>
 (some (.inl ((w64 (i8+1)),(List.set l9 (Int.toNat i8) a0.Period))))))else(some (.inr l9)))
def ZgG (N:Nat)(a0_:(List ZaJ)):Option (Int×Int):=
 ((ZeN N a0_).bind λr1=>
 (if(r1 !=0)then(some (0,r1))else((Zjy 8 ((List.length a0_:Nat):Int) ((List.length a0_:Nat):Int) 0).bind λl5=>
 ((ZaI (λx:Int×(List Int)=>ZeO N a0_ x.1 x.2) N (0,l5)).bind λa1=>
 ((ZhR N 960 a1).bind λa0=>
 (if(decide (a0>960))then(some (0,6))else(some (a0,0))))))))
def ZgA (N:Nat)(a0_:Zan)(i4:Int):Option ((Int)⊕((Unit)⊕(Bool))):=
 (if(decide (i4<((List.length a0_.Links:Nat):Int)))then((ZhI N i4 a0_).bind λa3=>
 (if(!a3)then(some (.inr (.inr false)))else((ZhH N i4 a0_).bind λa2=>
 (if(!a2)then(some (.inr (.inr false)))else((Zf3 N i4 a0_).bind λa1=>
 (if(!a1)then(some (.inr (.inr false)))else((ZhG N i4 a0_).bind λa0=>
 (if(!a0)then(some (.inr (.inr false)))else(some (.inl (w64 (i4+1))))))))))))else(some (.inr (.inl ()))))
def ZkL (N:Nat)(a0_:Zan):Option (Bool):=
 ((ZaI (λx:Int=>ZgA N a0_ x) N 0).bind λa1=>match a1 with
 |(.inl a2)=>(some true)
 |(.inr a0)=>(some a0))
def ZeB (N:Nat)(c0_:Zal):Option (Bool):=
 (if(c0_.Class==7)then((((Zbx N c0_.Period 1 240).bind λr4=>(if r4 then(some ((c0_.Bucket.Burst==0)&&((c0_.Bucket.Rate==0)&&true)))else(some false)))).bind λ(j8:Bool)=>
 (some j8))else(if(c0_.Class==6)then(((if(c0_.Period==0)then((ZkG N c0_.Bucket).bind λa0=>(if(a0==0)then(some (decide (c0_.Bucket.Burst≥c0_.Size)))else(some false)))else(some false))).bind λ(a1:Bool)=>
 (some a1))else(some false)))
def ZgF (N:Nat)(a0_:ZaJ)(a1_:ZaJ):Option (Bool):=
 (if((a0_.Period==a1_.Period)&&((a0_.From==a1_.From)&&((a0_.Long==a1_.Long)&&true)))then(some false)else((ZhQ N a0_ a1_).bind λr2=>
 ((Zi4 N (w64 (a1_.From-a0_.From)) r2.2.2).bind λr3=>
 (some ((decide (r2.1<=r3))&&(decide (r3<=r2.2.1)))))))
def Zdp (N:Nat)(r2:(List Int))(l3:List Int)(i4:Int):Option ((Int)⊕((Unit)⊕(Bool))):=
 (if(decide (i4<((List.length l3:Nat):Int)))then((idx l3 i4).bind λa1=>
 ((Zcq N r2 a1).bind λa0=>
 (if a0 then(some (.inr (.inr true)))else(some (.inl (w64 (i4+1)))))))else(some (.inr (.inl ()))))
def ZdA (N:Nat)(a0_:Zbf)(a1_:(List Int))(a2_:(List Int)):Option (Bool):=
 ((ZcO N a0_ a1_).bind λr1=>
 ((ZcO N a0_ a2_).bind λr2=>
 ((subI r1 1 (w64 (((List.length r1:Nat):Int)-1))).bind λl3=>
 ((ZaI (λx:Int=>Zdp N r2 l3 x) N 0).bind λa1=>match a1 with
 |(.inl a2)=>(some false)
 |(.inr a0)=>(some a0)))))
def ZbS (N:Nat)(a0_:ZbA)(i3:Int)(l4:(List Bool)):Option ((Int×(List Bool))⊕(((List Bool)))):=
 (if(decide (i3<(w64 ((w64 (1+(w64 ((Int.tmod a0_.Bridges 6)))))+(w64 (2+(w64 ((Int.tmod a0_.Stations 5)))))))))then((appI 1 l4 [(decide (i3≥(w64 (1+(w64 ((Int.tmod a0_.Bridges 6)))))))]).bind λa0=>
 (some (.inl ((w64 (i3+1)),a0))))else(some (.inr l4)))
def ZbR (N:Nat)(a0_:ZbA)(a1:Int)(a4:Int)(a3:(List Bool))(a2:(List ZaK)):Option ((Int×Int×(List Bool)×(List ZaK))⊕((Int×(List Bool)×(List ZaK)))):=
 (if(decide (a1<(w64 (1+(w64 ((Int.tmod a0_.Bridges 6)))))))then((Zbm N a0_ (Zan.mk a4 a3 a2) (w64 (a1-1)) a1).bind λa0=>
 (some (.inl ((w64 (a1+1)),a0.Nodes,a0.Station,a0.Links))))else(some (.inr (a4,a3,a2))))
def ZbQ (N:Nat)(a0_:ZbA)(a0:Int)(a4:Int)(a3:(List Bool))(a2:(List ZaK)):Option ((Int×Int×(List Bool)×(List ZaK))⊕((Int×(List Bool)×(List ZaK)))):=
 (if(decide (a0<(w64 (2+(w64 ((Int.tmod a0_.Stations 5)))))))then((Ze2 N a0_.Homes (w64 (2*a0))).bind λa5=>
 ((remI a5 (w64 (1+(w64 ((Int.tmod a0_.Bridges 6)))))).bind λa6=>
 ((Zbm N a0_ (Zan.mk a4 a3 a2) (w64 ((w64 (1+(w64 ((Int.tmod a0_.Bridges 6)))))+a0)) a6).bind λa1=>
 (some (.inl ((w64 (a0+1)),a1.Nodes,a1.Station,a1.Links))))))else(some (.inr (a4,a3,a2))))
def Zbu (N:Nat)(a0_:ZbA)(a0:Int)(a5:Int)(a3:(List Bool))(a2:(List ZaK)):Option ((Int×Int×(List Bool)×(List ZaK))⊕((Int×(List Bool)×(List ZaK)))):=
 (if(decide (a0<(w64 (2+(w64 ((Int.tmod a0_.Stations 5)))))))then((((Ze2 N a0_.Homes (w64 ((w64 (2*a0))+1))).bind λa7=>
 (if(decide ((Int.tmod a7 3)>0))then((Ze2 N a0_.Homes (w64 ((w64 (2*a0))+1))).bind λa6=>
 ((remI a6 (w64 (1+(w64 ((Int.tmod a0_.Bridges 6)))))).bind λa8=>
 ((Zbm N a0_ (Zan.mk a5 a3 a2) (w64 ((w64 (1+(w64 ((Int.tmod a0_.Bridges 6)))))+a0)) a8).bind λa1=>
 (some (a1.Nodes,a1.Station,a1.Links)))))else(some (a5,a3,a2))))).bind λ(a4:Int×(List Bool)×(List ZaK))=>
 (some (.inl ((w64 (a0+1)),a4.1,a4.2.1,a4.2.2))))else(some (.inr (a5,a3,a2))))
def Zcf (N:Nat)(a0_:ZbA)(a0:Int)(a4:Int)(a3:(List Bool))(a2:(List ZaK)):Option ((Int×Int×(List Bool)×(List ZaK))⊕((Int×(List Bool)×(List ZaK)))):=
 (if((decide ((w64 (a0+1))<((List.length a0_.Chords:Nat):Int)))&&(decide (a0<12)))then((idx a0_.Chords a0).bind λa8=>
 ((remI (w64 (a8)) (w64 (1+(w64 ((Int.tmod a0_.Bridges 6)))))).bind λa6=>
 ((idx a0_.Chords (w64 (a0+1))).bind λa7=>
 ((remI (w64 (a7)) (w64 (1+(w64 ((Int.tmod a0_.Bridges 6)))))).bind λa5=>
 ((Zbm N a0_ (Zan.mk a4 a3 a2) a6 a5).bind λa1=>
 (some (.inl ((w64 (a0+2)),a1.Nodes,a1.Station,a1.Links))))))))else(some (.inr (a4,a3,a2))))
def ZdD (N:Nat)(a0_:ZbA):Option (Zan):=
 ((ZaI (λx:Int×(List Bool)=>ZbS N a0_ x.1 x.2) N (0,[])).bind λa6=>
 ((ZaI (λx:Int×Int×(List Bool)×(List ZaK)=>ZbR N a0_ x.1 x.2.1 x.2.2.1 x.2.2.2) N (1,(w64 ((w64 (1+(w64 ((Int.tmod a0_.Bridges 6)))))+(w64 (2+(w64 ((Int.tmod a0_.Stations 5))))))),a6,[])).bind λa4=>
 ((ZaI (λx:Int×Int×(List Bool)×(List ZaK)=>ZbQ N a0_ x.1 x.2.1 x.2.2.1 x.2.2.2) N (0,a4.1,a4.2.1,a4.2.2)).bind λa0=>
 (((if((decide ((w64 (1+(w64 ((Int.tmod a0_.Bridges 6)))))>2))&&((Int.tmod a0_.Bridges 2)==0))then((Zbm N a0_ (Zan.mk a0.1 a0.2.1 a0.2.2) (w64 ((w64 (1+(w64 ((Int.tmod a0_.Bridges 6)))))-1)) 0).bind λa1=>
 (some (a1.Nodes,a1.Station,a1.Links)))else(some (a0.1,a0.2.1,a0.2.2)))).bind λ(a5:Int×(List Bool)×(List ZaK))=>
 ((ZaI (λx:Int×Int×(List Bool)×(List ZaK)=>Zbu N a0_ x.1 x.2.1 x.2.2.1 x.2.2.2) N (0,a5.1,a5.2.1,a5.2.2)).bind λa3=>
 ((ZaI (λx:Int×Int×(List Bool)×(List ZaK)=>Zcf N a0_ x.1 x.2.1 x.2.2.1 x.2.2.2) N (0,a3.1,a3.2.1,a3.2.2)).bind λa2=>
 (some (Zan.mk a2.1 a2.2.1 a2.2.2))))))))
def Zej (N:Nat)(a0_:Zan)(a1_:(List Zal))(i4:Int):Option ((Int)⊕((Unit)⊕(Int))):=
 (if(decide (i4<((List.length a1_:Nat):Int)))then((idx a1_ i4).bind λa1=>
 ((Zhf N a0_ a1).bind λa0=>
 (if(!a0)then(some (.inr (.inr 321)))else(some (.inl (w64 (i4+1)))))))else(some (.inr (.inl ()))))
def ZcF (N:Nat)(a1_:(List Zal))(a1:Int)(a0:Int):Option ((Int)⊕((Unit)⊕(Int))):=
 (if(decide (a0<a1))then((idx a1_ a0).bind λa3=>
 ((idx a1_ a1).bind λa2=>
 (if(a3.Id==a2.Id)then(some (.inr (.inr 322)))else(some (.inl (w64 (a0+1)))))))else(some (.inr (.inl ()))))
def ZcG (N:Nat)(a1_:(List Zal))(a0:Int):Option ((Int)⊕((Unit)⊕(Int))):=
 (if(decide (a0<((List.length a1_:Nat):Int)))then((ZaI (λx:Int=>ZcF N a1_ a0 x) N 0).bind λa2=>match a2 with
 |(.inl a3)=>(some (.inl (w64 (a0+1))))
 |(.inr a1)=>(some (.inr (.inr a1))))else(some (.inr (.inl ()))))
def ZfP (N:Nat)(a0_:Zan)(a1_:(List Zal)):Option (Int):=
 ((Zhg N a0_).bind λr1=>
 (if(!r1)then(some 260)else(if(decide (((List.length a1_:Nat):Int)>12))then(some 3)else((ZaI (λx:Int=>Zej N a0_ a1_ x) N 0).bind λa3=>match a3 with
 |(.inl a5)=>((ZaI (λx:Int=>ZcG N a1_ x) N 0).bind λa2=>match a2 with
 |(.inl a4)=>(some 0)
 |(.inr a1)=>(some a1))
 |(.inr a0)=>(some a0)))))
def Zd2 (N:Nat)(a1_:Zan)(i2:Int)(i3:Int):Option ((Int×Int)⊕((Int))):=
 (((if(decide (i3<a1_.Nodes))then((idx a1_.Station i2).bind λa2=>(some (!a2)))else(some false))).bind λ(a1:Bool)=>
 (if a1 then((remI (w64 (i2+1)) a1_.Nodes).bind λa0=>
 (some (.inl (a0,(w64 (i3+1))))))else(some (.inr i2))))
def Zd1 (N:Nat)(a0_:Zce)(a1_:Zan)(ac:Int)(ab:(List Int))(aa:Int)(a2:Int)(a1:(List (List Int))):Option ((Int×(List (List Int)))⊕(((List (List Int))))):=
 (((if(decide (a2<24))then(if a0_.Two then(some (((List.length a1:Nat):Int)==1))else(some false))else(some false))).bind λ(a8:Bool)=>
 (if a8 then((((ZiA N a1_ (IntKind.u8.wrap (ac)) (IntKind.u8.wrap (a0_.Way+(IntKind.u8.wrap (a2))))).bind λa0=>
 (if(List.isEmpty a0)then(some a1)else((((idx a0 (w64 (((List.length a0:Nat):Int)-1))).bind λa9=>((Zek N a1_ a9).bind λa4=>(if(a4==aa)then((Zd4 N a1_ ab a0).bind λa3=>(some a3))else(some false))))).bind λ(a6:Bool)=>
 (if a6 then((appI 24 a1 [a0]).bind λa5=>
 (some a5))else(some a1)))))).bind λ(a7:(List (List Int)))=>
 (some (.inl ((w64 (a2+1)),a7))))else(some (.inr a1))))
def ZdT (N:Nat)(a0_:Zce)(a1_:Zan)(a2_:Int):Option (Zal×Bool):=
 ((remI (w64 (a0_.Node)) a1_.Nodes).bind λm1=>
 ((ZaI (λx:Int×Int=>Zd2 N a1_ x.1 x.2) N (m1,0)).bind λa6=>
 ((ZiA N a1_ (IntKind.u8.wrap (a6)) a0_.Way).bind λa1=>
 (if(List.isEmpty a1)then(some ((Zal.mk 0 0 0 0 0 0 (ZfA.mk 0 0) 0 ([])),false))else((idx a1 0).bind λa9=>
 ((Zc9 N a1_ a9).bind λa4=>
 ((idx a1 (w64 (((List.length a1:Nat):Int)-1))).bind λa8=>
 ((Zek N a1_ a8).bind λa3=>
 (((if a0_.Reserved then(some (6,0,(w64 ((w64 (84+(w64 (a0_.Size))))+(w64 (4*(w64 (a0_.Burst)))))),(w64 (1+(w64 (a0_.Rate))))))else((idx [4,6,8,12,16,24,48,10,5,240] (Int.tmod a0_.Period 10)).bind λa7=>
 (some (7,a7,0,0))))).bind λ(a0:Int×Int×Int×Int)=>
 ((ZaI (λx:Int×(List (List Int))=>Zd1 N a0_ a1_ a6 a1 a3 x.1 x.2) N (0,[a1])).bind λa2=>
 ((Zhf N a1_ (Zal.mk a2_ a4 a3 a0.1 (w64 (84+(w64 (a0_.Size)))) a0.2.1 (ZfA.mk a0.2.2.1 a0.2.2.2) 1099511627776 a2)).bind λa5=>
 (some ((Zal.mk a2_ a4 a3 a0.1 (w64 (84+(w64 (a0_.Size)))) a0.2.1 (ZfA.mk a0.2.2.1 a0.2.2.2) 1099511627776 a2),a5)))))))))))))
def ZdM (N:Nat)(rec_:Zap->ZaW->((List Int))->Int->Option (ZaW))(a0_:Zap)(a2_:(List Int))(a3_:Int)(i10:Int)(i11:Int)(a1:(List Zde))(a5:(List Zb3))(ac:(List Int)):Option ((Int×Int×(List Zde)×(List Zb3)×(List Int))⊕((Int×(List Zde)×(List Zb3)×(List Int))⊕(ZaW))):=
 ((idx a0_.Periods ((List.length a2_:Nat):Int)).bind λaf=>
 (if(decide (i10<af))then(if((((List.length a2_:Nat):Int)==0)&&(i10==1))then((idx a0_.Periods 0).bind λae=>
 ((appI 32 a1 [(Zde.mk 1 ae (-2) 0)]).bind λad=>
 (some (.inr (.inl (i11,ad,a5,ac))))))else((Zoz N a0_ a2_ i10).bind λa4=>
 (if(a4 !=(-1))then(((((if(decide (((List.length a1:Nat):Int)>0))then((idx a1 (w64 (((List.length a1:Nat):Int)-1))).bind λab=>(some (ab.By==a4)))else(some false))).bind λ(a9:Bool)=>
 (if a9 then((idx a1 (w64 (((List.length a1:Nat):Int)-1))).bind λa3=>
 (some (List.set a1 (Int.toNat (w64 (((List.length a1:Nat):Int)-1))) (Zde.mk a3.From (w64 (i10+1)) a3.By a3.Next))))else((appI 32 a1 [(Zde.mk i10 (w64 (i10+1)) a4 0)]).bind λa8=>
 (some a8))))).bind λ(aa:(List Zde))=>
 (some (.inl ((w64 (i10+1)),i11,aa,a5,ac))))else((appI 8 [] a2_).bind λa7=>
 ((appI 8 a7 [i10]).bind λa2=>
 (if(((List.length a2:Nat):Int)==((List.length a0_.Periods:Nat):Int))then(some (.inr (.inr (ZaW.mk a5 a2 1))))else((appI 32 a1 [(Zde.mk i10 (w64 (i10+1)) (-1) ((List.length a5:Nat):Int))]).bind λa6=>
 ((rec_ a0_ (ZaW.mk a5 ac i11) a2 a3_).bind λa0=>
 (if(a0.What !=0)then(some (.inr (.inr a0)))else(some (.inl ((w64 (i10+1)),a0.What,a6,a0.Proof,a0.Offsets))))))))))))else(some (.inr (.inl (i11,a1,a5,ac))))))
def ZgJ (N:Nat)(rec_:Zap->ZaW->((List Int))->Int->Option (ZaW))(a0_:Zap)(a1_:ZaW)(a2_:(List Int))(a3_:Int):Option (ZaW):=
 (if(decide (((List.length a1_.Proof:Nat):Int)>a3_))then(some (ZaW.mk a1_.Proof a1_.Offsets 2))else((appI 32 a1_.Proof [(Zb3.mk ((List.length a2_:Nat):Int) ([]))]).bind λl5=>
 ((ZaI (λx:Int×Int×(List Zde)×(List Zb3)×(List Int)=>ZdM N rec_ a0_ a2_ a3_ x.1 x.2.1 x.2.2.1 x.2.2.2.1 x.2.2.2.2) N (0,a1_.What,[],l5,a1_.Offsets)).bind λa2=>match a2 with
 |(.inl a0)=>((idx a0.2.2.1 ((List.length a1_.Proof:Nat):Int)).bind λa3=>
 (some (ZaW.mk (List.set a0.2.2.1 (Int.toNat ((List.length a1_.Proof:Nat):Int)) (Zb3.mk a3.Stream a0.2.1)) a0.2.2.2 a0.1)))
 |(.inr a1)=>(some a1))))
def Zhc:Nat->Zap->ZaW->((List Int))->Int->Option (ZaW)
 |0=>λ_ _ _ _=>none
 |N+1=>λa0_ a1_ a2_ a3_=>ZgJ N (Zhc N) a0_ a1_ a2_ a3_
def ZgN (N:Nat)(a0_:(List Int))(i6:Int)(l7:(List ZaJ)):Option ((Int×(List ZaJ))⊕(((List ZaJ)))):=
 (if(decide (i6<((List.length a0_:Nat):Int)))then((idx a0_ i6).bind λa0=>
 ((idx l7 i6).bind λa1=>
 (some (.inl ((w64 (i6+1)),(List.set l7 (Int.toNat i6) (ZaJ.mk a0 0 1)))))))else(some (.inr l7)))
def Zfy (N:Nat)(a0_:(List Int)):Option (Int×Int):=
 ((Zjy 24 ((List.length a0_:Nat):Int) ((List.length a0_:Nat):Int) (ZaJ.mk 0 0 0)).bind λl3=>
 ((ZaI (λx:Int×(List ZaJ)=>ZgN N a0_ x.1 x.2) N (0,l3)).bind λa1=>
 ((ZgG N a1).bind λa0=>
 (some (a0.1,a0.2)))))
def Zdm (N:Nat)(a0_:Zan)(i16:Int)(a2:(List Int)):Option ((Int×(List Int))⊕(((List Int)))):=
 (if(decide (i16<((List.length a0_.Links:Nat):Int)))then((idx a0_.Links i16).bind λa0=>
 ((idx a2 a0.A).bind λa1=>
 ((idx a2 a0.A).bind λa5=>
 ((idx (List.set a2 (Int.toNat a0.A) (w64 (a1+1))) a0.B).bind λa3=>
 ((idx (List.set a2 (Int.toNat a0.A) (w64 (a1+1))) a0.B).bind λa4=>
 (some (.inl ((w64 (i16+1)),(List.set (List.set a2 (Int.toNat a0.A) (w64 (a1+1))) (Int.toNat a0.B) (w64 (a3+1)))))))))))else(some (.inr a2)))
def ZgC (N:Nat)(a0_:Zan)(a1:(List Int))(a0:Int):Option ((Int)⊕((Unit)⊕(Int))):=
 (if(decide (a0<((List.length a0_.Station:Nat):Int)))then((idx a0_.Station a0).bind λa5=>
 (((if a5 then((idx a1 a0).bind λa4=>(if(decide (a4<1))then(some true)else((idx a1 a0).bind λa3=>(some (decide (a3>2))))))else(some false))).bind λ(a2:Bool)=>
 (if a2 then(some (.inr (.inr 260)))else(some (.inl (w64 (a0+1)))))))else(some (.inr (.inl ()))))
def ZgW (N:Nat)(a0_:Zan):Option (Int):=
 (if((decide (a0_.Nodes<2))||((decide (a0_.Nodes>12))||(((List.length a0_.Station:Nat):Int)!=a0_.Nodes)))then(some 260)else(((if(decide (((List.length a0_.Links:Nat):Int)>24))then(some true)else((ZkL N a0_).bind λr8=>(some (!r8))))).bind λ(j9:Bool)=>
 (if j9 then(some 260)else((Zjy 8 a0_.Nodes a0_.Nodes 0).bind λa6=>
 ((ZaI (λx:Int×(List Int)=>Zdm N a0_ x.1 x.2) N (0,a6)).bind λa4=>
 ((ZaI (λx:Int=>ZgC N a0_ a4 x) N 0).bind λa3=>match a3 with
 |(.inl a5)=>((ZkM N a0_ 0 (Zbh.mk false false false false false false false false false false false false false false false false false false false false false false false false)).bind λa1=>
 ((Zb9 N a1 false).bind λa0=>
 (if a0 then(some 260)else(some 0))))
 |(.inr a2)=>(some a2)))))))
def ZgH (N:Nat)(a0_:ZaJ)(a1_:ZaJ):Option (Bool×Int):=
 ((Zei N a0_).bind λr1=>
 (if(r1 !=0)then(some (false,r1))else((Zei N a1_).bind λr3=>
 (if(r3 !=0)then(some (false,r3))else((ZgF N a0_ a1_).bind λr5=>
 (some (r5,0)))))))
def Zeh (N:Nat)(a0_:Zbf)(c0_:(List Int))(c1_:(List Int)):Option (Bool×Int):=
 ((Zcv N a0_ c0_).bind λr2=>
 (if(!r2)then(some (false,310))else((((ZhP N c1_ c0_).bind λr6=>(if(!r6)then((ZdA N a0_ c1_ c0_).bind λa1=>(if(!a1)then((ZdA N a0_ c0_ c1_).bind λa0=>(some (!a0)))else(some false)))else(some false)))).bind λ(a2:Bool)=>
 (some (a2,0)))))
def ZeU (N:Nat)(a0_:Zan)(a1_:(List Int)):Option (Int):=
 ((ZgW N a0_).bind λr1=>
 (if(r1 !=0)then(some r1)else((Zcv N (Zbf.mk a0_) a1_).bind λr3=>
 (if(!r3)then(some 310)else(some 0)))))
def ZdK (N:Nat)(a0_:Zan)(a1_:(List Int))(a2_:Zbf->Option ((List Int)×Int)):Option ((List Int)×Int):=
 ((ZeU N a0_ a1_).bind λr1=>
 (if(r1 !=0)then(some ([],r1))else((a2_ (Zbf.mk a0_)).bind λr3=>
 (some (r3.1,r3.2)))))
def ZlX (N:Nat)(a1_:Zar)(a2_:(List Zal))(i11:Int)(a7:(List Int))(a1:(List ZaQ))(a0:Int)(a2:(List ZaD)):Option ((Int×(List ZaD))⊕(((List ZaD)))):=
 (if(decide (a0<((List.length a1:Nat):Int)))then((idx a2_ i11).bind λa6=>
 ((idx a1 a0).bind λa5=>
 ((Zmm N a1_ ((List.length a7:Nat):Int) a6.Period a5).bind λa3=>
 ((appI 32 a2 [a3]).bind λa4=>
 (some (.inl ((w64 (a0+1)),a4)))))))else(some (.inr a2)))
def Zjc (N:Nat)(a0_:Zan)(a1_:Zar)(a2_:(List Zal))(i11:Int)(af:(List Int))(a2:Bool)(a0:Int)(a1:(List ZaD)):Option ((Bool×Int×(List ZaD))⊕((Bool×(List ZaD)))):=
 ((idx a2_ i11).bind λae=>
 (if(decide (a0<((List.length ae.Routes:Nat):Int)))then((idx a2_ i11).bind λad=>
 ((idx a2_ i11).bind λac=>
 ((idx ac.Routes a0).bind λab=>
 ((ZiB N a0_ a1_ ad ab).bind λa4=>
 ((ZaI (λx:Int×(List ZaD)=>ZlX N a1_ a2_ i11 af a4 x.1 x.2) N (0,a1)).bind λa5=>
 (((if a2 then(some true)else((idx a2_ i11).bind λaa=>((idx a2_ i11).bind λa9=>((idx a9.Routes a0).bind λa8=>((Zmt N a0_ a1_ aa a8).bind λa3=>((idx a2_ i11).bind λa7=>(if(decide ((w64 (a3+(w64 (2*a1_.Slack))))>a7.Deadline))then(some true)else(some false))))))))).bind λ(a6:Bool)=>
 (some (.inl (a6,(w64 (a0+1)),a5)))))))))else(some (.inr (a2,a1)))))
def Zjd (N:Nat)(a0_:Zan)(a1_:Zar)(a2_:(List Zal))(b10:Bool)(i11:Int)(a5:(List Int))(a6:(List ZaD)):Option ((Bool×Int×(List Int)×(List ZaD))⊕((Bool×(List Int)×(List ZaD)))):=
 (if(decide (i11<((List.length a2_:Nat):Int)))then((((idx a2_ i11).bind λa4=>
 (if(a4.Class !=7)then(some (b10,a5,a6))else((ZaI (λx:Bool×Int×(List ZaD)=>Zjc N a0_ a1_ a2_ i11 a5 x.1 x.2.1 x.2.2) N (b10,0,a6)).bind λa1=>
 ((idx a2_ i11).bind λa3=>
 ((appI 8 a5 [a3.Period]).bind λa2=>
 (some (a1.1,a2,a1.2)))))))).bind λ(a0:Bool×(List Int)×(List ZaD))=>
 (some (.inl (a0.1,(w64 (i11+1)),a0.2.1,a0.2.2))))else(some (.inr (b10,a5,a6))))
def Zjb (N:Nat)(a0:Bool×(List Int)×(List ZaD))(a3:Int)(a6:Int)(a2:Int)(a1:Int):Option ((Int×Int)⊕((Int))):=
 (if(decide (a1<((List.length a0.2.2:Nat):Int)))then((((idx a0.2.2 a1).bind λa9=>
 (if(a9.Port==a6)then((idx a0.2.2 a1).bind λa8=>
 ((idx a0.2.1 a8.Stream).bind λa7=>
 ((quoI .i64 a3 a7).bind λa4=>
 (some (w64 (a2+a4))))))else(some a2)))).bind λ(a5:Int)=>
 (some (.inl (a5,(w64 (a1+1))))))else(some (.inr a2)))
def ZlW (N:Nat)(a0_:Zan)(a3:Bool×(List Int)×(List ZaD))(a1:Int)(a0:Int):Option ((Int)⊕((Unit)⊕(Zap×Int))):=
 (if(decide (a0<(w64 (2*((List.length a0_.Links:Nat):Int)))))then((ZaI (λx:Int×Int=>Zjb N a3 a1 a0 x.1 x.2) N (0,0)).bind λa2=>
 (if(decide (a2>63))then(some (.inr (.inr ((Zap.mk ([]) ([])),7))))else(some (.inl (w64 (a0+1))))))else(some (.inr (.inl ()))))
def ZlV (N:Nat)(a0:Bool×(List Int)×(List ZaD))(a2:Bool)(a1:Int):Option ((Bool×Int)⊕((Bool))):=
 (if(decide (a1<((List.length a0.2.2:Nat):Int)))then(((if a2 then(some true)else((idx a0.2.2 a1).bind λa6=>((idx a0.2.2 a1).bind λa5=>((idx a0.2.1 a5.Stream).bind λa4=>(if(decide (a6.Long>a4))then(some true)else(some false))))))).bind λ(a3:Bool)=>
 (some (.inl (a3,(w64 (a1+1))))))else(some (.inr a2)))
def ZkQ (N:Nat)(a0_:Zan)(a1_:Zar)(a2_:(List Zal)):Option (Zap×Int):=
 ((Zhg N a0_).bind λr1=>
 (if(!r1)then(some ((Zap.mk ([]) ([])),260))else((Zjh N a1_).bind λr3=>
 (if(!r3)then(some ((Zap.mk ([]) ([])),320))else((ZfP N a0_ a2_).bind λr5=>
 (if(r5 !=0)then(some ((Zap.mk ([]) ([])),r5))else((ZaI (λx:Bool×Int×(List Int)×(List ZaD)=>Zjd N a0_ a1_ a2_ x.1 x.2.1 x.2.2.1 x.2.2.2) N (false,0,[],[])).bind λa0=>
 ((Zf8 N a0.2.1).bind λa1=>
 (if(a1==0)then(some ((Zap.mk ([]) ([])),6))else((ZaI (λx:Int=>ZlW N a0_ a0 a1 x) N 0).bind λa4=>match a4 with
 |(.inl a5)=>((ZaI (λx:Bool×Int=>ZlV N a0 x.1 x.2) N (false,0)).bind λa3=>
 (if a3 then(some ((Zap.mk ([]) ([])),341))else(if a0.1 then(some ((Zap.mk ([]) ([])),342))else(some ((Zap.mk a0.2.1 a0.2.2),0)))))
 |(.inr a2)=>(some a2)))))))))))
def Zif (N:Nat)(a4_:(List Zas))(i5:Int):Option ((Int)⊕((Unit)⊕(Bool×Int))):=
 (if(decide (i5<((List.length a4_:Nat):Int)))then((idx a4_ i5).bind λa1=>
 ((Zi5 N a1).bind λa0=>
 (if(!a0)then(some (.inr (.inr (false,370))))else(some (.inl (w64 (i5+1)))))))else(some (.inr (.inl ()))))
def Zie (N:Nat)(a1_:Zar)(a4_:(List Zas))(r1:Zap×Int)(a0:Int):Option ((Int)⊕((Unit)⊕(Bool×Int))):=
 (if(decide (a0<((List.length a4_:Nat):Int)))then((idx a4_ a0).bind λa2=>
 ((Zf8 N r1.1.Periods).bind λa1=>
 (if(a2.Cycle !=(w64 (a1*a1_.Grid)))then(some (.inr (.inr (false,0))))else(some (.inl (w64 (a0+1)))))))else(some (.inr (.inl ()))))
def Zid (N:Nat)(a4_:(List Zas))(a1:(List ZaN))(a0:Int):Option ((Int)⊕((Unit)⊕(Bool×Int))):=
 (if(decide (a0<((List.length a1:Nat):Int)))then((idx a1 a0).bind λa5=>
 ((idx a4_ a5.Port).bind λa4=>
 ((idx a1 a0).bind λa3=>
 ((ZhS N a4 a3).bind λa2=>
 (if(!a2)then(some (.inr (.inr (false,0))))else(some (.inl (w64 (a0+1)))))))))else(some (.inr (.inl ()))))
def Zdr (N:Nat)(a0_:Zan)(a1_:Zar)(a2_:(List Zal))(a3_:(List Int))(a4_:(List Zas)):Option (Bool×Int):=
 ((ZkQ N a0_ a1_ a2_).bind λr1=>
 (if(r1.2 !=0)then(some (false,r1.2))else((ZgK N r1.1 a3_).bind λr3=>
 (if(!r3)then(some (false,2))else((ZaI (λx:Int=>Zif N a4_ x) N 0).bind λa6=>match a6 with
 |(.inl a9)=>(if(((List.length a4_:Nat):Int)!=(w64 (2*((List.length a0_.Links:Nat):Int))))then(some (false,0))else((ZaI (λx:Int=>Zie N a1_ a4_ r1 x) N 0).bind λa5=>match a5 with
 |(.inl a8)=>((Zff N a0_ a1_ a2_ a3_).bind λa0=>
 ((ZaI (λx:Int=>Zid N a4_ a0 x) N 0).bind λa4=>match a4 with
 |(.inl a7)=>(some (true,0))
 |(.inr a3)=>(some a3)))
 |(.inr a2)=>(some a2)))
 |(.inr a1)=>(some a1))))))
def Zgo (N:Nat)(a0_:Zan)(a1_:(List Zce))(i3:Int)(l4:(List Zal)):Option ((Int×(List Zal))⊕(((List Zal)))):=
 (((if(decide (i3<((List.length a1_:Nat):Int)))then(some (decide (((List.length l4:Nat):Int)<6)))else(some false))).bind λ(a4:Bool)=>
 (if a4 then((((idx a1_ i3).bind λa3=>
 ((ZdT N a3 a0_ (w64 (((List.length l4:Nat):Int)+1))).bind λa0=>
 (if a0.2 then((appI 96 l4 [a0.1]).bind λa1=>
 (some a1))else(some l4))))).bind λ(a2:(List Zal))=>
 (some (.inl ((w64 (i3+1)),a2))))else(some (.inr l4))))
def ZgL (N:Nat)(a0_:Zan)(a1_:(List Zce)):Option ((List Zal)):=
 ((ZaI (λx:Int×(List Zal)=>Zgo N a0_ a1_ x.1 x.2) N (0,[])).bind λa0=>
 (some a0))
def Zi7 (N:Nat)(a0_:Zap)(a1_:Int):Option ((List Int)×(List Zb3)×Int):=
 ((Zja N a0_).bind λr1=>
 (if(!r1)then(some ([],[],340))else(if((decide (a1_<0))||(decide (a1_≥2000)))then(some ([],[],2))else(if(((List.length a0_.Periods:Nat):Int)==0)then(some ([],[],0))else((Zhc N a0_ (ZaW.mk ([]) ([]) 0) ([]) a1_).bind λr7=>
 (if(r7.What==1)then(some (r7.Offsets,[],0))else(if(r7.What==2)then(some ([],[],8))else(some ([],r7.Proof,4)))))))))
def Zch (N:Nat)(a0_:ZbH)(i5:Int)(m5:(List (Int×(List ZaD)))):Option ((Int×(List (Int×(List ZaD))))⊕((List (Int×(List ZaD))))):=
 (if(decide (i5<((List.length a0_.Problem.Uses:Nat):Int)))then((idx a0_.Problem.Uses i5).bind λa0=>
 ((appI 32 (Zio m5 a0.Port []) [a0]).bind λa1=>
 (some (.inl ((w64 (i5+1)),(Zd6 m5 a0.Port a1))))))else(some (.inr m5)))
def Zcg (N:Nat)(a0_:ZbH)(r2:Int×Int)(us_:(List ZaD))(a2:Int)(a0:Int):Option ((Int×Int)⊕((Int))):=
 (if(decide (a0<((List.length us_:Nat):Int)))then((idx us_ a0).bind λa4=>
 ((idx a0_.Problem.Periods a4.Stream).bind λa3=>
 ((quoI .i64 r2.1 a3).bind λa1=>
 (some (.inl ((w64 (a2+a1)),(w64 (a0+1))))))))else(some (.inr a2)))
def Zcr (N:Nat)(a0_:ZbH)(r2:Int×Int)(us_:(List ZaD)):Option Bool:=
 ((ZaI (λx:Int×Int=>Zcg N a0_ r2 us_ x.1 x.2) N (0,0)).bind λa0=>
 (some (decide (a0>63))))
def ZbT (N:Nat)(a0_:ZbH)(a0:Int):Option ((Int)⊕((Unit)⊕(Int))):=
 (if(decide (a0<((List.length a0_.Problem.Uses:Nat):Int)))then((idx a0_.Problem.Uses a0).bind λa1=>
 ((idx a0_.Problem.Periods a1.Stream).bind λa2=>
 (if(decide (a1.Long>a2))then(some (.inr (.inr 341)))else(some (.inl (w64 (a0+1)))))))else(some (.inr (.inl ()))))
def ZdE (N:Nat)(a0_:ZbH):Option (Int):=
 ((Zfy N a0_.Problem.Periods).bind λr2=>
 (if(r2.2 !=0)then(some r2.2)else((ZaI (λx:Int×(List (Int×(List ZaD)))=>Zch N a0_ x.1 x.2) N (0,[])).bind λa3=>
 ((rgF (Zcr N a0_ r2) a3).bind λa2=>
 (if a2 then(some 7)else((ZaI (λx:Int=>ZbT N a0_ x) N 0).bind λa1=>match a1 with
 |(.inl a4)=>(if a0_.late then(some 342)else(some 0))
 |(.inr a0)=>(some a0)))))))
def Zjv (N:Nat)(a0_:Zap)(i4:Int):Option ((Int)⊕((Unit)⊕(Int))):=
 (if(decide (i4<((List.length a0_.Periods:Nat):Int)))then((idx a0_.Periods i4).bind λa0=>
 (if((decide (a0<1))||(decide (a0>240)))then(some (.inr (.inr 340)))else(some (.inl (w64 (i4+1))))))else(some (.inr (.inl ()))))
def Zju (N:Nat)(a0_:Zap)(a2:Int):Option ((Int)⊕((Unit)⊕(Int))):=
 (if(decide (a2<((List.length a0_.Uses:Nat):Int)))then((idx a0_.Uses a2).bind λa0=>
 (if((decide (a0.Stream<0))||((decide (a0.Stream≥((List.length a0_.Periods:Nat):Int)))||((decide (a0.Port<0))||(decide (a0.Port≥48)))))then(some (.inr (.inr 340)))else((idx a0_.Periods a0.Stream).bind λa1=>
 (if((decide (a0.From<0))||((decide (a0.From≥a1))||((decide (a0.Long<1))||(decide (a0.Long>a1)))))then(some (.inr (.inr 340)))else(some (.inl (w64 (a2+1))))))))else(some (.inr (.inl ()))))
def ZiF (N:Nat)(a0_:Zap):Option (Int):=
 (if((decide (((List.length a0_.Periods:Nat):Int)>12))||(decide (((List.length a0_.Uses:Nat):Int)>192)))then(some 340)else((ZaI (λx:Int=>Zjv N a0_ x) N 0).bind λa4=>match a4 with
 |(.inl a6)=>((Zfy N a0_.Periods).bind λa3=>
 (if(a3.2 !=0)then(some 340)else((ZaI (λx:Int=>Zju N a0_ x) N 0).bind λa2=>match a2 with
 |(.inl a5)=>(some 0)
 |(.inr a1)=>(some a1))))
 |(.inr a0)=>(some a0)))
def Zb5 (N:Nat)(a0_:Zap)(a2_:Int)(a4_:Int)(b18:Bool)(x16:ZaD)(x17:ZaD):Option ((Bool)×Nat):=
 (if((x16.Stream==x17.Stream)&&((x16.Port==x17.Port)&&((x16.From==x17.From)&&((x16.Long==x17.Long)&&true))))then(some (true,1))else((Zfj N a0_ x16 a2_).bind λa2=>
 ((Zfj N a0_ x17 a4_).bind λa1=>
 ((ZgH N a2 a1).bind λa0=>
 (if(!a0.1)then(some (true,1))else(some (b18,0)))))))
def ZgO (N:Nat)(a0_:Zap)(a1_:Int)(a2_:Int)(a3_:Int)(a4_:Int):Option (Bool):=
 ((ZkU N a0_ a1_ a3_).bind λa1=>
 ((ZhY N (λ(s:(Bool)×Nat) (x16:ZaD) (x17:ZaD)=>Zft (λv:Bool=>Zb5 N a0_ a2_ a4_ v x16 x17) s) a1.1 a1.2.1 a1.2.2 (false,0)).bind λa0=>
 (if(a0.2==0)then(some false)else(if(a0.2==1)then(some a0.1)else none))))
def ZdJ (N:Nat)(a0_:Zan)(a1_:(List Int))(a2_:Zbf->Option (Bool×Int)):Option (Bool×Int):=
 ((ZeU N a0_ a1_).bind λr1=>
 (if(r1 !=0)then(some (false,r1))else((a2_ (Zbf.mk a0_)).bind λr3=>
 (some (r3.1,r3.2)))))
def ZeT (N:Nat)(a0_:Zan)(a1_:(List Int)):Option ((List Int)×Int):=
 ((ZdK N a0_ a1_ (λx0=>Zfd N x0 a1_)).bind λr4=>
 (some (r4.1,r4.2)))
def Zfo (N:Nat)(a0_:Zfz):Option (Zan×Zar×(List Zal)×(List Int)):=
 ((ZdD N a0_.T).bind λr1=>
 ((Zjg N a0_.U.x0 a0_.U.x1 a0_.U.x2).bind λr2=>
 ((ZgL N r1 a0_.L).bind λr3=>
 ((ZkQ N r1 r2 r3).bind λr4=>
 (if(r4.2 !=0)then(some (r1,r2,r3,[]))else(if a0_.Find then((Zi7 N r4.1 40).bind λr7=>
 (if(r7.2.2==0)then(some (r1,r2,r3,r7.1))else((Zfu N r4.1 a0_.Some).bind λr9=>
 (some (r1,r2,r3,r9)))))else((Zfu N r4.1 a0_.Some).bind λa0=>
 (some (r1,r2,r3,a0)))))))))
def Zkt (N:Nat)(a0_:Zap)(a1_:(List Int))(i4:Int):Option ((Int)⊕((Unit)⊕(Bool×Int))):=
 (if(decide (i4<((List.length a1_:Nat):Int)))then((idx a1_ i4).bind λa1=>
 ((Zjq N a0_ i4 a1).bind λa0=>
 (if(!a0)then(some (.inr (.inr (false,2))))else(some (.inl (w64 (i4+1)))))))else(some (.inr (.inl ()))))
def Zkr (N:Nat)(a0_:Zap)(a5:Int)(a4:Int)(a1:List Int)(a0:Int):Option ((Int)⊕((Unit)⊕(Bool×Int))):=
 (if(decide (a0<((List.length a1:Nat):Int)))then((idx a1 a0).bind λa3=>
 ((ZgO N a0_ a0 a3 a5 a4).bind λa2=>
 (if a2 then(some (.inr (.inr (false,0))))else(some (.inl (w64 (a0+1)))))))else(some (.inr (.inl ()))))
def Zks (N:Nat)(a0_:Zap)(a1_:(List Int))(a0:Int):Option ((Int)⊕((Unit)⊕(Bool×Int))):=
 (if(decide (a0<((List.length a1_:Nat):Int)))then((idx a1_ a0).bind λa4=>
 ((subI a1_ 0 (w64 (a0+1))).bind λa3=>
 ((ZaI (λx:Int=>Zkr N a0_ a0 a4 a3 x) N 0).bind λa2=>match a2 with
 |(.inl a5)=>(some (.inl (w64 (a0+1))))
 |(.inr a1)=>(some (.inr (.inr a1))))))else(some (.inr (.inl ()))))
def Zku (N:Nat)(a0_:Zap)(a1_:(List Int)):Option (Bool×Int):=
 ((ZiF N a0_).bind λr1=>
 (if(r1 !=0)then(some (false,r1))else(if(((List.length a1_:Nat):Int)!=((List.length a0_.Periods:Nat):Int))then(some (false,2))else((ZaI (λx:Int=>Zkt N a0_ a1_ x) N 0).bind λa3=>match a3 with
 |(.inl a5)=>((ZaI (λx:Int=>Zks N a0_ a1_ x) N 0).bind λa2=>match a2 with
 |(.inl a4)=>(some (true,0))
 |(.inr a1)=>(some a1))
 |(.inr a0)=>(some a0)))))
def ZiE (N:Nat)(a0_:Zap):Option (Int×Int):=
 ((ZiF N a0_).bind λr1=>
 (if(r1 !=0)then(some (0,r1))else((Zfy N a0_.Periods).bind λr3=>
 (some (r3.1,r3.2)))))
def ZeV (N:Nat)(a0_:Zan)(a1_:(List Int))(a2_:(List Int)):Option (Bool×Int):=
 ((ZdJ N a0_ a1_ (λx0=>Zeh N x0 a2_ a1_)).bind λr6=>
 (some (r6.1,r6.2)))
def ZeZ (N:Nat)(a0_:Zan)(a1_:(List Int)):Option (Int×Int×Int):=
 ((ZeT N a0_ a1_).bind λr1=>
 (if(r1.2 !=0)then(some (0,0,r1.2))else((idx r1.1 0).bind λe3=>
 ((idx r1.1 (w64 (((List.length r1.1:Nat):Int)-1))).bind λe4=>
 (some (e3,e4,0))))))
def ZhL (N:Nat)(a0_:Zan)(a1_:(List Int))(a2_:Int)(a3_:Int):Option (Bool):=
 ((ZeZ N a0_ a1_).bind λr1=>
 (some ((r1.2.2==0)&&((r1.1==a2_)&&(r1.2.1==a3_)))))
def Zez (N:Nat)(c0_:Zal)(c1_:Zan):Option (Bool):=
 (if(decide (((List.length c0_.Routes:Nat):Int)<2))then(some true)else((idx c0_.Routes 0).bind λe5=>
 ((idx c0_.Routes 1).bind λe7=>
 ((ZeV N c1_ e5 e7).bind λr8=>
 (some ((r8.2==0)&&r8.1))))))
def Zef (N:Nat)(c0_:Zal)(c1_:Zan)(i2:Int):Option ((Int)⊕((Unit)⊕(Bool))):=
 (if(decide (i2<((List.length c0_.Routes:Nat):Int)))then((idx c0_.Routes i2).bind λa1=>
 ((ZhL N c1_ a1 c0_.Talker c0_.Listener).bind λa0=>
 (if(!a0)then(some (.inr (.inr false)))else(some (.inl (w64 (i2+1)))))))else(some (.inr (.inl ()))))
def ZeA (N:Nat)(c0_:Zal)(c1_:Zan):Option (Bool):=
 ((ZaI (λx:Int=>Zef N c0_ c1_ x) N 0).bind λa1=>match a1 with
 |(.inl a2)=>(some true)
 |(.inr a0)=>(some a0))
def Zf4 (N:Nat)(a0_:Zan)(a1_:Zal):Option (Bool):=
 ((ZfK N a1_).bind λr8=>
 (if(!r8)then(some false)else((ZfJ N a0_ a1_).bind λa6=>
 (if(!a6)then(some false)else((ZfI N a1_).bind λa5=>
 (if(!a5)then(some false)else((ZfH N a1_).bind λa4=>
 (if(!a4)then(some false)else((ZeB N a1_).bind λa3=>
 (if(!a3)then(some false)else((ZfG N a1_).bind λa2=>
 (if(!a2)then(some false)else((ZeA N a1_ a0_).bind λa1=>
 (if(!a1)then(some false)else((Zez N a1_ a0_).bind λa0=>
 (if(!a0)then(some false)else(some true)))))))))))))))))
def Ziv (N:Nat)(a0_:Zan)(a1_:Zar)(a2_:Zal)(a3_:Int):Option (Int):=
 ((ZgW N a0_).bind λr1=>
 (if(r1 !=0)then(some r1)else((Zc4 N a1_).bind λr3=>
 (if(r3 !=0)then(some r3)else((Zf4 N a0_ a2_).bind λr5=>
 (if(!r5)then(some 321)else(((if(a2_.Class !=7)then(some true)else((Zbx N a3_ 0 (w64 (((List.length a2_.Routes:Nat):Int)-1))).bind λr9=>(some (!r9))))).bind λ(a0:Bool)=>
 (if a0 then(some 2)else(some 0)))))))))
def ZdS (N:Nat)(a0_:Zan)(a1_:(List Zal))(i4:Int):Option ((Int)⊕((Unit)⊕(Int))):=
 (if(decide (i4<((List.length a1_:Nat):Int)))then((idx a1_ i4).bind λa1=>
 ((Zf4 N a0_ a1).bind λa0=>
 (if(!a0)then(some (.inr (.inr 321)))else(some (.inl (w64 (i4+1)))))))else(some (.inr (.inl ()))))
def ZbB (N:Nat)(a1_:(List Zal))(a1:Int)(a2:(List (Int×Bool))):Option ((Int×(List (Int×Bool)))⊕((Unit)⊕(Int))):=
 (if(decide (a1<((List.length a1_:Nat):Int)))then((idx a1_ a1).bind λa0=>
 (if(Zio a2 a0.Id false)then(some (.inr (.inr 322)))else(some (.inl ((w64 (a1+1)),(Zd6 a2 a0.Id true))))))else(some (.inr (.inl ()))))
def ZdZ (N:Nat)(a0_:Zan)(a1_:(List Zal)):Option (Int):=
 ((ZgW N a0_).bind λr1=>
 (if(r1 !=0)then(some r1)else(if(decide (((List.length a1_:Nat):Int)>12))then(some 3)else((ZaI (λx:Int=>ZdS N a0_ a1_ x) N 0).bind λa3=>match a3 with
 |(.inl a5)=>((ZaI (λx:Int×(List (Int×Bool))=>ZbB N a1_ x.1 x.2) N (0,[])).bind λa2=>match a2 with
 |(.inl a4)=>(some 0)
 |(.inr a1)=>(some a1))
 |(.inr a0)=>(some a0)))))
def ZcB (N:Nat)(a0_:Zan)(a1_:Zar)(i22:Int)(x21:ZaQ):Option (Int):=
 ((idx a0_.Links (w64 (Int.tdiv x21.Port 2))).bind λa0=>
 (some (w64 ((w64 ((w64 (x21.Open+x21.Long))+a0.Delay))+a1_.Proc))))
def ZiV (N:Nat)(a0_:Zan)(a1_:Zar)(a2_:Zal)(a3_:Int):Option (Int×Int):=
 ((Ziv N a0_ a1_ a2_ a3_).bind λr7=>
 (if(r7 !=0)then(some (0,r7))else((ZiU N a0_ a1_ a2_ a3_).bind λa0=>
 ((Zdn N (λ(s:Int) (x21:ZaQ)=>Zet (λv:Int=>ZcB N a0_ a1_ v x21) s) a0.1 a0.2.1 a0.2.2.1 a0.2.2.2 0).bind λa1=>
 (some (a1,0))))))
def ZcC (N:Nat)(a1:(List ZaQ))(x12:ZaQ):Option ((List ZaQ)):=
 ((appI 40 a1 [x12]).bind λa0=>
 (some a0))
def Zg3 (N:Nat)(a0_:Zan)(a1_:Zar)(a2_:Zal)(a3_:Int):Option ((List ZaQ)×Int):=
 ((Ziv N a0_ a1_ a2_ a3_).bind λr1=>
 (if(r1 !=0)then(some ([],r1))else((ZiU N a0_ a1_ a2_ a3_).bind λr5=>
 ((Zdn N (λ(s:(List ZaQ)) (x12:ZaQ)=>Zet (λv:(List ZaQ)=>ZcC N v x12) s) r5.1 r5.2.1 r5.2.2.1 r5.2.2.2 []).bind λa0=>
 (some (a0,0))))))
def Zfw (N:Nat)(a0_:ZbH)(a2_:Zar)(a3_:Zal)(a3:(List ZaQ)×Int)(a2:Int)(a6:(List ZaD)):Option ((Int×(List ZaD))⊕(((List ZaD)))):=
 (if(decide (a2<((List.length a3.1:Nat):Int)))then((idx a3.1 a2).bind λa0=>
 ((Zem N a0.Early a2_.Grid).bind λa1=>
 ((Zem N (w64 ((w64 ((w64 (a0.Open+a0.Long))+a2_.Grid))-1)) a2_.Grid).bind λa5=>
 ((Zem N a1 a3_.Period).bind λa4=>
 ((appI 32 a6 [(ZaD.mk ((List.length a0_.Problem.Periods:Nat):Int) a0.Port (w64 (a1-(w64 (a4*a3_.Period)))) (w64 (a5-a1)))]).bind λa7=>
 (some (.inl ((w64 (a2+1)),a7))))))))else(some (.inr a6)))
def Zfx (N:Nat)(a0_:ZbH)(a1_:Zan)(a2_:Zar)(a3_:Zal)(l6:List Int)(i11:Int)(b12:Bool)(a4:(List ZaD)):Option ((Int×Bool×(List ZaD))⊕((Bool×(List ZaD))⊕(Int×ZbH))):=
 (if(decide (i11<((List.length a3_.Routes:Nat):Int)))then((Zg3 N a1_ a2_ a3_ i11).bind λa2=>
 (if(a2.2 !=0)then(some (.inr (.inr (a2.2,(ZbH.mk (Zap.mk l6 a4) b12)))))else((ZaI (λx:Int×(List ZaD)=>Zfw N a0_ a2_ a3_ a2 x.1 x.2) N (0,a4)).bind λa1=>
 ((ZiV N a1_ a2_ a3_ i11).bind λa0=>
 (if(a0.2 !=0)then(some (.inr (.inr (a0.2,(ZbH.mk (Zap.mk l6 a1) b12)))))else(((if b12 then(some true)else(some (decide ((w64 (a0.1+(w64 (2*a2_.Slack))))>a3_.Deadline))))).bind λ(a3:Bool)=>
 (some (.inl ((w64 (i11+1)),a3,a1)))))))))else(some (.inr (.inl (b12,a4)))))
def ZfX (N:Nat)(a0_:ZbH)(a1_:Zan)(a2_:Zar)(a3_:Zal):Option (Int×ZbH):=
 ((appI 8 a0_.Problem.Periods [a3_.Period]).bind λl6=>
 ((ZaI (λx:Int×Bool×(List ZaD)=>Zfx N a0_ a1_ a2_ a3_ l6 x.1 x.2.1 x.2.2) N (0,a0_.late,a0_.Problem.Uses)).bind λa2=>match a2 with
 |(.inl a0)=>(some (0,(ZbH.mk (Zap.mk l6 a0.2) a0.1)))
 |(.inr a1)=>(some a1)))
def ZbY {σ:Type}(N:Nat)(y_:σ->ZaX->Option (σ×Bool))(c3_:Zar)(a6:Zal)(a5:Int)(a3:(List ZaQ)×Int)(a1:Int)(a4:σ):Option ((Int×σ)⊕((σ)⊕(σ))):=
 (if(decide (a1<((List.length a3.1:Nat):Int)))then((idx a3.1 a1).bind λa2=>
 ((y_ a4 (ZaX.mk a2.Port (w64 (a2.Open+(w64 (a5*c3_.Grid)))) a2.Long (w64 (a6.Period*c3_.Grid)))).bind λa0=>
 (if(!a0.2)then(some (.inr (.inr a0.1)))else(some (.inl ((w64 (a1+1)),a0.1))))))else(some (.inr (.inl a4))))
def ZbZ {σ:Type}(N:Nat)(y_:σ->ZaX->Option (σ×Bool))(c2_:Zan)(c3_:Zar)(a1:Zal)(a7:Int)(a0:Int)(a6:σ):Option ((Int×σ)⊕((σ)⊕(σ))):=
 (if(decide (a0<((List.length a1.Routes:Nat):Int)))then((Zg3 N c2_ c3_ a1 a0).bind λa2=>
 ((ZaI (λx:Int×σ=>ZbY N y_ c3_ a1 a7 a2 x.1 x.2) N (0,a6)).bind λa5=>match a5 with
 |(.inl a4)=>(some (.inl ((w64 (a0+1)),a4)))
 |(.inr a3)=>(some (.inr (.inr a3)))))else(some (.inr (.inl a6))))
def Zco {σ:Type}(N:Nat)(y_:σ->ZaX->Option (σ×Bool))(c0_:(List Zal))(c1_:(List Int))(c2_:Zan)(c3_:Zar)(i4:Int)(i5:Int)(g6:σ):Option ((Int×Int×σ)⊕((σ)⊕(σ))):=
 (if(decide (i5<((List.length c0_:Nat):Int)))then((idx c0_ i5).bind λa3=>
 (if(a3.Class !=7)then(some (.inl (i4,(w64 (i5+1)),g6)))else((idx c1_ i4).bind λa4=>
 ((ZaI (λx:Int×σ=>ZbZ N y_ c2_ c3_ a3 a4 x.1 x.2) N (0,g6)).bind λa2=>match a2 with
 |(.inl a1)=>(some (.inl ((w64 (i4+1)),(w64 (i5+1)),a1)))
 |(.inr a0)=>(some (.inr (.inr a0)))))))else(some (.inr (.inl g6))))
def ZdX {σ:Type}(N:Nat)(y_:σ->ZaX->Option (σ×Bool))(c0_:(List Zal))(c1_:(List Int))(c2_:Zan)(c3_:Zar)(s_:σ):Option (σ):=
 ((ZaI (λx:Int×Int×σ=>Zco N y_ c0_ c1_ c2_ c3_ x.1 x.2.1 x.2.2) N (0,0,s_)).bind λa2=>match a2 with
 |(.inl a1)=>(some a1)
 |(.inr a0)=>(some a0))
def ZkV (N:Nat)(a0_:Zan)(a1_:Zar)(a2_:(List Zal))(i12:Int)(b13:Bool)(a3:(List Int))(a2:(List ZaD)):Option ((Int×Bool×(List Int)×(List ZaD))⊕((Bool×(List Int)×(List ZaD))⊕(Zap×Int))):=
 (if(decide (i12<((List.length a2_:Nat):Int)))then((idx a2_ i12).bind λa1=>
 (if(a1.Class !=7)then(some (.inl ((w64 (i12+1)),b13,a3,a2)))else((ZfX N (ZbH.mk (Zap.mk a3 a2) b13) a0_ a1_ a1).bind λa0=>
 (if(a0.1 !=0)then(some (.inr (.inr ((Zap.mk ([]) ([])),a0.1))))else(some (.inl ((w64 (i12+1)),a0.2.late,a0.2.Problem.Periods,a0.2.Problem.Uses)))))))else(some (.inr (.inl (b13,a3,a2)))))
def Zpw (N:Nat)(a0_:Zan)(a1_:Zar)(a2_:(List Zal)):Option (Zap×Int):=
 ((ZdZ N a0_ ([])).bind λr1=>
 (if(r1 !=0)then(some ((Zap.mk ([]) ([])),r1))else((Zc4 N a1_).bind λr3=>
 (if(r3 !=0)then(some ((Zap.mk ([]) ([])),r3))else((ZdZ N a0_ a2_).bind λr5=>
 (if(r5 !=0)then(some ((Zap.mk ([]) ([])),r5))else((ZaI (λx:Int×Bool×(List Int)×(List ZaD)=>ZkV N a0_ a1_ a2_ x.1 x.2.1 x.2.2.1 x.2.2.2) N (0,false,[],[])).bind λa3=>match a3 with
 |(.inl a0)=>((ZdE N (ZbH.mk (Zap.mk a0.2.1 a0.2.2) a0.1)).bind λa1=>
 (if(a1 !=0)then(some ((Zap.mk ([]) ([])),a1))else(some ((Zap.mk a0.2.1 a0.2.2),0))))
 |(.inr a2)=>(some a2))))))))
def ZfE (N:Nat)(r9:Int×Int)(a2:List (List Bool))(i25:Int)(a1:(List (List Bool))):Option ((Int×(List (List Bool)))⊕(((List (List Bool))))):=
 (if(decide (i25<((List.length a2:Nat):Int)))then((Zjy 1 r9.1 r9.1 false).bind λa0=>
 ((idx a1 i25).bind λa3=>
 (some (.inl ((w64 (i25+1)),(List.set a1 (Int.toNat i25) a0))))))else(some (.inr a1)))
def ZfC (N:Nat)(r9:Int×Int)(a2:Int)(a6:Int)(a5:Int)(a1:Int)(a0:(List (List Bool))):Option ((Int×(List (List Bool)))⊕(((List (List Bool))))):=
 (if(decide (a1<a5))then((idx a0 a2).bind λa4=>
 ((remI (w64 (a6+a1)) r9.1).bind λa3=>
 ((idx a4 a3).bind λa7=>
 (some (.inl ((w64 (a1+1)),(List.set a0 (Int.toNat a2) (List.set a4 (Int.toNat a3) true))))))))else(some (.inr a0)))
def ZfF (N:Nat)(r9:Int×Int)(a4:(List (List Bool)))(a2:Int)(a1:Int)(a0:Int):Option (((List (List Bool)))):=
 ((ZaI (λx:Int×(List (List Bool))=>ZfC N r9 a2 a1 a0 x.1 x.2) N (0,a4)).bind λa3=>
 (some a3))
def ZfD (N:Nat)(a1_:Zar)(r9:Int×Int)(a2:ZaX)(a8:Int)(a0:Int)(a1:(List (List Bool))):Option ((Int×(List (List Bool)))⊕(((List (List Bool))))):=
 (if(decide (a0<(w64 (a2.from_+(w64 (r9.1*a1_.Grid))))))then((quoI .i64 a0 a1_.Grid).bind λa7=>
 (((λ(s:(List (List Bool))) (a5:Int) (a4:Int) (a3:Int)=>ZfF N r9 s a5 a4 a3) a1 a2.port a7 a8).bind λa6=>
 (some (.inl ((w64 (a0+a2.period)),a6)))))else(some (.inr a1)))
def Zey (N:Nat)(a1_:Zar)(r9:Int×Int)(a3:(List (List Bool)))(a0:ZaX):Option ((List (List Bool))):=
 ((quoI .i64 (w64 ((w64 (a0.long+a1_.Grid))-1)) a1_.Grid).bind λa1=>
 ((ZaI (λx:Int×(List (List Bool))=>ZfD N a1_ r9 a0 a1 x.1 x.2) N (a0.from_,a3)).bind λa2=>
 (some a2)))
def ZfB (N:Nat)(a1_:Zar)(a3:(List (List Bool)))(a4:List Zas)(a0:Int)(a1:(List Zas)):Option ((Int×(List Zas))⊕(((List Zas)))):=
 (if(decide (a0<((List.length a4:Nat):Int)))then((idx a3 a0).bind λa5=>
 ((ZqU N a5 a1_.Grid).bind λa2=>
 ((idx a1 a0).bind λa6=>
 (some (.inl ((w64 (a0+1)),(List.set a1 (Int.toNat a0) a2)))))))else(some (.inr a1)))
def ZiR (N:Nat)(a0_:Zan)(a1_:Zar)(a2_:(List Zal))(a3_:(List Int)):Option ((List Zas)×Int):=
 ((Zpw N a0_ a1_ a2_).bind λr4=>
 (if(r4.2 !=0)then(some ([],r4.2))else((Zku N r4.1 a3_).bind λr6=>
 (if(r6.2 !=0)then(some ([],r6.2))else(if(!r6.1)then(some ([],380))else((ZiE N r4.1).bind λr9=>
 (if(r9.2 !=0)then(some ([],r9.2))else((famI 24 (w64 (2*((List.length a0_.Links:Nat):Int)))).bind λa6=>
 ((ZaI (λx:Int×(List (List Bool))=>ZfE N r9 a6 x.1 x.2) N (0,a6)).bind λa5=>
 ((Zfa N a0_ a1_ a2_ a3_).bind λa1=>
 ((ZdX N (λ(s:(List (List Bool))) (a4:ZaX)=>Zet (λv:(List (List Bool))=>Zey N a1_ r9 v a4) s) a1.1 a1.2.1 a1.2.2.1 a1.2.2.2 a5).bind λa0=>
 ((Zjy 32 ((List.length a0:Nat):Int) ((List.length a0:Nat):Int) (Zas.mk ([]) 0)).bind λa2=>
 ((ZaI (λx:Int×(List Zas)=>ZfB N a1_ a0 a2 x.1 x.2) N (0,a2)).bind λa3=>
 (some (a3,0)))))))))))))))
def Zh9 (N:Nat)(a4_:(List Zas))(i19:Int):Option ((Int)⊕((Unit)⊕(Bool×Int))):=
 (if(decide (i19<((List.length a4_:Nat):Int)))then((idx a4_ i19).bind λa1=>
 ((Zhu N a1).bind λa0=>
 (if(a0 !=0)then(some (.inr (.inr (false,a0))))else(some (.inl (w64 (i19+1)))))))else(some (.inr (.inl ()))))
def Zh8 (N:Nat)(a1_:Zar)(a4_:(List Zas))(a2:Int×Int)(a0:Int):Option ((Int)⊕((Unit)⊕(Bool×Int))):=
 (if(decide (a0<((List.length a4_:Nat):Int)))then((idx a4_ a0).bind λa1=>
 (if(a1.Cycle !=(w64 (a2.1*a1_.Grid)))then(some (.inr (.inr (false,0))))else(some (.inl (w64 (a0+1))))))else(some (.inr (.inl ()))))
def ZdI (N:Nat)(a1_:Zar)(a4_:(List Zas))(a4:Int×Int)(a0:ZaX)(a1:Int):Option ((Int)⊕((Unit)⊕(Unit))):=
 (if(decide (a1<(w64 (a0.from_+(w64 (a4.1*a1_.Grid))))))then((idx a4_ a0.port).bind λa3=>
 ((ZhK N a3 a1 a0.long).bind λa2=>
 (if(!a2)then(some (.inr (.inr ())))else(some (.inl (w64 (a1+a0.period)))))))else(some (.inr (.inl ()))))
def ZcA (N:Nat)(a1_:Zar)(a4_:(List Zas))(a2:Int×Int)(a0:ZaX):Option ((Unit)×Nat):=
 ((ZaI (λx:Int=>ZdI N a1_ a4_ a2 a0 x) N a0.from_).bind λa1=>match a1 with
 |(.inl a4)=>(some ((),0))
 |(.inr a3)=>(some ((),1)))
def Zcu (N:Nat)(a0_:Zan)(a1_:Zar)(a2_:(List Zal))(a3_:(List Int))(a4_:(List Zas)):Option (Bool×Int):=
 ((Zpw N a0_ a1_ a2_).bind λa7=>
 (if(a7.2 !=0)then(some (false,a7.2))else((Zku N a7.1 a3_).bind λa9=>
 (if(a9.2 !=0)then(some (false,a9.2))else((ZaI (λx:Int=>Zh9 N a4_ x) N 0).bind λa8=>match a8 with
 |(.inl ab)=>((ZiE N a7.1).bind λa1=>
 (if(a1.2 !=0)then(some (false,a1.2))else(if(((List.length a4_:Nat):Int)!=(w64 (2*((List.length a0_.Links:Nat):Int))))then(some (false,0))else((ZaI (λx:Int=>Zh8 N a1_ a4_ a1 x) N 0).bind λa6=>match a6 with
 |(.inl aa)=>((Zfa N a0_ a1_ a2_ a3_).bind λa0=>
 ((ZdX N (λ(s:(Unit)×Nat) (a3:ZaX)=>Zft (λv:Unit=>ZcA N a1_ a4_ a1 a3) s) a0.1 a0.2.1 a0.2.2.1 a0.2.2.2 ((),0)).bind λa2=>
 (if(a2.2==0)then(some (true,0))else(if(a2.2==1)then(some (false,0))else none))))
 |(.inr a5)=>(some a5)))))
 |(.inr a4)=>(some a4))))))
def Zjz (N:Nat):Option (Bool):=
 ((Zq6 N).bind λr1=>
 ((ZpN N).bind λr2=>
 ((Zfn N 1 20).bind λr3=>
 ((ZiR N r1 r2 ([r3]) ([15])).bind λr4=>
 ((ZiJ N ([128,300,127,1200,128,500])).bind λr5=>
 ((ZiJ N ([127,2000])).bind λr6=>
 ((ZiJ N ([127,400,128,800,127,800])).bind λr7=>
 ((ZiJ N ([127,2000])).bind λr8=>
 ((ZiR N r1 r2 ([r3]) ([20])).bind λr9=>
 ((Zfn N 1 40).bind λa6=>
 ((Zfn N 2 40).bind λa5=>
 ((ZiR N r1 r2 ([a6,a5]) ([0,1])).bind λa4=>
 (((if(r4.2 !=0)then(some true)else((ZqZ N r4.1 ([r5,r6,r7,r8])).bind λa3=>(some (!a3))))).bind λ(a8:Bool)=>
 (if a8 then(some false)else((Zcu N r1 r2 ([r3]) ([15]) r4.1).bind λa2=>
 ((Zcu N r1 r2 ([r3]) ([14]) r4.1).bind λa1=>
 ((subI r4.1 0 3).bind λa7=>
 ((Zcu N r1 r2 ([r3]) ([15]) a7).bind λa0=>
 (some ((r9.2==2)&&((a4.2==380)&&(a2.1&&((a2.2==0)&&((!a1.1)&&((a1.2==0)&&((!a0.1)&&(a0.2==0)))))))))))))))))))))))))))
def Zdx (N:Nat)(a4_:(List Zas))(a0:Int)(a1:(List Zas)):Option ((Int×(List Zas))⊕(((List Zas)))):=
 (if((decide (a0<((List.length a4_:Nat):Int)))&&(decide (a0<50)))then((idx a4_ a0).bind λa6=>
 ((idx a4_ a0).bind λa2=>
 ((subI a6.Entries 0 (if 130<((List.length a2.Entries:Nat):Int)then 130 else((List.length a2.Entries:Nat):Int))).bind λa4=>
 ((idx a4_ a0).bind λa5=>
 ((appI 32 a1 [(Zas.mk a4 a5.Cycle)]).bind λa3=>
 (some (.inl ((w64 (a0+1)),a3))))))))else(some (.inr a1)))
def Zgs (N:Nat)(a0_:Zfz)(a1_:(List Int))(a2_:Zqf)(a3_:Zaw)(a4_:(List Zas)):Option (Bool):=
 ((Zfo N a0_).bind λr1=>
 ((ZkQ N r1.1 r1.2.1 r1.2.2.1).bind λr2=>
 (((if(r2.2==0)then((Zf8 N r2.1.Periods).bind λau=>
 ((Zkf N r1.1 r1.2.1 r1.2.2.1 r1.2.2.2 au).bind λar=>
 (some ar)))else(some []))).bind λ(a6:(List Zas))=>
 ((appI 32 [] a6).bind λa3=>
 (((if(decide (((List.length a3:Nat):Int)>0))then((remI (w64 (a2_.x0)) ((List.length a3:Nat):Int)).bind λa4=>
 ((idx a3 a4).bind λaq=>
 ((appI 16 [] aq.Entries).bind λa5=>
 ((remI (w64 (a2_.x1)) ((List.length a5:Nat):Int)).bind λak=>
 ((idx a5 ak).bind λav=>
 ((idx a3 a4).bind λam=>
 (some (List.set a3 (Int.toNat a4) (Zas.mk (List.set a5 (Int.toNat ak) a3_) am.Cycle)))))))))else(some a3))).bind λ(a2:(List Zas))=>
 ((ZaI (λx:Int×(List Zas)=>Zdx N a4_ x.1 x.2) N (0,[])).bind λa1=>
 ((Zfu N r2.1 a1_).bind λa0=>
 ((Zcu N r1.1 r1.2.1 r1.2.2.1 r1.2.2.2 a6).bind λaj=>
 ((Zdr N r1.1 r1.2.1 r1.2.2.1 r1.2.2.2 a6).bind λai=>
 (if((aj.1 !=ai.1)||(aj.2 !=ai.2))then(some false)else((Zcu N r1.1 r1.2.1 r1.2.2.1 a0 a6).bind λag=>
 ((Zdr N r1.1 r1.2.1 r1.2.2.1 a0 a6).bind λaf=>
 (if((ag.1 !=af.1)||(ag.2 !=af.2))then(some false)else((Zcu N r1.1 r1.2.1 r1.2.2.1 r1.2.2.2 a2).bind λae=>
 ((Zdr N r1.1 r1.2.1 r1.2.2.1 r1.2.2.2 a2).bind λad=>
 (if((ae.1 !=ad.1)||(ae.2 !=ad.2))then(some false)else((Zcu N r1.1 r1.2.1 r1.2.2.1 a0 a2).bind λac=>
 ((Zdr N r1.1 r1.2.1 r1.2.2.1 a0 a2).bind λab=>
 (if((ac.1 !=ab.1)||(ac.2 !=ab.2))then(some false)else((Zcu N r1.1 r1.2.1 r1.2.2.1 r1.2.2.2 a1).bind λaa=>
 ((Zdr N r1.1 r1.2.1 r1.2.2.1 r1.2.2.2 a1).bind λa9=>
 (if((aa.1 !=a9.1)||(aa.2 !=a9.2))then(some false)else((Zcu N r1.1 r1.2.1 r1.2.2.1 a0 a1).bind λa8=>
 ((Zdr N r1.1 r1.2.1 r1.2.2.1 a0 a1).bind λa7=>
 (if((a8.1 !=a7.1)||(a8.2 !=a7.2))then(some false)else((Zjz N).bind λal=>
 (some al)))))))))))))))))))))))))))
end Go.Sh

