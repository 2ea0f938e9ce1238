/- Part of the proof; written by a program out of the texts in wip/. -/
import Derived.Test.YtmplmekdilmdgaaStreamArrivesOk3
namespace Go.Sh
open Go Go.Eng Go.Proofs
set_option linter.unusedVariables false
set_option linter.unusedSimpArgs false
set_option maxRecDepth 100000
set_option maxHeartbeats 4000000
attribute [local irreducible] vc ev Ze8 opsD opsF Zgw upd updH updO
theorem law22_StreamArrives_ok (N:Nat) (a0_:Zc2) (a1_:Zcx) (r:Bool) (h:Zb5 N a0_ a1_=some r):Zar Try.prog 4 [.agg (Zlv a0_),.agg (Zb7 a1_)] (bv r):=by
 unfold Zb5 at h
 have hH:HP ([]:List HO) []:=trivial
 refine ZI chk4 rfl rfl (Zv _ _ _ ?_) rfl
 refine sq (rg Zc.f ?_)
 refine tq (sq ?_)
 refine sq ?_
 obtain ⟨r1,hr1,h⟩:=bs h
 refine rg (Zc.v 0 (Zy (hc:=Zjv N  r1 hr1)) Zc.f) (tq ?_)
 refine it h (fun hc2 h => ?_) (fun hc2 h => ?_)
 ·refine sq (rg Zc.f ?_)
  refine tq (rt ?_)
  refine tr ?_
  obtain rfl:=Zb h
  exact ZA (by kernel_rfl)
 refine sk (tq ?_)
 refine kq (sq ?_)
 obtain ⟨r3,hr3,h⟩:=bs h
 refine rg (Zc.v 2 (Zy (hc:=Zgr N a0_.T r3 hr3)) Zc.f) (tq ?_)
 refine sq ?_
 obtain ⟨r4,hr4,h⟩:=bs h
 refine rg (Zc.v 9 (Zy (hc:=Zh0 N a0_.U.x0 a0_.U.x1 a0_.U.x2 r4 hr4)) Zc.f) (tq ?_)
 refine sq ?_
 obtain ⟨r5,hr5,h⟩:=bs h
 refine rg (Zc.v 3 (Zy (hc:=ZhZ N r3 a0_.L r5 hr5)) Zc.f) (tq ?_)
 refine sq (sq ?_)
 refine rg Zc.f (tq ?_)
 refine bk ?_
 obtain ⟨o1558,ho1558,h⟩:=bs h
 refine Zac ((ZV (fun (x:Int) s=>s=⟨[(3,.loc 3 0),(5,.loc 5 0),(6,.loc 6 0),(7,ZB false r5),(8,iv x)],[(3,(Zb7 a1_)),(5,(Za r3)),(6,(Zk r4))],[]⟩) (fun x:Int=>Zan N a1_ r3 r4 r5 x) (fun (p:(Unit) ⊕ (Bool)) e s=>match p with | (.inl p)=>e = .exit 0∧(s=⟨[],[],[]⟩) | (.inr p)=>e = .ret∧∃ xs,resL s i4.res=some xs∧Zbb xs=bv p) ?_ N _ o1558 _ ho1558 (by show _=_;kernel_rfl)).mono ?_)
 ·clear h ho1558
  rintro i6 o s h hR
  obtain rfl:=hR
  replace h:Zan N a1_ r3 r4 r5 i6=some o:=h
  unfold Zan at h
  refine sq (sq ?_)
  refine rg (Zc.u 2 (Zo (ys:=[ZB false r5]) (h:=Zw ZD)) Zc.f) (tq ?_)
  refine it h (fun hc507 h => ?_) (fun hc507 h => ?_)
  ·refine sk (tq ?_)
   refine kq (sq ?_)
   refine bk (sq ?_)
   refine rg Zc.f (tq ?_)
   refine bk ?_
   obtain ⟨o1555,ho1555,h⟩:=bs h
   refine Zac ((ZV (fun (x:Int) s=>s=⟨[(3,.loc 3 0),(5,.loc 5 0),(6,.loc 6 0),(7,ZB false r5),(8,iv i6),(9,iv x)],[(3,(Zb7 a1_)),(5,(Za r3)),(6,(Zk r4))],[]⟩) (fun x:Int=>Zab N a1_ r3 r4 r5 i6 x) (fun (p:(Unit) ⊕ (Bool)) e s=>match p with | (.inl p)=>e = .exit 2∧(s=⟨[(3,.loc 3 0),(5,.loc 5 0),(6,.loc 6 0),(7,ZB false r5),(8,iv i6)],[(3,(Zb7 a1_)),(5,(Za r3)),(6,(Zk r4))],[]⟩) | (.inr p)=>e = .ret∧∃ xs,resL s i4.res=some xs∧Zbb xs=bv p) ?_ N _ o1555 _ ho1555 (by show _=_;kernel_rfl)).mono ?_)
   ·clear h ho1555
    rintro i508 o s h hR
    obtain rfl:=hR
    replace h:Zab N a1_ r3 r4 r5 i6 i508=some o:=h
    unfold Zab at h
    refine sq (sq ?_)
    obtain ⟨j1013,hj,h⟩:=bs h
    refine rgR (fun s=>s=⟨[(3,.loc 3 0),(5,.loc 5 0),(6,.loc 6 0),(7,ZB false r5),(8,iv i6),(9,iv i508),(60,bv j1013)],[(3,(Zb7 a1_)),(5,(Za r3)),(6,(Zk r4))],[]⟩) ?_ ?_
    ·clear h
     obtain ⟨e1009,he1009,hj⟩:=bs hj
     refine (EP.u 3 (Zo (ys:=[ZB false r5,iv i6]) (h:=Zi ZD he1009)) (EP.u 1 (Zp (sz:=10) (off:=9) (cs:=[.sl 1 false (List.map (eSl 1 eI64) e1009.Routes)]) (r:=Zj false e1009.Routes) ZD he1009) (EP.u 0 (Zo (ys:=[Zj false e1009.Routes]) (h:=Zw (eSl 1 eI64))) ?_)))
     rcases Zx hj with ⟨hc1010,hj⟩ | ⟨hc1012,hj⟩
     ·refine (EP.u 0 (Zl (c:=(decide (i508<((List.length e1009.Routes:Nat):Int)))) (h:=hc1010)) ?_)
      obtain ⟨e1011,he1011,hj⟩:=bs hj
      obtain rfl:=Zb hj
      exact (EP.u 3 (Zo (ys:=[ZB false r5,iv i6]) (h:=Zi ZD he1011)) (EP.u 1 (Zp (sz:=10) (off:=3) (cs:=[.int .i64 e1011.Class]) (r:=iv e1011.Class) ZD he1011) (EP.f (by show _=_;kernel_rfl))))
     obtain rfl:=Zb hj
     exact (EP.u 0 (Zl (c:=(decide (i508<((List.length e1009.Routes:Nat):Int)))) (h:=hc1012)) (EP.f (by show _=_;kernel_rfl)))
    clear hj
    rintro s hR
    obtain rfl:=hR
    refine tq (it h (fun hc1014 h => ?_) (fun hc1014 h => ?_))
    ·refine sk (tq ?_)
     refine kq (sq ?_)
     refine bk (sq ?_)
     obtain ⟨e1015,he1015,h⟩:=bs h
     obtain ⟨r1016,hr1016,h⟩:=bs h
     refine rq (Zc.u 4 (Zo (ys:=[ZB false r5,iv i6]) (h:=Zi ZD he1015)) (Zc.u 0 (ZK (Zp (sz:=10) (off:=0) (cs:=[.int .i64 e1015.Id,.int .i64 e1015.Talker,.int .i64 e1015.Listener,.int .i64 e1015.Class,.int .i64 e1015.Size,.int .i64 e1015.Period,.int .i64 e1015.Bucket.Burst,.int .i64 e1015.Bucket.Rate,.int .i64 e1015.Deadline,.sl 1 false (List.map (eSl 1 eI64) e1015.Routes)]) (r:=.agg (Zf e1015)) ZD he1015)) (Zc.v 1 (Zy (hc:=ZeA N r3 r4 e1015 i508 r1016 hr1016)) Zc.f))) (tq ?_)
     refine sq ?_
     obtain ⟨e1017,he1017,h⟩:=bs h
     obtain ⟨r1018,hr1018,h⟩:=bs h
     refine rq (Zc.u 4 (Zo (ys:=[ZB false r5,iv i6]) (h:=Zi ZD he1017)) (Zc.u 0 (ZK (Zp (sz:=10) (off:=0) (cs:=[.int .i64 e1017.Id,.int .i64 e1017.Talker,.int .i64 e1017.Listener,.int .i64 e1017.Class,.int .i64 e1017.Size,.int .i64 e1017.Period,.int .i64 e1017.Bucket.Burst,.int .i64 e1017.Bucket.Rate,.int .i64 e1017.Deadline,.sl 1 false (List.map (eSl 1 eI64) e1017.Routes)]) (r:=.agg (Zf e1017)) ZD he1017)) (Zc.v 1 (Zy (hc:=Zgb N r3 r4 e1017 i508 r1018 hr1018)) Zc.f))) (tq ?_)
     refine sq (sq ?_)
     obtain ⟨j1025,hj,h⟩:=bs h
     refine rgR (fun s=>s=⟨[(3,.loc 3 0),(5,.loc 5 0),(6,.loc 6 0),(7,ZB false r5),(8,iv i6),(9,iv i508),(10,Z2 false r1016.1),(12,iv r1018.1),(104,bv j1025)],[(3,(Zb7 a1_)),(5,(Za r3)),(6,(Zk r4))],[]⟩) ?_ ?_
     ·clear h
      rcases Zx hj with ⟨hc1019,hj⟩ | ⟨hc1020,hj⟩
      ·obtain rfl:=Zb hj
       exact (EP.u 1 (Zl (c:=(r1016.2 != 0)) (h:=hc1019)) (EP.f (by show _=_;kernel_rfl)))
      refine (EP.u 1 (Zl (c:=(r1016.2 != 0)) (h:=hc1020)) ?_)
      rcases Zx hj with ⟨hc1021,hj⟩ | ⟨hc1022,hj⟩
      ·obtain rfl:=Zb hj
       exact (EP.u 2 (Zl (c:=(r1018.2 != 0)) (h:=hc1021)) (EP.f (by show _=_;kernel_rfl)))
      refine (EP.u 2 (Zl (c:=(r1018.2 != 0)) (h:=hc1022)) (EP.u 3 (Zo (ys:=[Z2 false r1016.1]) (h:=Zw ZM)) ?_))
      obtain ⟨e1023,he1023,hj⟩:=bs hj
      refine (EP.u 2 (Zo (ys:=[ZB false r5,iv i6]) (h:=Zi ZD he1023)) (EP.u 1 (Zp (sz:=10) (off:=9) (cs:=[.sl 1 false (List.map (eSl 1 eI64) e1023.Routes)]) (r:=Zj false e1023.Routes) ZD he1023) ?_))
      obtain ⟨e1024,he1024,hj⟩:=bs hj
      obtain rfl:=Zb hj
      exact (EP.u 1 (Zo (ys:=[Zj false e1023.Routes,iv i508]) (h:=Zi (eSl 1 eI64) he1024)) (EP.u 0 (Zp (sz:=1) (off:=0) (cs:=[.sl 1 false (List.map eI64 e1024)]) (r:=Zg false e1024) (eSl 1 eI64) he1024) (EP.u 0 (Zo (ys:=[Zg false e1024]) (h:=Zw eI64)) (EP.f (by show _=_;kernel_rfl)))))
     clear hj
     rintro s hR
     obtain rfl:=hR
     refine tq (it h (fun hc1026 h => ?_) (fun hc1026 h => ?_))
     ·refine sq (rg Zc.f ?_)
      refine tq (rt ?_)
      refine tr (br ?_)
      refine tr ?_
      obtain rfl:=Zb h
      exact ⟨_,rfl,rfl,ZA (by kernel_rfl)⟩
     refine sk (tq ?_)
     refine kq (sq ?_)
     refine rg Zc.f (tq ?_)
     refine bk ?_
     obtain ⟨o1552,ho1552,h⟩:=bs h
     refine Zac ((ZV (fun (x:Int) s=>s=⟨[(3,.loc 3 0),(5,.loc 5 0),(6,.loc 6 0),(7,ZB false r5),(8,iv i6),(9,iv i508),(10,Z2 false r1016.1),(12,iv r1018.1),(14,iv x)],[(3,(Zb7 a1_)),(5,(Za r3)),(6,(Zk r4))],[]⟩) (fun x:Int=>Zaa N a1_ r3 r4 r5 i6 i508 r1016 r1018 x) (fun (p:(Unit) ⊕ (Bool)) e s=>match p with | (.inl p)=>e = .exit 4∧(s=⟨[(3,.loc 3 0),(5,.loc 5 0),(6,.loc 6 0),(7,ZB false r5),(8,iv i6),(9,iv i508)],[(3,(Zb7 a1_)),(5,(Za r3)),(6,(Zk r4))],[]⟩) | (.inr p)=>e = .ret∧∃ xs,resL s i4.res=some xs∧Zbb xs=bv p) ?_ N _ o1552 _ ho1552 (by show _=_;kernel_rfl)).mono ?_)
     ·clear h ho1552
      rintro i1027 o s h hR
      obtain rfl:=hR
      replace h:Zaa N a1_ r3 r4 r5 i6 i508 r1016 r1018 i1027=some o:=h
      unfold Zaa at h
      refine sq (sq ?_)
      refine rg (Zc.u 2 (Zo (ys:=[Z2 false r1016.1]) (h:=Zw ZM)) Zc.f) (tq ?_)
      refine it h (fun hc1528 h => ?_) (fun hc1528 h => ?_)
      ·refine sk (tq ?_)
       refine kq (sq ?_)
       refine bk (sq ?_)
       obtain ⟨e1529,he1529,h⟩:=bs h
       obtain ⟨e1530,he1530,h⟩:=bs h
       refine rq (Zc.u 4 (Zo (ys:=[Z2 false r1016.1,iv i1027]) (h:=Zi ZM he1529)) (Zc.u 1 (ZK (Zp (sz:=5) (off:=0) (cs:=[.int .i64 e1529.Port]) (r:=iv e1529.Port) ZM he1529)) (Zc.u 1 (Zo (ys:=[Zd false r3.Links,iv (w64 (Int.tdiv e1529.Port 2))]) (h:=Zi Zn he1530)) (Zc.u 0 (ZK (Zp (sz:=4) (off:=0) (cs:=[.int .i64 e1530.A,.int .i64 e1530.B,.int .i64 e1530.Per,.int .i64 e1530.Delay]) (r:=.agg (Zam e1530)) Zn he1530)) Zc.f)))) (tq ?_)
       refine sq ?_
       obtain ⟨e1531,he1531,h⟩:=bs h
       refine rq (Zc.u 5 (Zo (ys:=[.loc 3 0,iv (Int.tmod i1027 9)]) (h:=Zfv (l:=a1_.l) he1531 rfl)) (Zc.o 0 (Zhd (t:=3) (off:=0) (cs:=(Zb7 a1_)) (l:=a1_.l) (fun x=>.p (.int .i8 x)) [] [] he1531 (by kernel_rfl) (by kernel_rfl) rfl rfl) Zc.f)) (tq ?_)
       refine sq ?_
       obtain ⟨e1532,he1532,h⟩:=bs h
       obtain ⟨e1533,he1533,h⟩:=bs h
       refine rq (Zc.u 2 (Zo (ys:=[Z2 false r1016.1,iv i1027]) (h:=Zi ZM he1532)) (Zc.u 1 (ZK (Zp (sz:=5) (off:=3) (cs:=[.int .i64 e1532.Open]) (r:=iv e1532.Open) ZM he1532)) (Zc.u 4 (Zo (ys:=[ZB false r5,iv i6]) (h:=Zi ZD he1533)) (Zc.u 1 (ZK (Zp (sz:=10) (off:=4) (cs:=[.int .i64 e1533.Size]) (r:=iv e1533.Size) ZD he1533)) Zc.f)))) (tq ?_)
       refine sq (sq ?_)
       obtain ⟨j1542,hj,h⟩:=bs h
       refine rqR (fun s=>s=⟨[(3,.loc 3 0),(5,.loc 5 0),(6,.loc 6 0),(7,ZB false r5),(8,iv i6),(9,iv i508),(10,Z2 false r1016.1),(12,iv r1018.1),(14,iv i1027),(17,iv (w64 ((w64 ((w64 ((w64 (e1532.Open - (if (if r4.Slack<(w64 (e1531)) then r4.Slack else (w64 (e1531))) > (w64 (0 - r4.Slack)) then (if r4.Slack<(w64 (e1531)) then r4.Slack else (w64 (e1531))) else (w64 (0 - r4.Slack)))))+(w64 (e1533.Size * e1530.Per))))+e1530.Delay))+r4.Proc))),(185,bv j1542)],[(3,(Zb7 a1_)),(5,(Za r3)),(6,(Zk r4))],[]⟩) ?_ ?_
       ·clear h
        obtain ⟨e1534,he1534,hj⟩:=bs hj
        refine (EP.u 2 (Zo (ys:=[Z2 false r1016.1,iv i1027]) (h:=Zi ZM he1534)) (EP.u 1 (ZK (Zp (sz:=5) (off:=0) (cs:=[.int .i64 e1534.Port]) (r:=iv e1534.Port) ZM he1534)) ?_))
        obtain ⟨e1535,he1535,hj⟩:=bs hj
        refine (EP.u 2 (Zo (ys:=[ZB false r5,iv i6]) (h:=Zi ZD he1535)) (EP.u 1 (ZK (Zp (sz:=10) (off:=9) (cs:=[.sl 1 false (List.map (eSl 1 eI64) e1535.Routes)]) (r:=Zj false e1535.Routes) ZD he1535)) ?_))
        obtain ⟨e1536,he1536,hj⟩:=bs hj
        refine (EP.u 1 (Zo (ys:=[Zj false e1535.Routes,iv i508]) (h:=Zi (eSl 1 eI64) he1536)) (EP.u 0 (ZK (Zp (sz:=1) (off:=0) (cs:=[.sl 1 false (List.map eI64 e1536)]) (r:=Zg false e1536) (eSl 1 eI64) he1536)) ?_))
        obtain ⟨e1537,he1537,hj⟩:=bs hj
        refine (EP.u 1 (Zo (ys:=[Zg false e1536,iv i1027]) (h:=Zi eI64 he1537)) (EP.u 0 (ZK (Zp (sz:=1) (off:=0) (cs:=[.int .i64 e1537]) (r:=iv e1537) eI64 he1537)) ?_))
        rcases Zx hj with ⟨hc1538,hj⟩ | ⟨hc1539,hj⟩
        ·obtain rfl:=Zb hj
         exact (EP.u 0 (Zl (c:=(e1534.Port != e1537)) (h:=hc1538)) (EP.f (by show _=_;kernel_rfl)))
        refine (EP.u 0 (Zl (c:=(e1534.Port != e1537)) (h:=hc1539)) (EP.u 3 (Zo (ys:=[Z2 false r1016.1]) (h:=Zw ZM)) ?_))
        rcases Zx hj with ⟨hc1540,hj⟩ | ⟨hc1541,hj⟩
        ·obtain rfl:=Zb hj
         exact (EP.u 1 (Zl (c:=(i1027==(w64 (((List.length r1016.1:Nat):Int) - 1)))) (h:=hc1540)) (EP.f (by show _=_;kernel_rfl)))
        obtain rfl:=Zb hj
        exact (EP.u 1 (Zl (c:=(i1027==(w64 (((List.length r1016.1:Nat):Int) - 1)))) (h:=hc1541)) (EP.f (by show _=_;kernel_rfl)))
       clear hj
       rintro s hR
       obtain rfl:=hR
       refine tq (it h (fun hc1543 h => ?_) (fun hc1543 h => ?_))
       ·refine sq (rg Zc.f ?_)
        refine tq (rt ?_)
        refine tr (br ?_)
        refine tr ?_
        obtain rfl:=Zb h
        exact ⟨_,rfl,rfl,ZA (by kernel_rfl)⟩
       refine sk (tq ?_)
       refine kq (sq ?_)
       refine rg (Zc.u 3 (Zo (ys:=[Z2 false r1016.1]) (h:=Zw ZM)) Zc.f) (tq ?_)
       refine it h (fun hc1544 h => ?_) (fun hc1544 h => ?_)
       ·refine sq ?_
        obtain ⟨e1545,he1545,h⟩:=bs h
        refine rg (Zc.u 3 (Zo (ys:=[Z2 false r1016.1,iv (w64 (i1027+1))]) (h:=Zi ZM he1545)) (Zc.u 0 (Zp (sz:=5) (off:=0) (cs:=[.int .i64 e1545.Port,.int .i64 e1545.Early,.int .i64 e1545.Late,.int .i64 e1545.Open,.int .i64 e1545.Long]) (r:=.agg (Zbt e1545)) ZM he1545) Zc.f)) (tq ?_)
        refine sq ?_
        obtain ⟨e1546,he1546,h⟩:=bs h
        refine rq (Zc.u 7 (Zo (ys:=[.loc 3 0,iv (Int.tmod (w64 (i1027+1)) 9)]) (h:=Zfv (l:=a1_.l) he1546 rfl)) (Zc.o 0 (Zhd (t:=3) (off:=0) (cs:=(Zb7 a1_)) (l:=a1_.l) (fun x=>.p (.int .i8 x)) [] [] he1546 (by kernel_rfl) (by kernel_rfl) rfl rfl) Zc.f)) (tq ?_)
        refine sq (rgX ⟨[(3,.loc 3 0),(5,.loc 5 0),(6,.loc 6 0),(7,ZB false r5),(8,iv i6),(9,iv i508),(10,Z2 false r1016.1),(12,iv r1018.1),(14,iv i1027),(227,bv ((decide ((w64 ((w64 ((w64 ((w64 ((w64 (e1532.Open - (if (if r4.Slack<(w64 (e1531)) then r4.Slack else (w64 (e1531))) > (w64 (0 - r4.Slack)) then (if r4.Slack<(w64 (e1531)) then r4.Slack else (w64 (e1531))) else (w64 (0 - r4.Slack)))))+(w64 (e1533.Size * e1530.Per))))+e1530.Delay))+r4.Proc))+(if (if r4.Slack<(w64 (e1546)) then r4.Slack else (w64 (e1546))) > (w64 (0 - r4.Slack)) then (if r4.Slack<(w64 (e1546)) then r4.Slack else (w64 (e1546))) else (w64 (0 - r4.Slack)))))<e1545.Early))||((decide ((w64 ((w64 ((w64 ((w64 ((w64 (e1532.Open - (if (if r4.Slack<(w64 (e1531)) then r4.Slack else (w64 (e1531))) > (w64 (0 - r4.Slack)) then (if r4.Slack<(w64 (e1531)) then r4.Slack else (w64 (e1531))) else (w64 (0 - r4.Slack)))))+(w64 (e1533.Size * e1530.Per))))+e1530.Delay))+r4.Proc))+(if (if r4.Slack<(w64 (e1546)) then r4.Slack else (w64 (e1546))) > (w64 (0 - r4.Slack)) then (if r4.Slack<(w64 (e1546)) then r4.Slack else (w64 (e1546))) else (w64 (0 - r4.Slack))))) > e1545.Late))||(decide (e1545.Late > e1545.Open)))))],[(3,(Zb7 a1_)),(5,(Za r3)),(6,(Zk r4))],[]⟩ ?_ ?_)
        ·rcases Bool.eq_false_or_eq_true (decide ((w64 ((w64 ((w64 ((w64 ((w64 (e1532.Open - (if (if r4.Slack<(w64 (e1531)) then r4.Slack else (w64 (e1531))) > (w64 (0 - r4.Slack)) then (if r4.Slack<(w64 (e1531)) then r4.Slack else (w64 (e1531))) else (w64 (0 - r4.Slack)))))+(w64 (e1533.Size * e1530.Per))))+e1530.Delay))+r4.Proc))+(if (if r4.Slack<(w64 (e1546)) then r4.Slack else (w64 (e1546))) > (w64 (0 - r4.Slack)) then (if r4.Slack<(w64 (e1546)) then r4.Slack else (w64 (e1546))) else (w64 (0 - r4.Slack)))))<e1545.Early)) with hc1547 | hc1548
         ·exact (EP.u 3 (Zl (c:=(decide ((w64 ((w64 ((w64 ((w64 ((w64 (e1532.Open - (if (if r4.Slack<(w64 (e1531)) then r4.Slack else (w64 (e1531))) > (w64 (0 - r4.Slack)) then (if r4.Slack<(w64 (e1531)) then r4.Slack else (w64 (e1531))) else (w64 (0 - r4.Slack)))))+(w64 (e1533.Size * e1530.Per))))+e1530.Delay))+r4.Proc))+(if (if r4.Slack<(w64 (e1546)) then r4.Slack else (w64 (e1546))) > (w64 (0 - r4.Slack)) then (if r4.Slack<(w64 (e1546)) then r4.Slack else (w64 (e1546))) else (w64 (0 - r4.Slack)))))<e1545.Early))) (h:=hc1547)) (EP.f (by simp only [hc1547];kernel_rfl)))
         refine (EP.u 3 (Zl (c:=(decide ((w64 ((w64 ((w64 ((w64 ((w64 (e1532.Open - (if (if r4.Slack<(w64 (e1531)) then r4.Slack else (w64 (e1531))) > (w64 (0 - r4.Slack)) then (if r4.Slack<(w64 (e1531)) then r4.Slack else (w64 (e1531))) else (w64 (0 - r4.Slack)))))+(w64 (e1533.Size * e1530.Per))))+e1530.Delay))+r4.Proc))+(if (if r4.Slack<(w64 (e1546)) then r4.Slack else (w64 (e1546))) > (w64 (0 - r4.Slack)) then (if r4.Slack<(w64 (e1546)) then r4.Slack else (w64 (e1546))) else (w64 (0 - r4.Slack)))))<e1545.Early))) (h:=hc1548)) ?_)
         rcases Bool.eq_false_or_eq_true (decide ((w64 ((w64 ((w64 ((w64 ((w64 (e1532.Open - (if (if r4.Slack<(w64 (e1531)) then r4.Slack else (w64 (e1531))) > (w64 (0 - r4.Slack)) then (if r4.Slack<(w64 (e1531)) then r4.Slack else (w64 (e1531))) else (w64 (0 - r4.Slack)))))+(w64 (e1533.Size * e1530.Per))))+e1530.Delay))+r4.Proc))+(if (if r4.Slack<(w64 (e1546)) then r4.Slack else (w64 (e1546))) > (w64 (0 - r4.Slack)) then (if r4.Slack<(w64 (e1546)) then r4.Slack else (w64 (e1546))) else (w64 (0 - r4.Slack))))) > e1545.Late)) with hc1549 | hc1550
         ·exact (EP.u 4 (Zl (c:=(decide ((w64 ((w64 ((w64 ((w64 ((w64 (e1532.Open - (if (if r4.Slack<(w64 (e1531)) then r4.Slack else (w64 (e1531))) > (w64 (0 - r4.Slack)) then (if r4.Slack<(w64 (e1531)) then r4.Slack else (w64 (e1531))) else (w64 (0 - r4.Slack)))))+(w64 (e1533.Size * e1530.Per))))+e1530.Delay))+r4.Proc))+(if (if r4.Slack<(w64 (e1546)) then r4.Slack else (w64 (e1546))) > (w64 (0 - r4.Slack)) then (if r4.Slack<(w64 (e1546)) then r4.Slack else (w64 (e1546))) else (w64 (0 - r4.Slack))))) > e1545.Late))) (h:=hc1549)) (EP.f (by simp only [hc1548,hc1549];kernel_rfl)))
         exact (EP.u 4 (Zl (c:=(decide ((w64 ((w64 ((w64 ((w64 ((w64 (e1532.Open - (if (if r4.Slack<(w64 (e1531)) then r4.Slack else (w64 (e1531))) > (w64 (0 - r4.Slack)) then (if r4.Slack<(w64 (e1531)) then r4.Slack else (w64 (e1531))) else (w64 (0 - r4.Slack)))))+(w64 (e1533.Size * e1530.Per))))+e1530.Delay))+r4.Proc))+(if (if r4.Slack<(w64 (e1546)) then r4.Slack else (w64 (e1546))) > (w64 (0 - r4.Slack)) then (if r4.Slack<(w64 (e1546)) then r4.Slack else (w64 (e1546))) else (w64 (0 - r4.Slack))))) > e1545.Late))) (h:=hc1550)) (EP.f (by simp only [hc1548,hc1550];kernel_rfl)))
        refine tq (it h (fun hc1551 h => ?_) (fun hc1551 h => ?_))
        ·refine sq (rg Zc.f ?_)
         refine tq (rt ?_)
         refine br (tr ?_)
         obtain rfl:=Zb h
         exact ⟨_,rfl,rfl,ZA (by kernel_rfl)⟩
        refine sk (bn ?_)
        refine tq (kq ?_)
        refine rg Zc.f ?_
        obtain rfl:=Zb h
        exact ⟨_,rfl,(by show _=_;kernel_rfl)⟩
       refine sk (bn ?_)
       refine tq (kq ?_)
       refine rg Zc.f ?_
       obtain rfl:=Zb h
       exact ⟨_,rfl,(by show _=_;kernel_rfl)⟩
      refine kq (xq ?_)
      refine tx ?_
      obtain rfl:=Zb h
      exact ⟨_,rfl,rfl,(by show _=_;kernel_rfl)⟩
     rintro e s hq
     rcases o1552 with p1553 | p1554
     ·dsimp only at h hq
      obtain ⟨rfl,hR⟩:=hq
      obtain rfl:=hR
      refine bx (bn ?_)
      refine tq (kq ?_)
      refine rg Zc.f ?_
      obtain rfl:=Zb h
      exact ⟨_,rfl,(by show _=_;kernel_rfl)⟩
     dsimp only at h hq
     obtain ⟨rfl,hq⟩:=hq
     refine br (br ?_)
     refine tr ?_
     obtain rfl:=Zb h
     exact ⟨_,rfl,rfl,hq⟩
    refine kq (xq ?_)
    refine tx ?_
    obtain rfl:=Zb h
    exact ⟨_,rfl,rfl,(by show _=_;kernel_rfl)⟩
   rintro e s hq
   rcases o1555 with p1556 | p1557
   ·dsimp only at h hq
    obtain ⟨rfl,hR⟩:=hq
    obtain rfl:=hR
    refine bx (bn ?_)
    refine tq (rg Zc.f ?_)
    obtain rfl:=Zb h
    exact ⟨_,rfl,(by show _=_;kernel_rfl)⟩
   dsimp only at h hq
   obtain ⟨rfl,hq⟩:=hq
   refine br (br ?_)
   refine tr ?_
   obtain rfl:=Zb h
   exact ⟨_,rfl,rfl,hq⟩
  refine kq (xq ?_)
  refine tx ?_
  obtain rfl:=Zb h
  exact ⟨_,rfl,rfl,(by show _=_;kernel_rfl)⟩
 rintro e s hq
 rcases o1558 with p1559 | p1560
 ·dsimp only at h hq
  obtain ⟨rfl,hR⟩:=hq
  obtain rfl:=hR
  refine bx (tq ?_)
  refine sq (rg Zc.f ?_)
  refine tq (rt ?_)
  obtain rfl:=Zb h
  exact ZA (by kernel_rfl)
 dsimp only at h hq
 obtain ⟨rfl,hq⟩:=hq
 refine br (tr ?_)
 obtain rfl:=Zb h
 exact hq
end Go.Sh

