/- Part of the proof; written by a program out of the texts in wip/. -/
import Derived.Test.YtmplmekdilmdgaaStreamGridsOk3
namespace Go.Sh
open Go Go.Eng Go.Proofs
set_option linter.unusedVariables false
set_option linter.unusedSimpArgs false
set_option maxRecDepth 100000
set_option maxHeartbeats 4000000
attribute [local irreducible] vc ev keepS opsD opsF dropX upd updH updO
theorem law22_StreamGrids_ok (N:Nat) (a0_:law22_Case) (r:Bool) (h:law22_StreamGrids N a0_=some r):PCall Try.prog 5 [.agg (c_law22_Case a0_)] (bv r):=by
 unfold law22_StreamGrids at h
 have hH:HP ([]:List HO) []:=trivial
 refine pcall_of chk5 rfl rfl (vc_sound _ _ _ ?_) rfl
 refine sq (rg APath.f ?_)
 refine tq (sq ?_)
 refine sq ?_
 obtain ⟨r1,hr1,h⟩:=bs h
 refine rg (APath.v 0 (st_call (by kernel_rfl) (law22_works_ok N  r1 hr1)) APath.f) (tq ?_)
 refine it h (fun hc2 h => ?_) (fun hc2 h => ?_)
 ·refine sq (rg APath.f ?_)
  refine tq (rt ?_)
  refine tr ?_
  obtain rfl:=some_inj h
  exact ret_of (by kernel_rfl)
 refine sk (tq ?_)
 refine kq (sq ?_)
 obtain ⟨r3,hr3,h⟩:=bs h
 refine rg (APath.v 2 (st_call (by kernel_rfl) (ref16_Draft_Topo_ok N a0_.T r3 hr3)) APath.f) (tq ?_)
 refine sq ?_
 obtain ⟨r4,hr4,h⟩:=bs h
 refine rg (APath.v 9 (st_call (by kernel_rfl) (ref22_SetupOf_ok N a0_.U.x0 a0_.U.x1 a0_.U.x2 r4 hr4)) APath.f) (tq ?_)
 refine sq ?_
 obtain ⟨r5,hr5,h⟩:=bs h
 refine rg (APath.v 3 (st_call (by kernel_rfl) (ref22_Streams_ok N r3 a0_.L r5 hr5)) APath.f) (tq ?_)
 refine sq (sq ?_)
 refine rg APath.f (tq ?_)
 refine bk ?_
 obtain ⟨o1554,ho1554,h⟩:=bs h
 refine vc_loop ((loop_sim (fun (x:Int) s=>s=⟨[(3,.loc 3 0),(4,.loc 4 0),(5,s_e_api_Stream false r5),(6,iv x)],[(3,(c_api_Topo r3)),(4,(c_api_Setup r4))],[]⟩) (fun x:Int=>law22_StreamGrids_L1 N r3 r4 r5 x) (fun (p:(Unit) ⊕ (Bool)) e s=>match p with | (.inl p)=>e = .exit 0∧(s=⟨[(3,.loc 3 0),(5,s_e_api_Stream false r5)],[(3,(c_api_Topo r3))],[]⟩) | (.inr p)=>e = .ret∧∃ xs,resL s i5.res=some xs∧tupOf xs=bv p) ?_ N _ o1554 _ ho1554 (by show _=_; kernel_rfl)).mono ?_)
 ·clear h ho1554
  rintro i6 o s h hR
  obtain rfl:=hR
  replace h:law22_StreamGrids_L1 N r3 r4 r5 i6=some o:=h
  unfold law22_StreamGrids_L1 at h
  refine sq (sq ?_)
  refine rg (APath.u 2 (st_val (ys:=[s_e_api_Stream false r5]) (by kernel_rfl) (vexec_len e_api_Stream)) APath.f) (tq ?_)
  refine it h (fun hc507 h => ?_) (fun hc507 h => ?_)
  ·refine sk (tq ?_)
   refine kq (sq ?_)
   refine bk (sq ?_)
   refine sq ?_
   obtain ⟨e508,he508,h⟩:=bs h
   obtain ⟨r509,hr509,h⟩:=bs h
   refine rq (APath.u 3 (st_val (ys:=[s_e_api_Stream false r5,iv i6]) (by kernel_rfl) (vexec_iaddrS e_api_Stream he508)) (APath.u 0 (st_toLH (st_loadP (sz:=10) (off:=0) (cs:=[.int .i64 e508.Id,.int .i64 e508.Talker,.int .i64 e508.Listener,.int .i64 e508.Class,.int .i64 e508.Size,.int .i64 e508.Period,.int .i64 e508.Bucket.Burst,.int .i64 e508.Bucket.Rate,.int .i64 e508.Deadline,.sl 1 false (List.map (eSl 1 eI64) e508.Routes)]) (r:=.agg (c_api_Stream e508)) e_api_Stream he508 (by kernel_rfl) (by kernel_rfl) (by kernel_rfl)) (by kernel_rfl)) (APath.v 0 (st_call (by kernel_rfl) (stream_Check_ok N r3 e508 r509 hr509)) APath.f))) (tq ?_)
   refine it h (fun hc510 h => ?_) (fun hc510 h => ?_)
   ·refine sq (rg APath.f ?_)
    refine tq (rt ?_)
    refine tr (br ?_)
    refine tr ?_
    obtain rfl:=some_inj h
    exact ⟨_,rfl,rfl,ret_of (by kernel_rfl)⟩
   refine sk (tq ?_)
   refine kq (sq ?_)
   refine rg APath.f (tq ?_)
   refine bk ?_
   obtain ⟨o1551,ho1551,h⟩:=bs h
   refine vc_loop ((loop_sim (fun (x:Int) s=>s=⟨[(3,.loc 3 0),(4,.loc 4 0),(5,s_e_api_Stream false r5),(6,iv i6),(7,iv x)],[(3,(c_api_Topo r3)),(4,(c_api_Setup r4))],[]⟩) (fun x:Int=>law22_StreamGrids_L2 N r3 r4 r5 i6 x) (fun (p:(Unit) ⊕ (Bool)) e s=>match p with | (.inl p)=>e = .exit 2∧(s=⟨[(3,.loc 3 0),(4,.loc 4 0),(5,s_e_api_Stream false r5),(6,iv i6)],[(3,(c_api_Topo r3)),(4,(c_api_Setup r4))],[]⟩) | (.inr p)=>e = .ret∧∃ xs,resL s i5.res=some xs∧tupOf xs=bv p) ?_ N _ o1551 _ ho1551 (by show _=_; kernel_rfl)).mono ?_)
   ·clear h ho1551
    rintro i511 o s h hR
    obtain rfl:=hR
    replace h:law22_StreamGrids_L2 N r3 r4 r5 i6 i511=some o:=h
    unfold law22_StreamGrids_L2 at h
    refine sq (sq ?_)
    obtain ⟨j1016,hj,h⟩:=bs h
    refine rgR (fun s=>s=⟨[(3,.loc 3 0),(4,.loc 4 0),(5,s_e_api_Stream false r5),(6,iv i6),(7,iv i511),(59,bv j1016)],[(3,(c_api_Topo r3)),(4,(c_api_Setup r4))],[]⟩) ?_ ?_
    ·clear h
     obtain ⟨e1012,he1012,hj⟩:=bs hj
     refine (EP.u 3 (st_val (ys:=[s_e_api_Stream false r5,iv i6]) (by kernel_rfl) (vexec_iaddrS e_api_Stream he1012)) (EP.u 1 (st_loadP (sz:=10) (off:=9) (cs:=[.sl 1 false (List.map (eSl 1 eI64) e1012.Routes)]) (r:=s_eSl_1_eI64 false e1012.Routes) e_api_Stream he1012 (by kernel_rfl) (by kernel_rfl) (by kernel_rfl)) (EP.u 0 (st_val (ys:=[s_eSl_1_eI64 false e1012.Routes]) (by kernel_rfl) (vexec_len (eSl 1 eI64))) ?_)))
     rcases ite_some hj with ⟨hc1013,hj⟩ | ⟨hc1015,hj⟩
     ·refine (EP.u 0 (st_bool (c:=(decide (i511 < ((List.length e1012.Routes:Nat):Int)))) (by kernel_rfl) hc1013) ?_)
      obtain ⟨e1014,he1014,hj⟩:=bs hj
      obtain rfl:=some_inj hj
      exact (EP.u 3 (st_val (ys:=[s_e_api_Stream false r5,iv i6]) (by kernel_rfl) (vexec_iaddrS e_api_Stream he1014)) (EP.u 1 (st_loadP (sz:=10) (off:=3) (cs:=[.int .i64 e1014.Class]) (r:=iv e1014.Class) e_api_Stream he1014 (by kernel_rfl) (by kernel_rfl) (by kernel_rfl)) (EP.f (by show _=_; kernel_rfl))))
     obtain rfl:=some_inj hj
     exact (EP.u 0 (st_bool (c:=(decide (i511 < ((List.length e1012.Routes:Nat):Int)))) (by kernel_rfl) hc1015) (EP.f (by show _=_; kernel_rfl)))
    clear hj
    rintro s hR
    obtain rfl:=hR
    refine tq (it h (fun hc1017 h => ?_) (fun hc1017 h => ?_))
    ·refine sk (tq ?_)
     refine kq (sq ?_)
     refine bk (sq ?_)
     obtain ⟨e1018,he1018,h⟩:=bs h
     obtain ⟨r1019,hr1019,h⟩:=bs h
     refine rq (APath.u 4 (st_val (ys:=[s_e_api_Stream false r5,iv i6]) (by kernel_rfl) (vexec_iaddrS e_api_Stream he1018)) (APath.u 0 (st_toLH (st_loadP (sz:=10) (off:=0) (cs:=[.int .i64 e1018.Id,.int .i64 e1018.Talker,.int .i64 e1018.Listener,.int .i64 e1018.Class,.int .i64 e1018.Size,.int .i64 e1018.Period,.int .i64 e1018.Bucket.Burst,.int .i64 e1018.Bucket.Rate,.int .i64 e1018.Deadline,.sl 1 false (List.map (eSl 1 eI64) e1018.Routes)]) (r:=.agg (c_api_Stream e1018)) e_api_Stream he1018 (by kernel_rfl) (by kernel_rfl) (by kernel_rfl)) (by kernel_rfl)) (APath.v 1 (st_call (by kernel_rfl) (stream_Hops_ok N r3 r4 e1018 i511 r1019 hr1019)) APath.f))) (tq ?_)
     refine sq (sq ?_)
     obtain ⟨j1031,hj,h⟩:=bs h
     refine rgR (fun s=>s=⟨[(3,.loc 3 0),(4,.loc 4 0),(5,s_e_api_Stream false r5),(6,iv i6),(7,iv i511),(8,s_e_api_Hop false r1019.1),(100,bv j1031)],[(3,(c_api_Topo r3)),(4,(c_api_Setup r4))],[]⟩) ?_ ?_
     ·clear h
      rcases ite_some hj with ⟨hc1020,hj⟩ | ⟨hc1021,hj⟩
      ·obtain rfl:=some_inj hj
       exact (EP.u 1 (st_bool (c:=(r1019.2 != 0)) (by kernel_rfl) hc1020) (EP.f (by show _=_; kernel_rfl)))
      refine (EP.u 1 (st_bool (c:=(r1019.2 != 0)) (by kernel_rfl) hc1021) (EP.u 2 (st_val (ys:=[s_e_api_Hop false r1019.1]) (by kernel_rfl) (vexec_len e_api_Hop)) ?_))
      rcases ite_some hj with ⟨hc1022,hj⟩ | ⟨hc1023,hj⟩
      ·obtain rfl:=some_inj hj
       exact (EP.u 0 (st_bool (c:=(((List.length r1019.1:Nat):Int) == 0)) (by kernel_rfl) hc1022) (EP.f (by show _=_; kernel_rfl)))
      refine (EP.u 0 (st_bool (c:=(((List.length r1019.1:Nat):Int) == 0)) (by kernel_rfl) hc1023) ?_)
      obtain ⟨e1024,he1024,hj⟩:=bs hj
      refine (EP.u 3 (st_val (ys:=[s_e_api_Hop false r1019.1,iv 0]) (by kernel_rfl) (vexec_iaddrS e_api_Hop he1024)) (EP.u 1 (st_loadP (sz:=5) (off:=1) (cs:=[.int .i64 e1024.Early]) (r:=iv e1024.Early) e_api_Hop he1024 (by kernel_rfl) (by kernel_rfl) (by kernel_rfl)) ?_))
      rcases ite_some hj with ⟨hc1025,hj⟩ | ⟨hc1026,hj⟩
      ·obtain rfl:=some_inj hj
       exact (EP.u 0 (st_bool (c:=(e1024.Early != 0)) (by kernel_rfl) hc1025) (EP.f (by show _=_; kernel_rfl)))
      refine (EP.u 0 (st_bool (c:=(e1024.Early != 0)) (by kernel_rfl) hc1026) ?_)
      obtain ⟨e1027,he1027,hj⟩:=bs hj
      refine (EP.u 3 (st_val (ys:=[s_e_api_Hop false r1019.1,iv 0]) (by kernel_rfl) (vexec_iaddrS e_api_Hop he1027)) (EP.u 1 (st_loadP (sz:=5) (off:=2) (cs:=[.int .i64 e1027.Late]) (r:=iv e1027.Late) e_api_Hop he1027 (by kernel_rfl) (by kernel_rfl) (by kernel_rfl)) ?_))
      rcases ite_some hj with ⟨hc1028,hj⟩ | ⟨hc1029,hj⟩
      ·obtain rfl:=some_inj hj
       exact (EP.u 0 (st_bool (c:=(e1027.Late != 0)) (by kernel_rfl) hc1028) (EP.f (by show _=_; kernel_rfl)))
      refine (EP.u 0 (st_bool (c:=(e1027.Late != 0)) (by kernel_rfl) hc1029) ?_)
      obtain ⟨e1030,he1030,hj⟩:=bs hj
      obtain rfl:=some_inj hj
      exact (EP.u 3 (st_val (ys:=[s_e_api_Hop false r1019.1,iv 0]) (by kernel_rfl) (vexec_iaddrS e_api_Hop he1030)) (EP.u 1 (st_loadP (sz:=5) (off:=3) (cs:=[.int .i64 e1030.Open]) (r:=iv e1030.Open) e_api_Hop he1030 (by kernel_rfl) (by kernel_rfl) (by kernel_rfl)) (EP.f (by show _=_; kernel_rfl))))
     clear hj
     rintro s hR
     obtain rfl:=hR
     refine tq (it h (fun hc1032 h => ?_) (fun hc1032 h => ?_))
     ·refine sq (rg APath.f ?_)
      refine tq (rt ?_)
      refine tr (br ?_)
      refine tr ?_
      obtain rfl:=some_inj h
      exact ⟨_,rfl,rfl,ret_of (by kernel_rfl)⟩
     refine sk (tq ?_)
     refine kq (sq ?_)
     refine rg APath.f (tq ?_)
     refine bk ?_
     obtain ⟨o1548,ho1548,h⟩:=bs h
     refine vc_loop ((loop_sim (fun (x:Int) s=>s=⟨[(3,.loc 3 0),(4,.loc 4 0),(5,s_e_api_Stream false r5),(6,iv i6),(7,iv i511),(8,s_e_api_Hop false r1019.1),(10,iv x)],[(3,(c_api_Topo r3)),(4,(c_api_Setup r4))],[]⟩) (fun x:Int=>law22_StreamGrids_L3 N r4 r1019 x) (fun (p:(Unit) ⊕ (Bool)) e s=>match p with | (.inl p)=>e = .exit 4∧(s=⟨[(3,.loc 3 0),(4,.loc 4 0),(5,s_e_api_Stream false r5),(6,iv i6),(7,iv i511)],[(3,(c_api_Topo r3)),(4,(c_api_Setup r4))],[]⟩) | (.inr p)=>e = .ret∧∃ xs,resL s i5.res=some xs∧tupOf xs=bv p) ?_ N _ o1548 _ ho1548 (by show _=_; kernel_rfl)).mono ?_)
     ·clear h ho1548
      rintro i1033 o s h hR
      obtain rfl:=hR
      replace h:law22_StreamGrids_L3 N r4 r1019 i1033=some o:=h
      unfold law22_StreamGrids_L3 at h
      refine sq (sq ?_)
      refine rg (APath.u 2 (st_val (ys:=[s_e_api_Hop false r1019.1]) (by kernel_rfl) (vexec_len e_api_Hop)) APath.f) (tq ?_)
      refine it h (fun hc1534 h => ?_) (fun hc1534 h => ?_)
      ·refine sk (tq ?_)
       refine kq (sq ?_)
       refine bk (sq ?_)
       obtain ⟨e1535,he1535,h⟩:=bs h
       refine rg (APath.u 2 (st_val (ys:=[s_e_api_Hop false r1019.1,iv i1033]) (by kernel_rfl) (vexec_iaddrS e_api_Hop he1535)) (APath.u 0 (st_loadP (sz:=5) (off:=0) (cs:=[.int .i64 e1535.Port,.int .i64 e1535.Early,.int .i64 e1535.Late,.int .i64 e1535.Open,.int .i64 e1535.Long]) (r:=.agg (c_api_Hop e1535)) e_api_Hop he1535 (by kernel_rfl) (by kernel_rfl) (by kernel_rfl)) APath.f)) (tq ?_)
       refine sq ?_
       obtain ⟨j1546,hj,h⟩:=bs h
       refine rqR (fun s=>s=⟨[(3,.loc 3 0),(4,.loc 4 0),(5,s_e_api_Stream false r5),(6,iv i6),(7,iv i511),(8,s_e_api_Hop false r1019.1),(10,iv i1033),(155,bv j1546)],[(3,(c_api_Topo r3)),(4,(c_api_Setup r4))],[]⟩) ?_ ?_
       ·clear h
        rcases ite_some hj with ⟨hc1536,hj⟩ | ⟨hc1537,hj⟩
        ·obtain rfl:=some_inj hj
         exact (EP.u 8 (st_bool (c:=((w64 (e1535.Late - e1535.Early)) != (w64 (4 * r4.Slack)))) (by kernel_rfl) hc1536) (EP.f (by show _=_; kernel_rfl)))
        refine (EP.u 8 (st_bool (c:=((w64 (e1535.Late - e1535.Early)) != (w64 (4 * r4.Slack)))) (by kernel_rfl) hc1537) ?_)
        obtain ⟨m1538,hm1538,hj⟩:=bs hj
        refine (EP.u 5 (st_val (ys:=[iv e1535.Open,iv r4.Grid]) (by kernel_rfl) (vexec_rem hm1538)) ?_)
        rcases ite_some hj with ⟨hc1539,hj⟩ | ⟨hc1540,hj⟩
        ·obtain rfl:=some_inj hj
         exact (EP.u 0 (st_bool (c:=(m1538 != 0)) (by kernel_rfl) hc1539) (EP.f (by show _=_; kernel_rfl)))
        refine (EP.u 0 (st_bool (c:=(m1538 != 0)) (by kernel_rfl) hc1540) ?_)
        rcases ite_some hj with ⟨hc1541,hj⟩ | ⟨hc1542,hj⟩
        ·obtain rfl:=some_inj hj
         exact (EP.u 6 (st_bool (c:=(decide (e1535.Open < e1535.Late))) (by kernel_rfl) hc1541) (EP.f (by show _=_; kernel_rfl)))
        refine (EP.u 6 (st_bool (c:=(decide (e1535.Open < e1535.Late))) (by kernel_rfl) hc1542) ?_)
        rcases ite_some hj with ⟨hc1543,hj⟩ | ⟨hc1544,hj⟩
        ·obtain rfl:=some_inj hj
         exact (EP.u 9 (st_bool (c:=(decide ((w64 (e1535.Open - r4.Grid)) ≥ e1535.Late))) (by kernel_rfl) hc1543) (EP.f (by show _=_; kernel_rfl)))
        refine (EP.u 9 (st_bool (c:=(decide ((w64 (e1535.Open - r4.Grid)) ≥ e1535.Late))) (by kernel_rfl) hc1544) ?_)
        obtain ⟨e1545,he1545,hj⟩:=bs hj
        obtain rfl:=some_inj hj
        exact (EP.u 7 (st_val (ys:=[s_e_api_Hop false r1019.1,iv (w64 (i1033 - 1))]) (by kernel_rfl) (vexec_iaddrS e_api_Hop he1545)) (EP.u 1 (st_toLH (st_loadP (sz:=5) (off:=3) (cs:=[.int .i64 e1545.Open]) (r:=iv e1545.Open) e_api_Hop he1545 (by kernel_rfl) (by kernel_rfl) (by kernel_rfl)) (by kernel_rfl)) (EP.f (by show _=_; kernel_rfl))))
       clear hj
       rintro s hR
       obtain rfl:=hR
       refine tq (it h (fun hc1547 h => ?_) (fun hc1547 h => ?_))
       ·refine sq (rg APath.f ?_)
        refine tq (rt ?_)
        refine br (tr ?_)
        obtain rfl:=some_inj h
        exact ⟨_,rfl,rfl,ret_of (by kernel_rfl)⟩
       refine sk (bn ?_)
       refine tq (kq ?_)
       refine rg APath.f ?_
       obtain rfl:=some_inj h
       exact ⟨_,rfl,(by show _=_; kernel_rfl)⟩
      refine kq (xq ?_)
      refine tx ?_
      obtain rfl:=some_inj h
      exact ⟨_,rfl,rfl,(by show _=_; kernel_rfl)⟩
     rintro e s hq
     rcases o1548 with p1549 | p1550
     ·dsimp only at h hq
      obtain ⟨rfl,hR⟩:=hq
      obtain rfl:=hR
      refine bx (bn ?_)
      refine tq (kq ?_)
      refine rg APath.f ?_
      obtain rfl:=some_inj h
      exact ⟨_,rfl,(by show _=_; kernel_rfl)⟩
     dsimp only at h hq
     obtain ⟨rfl,hq⟩:=hq
     refine br (br ?_)
     refine tr ?_
     obtain rfl:=some_inj h
     exact ⟨_,rfl,rfl,hq⟩
    refine kq (xq ?_)
    refine tx ?_
    obtain rfl:=some_inj h
    exact ⟨_,rfl,rfl,(by show _=_; kernel_rfl)⟩
   rintro e s hq
   rcases o1551 with p1552 | p1553
   ·dsimp only at h hq
    obtain ⟨rfl,hR⟩:=hq
    obtain rfl:=hR
    refine bx (bn ?_)
    refine tq (kq ?_)
    refine rg APath.f ?_
    obtain rfl:=some_inj h
    exact ⟨_,rfl,(by show _=_; kernel_rfl)⟩
   dsimp only at h hq
   obtain ⟨rfl,hq⟩:=hq
   refine br (br ?_)
   refine tr ?_
   obtain rfl:=some_inj h
   exact ⟨_,rfl,rfl,hq⟩
  refine kq (xq ?_)
  refine tx ?_
  obtain rfl:=some_inj h
  exact ⟨_,rfl,rfl,(by show _=_; kernel_rfl)⟩
 rintro e s hq
 rcases o1554 with p1555 | p1557
 ·dsimp only at h hq
  obtain ⟨rfl,hR⟩:=hq
  obtain rfl:=hR
  refine bx (tq ?_)
  refine sq ?_
  obtain ⟨r1556,hr1556,h⟩:=bs h
  refine rg (APath.v 2 (st_call (by kernel_rfl) (stream_CheckAll_ok N r3 r5 r1556 hr1556)) APath.f) (tq ?_)
  refine rt ?_
  obtain rfl:=some_inj h
  exact ret_of (by kernel_rfl)
 dsimp only at h hq
 obtain ⟨rfl,hq⟩:=hq
 refine br (tr ?_)
 obtain rfl:=some_inj h
 exact hq
end Go.Sh

