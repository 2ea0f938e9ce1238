/- Part of the proof; written by a program out of the texts in wip/. -/
import Derived.Test.YtmplmekdilmdgaaStreamGridsOk2
namespace Go.Sh
open Go Go.Eng Go.Proofs
set_option linter.unusedVariables false
set_option linter.unusedSimpArgs false
set_option maxRecDepth 100000
set_option maxHeartbeats 4000000
attribute [local irreducible] vc ev keepS opsD opsF dropX upd updH updO
theorem route_Apart_ok (N:Nat) (a0_:api_Topo) (a1_:(List Int)) (a2_:(List Int)) (r:Bool × Int) (h:route_Apart N a0_ a1_ a2_=some r):PCall Try.prog 67 [.agg (c_api_Topo a0_),s_eI64 false a1_,s_eI64 false a2_] (.tup [bv r.1,iv r.2]):=by
 unfold route_Apart at h
 have hH:HP ([]:List HO) []:=trivial
 refine pcall_of chk67 rfl rfl (vc_sound _ _ _ ?_) rfl
 refine sq ?_
 obtain ⟨id1,H2,hid1,hH2,hH⟩:=HP.newCell hH [s_eI64 false a1_]
 replace hH:HP H2 [.cel id1 [s_eI64 false a1_]]:=hH
 obtain ⟨id3,H4,hid3,hH4,hH⟩:=HP.newCell hH [s_eI64 false a2_]
 replace hH:HP H4 [.cel id3 [s_eI64 false a2_],.cel id1 [s_eI64 false a1_]]:=hH
 refine rg (APath.h 1 (st_boxH (H:=[]) (v:=s_eI64 false a1_) (by kernel_rfl) (by kernel_rfl) (by kernel_rfl) hid1 hH2) (APath.h 0 (st_boxH (H:=H2) (v:=s_eI64 false a2_) (by kernel_rfl) (by kernel_rfl) (by kernel_rfl) hid3 hH4) APath.f)) (tq ?_)
 refine sq ?_
 have hlc5:=HP.get hH 1 rfl
 obtain ⟨r6,hr6,h⟩:=bs h
 have hvr6:=(route_ask_bool_ok N a0_ a1_ (fun x0=>route_Apart_1 N x0 a2_ a1_)   85 [] [.ptr id3 0,.ptr id1 0] (by kernel_rfl) [.cel id3 [s_eI64 false a2_],.cel id1 [s_eI64 false a1_]] (fun H x0 r hH h=>VCall.of (by kernel_rfl) (route_Apart_1_ok N  x0 a2_ a1_ id3 id1 H hH r h)) H4 (HP.now (HP.pick hH [0,1] rfl)) r6 hr6)
 refine rg (APath.u 1 (st_loadC (H:=H4) (id:=id1) (off:=0) (cs:=[s_eI64 false a1_]) (c:=[s_eI64 false a1_]) (r:=s_eI64 false a1_) (by kernel_rfl) (by kernel_rfl) hlc5 (by kernel_rfl) (by kernel_rfl) (by kernel_rfl)) (APath.v 1 (st_callH (H:=H4) (ys:=[.agg (c_api_Topo a0_),s_eI64 false a1_,.fn 85 [] [.ptr id3 0,.ptr id1 0]]) (by kernel_rfl) (by kernel_rfl) (by kernel_rfl) hvr6) APath.f)) ?_
 replace hH:HP H4 []:=HP.pick hH [] rfl
 refine tq (rt ?_)
 obtain rfl:=some_inj h
 exact ret_of (by kernel_rfl)
theorem route_Ends_ok (N:Nat) (a0_:api_Topo) (a1_:(List Int)) (r:Int × Int × Int) (h:route_Ends N a0_ a1_=some r):PCall Try.prog 83 [.agg (c_api_Topo a0_),s_eI64 false a1_] (.tup [iv r.1,iv r.2.1,iv r.2.2]):=by
 unfold route_Ends at h
 have hH:HP ([]:List HO) []:=trivial
 refine pcall_of chk83 rfl rfl (vc_sound _ _ _ ?_) rfl
 refine sq (rg APath.f ?_)
 refine tq (sq ?_)
 obtain ⟨r1,hr1,h⟩:=bs h
 refine rg (APath.v 2 (st_call (by kernel_rfl) (route_Nodes_ok N a0_ a1_ r1 hr1)) APath.f) (tq ?_)
 refine sq (sq ?_)
 refine rg APath.f (tq ?_)
 refine it h (fun hc2 h => ?_) (fun hc2 h => ?_)
 ·refine sq (rg APath.f ?_)
  refine tq (rt ?_)
  refine tr ?_
  obtain rfl:=some_inj h
  exact ret_of (by kernel_rfl)
 refine sk (tq ?_)
 refine kq (sq ?_)
 obtain ⟨e3,he3,h⟩:=bs h
 obtain ⟨e4,he4,h⟩:=bs h
 refine rq (APath.u 1 (st_val (ys:=[s_eI64 false r1.1,iv 0]) (by kernel_rfl) (vexec_iaddrS eI64 he3)) (APath.u 0 (st_toLH (st_loadP (sz:=1) (off:=0) (cs:=[.int .i64 e3]) (r:=iv e3) eI64 he3 (by kernel_rfl) (by kernel_rfl) (by kernel_rfl)) (by kernel_rfl)) (APath.u 2 (st_val (ys:=[s_eI64 false r1.1]) (by kernel_rfl) (vexec_len eI64)) (APath.u 1 (st_val (ys:=[s_eI64 false r1.1,iv (w64 (((List.length r1.1:Nat):Int) - 1))]) (by kernel_rfl) (vexec_iaddrS eI64 he4)) (APath.u 0 (st_toLH (st_loadP (sz:=1) (off:=0) (cs:=[.int .i64 e4]) (r:=iv e4) eI64 he4 (by kernel_rfl) (by kernel_rfl) (by kernel_rfl)) (by kernel_rfl)) APath.f))))) (tq ?_)
 refine rt ?_
 obtain rfl:=some_inj h
 exact ret_of (by kernel_rfl)
theorem stream_joins_ok (N:Nat) (a0_:api_Topo) (a1_:(List Int)) (a2_:Int) (a3_:Int) (r:Bool) (h:stream_joins N a0_ a1_ a2_ a3_=some r):PCall Try.prog 65 [.agg (c_api_Topo a0_),s_eI64 false a1_,iv a2_,iv a3_] (bv r):=by
 unfold stream_joins at h
 have hH:HP ([]:List HO) []:=trivial
 refine pcall_of chk65 rfl rfl (vc_sound _ _ _ ?_) rfl
 refine sq (rg APath.f ?_)
 refine tq (sq ?_)
 obtain ⟨r1,hr1,h⟩:=bs h
 refine rg (APath.v 2 (st_call (by kernel_rfl) (route_Ends_ok N a0_ a1_ r1 hr1)) APath.f) (tq ?_)
 refine sq (rgX ⟨[(8,bv ((r1.2.2 == 0) && ((r1.1 == a2_) && (r1.2.1 == a3_))))],[],[]⟩ ?_ ?_)
 ·rcases Bool.eq_false_or_eq_true (r1.2.2 == 0) with hc2 | hc5
  ·refine (EP.u 1 (st_bool (c:=(r1.2.2 == 0)) (by kernel_rfl) hc2) ?_)
   rcases Bool.eq_false_or_eq_true (r1.1 == a2_) with hc3 | hc4
   ·exact (EP.u 3 (st_bool (c:=(r1.1 == a2_)) (by kernel_rfl) hc3) (EP.f (by simp only [hc2,hc3]; kernel_rfl)))
   exact (EP.u 3 (st_bool (c:=(r1.1 == a2_)) (by kernel_rfl) hc4) (EP.f (by simp only [hc2,hc4]; kernel_rfl)))
  exact (EP.u 1 (st_bool (c:=(r1.2.2 == 0)) (by kernel_rfl) hc5) (EP.f (by simp only [hc5]; kernel_rfl)))
 refine tq (rt ?_)
 obtain rfl:=some_inj h
 exact ret_of (by kernel_rfl)
theorem stream_valid_8_ok (N:Nat) (c0_:api_Stream) (c1_:api_Topo) (k0_:Nat) (k1_:Nat) (H:List HO) (hH:HP H [.cel k0_ (c_api_Stream c0_),.cel k1_ (c_api_Topo c1_)]) (r:Bool) (h:stream_valid_8 N c0_ c1_=some r):ACall Try.prog 66 [.ptr k0_ 0,.ptr k1_ 0] H (bv r) H:=by
 unfold stream_valid_8 at h
 refine acall_ofW chk66 rfl rfl rfl (vc_sound _ _ _ ?_)
 refine sq (rg APath.f ?_)
 refine tq (sq ?_)
 refine sq ?_
 have hlc1:=HP.get hH 0 rfl
 refine rg (APath.u 1 (st_loadC (H:=H) (id:=k0_) (off:=9) (cs:=(c_api_Stream c0_)) (c:=[s_eSl_1_eI64 false c0_.Routes]) (r:=s_eSl_1_eI64 false c0_.Routes) (by kernel_rfl) (by kernel_rfl) hlc1 (by kernel_rfl) (by kernel_rfl) (by kernel_rfl)) (APath.u 0 (st_val (ys:=[s_eSl_1_eI64 false c0_.Routes]) (by kernel_rfl) (vexec_len (eSl 1 eI64))) APath.f)) (tq ?_)
 refine it h (fun hc2 h => ?_) (fun hc2 h => ?_)
 ·refine sq (rg APath.f ?_)
  replace hH:HP H []:=HP.pick hH [] rfl
  refine tq (rt ?_)
  refine tr ?_
  obtain rfl:=some_inj h
  exact ret_ofAW (by kernel_rfl) (by kernel_rfl)
 refine sk (tq ?_)
 refine kq (sq ?_)
 have hlc3:=HP.get hH 1 rfl
 have hlc4:=HP.get hH 0 rfl
 obtain ⟨e5,he5,h⟩:=bs h
 have hlc6:=HP.get hH 0 rfl
 obtain ⟨e7,he7,h⟩:=bs h
 obtain ⟨r8,hr8,h⟩:=bs h
 refine rq (APath.u 0 (st_toLH (st_loadC (H:=H) (id:=k1_) (off:=0) (cs:=(c_api_Topo c1_)) (c:=(c_api_Topo c1_)) (r:=.agg (c_api_Topo c1_)) (by kernel_rfl) (by kernel_rfl) hlc3 (by kernel_rfl) (by kernel_rfl) (by kernel_rfl)) (by kernel_rfl)) (APath.u 1 (st_toLH (st_loadC (H:=H) (id:=k0_) (off:=9) (cs:=(c_api_Stream c0_)) (c:=[s_eSl_1_eI64 false c0_.Routes]) (r:=s_eSl_1_eI64 false c0_.Routes) (by kernel_rfl) (by kernel_rfl) hlc4 (by kernel_rfl) (by kernel_rfl) (by kernel_rfl)) (by kernel_rfl)) (APath.u 0 (st_val (ys:=[s_eSl_1_eI64 false c0_.Routes,iv 0]) (by kernel_rfl) (vexec_iaddrS (eSl 1 eI64) he5)) (APath.u 0 (st_toLH (st_loadP (sz:=1) (off:=0) (cs:=[.sl 1 false (List.map eI64 e5)]) (r:=s_eI64 false e5) (eSl 1 eI64) he5 (by kernel_rfl) (by kernel_rfl) (by kernel_rfl)) (by kernel_rfl)) (APath.u 1 (st_toLH (st_loadC (H:=H) (id:=k0_) (off:=9) (cs:=(c_api_Stream c0_)) (c:=[s_eSl_1_eI64 false c0_.Routes]) (r:=s_eSl_1_eI64 false c0_.Routes) (by kernel_rfl) (by kernel_rfl) hlc6 (by kernel_rfl) (by kernel_rfl) (by kernel_rfl)) (by kernel_rfl)) (APath.u 0 (st_val (ys:=[s_eSl_1_eI64 false c0_.Routes,iv 1]) (by kernel_rfl) (vexec_iaddrS (eSl 1 eI64) he7)) (APath.u 0 (st_toLH (st_loadP (sz:=1) (off:=0) (cs:=[.sl 1 false (List.map eI64 e7)]) (r:=s_eI64 false e7) (eSl 1 eI64) he7 (by kernel_rfl) (by kernel_rfl) (by kernel_rfl)) (by kernel_rfl)) (APath.v 0 (st_call (by kernel_rfl) (route_Apart_ok N c1_ e5 e7 r8 hr8)) APath.f)))))))) ?_
 replace hH:HP H []:=HP.pick hH [] rfl
 refine tq (sq ?_)
 refine rgX ⟨[(2,bv ((r8.2 == 0) && r8.1))],[],H⟩ ?_ ?_
 ·rcases Bool.eq_false_or_eq_true (r8.2 == 0) with hc9 | hc10
  ·exact (EP.u 1 (st_bool (c:=(r8.2 == 0)) (by kernel_rfl) hc9) (EP.f (by simp only [hc9]; kernel_rfl)))
  exact (EP.u 1 (st_bool (c:=(r8.2 == 0)) (by kernel_rfl) hc10) (EP.f (by simp only [hc10]; kernel_rfl)))
 refine tq (rt ?_)
 obtain rfl:=some_inj h
 exact ret_ofAW (by kernel_rfl) (by kernel_rfl)
theorem stream_valid_7_ok (N:Nat) (c0_:api_Stream) (c1_:api_Topo) (k0_:Nat) (k1_:Nat) (H:List HO) (hH:HP H [.cel k0_ (c_api_Stream c0_),.cel k1_ (c_api_Topo c1_)]) (r:Bool) (h:stream_valid_7 N c0_ c1_=some r):ACall Try.prog 64 [.ptr k0_ 0,.ptr k1_ 0] H (bv r) H:=by
 unfold stream_valid_7 at h
 refine acall_ofW chk64 rfl rfl rfl (vc_sound _ _ _ ?_)
 refine sq (rg APath.f ?_)
 refine tq (sq ?_)
 refine sq ?_
 have hlc1:=HP.get hH 0 rfl
 refine rg (APath.u 1 (st_loadC (H:=H) (id:=k0_) (off:=9) (cs:=(c_api_Stream c0_)) (c:=[s_eSl_1_eI64 false c0_.Routes]) (r:=s_eSl_1_eI64 false c0_.Routes) (by kernel_rfl) (by kernel_rfl) hlc1 (by kernel_rfl) (by kernel_rfl) (by kernel_rfl)) (APath.u 0 (st_val (ys:=[s_eSl_1_eI64 false c0_.Routes]) (by kernel_rfl) (vexec_len (eSl 1 eI64))) APath.f)) (tq ?_)
 refine bk ?_
 obtain ⟨o510,ho510,h⟩:=bs h
 refine vc_loop ((loop_sim (fun (x:Int) s=>s=⟨[(0,.ptr k0_ 0),(1,.ptr k1_ 0),(6,s_eSl_1_eI64 false c0_.Routes),(7,iv ((List.length c0_.Routes:Nat):Int)),(8,iv x)],[],H⟩) (fun x:Int=>stream_valid_7_L1 N c0_ c1_ x) (fun (p:(Unit) ⊕ (Bool)) e s=>match p with | (.inl p)=>e = .exit 0∧(s=⟨[],[],H⟩) | (.inr p)=>e = .ret∧∃ xs,rawL s i64.res=some xs∧tupOf (weakVs xs)=bv p∧s.H=H) ?_ N _ o510 _ ho510 (by show _=_; kernel_rfl)).mono ?_)
 ·clear h ho510
  rintro i2 o s h hR
  obtain rfl:=hR
  replace h:stream_valid_7_L1 N c0_ c1_ i2=some o:=h
  unfold stream_valid_7_L1 at h
  refine sq (rg APath.f ?_)
  refine tq (sq ?_)
  refine it h (fun hc503 h => ?_) (fun hc503 h => ?_)
  ·refine sk (tq ?_)
   refine kq (sq ?_)
   refine bk (sq ?_)
   obtain ⟨e504,he504,h⟩:=bs h
   refine rg (APath.u 0 (st_val (ys:=[s_eSl_1_eI64 false c0_.Routes,iv i2]) (by kernel_rfl) (vexec_iaddrS (eSl 1 eI64) he504)) (APath.u 0 (st_loadP (sz:=1) (off:=0) (cs:=[.sl 1 false (List.map eI64 e504)]) (r:=s_eI64 false e504) (eSl 1 eI64) he504 (by kernel_rfl) (by kernel_rfl) (by kernel_rfl)) APath.f)) (tq ?_)
   refine sq ?_
   have hlc505:=HP.get hH 1 rfl
   have hlc506:=HP.get hH 0 rfl
   have hlc507:=HP.get hH 0 rfl
   obtain ⟨r508,hr508,h⟩:=bs h
   refine rg (APath.u 0 (st_loadC (H:=H) (id:=k1_) (off:=0) (cs:=(c_api_Topo c1_)) (c:=(c_api_Topo c1_)) (r:=.agg (c_api_Topo c1_)) (by kernel_rfl) (by kernel_rfl) hlc505 (by kernel_rfl) (by kernel_rfl) (by kernel_rfl)) (APath.u 2 (st_loadC (H:=H) (id:=k0_) (off:=1) (cs:=(c_api_Stream c0_)) (c:=[iv c0_.Talker]) (r:=iv c0_.Talker) (by kernel_rfl) (by kernel_rfl) hlc506 (by kernel_rfl) (by kernel_rfl) (by kernel_rfl)) (APath.u 1 (st_loadC (H:=H) (id:=k0_) (off:=2) (cs:=(c_api_Stream c0_)) (c:=[iv c0_.Listener]) (r:=iv c0_.Listener) (by kernel_rfl) (by kernel_rfl) hlc507 (by kernel_rfl) (by kernel_rfl) (by kernel_rfl)) (APath.v 0 (st_call (by kernel_rfl) (stream_joins_ok N c1_ e504 c0_.Talker c0_.Listener r508 hr508)) APath.f)))) (tq ?_)
   refine it h (fun hc509 h => ?_) (fun hc509 h => ?_)
   ·refine sq (rg APath.f ?_)
    replace hH:HP H []:=HP.pick hH [] rfl
    refine tq (rt ?_)
    refine br (tr ?_)
    obtain rfl:=some_inj h
    exact ⟨_,rfl,rfl,ret_ofAW (by kernel_rfl) (by kernel_rfl)⟩
   refine sk (bn ?_)
   refine tq (kq ?_)
   refine rg APath.f ?_
   obtain rfl:=some_inj h
   exact ⟨_,rfl,(by show _=_; kernel_rfl)⟩
  refine kq ?_
  replace hH:HP H []:=HP.pick hH [] rfl
  refine xq (tx ?_)
  obtain rfl:=some_inj h
  exact ⟨_,rfl,rfl,(by show _=_; kernel_rfl)⟩
 rintro e s hq
 rcases o510 with p511 | p512
 ·dsimp only at h hq
  obtain ⟨rfl,hR⟩:=hq
  obtain rfl:=hR
  refine bx (tq ?_)
  refine sq (rg APath.f ?_)
  refine tq (rt ?_)
  obtain rfl:=some_inj h
  exact ret_ofAW (by kernel_rfl) (by kernel_rfl)
 dsimp only at h hq
 obtain ⟨rfl,hq⟩:=hq
 refine br (tr ?_)
 obtain rfl:=some_inj h
 exact hq
theorem stream_valid_ok (N:Nat) (a0_:api_Topo) (a1_:api_Stream) (r:Bool) (h:stream_valid N a0_ a1_=some r):PCall Try.prog 39 [.agg (c_api_Topo a0_),.agg (c_api_Stream a1_)] (bv r):=by
 unfold stream_valid at h
 have hH:HP ([]:List HO) []:=trivial
 refine pcall_of chk39 rfl rfl (vc_sound _ _ _ ?_) rfl
 refine sq ?_
 obtain ⟨id1,H2,hid1,hH2,hH⟩:=HP.newCell hH (c_api_Topo a0_)
 replace hH:HP H2 [.cel id1 (c_api_Topo a0_)]:=hH
 obtain ⟨id3,H4,hid3,hH4,hH⟩:=HP.newCell hH (c_api_Stream a1_)
 replace hH:HP H4 [.cel id3 (c_api_Stream a1_),.cel id1 (c_api_Topo a0_)]:=hH
 refine rg (APath.h 0 (st_boxH (H:=[]) (v:=.agg (c_api_Topo a0_)) (by kernel_rfl) (by kernel_rfl) (by kernel_rfl) hid1 hH2) (APath.h 0 (st_boxH (H:=H2) (v:=.agg (c_api_Stream a1_)) (by kernel_rfl) (by kernel_rfl) (by kernel_rfl) hid3 hH4) APath.f)) (tq ?_)
 refine sq ?_
 obtain ⟨id5,H6,hid5,hH6,hH⟩:=HP.newCell hH [.fn 56 [] [.ptr id3 0],.fn 57 [] [.ptr id1 0,.ptr id3 0],.fn 59 [] [.ptr id3 0],.fn 60 [] [.ptr id3 0],.fn 61 [] [.ptr id3 0],.fn 63 [] [.ptr id3 0],.fn 64 [] [.ptr id3 0,.ptr id1 0],.fn 66 [] [.ptr id3 0,.ptr id1 0]]
 replace hH:HP H6 [.cel id5 [.fn 56 [] [.ptr id3 0],.fn 57 [] [.ptr id1 0,.ptr id3 0],.fn 59 [] [.ptr id3 0],.fn 60 [] [.ptr id3 0],.fn 61 [] [.ptr id3 0],.fn 63 [] [.ptr id3 0],.fn 64 [] [.ptr id3 0,.ptr id1 0],.fn 66 [] [.ptr id3 0,.ptr id1 0]],.cel id3 (c_api_Stream a1_),.cel id1 (c_api_Topo a0_)]:=hH
 refine rg (APath.h 8 (st_litC (H:=H4) (ys:=[.fn 56 [] [.ptr id3 0],.fn 57 [] [.ptr id1 0,.ptr id3 0],.fn 59 [] [.ptr id3 0],.fn 60 [] [.ptr id3 0],.fn 61 [] [.ptr id3 0],.fn 63 [] [.ptr id3 0],.fn 64 [] [.ptr id3 0,.ptr id1 0],.fn 66 [] [.ptr id3 0,.ptr id1 0]]) (by kernel_rfl) (by kernel_rfl) (by kernel_rfl) hid5 hH6) APath.f) (tq ?_)
 refine sq (sq ?_)
 refine rg APath.f (tq ?_)
 refine bk (vc_unroll 18 ?_)
 refine unr_step ?_
 refine sq (rg APath.f ?_)
 refine tq (sq ?_)
 refine vc_true (by kernel_rfl) ?_
 refine sk (tq ?_)
 refine kq (sq ?_)
 refine bk (sq ?_)
 have hlc7:=HP.get hH 0 rfl
 refine rg (APath.u 1 (st_loadC (H:=H6) (id:=id5) (off:=0) (cs:=[.fn 56 [] [.ptr id3 0],.fn 57 [] [.ptr id1 0,.ptr id3 0],.fn 59 [] [.ptr id3 0],.fn 60 [] [.ptr id3 0],.fn 61 [] [.ptr id3 0],.fn 63 [] [.ptr id3 0],.fn 64 [] [.ptr id3 0,.ptr id1 0],.fn 66 [] [.ptr id3 0,.ptr id1 0]]) (c:=[.fn 56 [] [.ptr id3 0]]) (r:=.fn 56 [] [.ptr id3 0]) (by kernel_rfl) (by kernel_rfl) hlc7 (by kernel_rfl) (by kernel_rfl) (by kernel_rfl)) APath.f) (tq ?_)
 refine sq ?_
 obtain ⟨r8,hr8,h⟩:=bs h
 have hvr8:=(stream_valid_1_ok N  a1_ id3 H6 (HP.now (HP.pick hH [1] rfl)) r8 hr8)
 refine rg (APath.v 1 (st_callV (H:=H6) (fv:=.fn 56 [] [.ptr id3 0]) (ys:=[]) (by kernel_rfl) (by kernel_rfl) (by kernel_rfl) (VCall.of (by kernel_rfl) hvr8)) APath.f) (tq ?_)
 refine it h (fun hc9 h => ?_) (fun hc9 h => ?_)
 ·refine sq (rg APath.f ?_)
  replace hH:HP H6 []:=HP.pick hH [] rfl
  refine tq (rt ?_)
  refine br (tr ?_)
  refine tr (br ?_)
  refine tr ?_
  obtain rfl:=some_inj h
  exact ret_of (by kernel_rfl)
 refine sk (bn ?_)
 refine tq (kq ?_)
 refine rg APath.f (tq ?_)
 refine unr_step ?_
 refine sq (rg APath.f ?_)
 refine tq (sq ?_)
 refine vc_true (by kernel_rfl) ?_
 refine sk (tq ?_)
 refine kq (sq ?_)
 refine bk (sq ?_)
 have hlc10:=HP.get hH 0 rfl
 refine rg (APath.u 1 (st_loadC (H:=H6) (id:=id5) (off:=1) (cs:=[.fn 56 [] [.ptr id3 0],.fn 57 [] [.ptr id1 0,.ptr id3 0],.fn 59 [] [.ptr id3 0],.fn 60 [] [.ptr id3 0],.fn 61 [] [.ptr id3 0],.fn 63 [] [.ptr id3 0],.fn 64 [] [.ptr id3 0,.ptr id1 0],.fn 66 [] [.ptr id3 0,.ptr id1 0]]) (c:=[.fn 57 [] [.ptr id1 0,.ptr id3 0]]) (r:=.fn 57 [] [.ptr id1 0,.ptr id3 0]) (by kernel_rfl) (by kernel_rfl) hlc10 (by kernel_rfl) (by kernel_rfl) (by kernel_rfl)) APath.f) (tq ?_)
 refine sq ?_
 obtain ⟨r11,hr11,h⟩:=bs h
 have hvr11:=(stream_valid_2_ok N  a0_ a1_ id1 id3 H6 (HP.now (HP.pick hH [2,1] rfl)) r11 hr11)
 refine rg (APath.v 1 (st_callV (H:=H6) (fv:=.fn 57 [] [.ptr id1 0,.ptr id3 0]) (ys:=[]) (by kernel_rfl) (by kernel_rfl) (by kernel_rfl) (VCall.of (by kernel_rfl) hvr11)) APath.f) (tq ?_)
 refine it h (fun hc12 h => ?_) (fun hc12 h => ?_)
 ·refine sq (rg APath.f ?_)
  replace hH:HP H6 []:=HP.pick hH [] rfl
  refine tq (rt ?_)
  refine br (tr ?_)
  refine tr (br ?_)
  refine tr ?_
  obtain rfl:=some_inj h
  exact ret_of (by kernel_rfl)
 refine sk (bn ?_)
 refine tq (kq ?_)
 refine rg APath.f (tq ?_)
 refine unr_step ?_
 refine sq (rg APath.f ?_)
 refine tq (sq ?_)
 refine vc_true (by kernel_rfl) ?_
 refine sk (tq ?_)
 refine kq (sq ?_)
 refine bk (sq ?_)
 have hlc13:=HP.get hH 0 rfl
 refine rg (APath.u 1 (st_loadC (H:=H6) (id:=id5) (off:=2) (cs:=[.fn 56 [] [.ptr id3 0],.fn 57 [] [.ptr id1 0,.ptr id3 0],.fn 59 [] [.ptr id3 0],.fn 60 [] [.ptr id3 0],.fn 61 [] [.ptr id3 0],.fn 63 [] [.ptr id3 0],.fn 64 [] [.ptr id3 0,.ptr id1 0],.fn 66 [] [.ptr id3 0,.ptr id1 0]]) (c:=[.fn 59 [] [.ptr id3 0]]) (r:=.fn 59 [] [.ptr id3 0]) (by kernel_rfl) (by kernel_rfl) hlc13 (by kernel_rfl) (by kernel_rfl) (by kernel_rfl)) APath.f) (tq ?_)
 refine sq ?_
 obtain ⟨r14,hr14,h⟩:=bs h
 have hvr14:=(stream_valid_3_ok N  a1_ id3 H6 (HP.now (HP.pick hH [1] rfl)) r14 hr14)
 refine rg (APath.v 1 (st_callV (H:=H6) (fv:=.fn 59 [] [.ptr id3 0]) (ys:=[]) (by kernel_rfl) (by kernel_rfl) (by kernel_rfl) (VCall.of (by kernel_rfl) hvr14)) APath.f) (tq ?_)
 refine it h (fun hc15 h => ?_) (fun hc15 h => ?_)
 ·refine sq (rg APath.f ?_)
  replace hH:HP H6 []:=HP.pick hH [] rfl
  refine tq (rt ?_)
  refine br (tr ?_)
  refine tr (br ?_)
  refine tr ?_
  obtain rfl:=some_inj h
  exact ret_of (by kernel_rfl)
 refine sk (bn ?_)
 refine tq (kq ?_)
 refine rg APath.f (tq ?_)
 refine unr_step ?_
 refine sq (rg APath.f ?_)
 refine tq (sq ?_)
 refine vc_true (by kernel_rfl) ?_
 refine sk (tq ?_)
 refine kq (sq ?_)
 refine bk (sq ?_)
 have hlc16:=HP.get hH 0 rfl
 refine rg (APath.u 1 (st_loadC (H:=H6) (id:=id5) (off:=3) (cs:=[.fn 56 [] [.ptr id3 0],.fn 57 [] [.ptr id1 0,.ptr id3 0],.fn 59 [] [.ptr id3 0],.fn 60 [] [.ptr id3 0],.fn 61 [] [.ptr id3 0],.fn 63 [] [.ptr id3 0],.fn 64 [] [.ptr id3 0,.ptr id1 0],.fn 66 [] [.ptr id3 0,.ptr id1 0]]) (c:=[.fn 60 [] [.ptr id3 0]]) (r:=.fn 60 [] [.ptr id3 0]) (by kernel_rfl) (by kernel_rfl) hlc16 (by kernel_rfl) (by kernel_rfl) (by kernel_rfl)) APath.f) (tq ?_)
 refine sq ?_
 obtain ⟨r17,hr17,h⟩:=bs h
 have hvr17:=(stream_valid_4_ok N  a1_ id3 H6 (HP.now (HP.pick hH [1] rfl)) r17 hr17)
 refine rg (APath.v 1 (st_callV (H:=H6) (fv:=.fn 60 [] [.ptr id3 0]) (ys:=[]) (by kernel_rfl) (by kernel_rfl) (by kernel_rfl) (VCall.of (by kernel_rfl) hvr17)) APath.f) (tq ?_)
 refine it h (fun hc18 h => ?_) (fun hc18 h => ?_)
 ·refine sq (rg APath.f ?_)
  replace hH:HP H6 []:=HP.pick hH [] rfl
  refine tq (rt ?_)
  refine br (tr ?_)
  refine tr (br ?_)
  refine tr ?_
  obtain rfl:=some_inj h
  exact ret_of (by kernel_rfl)
 refine sk (bn ?_)
 refine tq (kq ?_)
 refine rg APath.f (tq ?_)
 refine unr_step ?_
 refine sq (rg APath.f ?_)
 refine tq (sq ?_)
 refine vc_true (by kernel_rfl) ?_
 refine sk (tq ?_)
 refine kq (sq ?_)
 refine bk (sq ?_)
 have hlc19:=HP.get hH 0 rfl
 refine rg (APath.u 1 (st_loadC (H:=H6) (id:=id5) (off:=4) (cs:=[.fn 56 [] [.ptr id3 0],.fn 57 [] [.ptr id1 0,.ptr id3 0],.fn 59 [] [.ptr id3 0],.fn 60 [] [.ptr id3 0],.fn 61 [] [.ptr id3 0],.fn 63 [] [.ptr id3 0],.fn 64 [] [.ptr id3 0,.ptr id1 0],.fn 66 [] [.ptr id3 0,.ptr id1 0]]) (c:=[.fn 61 [] [.ptr id3 0]]) (r:=.fn 61 [] [.ptr id3 0]) (by kernel_rfl) (by kernel_rfl) hlc19 (by kernel_rfl) (by kernel_rfl) (by kernel_rfl)) APath.f) (tq ?_)
 refine sq ?_
 obtain ⟨r20,hr20,h⟩:=bs h
 have hvr20:=(stream_valid_5_ok N  a1_ id3 H6 (HP.now (HP.pick hH [1] rfl)) r20 hr20)
 refine rg (APath.v 1 (st_callV (H:=H6) (fv:=.fn 61 [] [.ptr id3 0]) (ys:=[]) (by kernel_rfl) (by kernel_rfl) (by kernel_rfl) (VCall.of (by kernel_rfl) hvr20)) APath.f) (tq ?_)
 refine it h (fun hc21 h => ?_) (fun hc21 h => ?_)
 ·refine sq (rg APath.f ?_)
  replace hH:HP H6 []:=HP.pick hH [] rfl
  refine tq (rt ?_)
  refine br (tr ?_)
  refine tr (br ?_)
  refine tr ?_
  obtain rfl:=some_inj h
  exact ret_of (by kernel_rfl)
 refine sk (bn ?_)
 refine tq (kq ?_)
 refine rg APath.f (tq ?_)
 refine unr_step ?_
 refine sq (rg APath.f ?_)
 refine tq (sq ?_)
 refine vc_true (by kernel_rfl) ?_
 refine sk (tq ?_)
 refine kq (sq ?_)
 refine bk (sq ?_)
 have hlc22:=HP.get hH 0 rfl
 refine rg (APath.u 1 (st_loadC (H:=H6) (id:=id5) (off:=5) (cs:=[.fn 56 [] [.ptr id3 0],.fn 57 [] [.ptr id1 0,.ptr id3 0],.fn 59 [] [.ptr id3 0],.fn 60 [] [.ptr id3 0],.fn 61 [] [.ptr id3 0],.fn 63 [] [.ptr id3 0],.fn 64 [] [.ptr id3 0,.ptr id1 0],.fn 66 [] [.ptr id3 0,.ptr id1 0]]) (c:=[.fn 63 [] [.ptr id3 0]]) (r:=.fn 63 [] [.ptr id3 0]) (by kernel_rfl) (by kernel_rfl) hlc22 (by kernel_rfl) (by kernel_rfl) (by kernel_rfl)) APath.f) (tq ?_)
 refine sq ?_
 obtain ⟨r23,hr23,h⟩:=bs h
 have hvr23:=(stream_valid_6_ok N  a1_ id3 H6 (HP.now (HP.pick hH [1] rfl)) r23 hr23)
 refine rg (APath.v 1 (st_callV (H:=H6) (fv:=.fn 63 [] [.ptr id3 0]) (ys:=[]) (by kernel_rfl) (by kernel_rfl) (by kernel_rfl) (VCall.of (by kernel_rfl) hvr23)) APath.f) (tq ?_)
 refine it h (fun hc24 h => ?_) (fun hc24 h => ?_)
 ·refine sq (rg APath.f ?_)
  replace hH:HP H6 []:=HP.pick hH [] rfl
  refine tq (rt ?_)
  refine br (tr ?_)
  refine tr (br ?_)
  refine tr ?_
  obtain rfl:=some_inj h
  exact ret_of (by kernel_rfl)
 refine sk (bn ?_)
 refine tq (kq ?_)
 refine rg APath.f (tq ?_)
 refine unr_step ?_
 refine sq (rg APath.f ?_)
 refine tq (sq ?_)
 refine vc_true (by kernel_rfl) ?_
 refine sk (tq ?_)
 refine kq (sq ?_)
 refine bk (sq ?_)
 have hlc25:=HP.get hH 0 rfl
 refine rg (APath.u 1 (st_loadC (H:=H6) (id:=id5) (off:=6) (cs:=[.fn 56 [] [.ptr id3 0],.fn 57 [] [.ptr id1 0,.ptr id3 0],.fn 59 [] [.ptr id3 0],.fn 60 [] [.ptr id3 0],.fn 61 [] [.ptr id3 0],.fn 63 [] [.ptr id3 0],.fn 64 [] [.ptr id3 0,.ptr id1 0],.fn 66 [] [.ptr id3 0,.ptr id1 0]]) (c:=[.fn 64 [] [.ptr id3 0,.ptr id1 0]]) (r:=.fn 64 [] [.ptr id3 0,.ptr id1 0]) (by kernel_rfl) (by kernel_rfl) hlc25 (by kernel_rfl) (by kernel_rfl) (by kernel_rfl)) APath.f) (tq ?_)
 refine sq ?_
 obtain ⟨r26,hr26,h⟩:=bs h
 have hvr26:=(stream_valid_7_ok N  a1_ a0_ id3 id1 H6 (HP.now (HP.pick hH [1,2] rfl)) r26 hr26)
 refine rg (APath.v 1 (st_callV (H:=H6) (fv:=.fn 64 [] [.ptr id3 0,.ptr id1 0]) (ys:=[]) (by kernel_rfl) (by kernel_rfl) (by kernel_rfl) (VCall.of (by kernel_rfl) hvr26)) APath.f) (tq ?_)
 refine it h (fun hc27 h => ?_) (fun hc27 h => ?_)
 ·refine sq (rg APath.f ?_)
  replace hH:HP H6 []:=HP.pick hH [] rfl
  refine tq (rt ?_)
  refine br (tr ?_)
  refine tr (br ?_)
  refine tr ?_
  obtain rfl:=some_inj h
  exact ret_of (by kernel_rfl)
 refine sk (bn ?_)
 refine tq (kq ?_)
 refine rg APath.f (tq ?_)
 refine unr_step ?_
 refine sq (rg APath.f ?_)
 refine tq (sq ?_)
 refine vc_true (by kernel_rfl) ?_
 refine sk (tq ?_)
 refine kq (sq ?_)
 refine bk (sq ?_)
 have hlc28:=HP.get hH 0 rfl
 refine rg (APath.u 1 (st_loadC (H:=H6) (id:=id5) (off:=7) (cs:=[.fn 56 [] [.ptr id3 0],.fn 57 [] [.ptr id1 0,.ptr id3 0],.fn 59 [] [.ptr id3 0],.fn 60 [] [.ptr id3 0],.fn 61 [] [.ptr id3 0],.fn 63 [] [.ptr id3 0],.fn 64 [] [.ptr id3 0,.ptr id1 0],.fn 66 [] [.ptr id3 0,.ptr id1 0]]) (c:=[.fn 66 [] [.ptr id3 0,.ptr id1 0]]) (r:=.fn 66 [] [.ptr id3 0,.ptr id1 0]) (by kernel_rfl) (by kernel_rfl) hlc28 (by kernel_rfl) (by kernel_rfl) (by kernel_rfl)) APath.f) (tq ?_)
 refine sq ?_
 obtain ⟨r29,hr29,h⟩:=bs h
 have hvr29:=(stream_valid_8_ok N  a1_ a0_ id3 id1 H6 (HP.now (HP.pick hH [1,2] rfl)) r29 hr29)
 refine rg (APath.v 1 (st_callV (H:=H6) (fv:=.fn 66 [] [.ptr id3 0,.ptr id1 0]) (ys:=[]) (by kernel_rfl) (by kernel_rfl) (by kernel_rfl) (VCall.of (by kernel_rfl) hvr29)) APath.f) (tq ?_)
 refine it h (fun hc30 h => ?_) (fun hc30 h => ?_)
 ·refine sq (rg APath.f ?_)
  replace hH:HP H6 []:=HP.pick hH [] rfl
  refine tq (rt ?_)
  refine br (tr ?_)
  refine tr (br ?_)
  refine tr ?_
  obtain rfl:=some_inj h
  exact ret_of (by kernel_rfl)
 refine sk (bn ?_)
 refine tq (kq ?_)
 refine rg APath.f (tq ?_)
 refine unr_step ?_
 refine sq (rg APath.f ?_)
 refine tq (sq ?_)
 refine vc_false (by kernel_rfl) ?_
 refine kq ?_
 replace hH:HP H6 []:=HP.pick hH [] rfl
 refine xq (tx ?_)
 refine tx (bx ?_)
 refine tq (sq ?_)
 refine rg APath.f (tq ?_)
 refine rt ?_
 obtain rfl:=some_inj h
 exact ret_of (by kernel_rfl)
theorem stream_Check_ok (N:Nat) (a0_:api_Topo) (a1_:api_Stream) (r:Int) (h:stream_Check N a0_ a1_=some r):PCall Try.prog 18 [.agg (c_api_Topo a0_),.agg (c_api_Stream a1_)] (iv r):=by
 unfold stream_Check at h
 have hH:HP ([]:List HO) []:=trivial
 refine pcall_of chk18 rfl rfl (vc_sound _ _ _ ?_) rfl
 refine sq (rg APath.f ?_)
 refine tq (sq ?_)
 refine sq ?_
 obtain ⟨r1,hr1,h⟩:=bs h
 refine rg (APath.v 1 (st_call (by kernel_rfl) (topo_Check_ok N a0_ r1 hr1)) APath.f) (tq ?_)
 refine sq (rg APath.f ?_)
 refine tq (it h (fun hc2 h => ?_) (fun hc2 h => ?_))
 ·refine sq (rg APath.f ?_)
  refine tq (rt ?_)
  refine tr ?_
  obtain rfl:=some_inj h
  exact ret_of (by kernel_rfl)
 refine sk (tq ?_)
 refine kq (sq ?_)
 refine sq ?_
 obtain ⟨r3,hr3,h⟩:=bs h
 refine rg (APath.v 2 (st_call (by kernel_rfl) (stream_valid_ok N a0_ a1_ r3 hr3)) APath.f) (tq ?_)
 refine it h (fun hc4 h => ?_) (fun hc4 h => ?_)
 ·refine sq (rg APath.f ?_)
  refine tq (rt ?_)
  refine tr ?_
  obtain rfl:=some_inj h
  exact ret_of (by kernel_rfl)
 refine sk (tq ?_)
 refine kq (sq ?_)
 refine rg APath.f (tq ?_)
 refine rt ?_
 obtain rfl:=some_inj h
 exact ret_of (by kernel_rfl)
theorem stream_CheckAll_ok (N:Nat) (a0_:api_Topo) (a1_:(List api_Stream)) (r:Int) (h:stream_CheckAll N a0_ a1_=some r):PCall Try.prog 19 [.agg (c_api_Topo a0_),s_e_api_Stream false a1_] (iv r):=by
 unfold stream_CheckAll at h
 have hH:HP ([]:List HO) []:=trivial
 refine pcall_of chk19 rfl rfl (vc_sound _ _ _ ?_) rfl
 refine sq (rg APath.f ?_)
 refine tq (sq ?_)
 refine sq ?_
 obtain ⟨r1,hr1,h⟩:=bs h
 refine rg (APath.v 1 (st_call (by kernel_rfl) (topo_Check_ok N a0_ r1 hr1)) APath.f) (tq ?_)
 refine sq (rg APath.f ?_)
 refine tq (it h (fun hc2 h => ?_) (fun hc2 h => ?_))
 ·refine sq (rg APath.f ?_)
  refine tq (rt ?_)
  refine tr ?_
  obtain rfl:=some_inj h
  exact ret_of (by kernel_rfl)
 refine sk (tq ?_)
 refine kq (sq ?_)
 refine sq (rg (APath.u 1 (st_val (ys:=[s_e_api_Stream false a1_]) (by kernel_rfl) (vexec_len e_api_Stream)) APath.f) ?_)
 refine tq (it h (fun hc3 h => ?_) (fun hc3 h => ?_))
 ·refine sq (rg APath.f ?_)
  refine tq (rt ?_)
  refine tr ?_
  obtain rfl:=some_inj h
  exact ret_of (by kernel_rfl)
 refine sk (tq ?_)
 refine kq (sq ?_)
 refine sq (rg (APath.u 1 (st_val (ys:=[s_e_api_Stream false a1_]) (by kernel_rfl) (vexec_len e_api_Stream)) APath.f) ?_)
 refine tq (bk ?_)
 obtain ⟨o509,ho509,h⟩:=bs h
 refine vc_loop ((loop_sim (fun (x:Int) s=>s=⟨[(1,s_e_api_Stream false a1_),(2,.loc 2 0),(19,s_e_api_Stream false a1_),(20,iv ((List.length a1_:Nat):Int)),(21,iv x)],[(2,(c_api_Topo a0_))],[]⟩) (fun x:Int=>stream_CheckAll_L1 N a0_ a1_ x) (fun (p:(Unit) ⊕ (Int)) e s=>match p with | (.inl p)=>e = .exit 0∧(s=⟨[(1,s_e_api_Stream false a1_)],[],[]⟩) | (.inr p)=>e = .ret∧∃ xs,resL s i19.res=some xs∧tupOf xs=iv p) ?_ N _ o509 _ ho509 (by show _=_; kernel_rfl)).mono ?_)
 ·clear h ho509
  rintro i4 o s h hR
  obtain rfl:=hR
  replace h:stream_CheckAll_L1 N a0_ a1_ i4=some o:=h
  unfold stream_CheckAll_L1 at h
  refine sq (rg APath.f ?_)
  refine tq (sq ?_)
  refine it h (fun hc505 h => ?_) (fun hc505 h => ?_)
  ·refine sk (tq ?_)
   refine kq (sq ?_)
   refine bk (sq ?_)
   obtain ⟨e506,he506,h⟩:=bs h
   refine rg (APath.u 0 (st_val (ys:=[s_e_api_Stream false a1_,iv i4]) (by kernel_rfl) (vexec_iaddrS e_api_Stream he506)) (APath.u 0 (st_loadP (sz:=10) (off:=0) (cs:=[.int .i64 e506.Id,.int .i64 e506.Talker,.int .i64 e506.Listener,.int .i64 e506.Class,.int .i64 e506.Size,.int .i64 e506.Period,.int .i64 e506.Bucket.Burst,.int .i64 e506.Bucket.Rate,.int .i64 e506.Deadline,.sl 1 false (List.map (eSl 1 eI64) e506.Routes)]) (r:=.agg (c_api_Stream e506)) e_api_Stream he506 (by kernel_rfl) (by kernel_rfl) (by kernel_rfl)) APath.f)) (tq ?_)
   refine sq ?_
   obtain ⟨r507,hr507,h⟩:=bs h
   refine rg (APath.v 2 (st_call (by kernel_rfl) (stream_valid_ok N a0_ e506 r507 hr507)) APath.f) (tq ?_)
   refine it h (fun hc508 h => ?_) (fun hc508 h => ?_)
   ·refine sq (rg APath.f ?_)
    refine tq (rt ?_)
    refine br (tr ?_)
    obtain rfl:=some_inj h
    exact ⟨_,rfl,rfl,ret_of (by kernel_rfl)⟩
   refine sk (bn ?_)
   refine tq (kq ?_)
   refine rg APath.f ?_
   obtain rfl:=some_inj h
   exact ⟨_,rfl,(by show _=_; kernel_rfl)⟩
  refine kq (xq ?_)
  refine tx ?_
  obtain rfl:=some_inj h
  exact ⟨_,rfl,rfl,(by show _=_; kernel_rfl)⟩
 rintro e s hq
 rcases o509 with p510 | p1026
 ·dsimp only at h hq
  obtain ⟨rfl,hR⟩:=hq
  obtain rfl:=hR
  refine bx (tq ?_)
  refine sq ?_
  obtain ⟨id511,H512,hid511,hH512,hH⟩:=HP.newMp hH 0
  replace hH:HP H512 [mpT id511 0 (encE ke1 bv [])]:=hH
  refine rg (APath.h 0 (st_mkMap' (H:=[]) 0 (by kernel_rfl) hid511 hH512) APath.f) (tq ?_)
  refine sq (sq ?_)
  refine rg (APath.u 1 (st_val (ys:=[s_e_api_Stream false a1_]) (by kernel_rfl) (vexec_len e_api_Stream)) APath.f) (tq ?_)
  refine bk ?_
  obtain ⟨o1023,ho1023,h⟩:=bs h
  refine vc_loop ((loop_sim (fun (x:Int × (List (Int × Bool))) s=>∃ (H513:List HO),s=⟨[(8,.map id511),(31,s_e_api_Stream false a1_),(32,iv ((List.length a1_:Nat):Int)),(33,iv x.1)],[],H513⟩∧HP H513 [mpT id511 0 (encE ke1 bv x.2)]) (fun x:Int × (List (Int × Bool))=>stream_CheckAll_L2 N a1_ x.1 x.2) (fun (p:(Unit) ⊕ (Int)) e s=>match p with | (.inl p)=>e = .exit 2∧(∃ (H1016:List HO),s=⟨[],[],H1016⟩∧HP H1016 []) | (.inr p)=>e = .ret∧∃ xs,resL s i19.res=some xs∧tupOf xs=iv p) ?_ N _ o1023 _ ho1023 ⟨H512,(by show _=_; kernel_rfl),(HP.pick hH [0] rfl)⟩).mono ?_)
  ·clear h ho1023
   rintro ⟨i514,l515⟩ o s h hR
   obtain ⟨H513,rfl,hH⟩:=hR
   replace hH:HP H513 [mpT id511 0 (encE ke1 bv l515)]:=hH
   replace h:stream_CheckAll_L2 N a1_ i514 l515=some o:=h
   unfold stream_CheckAll_L2 at h
   refine sq (rg APath.f ?_)
   refine tq (sq ?_)
   refine it h (fun hc1017 h => ?_) (fun hc1017 h => ?_)
   ·refine sk (tq ?_)
    refine kq (sq ?_)
    refine bk (sq ?_)
    obtain ⟨e1018,he1018,h⟩:=bs h
    refine rg (APath.u 0 (st_val (ys:=[s_e_api_Stream false a1_,iv i514]) (by kernel_rfl) (vexec_iaddrS e_api_Stream he1018)) (APath.u 0 (st_loadP (sz:=10) (off:=0) (cs:=[.int .i64 e1018.Id,.int .i64 e1018.Talker,.int .i64 e1018.Listener,.int .i64 e1018.Class,.int .i64 e1018.Size,.int .i64 e1018.Period,.int .i64 e1018.Bucket.Burst,.int .i64 e1018.Bucket.Rate,.int .i64 e1018.Deadline,.sl 1 false (List.map (eSl 1 eI64) e1018.Routes)]) (r:=.agg (c_api_Stream e1018)) e_api_Stream he1018 (by kernel_rfl) (by kernel_rfl) (by kernel_rfl)) APath.f)) (tq ?_)
    refine sq (sq ?_)
    have hlm1019:=HP.get hH 0 rfl
    refine rg (APath.u 3 (st_mapG (H:=H513) (id:=id511) (kn:=0) (ke:=ke1) (ve:=bv) (l:=l515) (x:=e1018.Id) (z:=false) (r:=bv (mgetD l515 e1018.Id false)) (by kernel_rfl) (by kernel_rfl) hlm1019 (by kernel_rfl) (by kernel_rfl) (fun _=>rfl)) APath.f) (tq ?_)
    refine it h (fun hc1020 h => ?_) (fun hc1020 h => ?_)
    ·refine sq (rg APath.f ?_)
     replace hH:HP H513 []:=HP.pick hH [] rfl
     refine tq (rt ?_)
     refine tr (br ?_)
     refine tr ?_
     obtain rfl:=some_inj h
     exact ⟨_,rfl,rfl,ret_of (by kernel_rfl)⟩
    refine sk (tq ?_)
    refine kq ?_
    have hlm1022:=HP.get hH 0 rfl
    obtain ⟨H1021,hH1021,hH⟩:=HP.setMp (k:=0) hH rfl (encE ke1 bv (msetL l515 e1018.Id true))
    replace hH:HP H1021 [mpT id511 0 (encE ke1 bv (msetL l515 e1018.Id true))]:=hH
    refine rg (APath.o 3 (st_mapS (H:=H513) (id:=id511) (kn:=0) (ke:=ke1) (ve:=bv) (l:=l515) (x:=e1018.Id) (v:=true) (y:=bv true) (by kernel_rfl) (by kernel_rfl) hlm1022 (by kernel_rfl) (by kernel_rfl) hH1021) APath.f) (bn ?_)
    refine tq (kq ?_)
    refine rg APath.f ?_
    obtain rfl:=some_inj h
    exact ⟨_,rfl,⟨H1021,(by show _=_; kernel_rfl),(HP.pick hH [0] rfl)⟩⟩
   refine kq ?_
   replace hH:HP H513 []:=HP.pick hH [] rfl
   refine xq (tx ?_)
   obtain rfl:=some_inj h
   exact ⟨_,rfl,rfl,⟨H513,(by show _=_; kernel_rfl),(HP.pick hH [] rfl)⟩⟩
  rintro e s hq
  rcases o1023 with p1024 | p1025
  ·dsimp only at h hq
   obtain ⟨rfl,hR⟩:=hq
   obtain ⟨H1016,rfl,hH⟩:=hR
   replace hH:HP H1016 []:=hH
   refine bx (tq ?_)
   refine sq (rg APath.f ?_)
   refine tq (rt ?_)
   obtain rfl:=some_inj h
   exact ret_of (by kernel_rfl)
  dsimp only at h hq
  obtain ⟨rfl,hq⟩:=hq
  refine br (tr ?_)
  obtain rfl:=some_inj h
  exact hq
 dsimp only at h hq
 obtain ⟨rfl,hq⟩:=hq
 refine br (tr ?_)
 obtain rfl:=some_inj h
 exact hq
theorem stream_due_ok (N:Nat) (a0_:api_Topo) (a1_:api_Setup) (a2_:api_Stream) (a3_:Int) (r:Int) (h:stream_due N a0_ a1_ a2_ a3_=some r):PCall Try.prog 32 [.agg (c_api_Topo a0_),.agg (c_api_Setup a1_),.agg (c_api_Stream a2_),iv a3_] (iv r):=by
 unfold stream_due at h
 have hH:HP ([]:List HO) []:=trivial
 refine pcall_of chk32 rfl rfl (vc_sound _ _ _ ?_) rfl
 refine sq (rg APath.f ?_)
 refine tq (sq ?_)
 refine sq ?_
 obtain ⟨r1,hr1,h⟩:=bs h
 refine rg (APath.v 1 (st_call (by kernel_rfl) (topo_Check_ok N a0_ r1 hr1)) APath.f) (tq ?_)
 refine sq (rg APath.f ?_)
 refine tq (it h (fun hc2 h => ?_) (fun hc2 h => ?_))
 ·refine sq (rg APath.f ?_)
  refine tq (rt ?_)
  refine tr ?_
  obtain rfl:=some_inj h
  exact ret_of (by kernel_rfl)
 refine sk (tq ?_)
 refine kq (sq ?_)
 refine sq ?_
 obtain ⟨r3,hr3,h⟩:=bs h
 refine rg (APath.v 1 (st_call (by kernel_rfl) (stream_CheckSetup_ok N a1_ r3 hr3)) APath.f) (tq ?_)
 refine sq (rg APath.f ?_)
 refine tq (it h (fun hc4 h => ?_) (fun hc4 h => ?_))
 ·refine sq (rg APath.f ?_)
  refine tq (rt ?_)
  refine tr ?_
  obtain rfl:=some_inj h
  exact ret_of (by kernel_rfl)
 refine sk (tq ?_)
 refine kq (sq ?_)
 refine sq ?_
 obtain ⟨r5,hr5,h⟩:=bs h
 refine rg (APath.v 2 (st_call (by kernel_rfl) (stream_valid_ok N a0_ a2_ r5 hr5)) APath.f) (tq ?_)
 refine it h (fun hc6 h => ?_) (fun hc6 h => ?_)
 ·refine sq (rg APath.f ?_)
  refine tq (rt ?_)
  refine tr ?_
  obtain rfl:=some_inj h
  exact ret_of (by kernel_rfl)
 refine sk (tq ?_)
 refine kq (sq ?_)
 refine sq ?_
 obtain ⟨j10,hj,h⟩:=bs h
 refine rgR (fun s=>s=⟨[(36,bv j10)],[],[]⟩) ?_ ?_
 ·clear h
  rcases ite_some hj with ⟨hc7,hj⟩ | ⟨hc8,hj⟩
  ·obtain rfl:=some_inj hj
   exact (EP.u 2 (st_bool (c:=(a2_.Class != 7)) (by kernel_rfl) hc7) (EP.f (by show _=_; kernel_rfl)))
  refine (EP.u 2 (st_bool (c:=(a2_.Class != 7)) (by kernel_rfl) hc8) (EP.u 4 (st_val (ys:=[s_eSl_1_eI64 false a2_.Routes]) (by kernel_rfl) (vexec_len (eSl 1 eI64))) ?_))
  obtain ⟨r9,hr9,hj⟩:=bs hj
  obtain rfl:=some_inj hj
  exact (EP.v 1 (st_call (by kernel_rfl) (stream_between_ok N a3_ 0 (w64 (((List.length a2_.Routes:Nat):Int) - 1)) r9 hr9)) (EP.f (by show _=_; kernel_rfl)))
 clear hj
 rintro s hR
 obtain rfl:=hR
 refine tq (it h (fun hc11 h => ?_) (fun hc11 h => ?_))
 ·refine sq (rg APath.f ?_)
  refine tq (rt ?_)
  refine tr ?_
  obtain rfl:=some_inj h
  exact ret_of (by kernel_rfl)
 refine sk (tq ?_)
 refine kq (sq ?_)
 refine rg APath.f (tq ?_)
 refine rt ?_
 obtain rfl:=some_inj h
 exact ret_of (by kernel_rfl)
theorem stream_Hops_ok (N:Nat) (a0_:api_Topo) (a1_:api_Setup) (a2_:api_Stream) (a3_:Int) (r:(List api_Hop) × Int) (h:stream_Hops N a0_ a1_ a2_ a3_=some r):PCall Try.prog 11 [.agg (c_api_Topo a0_),.agg (c_api_Setup a1_),.agg (c_api_Stream a2_),iv a3_] (.tup [s_e_api_Hop false r.1,iv r.2]):=by
 unfold stream_Hops at h
 have hH:HP ([]:List HO) []:=trivial
 refine pcall_of chk11 rfl rfl (vc_sound _ _ _ ?_) rfl
 refine sq (rgS ⟨[(3,iv a3_),(4,.loc 4 0),(5,.loc 5 0),(6,.loc 6 0)],[(4,(c_api_Topo a0_)),(5,(c_api_Setup a1_)),(6,(c_api_Stream a2_))],[]⟩ APath.f (by kernel_rfl) ?_)
 refine tq (sq ?_)
 refine sq ?_
 obtain ⟨r1,hr1,h⟩:=bs h
 refine rgS ⟨[(3,iv a3_),(4,.loc 4 0),(5,.loc 5 0),(6,.loc 6 0),(10,iv r1)],[(4,(c_api_Topo a0_)),(5,(c_api_Setup a1_)),(6,(c_api_Stream a2_))],[]⟩ (APath.v 4 (st_call (by kernel_rfl) (stream_due_ok N a0_ a1_ a2_ a3_ r1 hr1)) APath.f) (by kernel_rfl) ?_
 refine tq (sq ?_)
 refine rgS ⟨[(3,iv a3_),(4,.loc 4 0),(5,.loc 5 0),(6,.loc 6 0),(10,iv r1),(19,bv (r1 != 0))],[(4,(c_api_Topo a0_)),(5,(c_api_Setup a1_)),(6,(c_api_Stream a2_))],[]⟩ APath.f (by kernel_rfl) ?_
 refine tq (it h (fun hc2 h => ?_) (fun hc2 h => ?_))
 ·refine sq (rgS ⟨[(8,s_e_api_Hop true []),(9,iv r1)],[],[]⟩ APath.f (by kernel_rfl) ?_)
  refine tq (rt ?_)
  refine tr ?_
  obtain rfl:=some_inj h
  exact ret_of (by kernel_rfl)
 refine sk (tq ?_)
 refine kq (sq ?_)
 obtain ⟨id3,H4,hid3,hH4,hH⟩:=HP.newCell hH [s_e_api_Hop true []]
 replace hH:HP H4 [.cel id3 [s_e_api_Hop true []]]:=hH
 refine rgS ⟨[(3,iv a3_),(4,.loc 4 0),(5,.loc 5 0),(6,.loc 6 0),(11,.ptr id3 0)],[(4,(c_api_Topo a0_)),(5,(c_api_Setup a1_)),(6,(c_api_Stream a2_))],H4⟩ (APath.h 0 (st_newH (H:=[]) (by kernel_rfl) hid3 hH4) APath.f) (by kernel_rfl) ?_
 refine tq (sq ?_)
 refine sq ?_
 obtain ⟨r5,hr5,h⟩:=bs h
 obtain ⟨id7,id8,id9,id10,H6,hvr5,hpr5⟩:=stream_hops_ok N a0_ a1_ a2_ a3_ H4 r5 hr5
 replace hH:HP H6 [.cel id7 (c_api_Stream r5.1),.cel id8 [iv r5.2.1],.cel id9 (c_api_Topo r5.2.2.1),.cel id10 (c_api_Setup r5.2.2.2),.cel id3 [s_e_api_Hop true []]]:=HP.callee (fp:=[]) (rest:=[.cel id3 [s_e_api_Hop true []]]) hH hpr5
 refine rgS ⟨[(11,.ptr id3 0),(25,.fn 46 [] [.ptr id7 0,.ptr id8 0,.ptr id9 0,.ptr id10 0])],[],H6⟩ (APath.v 4 (st_callH (H:=H4) (ys:=[.agg (c_api_Topo a0_),.agg (c_api_Setup a1_),.agg (c_api_Stream a2_),iv a3_]) (by kernel_rfl) (by kernel_rfl) (by kernel_rfl) hvr5) APath.f) (by kernel_rfl) ?_
 refine tq (bk ?_)
 obtain ⟨o520,ho520,h⟩:=bs h
 have hyo520:∀ (x12:api_Hop) (s:(List api_Hop)) (r:((List api_Hop)) × Bool) (H:List HO) (its:List Thing),(fun (s:(List api_Hop)) (its:List Thing)=>∃ (a13:AV),its=[.arr a13 5 false (List.map e_api_Hop s),.cel id3 [a13]] ++ [.lp (List.length H6) (lcOf Try.prog i11.nt [26] ra11_1 rb11_1) [(11,.ptr id3 0)] .ready]) s its→HP H its→(fun (s:(List api_Hop)) (x12:api_Hop)=>yieldT (fun v:(List api_Hop)=>stream_Hops_R1 N v x12) s) s x12=some r→∃ H' its',YCall Try.prog (List.length H6) [.agg (c_api_Hop x12)] H r.2 H'∧(fun (s:(List api_Hop)) (its:List Thing)=>∃ (a13:AV),its=[.arr a13 5 false (List.map e_api_Hop s),.cel id3 [a13]] ++ [.lp (List.length H6) (lcOf Try.prog i11.nt [26] ra11_1 rb11_1) [(11,.ptr id3 0)] .ready]) r.1 its'∧Fp H H' its its':=by
  clear h
  intro x12 s r H11 its hT hH h
  obtain ⟨q,hb,rfl⟩:=yieldT_some h
  clear h
  obtain ⟨vs,rfl⟩:∃ v,v=s:=⟨s,rfl⟩
  obtain ⟨l14,rfl⟩:∃ v,v=vs:=⟨vs,rfl⟩
  obtain ⟨a13,rfl⟩:=hT
  replace h:stream_Hops_R1 N l14 x12=some q:=hb
  clear hb
  unfold stream_Hops_R1 at h
  replace hH:Fp H11 H11 [.arr a13 5 false (List.map e_api_Hop l14),.cel id3 [a13],.lp (List.length H6) (lcOf Try.prog i11.nt [26] ra11_1 rb11_1) [(11,.ptr id3 0)] .ready] [.arr a13 5 false (List.map e_api_Hop l14),.cel id3 [a13],.lp (List.length H6) (lcOf Try.prog i11.nt [26] ra11_1 rb11_1) [(11,.ptr id3 0)] .ready]:=Fp.refl hH
  have hfa13:=own_form (Fp.get hH 0 rfl)
  suffices hs:∃ H',YCall Try.prog (List.length H6) [.agg (c_api_Hop x12)] H11 true H'∧∃ its',(fun (s:(List api_Hop)) (its:List Thing)=>∃ (a13:AV),its=[.arr a13 5 false (List.map e_api_Hop s),.cel id3 [a13]] ++ [.lp (List.length H6) (lcOf Try.prog i11.nt [26] ra11_1 rb11_1) [(11,.ptr id3 0)] .ready]) q its'∧Fp H11 H' [.arr a13 5 false (List.map e_api_Hop l14),.cel id3 [a13],.lp (List.length H6) (lcOf Try.prog i11.nt [26] ra11_1 rb11_1) [(11,.ptr id3 0)] .ready] its' by
   obtain ⟨H',h1,its',h2,h3⟩:=hs
   exact ⟨H',its',h1,h2,h3⟩
  refine ycall_det (id:=(List.length H6)) (args:=[.agg (c_api_Hop x12)]) (H:=H11) (n:=i11.nt) (ps:=[26]) (fr0:=[(11,.ptr id3 0)]) (ia:=ra11_1) (ib:=rb11_1) true (fun H'=>∃ its',(fun (s:(List api_Hop)) (its:List Thing)=>∃ (a13:AV),its=[.arr a13 5 false (List.map e_api_Hop s),.cel id3 [a13]] ++ [.lp (List.length H6) (lcOf Try.prog i11.nt [26] ra11_1 rb11_1) [(11,.ptr id3 0)] .ready]) q its'∧Fp H11 H' [.arr a13 5 false (List.map e_api_Hop l14),.cel id3 [a13],.lp (List.length H6) (lcOf Try.prog i11.nt [26] ra11_1 rb11_1) [(11,.ptr id3 0)] .ready] its') (Fp.get hH 2 rfl) rfl (by decide +kernel) rfl ?_
  show vc _ _ _ _ ⟨[(11,.ptr id3 0),(26,.agg (c_api_Hop x12))],[],H11⟩
  refine rgS ⟨[(11,.ptr id3 0),(12,.loc 12 0)],[(12,(c_api_Hop x12))],H11⟩ APath.f (by kernel_rfl) ?_
  refine ia_done (k:=2) hH rfl ?_
  intro H514 hH
  replace hH:Fp H11 H514 [.arr a13 5 false (List.map e_api_Hop l14),.cel id3 [a13],.lp (List.length H6) (lcOf Try.prog i11.nt [26] ra11_1 rb11_1) [(11,.ptr id3 0)] .ready] [.arr a13 5 false (List.map e_api_Hop l14),.cel id3 [a13],.lp (List.length H6) (lcOf Try.prog i11.nt [26] ra11_1 rb11_1) [(11,.ptr id3 0)] .busy]:=hH
  show vc _ _ _ _ ⟨[(11,.ptr id3 0),(12,.loc 12 0)],[(12,(c_api_Hop x12))],H514⟩
  refine bk ?_
  have hlc515:=Fp.get hH 1 rfl
  obtain ⟨l518,hl518,h⟩:=bs h
  obtain ⟨a516,H517,ha516,hH⟩:=Fp.app (k:=0) (a:=a13) (sz:=5) (frz:=false) e_api_Hop hH rfl hl518
  replace hH:Fp H11 H517 [.arr a13 5 false (List.map e_api_Hop l14),.cel id3 [a13],.lp (List.length H6) (lcOf Try.prog i11.nt [26] ra11_1 rb11_1) [(11,.ptr id3 0)] .ready] [.arr a516 5 false (List.map e_api_Hop l518),.cel id3 [a13],.lp (List.length H6) (lcOf Try.prog i11.nt [26] ra11_1 rb11_1) [(11,.ptr id3 0)] .busy]:=hH
  have hfa516:=own_form (Fp.get hH 0 rfl)
  obtain ⟨H519,hH519,hH⟩:=Fp.setCell (k:=1) (off:=0) (cs:=[a13]) (vs:=[a516]) (cs':=[a516]) hH rfl (by kernel_rfl)
  replace hH:Fp H11 H519 [.arr a13 5 false (List.map e_api_Hop l14),.cel id3 [a13],.lp (List.length H6) (lcOf Try.prog i11.nt [26] ra11_1 rb11_1) [(11,.ptr id3 0)] .ready] [.arr a516 5 false (List.map e_api_Hop l518),.cel id3 [a516],.lp (List.length H6) (lcOf Try.prog i11.nt [26] ra11_1 rb11_1) [(11,.ptr id3 0)] .busy]:=hH
  refine rgS ⟨[],[],H519⟩ (APath.u 0 (st_loadC (H:=H514) (id:=id3) (off:=0) (cs:=[a13]) (c:=[a13]) (r:=a13) (by rcases hfa13 with ha13e | ⟨_,_,ha13e⟩ <;> subst ha13e <;> kernel_rfl) (by rcases hfa13 with ha13e | ⟨_,_,ha13e⟩ <;> subst ha13e <;> kernel_rfl) hlc515 (by rcases hfa13 with ha13e | ⟨_,_,ha13e⟩ <;> subst ha13e <;> kernel_rfl) (by rcases hfa13 with ha13e | ⟨_,_,ha13e⟩ <;> subst ha13e <;> kernel_rfl) (by rcases hfa13 with ha13e | ⟨_,_,ha13e⟩ <;> subst ha13e <;> kernel_rfl)) (APath.h 2 (st_app (H:=H514) (a:=a13) (b:=s_e_api_Hop true [x12]) (by rcases hfa13 with ha13e | ⟨_,_,ha13e⟩ <;> subst ha13e <;> kernel_rfl) (by rcases hfa13 with ha13e | ⟨_,_,ha13e⟩ <;> subst ha13e <;> kernel_rfl) (by rcases hfa13 with ha13e | ⟨_,_,ha13e⟩ <;> subst ha13e <;> kernel_rfl) (by rcases hfa13 with ha13e | ⟨_,_,ha13e⟩ <;> subst ha13e <;> kernel_rfl) ha516) (APath.o 0 (st_storeC (H:=H517) (v:=a516) (cs:=[a516]) (by rcases hfa516 with ha516e | ⟨_,_,ha516e⟩ <;> subst ha516e <;> kernel_rfl) (by rcases hfa516 with ha516e | ⟨_,_,ha516e⟩ <;> subst ha516e <;> kernel_rfl) (by rcases hfa516 with ha516e | ⟨_,_,ha516e⟩ <;> subst ha516e <;> kernel_rfl) (by rcases hfa516 with ha516e | ⟨_,_,ha516e⟩ <;> subst ha516e <;> kernel_rfl) (by rcases hfa516 with ha516e | ⟨_,_,ha516e⟩ <;> subst ha516e <;> kernel_rfl) hH519) APath.f))) (by kernel_rfl) ?_
  refine bn ?_
  obtain rfl:=some_inj h
  exact rbd (k:=2) (.ready) hH rfl rfl (fun H6 hH=>⟨_,⟨a516,Eq.refl _⟩,(Fp.pick hH [0,1,2] rfl)⟩)
 refine vc_range (s:=⟨[(11,.ptr id3 0),(25,.fn 46 [] [.ptr id7 0,.ptr id8 0,.ptr id9 0,.ptr id10 0])],[],H6⟩) [(11,.ptr id3 0)] (FrOK.cons (by kernel_rfl) (by kernel_rfl) FrOK.nil) (by kernel_rfl) (fun H=>rfl) (capT:=[.cel id7 (c_api_Stream r5.1),.cel id8 [iv r5.2.1],.cel id9 (c_api_Topo r5.2.2.1),.cel id10 (c_api_Setup r5.2.2.2)]) (cells0:=[.arr (.p (.sl 5 true [])) 5 false (List.map e_api_Hop []),.cel id3 [s_e_api_Hop true []]]) (rest:=[]) (HP.now (HP.pick (HP.nilArr hH 5 false) [1,2,3,4,0,5] rfl)) (fun (s:(List api_Hop)) (its:List Thing)=>∃ (a13:AV),its=[.arr a13 5 false (List.map e_api_Hop s),.cel id3 [a13]] ++ [.lp (List.length H6) (lcOf Try.prog i11.nt [26] ra11_1 rb11_1) [(11,.ptr id3 0)] .ready]) [] o520 (by exact ⟨(.p (.sl 5 true [])),Eq.refl _⟩) (fun H its hT hH=>stream_hops_1_ok N (fun (s:(List api_Hop)) (x12:api_Hop)=>yieldT (fun v:(List api_Hop)=>stream_Hops_R1 N v x12) s) r5.1 r5.2.1 r5.2.2.1 r5.2.2.2 [] id7 id8 id9 id10 (List.length H6) (fun (s:(List api_Hop)) (its:List Thing)=>∃ (a13:AV),its=[.arr a13 5 false (List.map e_api_Hop s),.cel id3 [a13]] ++ [.lp (List.length H6) (lcOf Try.prog i11.nt [26] ra11_1 rb11_1) [(11,.ptr id3 0)] .ready]) hyo520 H its hT hH o520 ho520) ?_
 rintro its hT
 obtain ⟨a13,rfl⟩:=hT
 refine ⟨_,_,rfl,?_⟩
 intro H521 hF
 replace hH:HP H521 [.cel id7 (c_api_Stream r5.1),.cel id8 [iv r5.2.1],.cel id9 (c_api_Topo r5.2.2.1),.cel id10 (c_api_Setup r5.2.2.2),.arr a13 5 false (List.map e_api_Hop o520),.cel id3 [a13]]:=HP.after (HP.pick (HP.nilArr hH 5 false) [1,2,3,4,0,5] rfl) hF
 have hfa13:=own_form (HP.get hH 4 rfl)
 refine outQ_ready (S:=⟨[(11,.ptr id3 0),(25,.fn 46 [] [.ptr id7 0,.ptr id8 0,.ptr id9 0,.ptr id10 0])],[],H521⟩) ?_
 refine bn (tq ?_)
 refine kq ?_
 replace hH:HP H521 [.arr a13 5 false (List.map e_api_Hop o520),.cel id3 [a13]]:=HP.pick hH [4,5] rfl
 refine sq ?_
 have hlc522:=HP.get hH 1 rfl
 refine rgS ⟨[(8,a13),(9,iv 0)],[],H521⟩ (APath.u 0 (st_loadC (H:=H521) (id:=id3) (off:=0) (cs:=[a13]) (c:=[a13]) (r:=a13) (by rcases hfa13 with ha13e | ⟨_,_,ha13e⟩ <;> subst ha13e <;> kernel_rfl) (by rcases hfa13 with ha13e | ⟨_,_,ha13e⟩ <;> subst ha13e <;> kernel_rfl) hlc522 (by rcases hfa13 with ha13e | ⟨_,_,ha13e⟩ <;> subst ha13e <;> kernel_rfl) (by rcases hfa13 with ha13e | ⟨_,_,ha13e⟩ <;> subst ha13e <;> kernel_rfl) (by rcases hfa13 with ha13e | ⟨_,_,ha13e⟩ <;> subst ha13e <;> kernel_rfl)) APath.f) (by rcases hfa13 with ha13e | ⟨_,_,ha13e⟩ <;> subst ha13e <;> kernel_rfl) ?_
 replace hH:HP H521 [.arr a13 5 false (List.map e_api_Hop o520)]:=HP.pick hH [0] rfl
 refine tq (rt ?_)
 obtain rfl:=some_inj h
 exact ret_own (H:=H521) (ys:=[a13,iv 0]) (xs:=[.p (.sl 5 false (List.map e_api_Hop o520)),iv 0]) (by rcases hfa13 with ha13e | ⟨_,_,ha13e⟩ <;> subst ha13e <;> kernel_rfl) (by rcases hfa13 with ha13e | ⟨_,_,ha13e⟩ <;> subst ha13e <;> kernel_rfl) (pureVL_cons (HP.pure (k:=0) (frz:=false) e_api_Hop hH rfl).2 (pureVL_cons rfl pureVL_nil)) (by kernel_rfl)
theorem stream_Told_ok (N:Nat) (a0_:api_Topo) (a1_:api_Setup) (a2_:api_Stream) (a3_:Int) (r:Int × Int) (h:stream_Told N a0_ a1_ a2_ a3_=some r):PCall Try.prog 13 [.agg (c_api_Topo a0_),.agg (c_api_Setup a1_),.agg (c_api_Stream a2_),iv a3_] (.tup [iv r.1,iv r.2]):=by
 unfold stream_Told at h
 have hH:HP ([]:List HO) []:=trivial
 refine pcall_of chk13 rfl rfl (vc_sound _ _ _ ?_) rfl
 refine sq ?_
 obtain ⟨id1,H2,hid1,hH2,hH⟩:=HP.newCell hH (c_api_Topo a0_)
 replace hH:HP H2 [.cel id1 (c_api_Topo a0_)]:=hH
 obtain ⟨id3,H4,hid3,hH4,hH⟩:=HP.newCell hH (c_api_Setup a1_)
 replace hH:HP H4 [.cel id3 (c_api_Setup a1_),.cel id1 (c_api_Topo a0_)]:=hH
 refine rgS ⟨[(3,iv a3_),(4,.ptr id1 0),(5,.ptr id3 0),(6,.loc 6 0)],[(6,(c_api_Stream a2_))],H4⟩ (APath.h 0 (st_boxH (H:=[]) (v:=.agg (c_api_Topo a0_)) (by kernel_rfl) (by kernel_rfl) (by kernel_rfl) hid1 hH2) (APath.h 0 (st_boxH (H:=H2) (v:=.agg (c_api_Setup a1_)) (by kernel_rfl) (by kernel_rfl) (by kernel_rfl) hid3 hH4) APath.f)) (by kernel_rfl) ?_
 refine tq (sq ?_)
 refine sq ?_
 have hlc5:=HP.get hH 1 rfl
 have hlc6:=HP.get hH 0 rfl
 obtain ⟨r7,hr7,h⟩:=bs h
 refine rgS ⟨[(3,iv a3_),(4,.ptr id1 0),(5,.ptr id3 0),(6,.loc 6 0),(10,iv r7)],[(6,(c_api_Stream a2_))],H4⟩ (APath.u 0 (st_loadC (H:=H4) (id:=id1) (off:=0) (cs:=(c_api_Topo a0_)) (c:=(c_api_Topo a0_)) (r:=.agg (c_api_Topo a0_)) (by kernel_rfl) (by kernel_rfl) hlc5 (by kernel_rfl) (by kernel_rfl) (by kernel_rfl)) (APath.u 0 (st_loadC (H:=H4) (id:=id3) (off:=0) (cs:=(c_api_Setup a1_)) (c:=(c_api_Setup a1_)) (r:=.agg (c_api_Setup a1_)) (by kernel_rfl) (by kernel_rfl) hlc6 (by kernel_rfl) (by kernel_rfl) (by kernel_rfl)) (APath.v 2 (st_call (by kernel_rfl) (stream_due_ok N a0_ a1_ a2_ a3_ r7 hr7)) APath.f))) (by kernel_rfl) ?_
 refine tq (sq ?_)
 refine rgS ⟨[(3,iv a3_),(4,.ptr id1 0),(5,.ptr id3 0),(6,.loc 6 0),(10,iv r7),(19,bv (r7 != 0))],[(6,(c_api_Stream a2_))],H4⟩ APath.f (by kernel_rfl) ?_
 refine tq (it h (fun hc8 h => ?_) (fun hc8 h => ?_))
 ·refine sq (rgS ⟨[(8,iv 0),(9,iv r7)],[],H4⟩ APath.f (by kernel_rfl) ?_)
  replace hH:HP H4 []:=HP.pick hH [] rfl
  refine tq (rt ?_)
  refine tr ?_
  obtain rfl:=some_inj h
  exact ret_of (by kernel_rfl)
 refine sk (tq ?_)
 refine kq (sq ?_)
 obtain ⟨id9,H10,hid9,hH10,hH⟩:=HP.newCell hH [iv 0]
 replace hH:HP H10 [.cel id9 [iv 0],.cel id3 (c_api_Setup a1_),.cel id1 (c_api_Topo a0_)]:=hH
 obtain ⟨H11,hH11,hH⟩:=HP.setCell (k:=0) (off:=0) (cs:=[iv 0]) (vs:=[iv 0]) (cs':=[iv 0]) hH rfl (by kernel_rfl)
 replace hH:HP H11 [.cel id9 [iv 0],.cel id3 (c_api_Setup a1_),.cel id1 (c_api_Topo a0_)]:=hH
 refine rgS ⟨[(3,iv a3_),(4,.ptr id1 0),(5,.ptr id3 0),(6,.loc 6 0),(11,.ptr id9 0)],[(6,(c_api_Stream a2_))],H11⟩ (APath.h 0 (st_newH (H:=H4) (by kernel_rfl) hid9 hH10) (APath.o 0 (st_storeH (H:=H10) (v:=iv 0) (by kernel_rfl) (by kernel_rfl) (by kernel_rfl) (by kernel_rfl) hH11) APath.f)) (by kernel_rfl) ?_
 refine tq (sq ?_)
 refine sq ?_
 have hlc12:=HP.get hH 2 rfl
 have hlc13:=HP.get hH 1 rfl
 obtain ⟨r14,hr14,h⟩:=bs h
 obtain ⟨id16,id17,id18,id19,H15,hvr14,hpr14⟩:=stream_hops_ok N a0_ a1_ a2_ a3_ H11 r14 hr14
 replace hH:HP H15 [.cel id16 (c_api_Stream r14.1),.cel id17 [iv r14.2.1],.cel id18 (c_api_Topo r14.2.2.1),.cel id19 (c_api_Setup r14.2.2.2),.cel id9 [iv 0],.cel id3 (c_api_Setup a1_),.cel id1 (c_api_Topo a0_)]:=HP.callee (fp:=[]) (rest:=[.cel id9 [iv 0],.cel id3 (c_api_Setup a1_),.cel id1 (c_api_Topo a0_)]) hH hpr14
 refine rgS ⟨[(4,.ptr id1 0),(5,.ptr id3 0),(11,.ptr id9 0),(25,.fn 46 [] [.ptr id16 0,.ptr id17 0,.ptr id18 0,.ptr id19 0])],[],H15⟩ (APath.u 0 (st_loadC (H:=H11) (id:=id1) (off:=0) (cs:=(c_api_Topo a0_)) (c:=(c_api_Topo a0_)) (r:=.agg (c_api_Topo a0_)) (by kernel_rfl) (by kernel_rfl) hlc12 (by kernel_rfl) (by kernel_rfl) (by kernel_rfl)) (APath.u 0 (st_loadC (H:=H11) (id:=id3) (off:=0) (cs:=(c_api_Setup a1_)) (c:=(c_api_Setup a1_)) (r:=.agg (c_api_Setup a1_)) (by kernel_rfl) (by kernel_rfl) hlc13 (by kernel_rfl) (by kernel_rfl) (by kernel_rfl)) (APath.v 2 (st_callH (H:=H11) (ys:=[.agg (c_api_Topo a0_),.agg (c_api_Setup a1_),.agg (c_api_Stream a2_),iv a3_]) (by kernel_rfl) (by kernel_rfl) (by kernel_rfl) hvr14) APath.f))) (by kernel_rfl) ?_
 refine tq (bk ?_)
 obtain ⟨o527,ho527,h⟩:=bs h
 have hyo527:∀ (x21:api_Hop) (s:Int) (r:(Int) × Bool) (H:List HO) (its:List Thing),(fun (s:Int) (its:List Thing)=>its=[.cel id9 [iv s],.cel id3 (c_api_Setup a1_),.cel id1 (c_api_Topo a0_)] ++ [.lp (List.length H15) (lcOf Try.prog i13.nt [26] ra13_1 rb13_1) [(4,.ptr id1 0),(5,.ptr id3 0),(11,.ptr id9 0)] .ready]) s its→HP H its→(fun (s:Int) (x21:api_Hop)=>yieldT (fun v:Int=>stream_Told_R1 N a0_ a1_ v x21) s) s x21=some r→∃ H' its',YCall Try.prog (List.length H15) [.agg (c_api_Hop x21)] H r.2 H'∧(fun (s:Int) (its:List Thing)=>its=[.cel id9 [iv s],.cel id3 (c_api_Setup a1_),.cel id1 (c_api_Topo a0_)] ++ [.lp (List.length H15) (lcOf Try.prog i13.nt [26] ra13_1 rb13_1) [(4,.ptr id1 0),(5,.ptr id3 0),(11,.ptr id9 0)] .ready]) r.1 its'∧Fp H H' its its':=by
  clear h
  intro x21 s r H20 its hT hH h
  obtain ⟨q,hb,rfl⟩:=yieldT_some h
  clear h
  obtain ⟨vs,rfl⟩:∃ v,v=s:=⟨s,rfl⟩
  obtain ⟨i22,rfl⟩:∃ v,v=vs:=⟨vs,rfl⟩
  obtain rfl:=hT
  replace h:stream_Told_R1 N a0_ a1_ i22 x21=some q:=hb
  clear hb
  unfold stream_Told_R1 at h
  replace hH:Fp H20 H20 [.cel id9 [iv i22],.cel id3 (c_api_Setup a1_),.cel id1 (c_api_Topo a0_),.lp (List.length H15) (lcOf Try.prog i13.nt [26] ra13_1 rb13_1) [(4,.ptr id1 0),(5,.ptr id3 0),(11,.ptr id9 0)] .ready] [.cel id9 [iv i22],.cel id3 (c_api_Setup a1_),.cel id1 (c_api_Topo a0_),.lp (List.length H15) (lcOf Try.prog i13.nt [26] ra13_1 rb13_1) [(4,.ptr id1 0),(5,.ptr id3 0),(11,.ptr id9 0)] .ready]:=Fp.refl hH
  suffices hs:∃ H',YCall Try.prog (List.length H15) [.agg (c_api_Hop x21)] H20 true H'∧∃ its',(fun (s:Int) (its:List Thing)=>its=[.cel id9 [iv s],.cel id3 (c_api_Setup a1_),.cel id1 (c_api_Topo a0_)] ++ [.lp (List.length H15) (lcOf Try.prog i13.nt [26] ra13_1 rb13_1) [(4,.ptr id1 0),(5,.ptr id3 0),(11,.ptr id9 0)] .ready]) q its'∧Fp H20 H' [.cel id9 [iv i22],.cel id3 (c_api_Setup a1_),.cel id1 (c_api_Topo a0_),.lp (List.length H15) (lcOf Try.prog i13.nt [26] ra13_1 rb13_1) [(4,.ptr id1 0),(5,.ptr id3 0),(11,.ptr id9 0)] .ready] its' by
   obtain ⟨H',h1,its',h2,h3⟩:=hs
   exact ⟨H',its',h1,h2,h3⟩
  refine ycall_det (id:=(List.length H15)) (args:=[.agg (c_api_Hop x21)]) (H:=H20) (n:=i13.nt) (ps:=[26]) (fr0:=[(4,.ptr id1 0),(5,.ptr id3 0),(11,.ptr id9 0)]) (ia:=ra13_1) (ib:=rb13_1) true (fun H'=>∃ its',(fun (s:Int) (its:List Thing)=>its=[.cel id9 [iv s],.cel id3 (c_api_Setup a1_),.cel id1 (c_api_Topo a0_)] ++ [.lp (List.length H15) (lcOf Try.prog i13.nt [26] ra13_1 rb13_1) [(4,.ptr id1 0),(5,.ptr id3 0),(11,.ptr id9 0)] .ready]) q its'∧Fp H20 H' [.cel id9 [iv i22],.cel id3 (c_api_Setup a1_),.cel id1 (c_api_Topo a0_),.lp (List.length H15) (lcOf Try.prog i13.nt [26] ra13_1 rb13_1) [(4,.ptr id1 0),(5,.ptr id3 0),(11,.ptr id9 0)] .ready] its') (Fp.get hH 3 rfl) rfl (by decide +kernel) rfl ?_
  show vc _ _ _ _ ⟨[(4,.ptr id1 0),(5,.ptr id3 0),(11,.ptr id9 0),(26,.agg (c_api_Hop x21))],[],H20⟩
  refine rgS ⟨[(4,.ptr id1 0),(5,.ptr id3 0),(11,.ptr id9 0),(12,.loc 12 0)],[(12,(c_api_Hop x21))],H20⟩ APath.f (by kernel_rfl) ?_
  refine ia_done (k:=3) hH rfl ?_
  intro H522 hH
  replace hH:Fp H20 H522 [.cel id9 [iv i22],.cel id3 (c_api_Setup a1_),.cel id1 (c_api_Topo a0_),.lp (List.length H15) (lcOf Try.prog i13.nt [26] ra13_1 rb13_1) [(4,.ptr id1 0),(5,.ptr id3 0),(11,.ptr id9 0)] .ready] [.cel id9 [iv i22],.cel id3 (c_api_Setup a1_),.cel id1 (c_api_Topo a0_),.lp (List.length H15) (lcOf Try.prog i13.nt [26] ra13_1 rb13_1) [(4,.ptr id1 0),(5,.ptr id3 0),(11,.ptr id9 0)] .busy]:=hH
  show vc _ _ _ _ ⟨[(4,.ptr id1 0),(5,.ptr id3 0),(11,.ptr id9 0),(12,.loc 12 0)],[(12,(c_api_Hop x21))],H522⟩
  refine bk ?_
  have hlc523:=Fp.get hH 2 rfl
  obtain ⟨e524,he524,h⟩:=bs h
  have hlc525:=Fp.get hH 1 rfl
  obtain ⟨H526,hH526,hH⟩:=Fp.setCell (k:=0) (off:=0) (cs:=[iv i22]) (vs:=[iv (w64 ((w64 ((w64 (x21.Open + x21.Long)) + e524.Delay)) + a1_.Proc))]) (cs':=[iv (w64 ((w64 ((w64 (x21.Open + x21.Long)) + e524.Delay)) + a1_.Proc))]) hH rfl (by kernel_rfl)
  replace hH:Fp H20 H526 [.cel id9 [iv i22],.cel id3 (c_api_Setup a1_),.cel id1 (c_api_Topo a0_),.lp (List.length H15) (lcOf Try.prog i13.nt [26] ra13_1 rb13_1) [(4,.ptr id1 0),(5,.ptr id3 0),(11,.ptr id9 0)] .ready] [.cel id9 [iv (w64 ((w64 ((w64 (x21.Open + x21.Long)) + e524.Delay)) + a1_.Proc))],.cel id3 (c_api_Setup a1_),.cel id1 (c_api_Topo a0_),.lp (List.length H15) (lcOf Try.prog i13.nt [26] ra13_1 rb13_1) [(4,.ptr id1 0),(5,.ptr id3 0),(11,.ptr id9 0)] .busy]:=hH
  refine rqS ⟨[],[],H526⟩ (APath.u 6 (st_toLH (st_loadC (H:=H522) (id:=id1) (off:=2) (cs:=(c_api_Topo a0_)) (c:=[s_e_api_Link false a0_.Links]) (r:=s_e_api_Link false a0_.Links) (by kernel_rfl) (by kernel_rfl) hlc523 (by kernel_rfl) (by kernel_rfl) (by kernel_rfl)) (by kernel_rfl)) (APath.u 3 (st_val (ys:=[s_e_api_Link false a0_.Links,iv (w64 (Int.tdiv x21.Port 2))]) (by kernel_rfl) (vexec_iaddrS e_api_Link he524)) (APath.u 1 (st_toLH (st_loadP (sz:=4) (off:=3) (cs:=[.int .i64 e524.Delay]) (r:=iv e524.Delay) e_api_Link he524 (by kernel_rfl) (by kernel_rfl) (by kernel_rfl)) (by kernel_rfl)) (APath.u 2 (st_toLH (st_loadC (H:=H522) (id:=id3) (off:=2) (cs:=(c_api_Setup a1_)) (c:=[iv a1_.Proc]) (r:=iv a1_.Proc) (by kernel_rfl) (by kernel_rfl) hlc525 (by kernel_rfl) (by kernel_rfl) (by kernel_rfl)) (by kernel_rfl)) (APath.o 1 (st_toH (st_storeH (H:=H522) (v:=iv (w64 ((w64 ((w64 (x21.Open + x21.Long)) + e524.Delay)) + a1_.Proc))) (by kernel_rfl) (by kernel_rfl) (by kernel_rfl) (by kernel_rfl) hH526) (by kernel_rfl)) APath.f))))) (by kernel_rfl) ?_
  refine bn ?_
  obtain rfl:=some_inj h
  exact rbd (k:=3) (.ready) hH rfl rfl (fun H6 hH=>⟨_,(Eq.refl _),(Fp.pick hH [0,1,2,3] rfl)⟩)
 refine vc_range (s:=⟨[(4,.ptr id1 0),(5,.ptr id3 0),(11,.ptr id9 0),(25,.fn 46 [] [.ptr id16 0,.ptr id17 0,.ptr id18 0,.ptr id19 0])],[],H15⟩) [(4,.ptr id1 0),(5,.ptr id3 0),(11,.ptr id9 0)] (FrOK.cons (by kernel_rfl) (by kernel_rfl) (FrOK.cons (by kernel_rfl) (by kernel_rfl) (FrOK.cons (by kernel_rfl) (by kernel_rfl) FrOK.nil))) (by kernel_rfl) (fun H=>rfl) (capT:=[.cel id16 (c_api_Stream r14.1),.cel id17 [iv r14.2.1],.cel id18 (c_api_Topo r14.2.2.1),.cel id19 (c_api_Setup r14.2.2.2)]) (cells0:=[.cel id9 [iv 0],.cel id3 (c_api_Setup a1_),.cel id1 (c_api_Topo a0_)]) (rest:=[]) (HP.now (HP.pick hH [0,1,2,3,4,5,6] rfl)) (fun (s:Int) (its:List Thing)=>its=[.cel id9 [iv s],.cel id3 (c_api_Setup a1_),.cel id1 (c_api_Topo a0_)] ++ [.lp (List.length H15) (lcOf Try.prog i13.nt [26] ra13_1 rb13_1) [(4,.ptr id1 0),(5,.ptr id3 0),(11,.ptr id9 0)] .ready]) 0 o527 (by exact (Eq.refl _)) (fun H its hT hH=>stream_hops_1_ok N (fun (s:Int) (x21:api_Hop)=>yieldT (fun v:Int=>stream_Told_R1 N a0_ a1_ v x21) s) r14.1 r14.2.1 r14.2.2.1 r14.2.2.2 0 id16 id17 id18 id19 (List.length H15) (fun (s:Int) (its:List Thing)=>its=[.cel id9 [iv s],.cel id3 (c_api_Setup a1_),.cel id1 (c_api_Topo a0_)] ++ [.lp (List.length H15) (lcOf Try.prog i13.nt [26] ra13_1 rb13_1) [(4,.ptr id1 0),(5,.ptr id3 0),(11,.ptr id9 0)] .ready]) hyo527 H its hT hH o527 ho527) ?_
 rintro its hT
 obtain rfl:=hT
 refine ⟨_,_,rfl,?_⟩
 intro H528 hF
 replace hH:HP H528 [.cel id16 (c_api_Stream r14.1),.cel id17 [iv r14.2.1],.cel id18 (c_api_Topo r14.2.2.1),.cel id19 (c_api_Setup r14.2.2.2),.cel id9 [iv o527],.cel id3 (c_api_Setup a1_),.cel id1 (c_api_Topo a0_)]:=HP.after (HP.pick hH [0,1,2,3,4,5,6] rfl) hF
 refine outQ_ready (S:=⟨[(4,.ptr id1 0),(5,.ptr id3 0),(11,.ptr id9 0),(25,.fn 46 [] [.ptr id16 0,.ptr id17 0,.ptr id18 0,.ptr id19 0])],[],H528⟩) ?_
 refine bn (tq ?_)
 refine kq ?_
 replace hH:HP H528 [.cel id9 [iv o527]]:=HP.pick hH [4] rfl
 refine sq ?_
 have hlc529:=HP.get hH 0 rfl
 refine rgS ⟨[(8,iv o527),(9,iv 0)],[],H528⟩ (APath.u 0 (st_loadC (H:=H528) (id:=id9) (off:=0) (cs:=[iv o527]) (c:=[iv o527]) (r:=iv o527) (by kernel_rfl) (by kernel_rfl) hlc529 (by kernel_rfl) (by kernel_rfl) (by kernel_rfl)) APath.f) (by kernel_rfl) ?_
 replace hH:HP H528 []:=HP.pick hH [] rfl
 refine tq (rt ?_)
 obtain rfl:=some_inj h
 exact ret_of (by kernel_rfl)
theorem law22_works_ok (N:Nat) (r:Bool) (h:law22_works N=some r):PCall Try.prog 16 [] (bv r):=by
 unfold law22_works at h
 have hH:HP ([]:List HO) []:=trivial
 refine pcall_of chk16 rfl rfl (vc_sound _ _ _ ?_) rfl
 refine sq (rg APath.f ?_)
 refine tq (sq ?_)
 obtain ⟨r1,hr1,h⟩:=bs h
 obtain ⟨r2,hr2,h⟩:=bs h
 obtain ⟨r3,hr3,h⟩:=bs h
 refine rg (APath.v 0 (st_call (by kernel_rfl) (law22_line_ok N  r1 hr1)) (APath.v 0 (st_call (by kernel_rfl) (law22_setup_ok N  r2 hr2)) (APath.v 0 (st_call (by kernel_rfl) (law22_scheduled_ok N  r3 hr3)) APath.f))) (tq ?_)
 refine sq ?_
 obtain ⟨r4,hr4,h⟩:=bs h
 refine rg (APath.v 3 (st_call (by kernel_rfl) (stream_Hops_ok N r1 r2 r3 0 r4 hr4)) APath.f) (tq ?_)
 refine sq ?_
 obtain ⟨r5,hr5,h⟩:=bs h
 refine rg (APath.v 3 (st_call (by kernel_rfl) (stream_Told_ok N r1 r2 r3 0 r5 hr5)) APath.f) (tq ?_)
 refine sq ?_
 obtain ⟨r6,hr6,h⟩:=bs h
 refine rg (APath.v 3 (st_call (by kernel_rfl) (stream_Hops_ok N r1 r2 r3 1 r6 hr6)) APath.f) (tq ?_)
 refine sq (sq ?_)
 obtain ⟨j17,hj,h⟩:=bs h
 refine rgR (fun s=>s=⟨[(1,.loc 1 0),(3,.loc 3 0),(6,iv r5.1),(9,iv r6.2),(62,bv j17)],[(1,(c_api_Topo r1)),(3,(c_api_Stream r3))],[]⟩) ?_ ?_
 ·clear h
  rcases ite_some hj with ⟨hc7,hj⟩ | ⟨hc8,hj⟩
  ·obtain rfl:=some_inj hj
   exact (EP.u 1 (st_bool (c:=(r4.2 != 0)) (by kernel_rfl) hc7) (EP.f (by show _=_; kernel_rfl)))
  refine (EP.u 1 (st_bool (c:=(r4.2 != 0)) (by kernel_rfl) hc8) ?_)
  rcases ite_some hj with ⟨hc9,hj⟩ | ⟨hc10,hj⟩
  ·obtain rfl:=some_inj hj
   exact (EP.u 2 (st_bool (c:=(r5.2 != 0)) (by kernel_rfl) hc9) (EP.f (by show _=_; kernel_rfl)))
  refine (EP.u 2 (st_bool (c:=(r5.2 != 0)) (by kernel_rfl) hc10) (EP.u 3 (st_val (ys:=[s_e_api_Hop false r4.1]) (by kernel_rfl) (vexec_len e_api_Hop)) ?_))
  rcases ite_some hj with ⟨hc11,hj⟩ | ⟨hc12,hj⟩
  ·obtain rfl:=some_inj hj
   exact (EP.u 0 (st_bool (c:=(((List.length r4.1:Nat):Int) != 2)) (by kernel_rfl) hc11) (EP.f (by show _=_; kernel_rfl)))
  refine (EP.u 0 (st_bool (c:=(((List.length r4.1:Nat):Int) != 2)) (by kernel_rfl) hc12) ?_)
  obtain ⟨e13,he13,hj⟩:=bs hj
  refine (EP.u 3 (st_val (ys:=[s_e_api_Hop false r4.1,iv 0]) (by kernel_rfl) (vexec_iaddrS e_api_Hop he13)) (EP.u 0 (st_loadP (sz:=5) (off:=0) (cs:=[.int .i64 e13.Port,.int .i64 e13.Early,.int .i64 e13.Late,.int .i64 e13.Open,.int .i64 e13.Long]) (r:=.agg (c_api_Hop e13)) e_api_Hop he13 (by kernel_rfl) (by kernel_rfl) (by kernel_rfl)) ?_))
  rcases ite_some hj with ⟨hc14,hj⟩ | ⟨hc15,hj⟩
  ·obtain rfl:=some_inj hj
   exact (EP.u 1 (st_bool (c:=(!((e13.Port == 0) && ((e13.Early == 0) && ((e13.Late == 0) && ((e13.Open == 0) && ((e13.Long == 800) && true))))))) (by kernel_rfl) hc14) (EP.f (by show _=_; kernel_rfl)))
  refine (EP.u 1 (st_bool (c:=(!((e13.Port == 0) && ((e13.Early == 0) && ((e13.Late == 0) && ((e13.Open == 0) && ((e13.Long == 800) && true))))))) (by kernel_rfl) hc15) ?_)
  obtain ⟨e16,he16,hj⟩:=bs hj
  obtain rfl:=some_inj hj
  exact (EP.u 3 (st_val (ys:=[s_e_api_Hop false r4.1,iv 1]) (by kernel_rfl) (vexec_iaddrS e_api_Hop he16)) (EP.u 0 (st_loadP (sz:=5) (off:=0) (cs:=[.int .i64 e16.Port,.int .i64 e16.Early,.int .i64 e16.Late,.int .i64 e16.Open,.int .i64 e16.Long]) (r:=.agg (c_api_Hop e16)) e_api_Hop he16 (by kernel_rfl) (by kernel_rfl) (by kernel_rfl)) (EP.f (by show _=_; kernel_rfl))))
 clear hj
 rintro s hR
 obtain rfl:=hR
 refine tq (it h (fun hc18 h => ?_) (fun hc18 h => ?_))
 ·refine sq (rg APath.f ?_)
  refine tq (rt ?_)
  refine tr ?_
  obtain rfl:=some_inj h
  exact ret_of (by kernel_rfl)
 refine sk (tq ?_)
 refine kq (sq ?_)
 refine rq APath.f (tq ?_)
 refine sq (rg APath.f ?_)
 refine tq (sq ?_)
 obtain ⟨j26,hj,h⟩:=bs h
 refine rgR (fun s=>s=⟨[(1,.loc 1 0),(3,.loc 3 0),(6,iv r5.1),(9,iv r6.2),(13,bv j26)],[(1,(c_api_Topo r1)),(3,(c_api_Stream r3))],[]⟩) ?_ ?_
 ·clear h
  obtain ⟨r19,hr19,hj⟩:=bs hj
  refine (EP.v 2 (st_call (by kernel_rfl) (stream_Check_ok N r1 (api_Stream.mk r3.Id r3.Talker 1 r3.Class r3.Size r3.Period r3.Bucket r3.Deadline r3.Routes) r19 hr19)) ?_)
  rcases ite_some hj with ⟨hc20,hj⟩ | ⟨hc25,hj⟩
  ·refine (EP.u 0 (st_bool (c:=(r19 == 321)) (by kernel_rfl) hc20) ?_)
   obtain ⟨r21,hr21,hj⟩:=bs hj
   refine (EP.v 3 (st_call (by kernel_rfl) (stream_Check_ok N r1 (api_Stream.mk r3.Id r3.Talker r3.Listener r3.Class 83 r3.Period r3.Bucket r3.Deadline r3.Routes) r21 hr21)) ?_)
   rcases ite_some hj with ⟨hc22,hj⟩ | ⟨hc24,hj⟩
   ·refine (EP.u 0 (st_bool (c:=(r21 == 321)) (by kernel_rfl) hc22) ?_)
    obtain ⟨r23,hr23,hj⟩:=bs hj
    obtain rfl:=some_inj hj
    exact (EP.v 4 (st_call (by kernel_rfl) (stream_Check_ok N r1 (api_Stream.mk r3.Id r3.Talker r3.Listener r3.Class r3.Size r3.Period r3.Bucket r3.Deadline ([[2,0]])) r23 hr23)) (EP.f (by show _=_; kernel_rfl)))
   obtain rfl:=some_inj hj
   exact (EP.u 0 (st_bool (c:=(r21 == 321)) (by kernel_rfl) hc24) (EP.f (by show _=_; kernel_rfl)))
  obtain rfl:=some_inj hj
  exact (EP.u 0 (st_bool (c:=(r19 == 321)) (by kernel_rfl) hc25) (EP.f (by show _=_; kernel_rfl)))
 clear hj
 rintro s hR
 obtain rfl:=hR
 refine tq (sq ?_)
 obtain ⟨j37,hj,h⟩:=bs h
 refine rgR (fun s=>s=⟨[(0,bv j37)],[],[]⟩) ?_ ?_
 ·clear h
  rcases ite_some hj with ⟨hc27,hj⟩ | ⟨hc36,hj⟩
  ·refine (EP.u 1 (st_bool (c:=(r5.1 == 1715)) (by kernel_rfl) hc27) ?_)
   rcases ite_some hj with ⟨hc28,hj⟩ | ⟨hc35,hj⟩
   ·refine (EP.u 2 (st_bool (c:=(r6.2 == 2)) (by kernel_rfl) hc28) ?_)
    rcases ite_some hj with ⟨hc29,hj⟩ | ⟨hc34,hj⟩
    ·refine (EP.u 2 (st_bool (c:=j26) (by kernel_rfl) hc29) ?_)
     obtain ⟨r30,hr30,hj⟩:=bs hj
     refine (EP.v 6 (st_call (by kernel_rfl) (stream_CheckAll_ok N r1 ([r3,r3]) r30 hr30)) ?_)
     rcases ite_some hj with ⟨hc31,hj⟩ | ⟨hc33,hj⟩
     ·refine (EP.u 0 (st_bool (c:=(r30 == 322)) (by kernel_rfl) hc31) ?_)
      obtain ⟨r32,hr32,hj⟩:=bs hj
      obtain rfl:=some_inj hj
      exact (EP.v 4 (st_call (by kernel_rfl) (stream_Check_ok N r1 r3 r32 hr32)) (EP.f (by show _=_; kernel_rfl)))
     obtain rfl:=some_inj hj
     exact (EP.u 0 (st_bool (c:=(r30 == 322)) (by kernel_rfl) hc33) (EP.f (by show _=_; kernel_rfl)))
    obtain rfl:=some_inj hj
    exact (EP.u 2 (st_bool (c:=j26) (by kernel_rfl) hc34) (EP.f (by show _=_; kernel_rfl)))
   obtain rfl:=some_inj hj
   exact (EP.u 2 (st_bool (c:=(r6.2 == 2)) (by kernel_rfl) hc35) (EP.f (by show _=_; kernel_rfl)))
  obtain rfl:=some_inj hj
  exact (EP.u 1 (st_bool (c:=(r5.1 == 1715)) (by kernel_rfl) hc36) (EP.f (by show _=_; kernel_rfl)))
 clear hj
 rintro s hR
 obtain rfl:=hR
 refine tq (rt ?_)
 obtain rfl:=some_inj h
 exact ret_of (by kernel_rfl)
end Go.Sh

