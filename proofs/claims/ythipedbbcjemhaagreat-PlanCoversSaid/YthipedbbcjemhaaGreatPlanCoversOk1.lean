/- Part of the proof; written by a program out of the texts in wip/. -/
import Derived.Test.YthipedbbcjemhaaGreatPlanCoversSh
import Derived.Test.YthipedbbcjemhaaGreatPlanCoversChk
namespace Go.Sh
open Go Go.Eng Go.Proofs
set_option linter.unusedVariables false
set_option linter.unusedSimpArgs false
set_option maxRecDepth 100000
set_option maxHeartbeats 4000000
attribute [local irreducible] vc ev Zeu opsD opsF Zhf upd updH updO
theorem ZjK (N:Nat) (a0_:Int) (a1_:Int) (a2_:Int) (r:ZE) (h:ZeQ N a0_ a1_ a2_=some r):Zac Tryz.prog 7 [.p (.int .u8 a0_),.p (.int .u8 a1_),.p (.int .u8 a2_)] (.agg [iv r.Grid,iv r.Slack,iv r.Proc,iv r.Cap]):=by
 unfold ZeQ at h
 have hH:HP ([]:List HO) []:=trivial
 refine ZD chk7 rfl rfl (Zt _ _ _ ?_) rfl
 refine sq (rg Za.f ?_)
 refine tq (sq ?_)
 refine rg Za.f (tq ?_)
 refine rt ?_
 obtain rfl:=Zb h
 exact Zx kr
theorem Zmq (N:Nat) (a0_:Zs) (a1_:Zs) (r:Bool) (h:ZiS N a0_ a1_=some r):Zac Tryz.prog 10 [.agg (Zd a0_),.agg (Zd a1_)] (bv r):=by
 unfold ZiS at h
 have hH:HP ([]:List HO) []:=trivial
 refine ZD chk10 rfl rfl (Zt _ _ _ ?_) rfl
 refine sq (rg Za.f ?_)
 refine tq (sq ?_)
 refine sq (rgX ⟨[(2,.loc 2 0),(3,.loc 3 0),(22,bv ((((List.length a0_.Periods:Nat):Int) != ((List.length a1_.Periods:Nat):Int))||(((List.length a0_.Uses:Nat):Int) != ((List.length a1_.Uses:Nat):Int))))],[(2,(Zd a0_)),(3,(Zd a1_))],[]⟩ ?_ ?_)
 ·refine (EP.u 2 (Zm (ys:=[Zg false a0_.Periods]) (h:=Zr eI64)) (EP.u 2 (Zm (ys:=[Zg false a1_.Periods]) (h:=Zr eI64)) ?_))
  rcases Bool.eq_false_or_eq_true (((List.length a0_.Periods:Nat):Int) != ((List.length a1_.Periods:Nat):Int)) with hc1 | hc2
  ·exact (EP.u 0 (Zi (c:=(((List.length a0_.Periods:Nat):Int) != ((List.length a1_.Periods:Nat):Int))) (h:=hc1)) (EP.f (by simp only [hc1];kernel_rfl)))
  exact (EP.u 0 (Zi (c:=(((List.length a0_.Periods:Nat):Int) != ((List.length a1_.Periods:Nat):Int))) (h:=hc2)) (EP.u 3 (Zm (ys:=[ZK false a0_.Uses]) (h:=Zr Zq)) (EP.u 2 (Zm (ys:=[ZK false a1_.Uses]) (h:=Zr Zq)) (EP.f (by simp only [hc2];kernel_rfl)))))
 refine tq (it h (fun hc3 h => ?_) (fun hc3 h => ?_))
 ·refine sq (rg Za.f ?_)
  refine tq (rt ?_)
  refine tr ?_
  obtain rfl:=Zb h
  exact Zx kr
 refine sk (tq ?_)
 refine kq (sq ?_)
 refine sq (rg Za.f ?_)
 refine tq (bk ?_)
 obtain ⟨ac,a6,h⟩:=bs h
 refine ZS ((ZL (fun (x:Int) s=>s=⟨[(2,.loc 2 0),(3,.loc 3 0),(5,iv x)],[(2,(Zd a0_)),(3,(Zd a1_))],[]⟩) (fun x:Int=>ZeP N a0_ a1_ x) (fun (p:(Unit) ⊕ (Bool)) e s=>match p with | (.inl p)=>e = .exit 0∧(s=⟨[(2,.loc 2 0),(3,.loc 3 0)],[(2,(Zd a0_)),(3,(Zd a1_))],[]⟩) | (.inr p)=>e = .ret∧∃ xs,resL s i10.res=some xs∧ZaW xs=bv p) ?_ N _ ac _ a6 (by show _=_;kernel_rfl)).mono ?_)
 ·clear h a6
  rintro i4 o s h hR
  obtain rfl:=hR
  replace h:ZeP N a0_ a1_ i4=some o:=h
  unfold ZeP at h
  refine sq (sq ?_)
  refine rg (Za.u 3 (Zm (ys:=[Zg false a0_.Periods]) (h:=Zr eI64)) Za.f) (tq ?_)
  refine it h (fun ae h => ?_) (fun ae h => ?_)
  ·refine sk (tq ?_)
   refine kq (sq ?_)
   refine bk (sq ?_)
   obtain ⟨ag,a8,h⟩:=bs h
   obtain ⟨af,a7,h⟩:=bs h
   refine rq (Za.u 3 (Zm (ys:=[Zg false a0_.Periods,iv i4]) (h:=Zk eI64 a8)) (Za.u 0 (ZN (Zu (sz:=1) (off:=0) (cs:=[.int .i64 ag]) (r:=iv ag) eI64 a8)) (Za.u 3 (Zm (ys:=[Zg false a1_.Periods,iv i4]) (h:=Zk eI64 a7)) (Za.u 0 (ZN (Zu (sz:=1) (off:=0) (cs:=[.int .i64 af]) (r:=iv af) eI64 a7)) Za.f)))) (tq ?_)
   refine it h (fun ad h => ?_) (fun ad h => ?_)
   ·refine sq (rg Za.f ?_)
    refine tq (rt ?_)
    refine br (tr ?_)
    obtain rfl:=Zb h
    exact ⟨_,rfl,rfl,Zx kr⟩
   refine sk (bn ?_)
   refine tq (kq ?_)
   refine rg Za.f ?_
   obtain rfl:=Zb h
   exact ⟨_,rfl,(by show _=_;kernel_rfl)⟩
  refine kq (xq ?_)
  refine tx ?_
  obtain rfl:=Zb h
  exact ⟨_,rfl,rfl,(by show _=_;kernel_rfl)⟩
 rintro e s hq
 rcases ac with al | ai
 ·dsimp only at h hq
  obtain ⟨rfl,hR⟩:=hq
  obtain rfl:=hR
  refine bx (tq ?_)
  refine sq (sq ?_)
  refine rg Za.f (tq ?_)
  refine bk ?_
  obtain ⟨a5,a2,h⟩:=bs h
  refine ZS ((ZL (fun (x:Int) s=>s=⟨[(2,.loc 2 0),(3,.loc 3 0),(6,iv x)],[(2,(Zd a0_)),(3,(Zd a1_))],[]⟩) (fun x:Int=>ZeO N a0_ a1_ x) (fun (p:(Unit) ⊕ (Bool)) e s=>match p with | (.inl p)=>e = .exit 2∧(s=⟨[],[],[]⟩) | (.inr p)=>e = .ret∧∃ xs,resL s i10.res=some xs∧ZaW xs=bv p) ?_ N _ a5 _ a2 (by show _=_;kernel_rfl)).mono ?_)
  ·clear h a2
   rintro a9 o s h hR
   obtain rfl:=hR
   replace h:ZeO N a0_ a1_ a9=some o:=h
   unfold ZeO at h
   refine sq (sq ?_)
   refine rg (Za.u 3 (Zm (ys:=[ZK false a0_.Uses]) (h:=Zr Zq)) Za.f) (tq ?_)
   refine it h (fun ab h => ?_) (fun ab h => ?_)
   ·refine sk (tq ?_)
    refine kq (sq ?_)
    refine bk (sq ?_)
    obtain ⟨a1,a4,h⟩:=bs h
    obtain ⟨a0,a3,h⟩:=bs h
    refine rq (Za.u 3 (Zm (ys:=[ZK false a0_.Uses,iv a9]) (h:=Zk Zq a4)) (Za.u 0 (ZN (Zu (sz:=4) (off:=0) (cs:=[.int .i64 a1.Stream,.int .i64 a1.Port,.int .i64 a1.From,.int .i64 a1.Long]) (r:=.agg (ZZ a1)) Zq a4)) (Za.u 3 (Zm (ys:=[ZK false a1_.Uses,iv a9]) (h:=Zk Zq a3)) (Za.u 0 (ZN (Zu (sz:=4) (off:=0) (cs:=[.int .i64 a0.Stream,.int .i64 a0.Port,.int .i64 a0.From,.int .i64 a0.Long]) (r:=.agg (ZZ a0)) Zq a3)) Za.f)))) (tq ?_)
    refine it h (fun aa h => ?_) (fun aa h => ?_)
    ·refine sq (rg Za.f ?_)
     refine tq (rt ?_)
     refine br (tr ?_)
     obtain rfl:=Zb h
     exact ⟨_,rfl,rfl,Zx kr⟩
    refine sk (bn ?_)
    refine tq (kq ?_)
    refine rg Za.f ?_
    obtain rfl:=Zb h
    exact ⟨_,rfl,(by show _=_;kernel_rfl)⟩
   refine kq (xq ?_)
   refine tx ?_
   obtain rfl:=Zb h
   exact ⟨_,rfl,rfl,(by show _=_;kernel_rfl)⟩
  rintro e s hq
  rcases a5 with ak | aj
  ·dsimp only at h hq
   obtain ⟨rfl,hR⟩:=hq
   obtain rfl:=hR
   refine bx (tq ?_)
   refine sq (rg Za.f ?_)
   refine tq (rt ?_)
   obtain rfl:=Zb h
   exact Zx kr
  dsimp only at h hq
  obtain ⟨rfl,hq⟩:=hq
  refine br (tr ?_)
  obtain rfl:=Zb h
  exact hq
 dsimp only at h hq
 obtain ⟨rfl,hq⟩:=hq
 refine br (tr ?_)
 obtain rfl:=Zb h
 exact hq
theorem ZdP (N:Nat) (a0_:(List Int)) (a1_:Int) (r:Int) (h:Zde N a0_ a1_=some r):Zac Tryz.prog 16 [ZfC false a0_,iv a1_] (iv r):=by
 unfold Zde at h
 have hH:HP ([]:List HO) []:=trivial
 refine ZD chk16 rfl rfl (Zt _ _ _ ?_) rfl
 refine sq (rg Za.f ?_)
 refine tq (sq ?_)
 refine sq (rg (Za.u 2 (Zm (ys:=[ZfC false a0_]) (h:=Zr (eI .u8))) Za.f) ?_)
 refine tq (it h (fun hc1 h => ?_) (fun hc1 h => ?_))
 ·refine sq ?_
  obtain ⟨e2,he2,h⟩:=bs h
  refine rg (Za.u 2 (Zm (ys:=[ZfC false a0_,iv a1_]) (h:=Zk (eI .u8) he2)) (Za.u 0 (Zu (sz:=1) (off:=0) (cs:=[.int .u8 e2]) (r:=.p (.int .u8 e2)) (eI .u8) he2) Za.f)) (tq ?_)
  refine rt (tr ?_)
  obtain rfl:=Zb h
  exact Zx kr
 refine sk (tq ?_)
 refine kq (sq ?_)
 refine rg Za.f (tq ?_)
 refine rt ?_
 obtain rfl:=Zb h
 exact Zx kr
theorem Za8 (N:Nat) (a0_:Int) (a1_:Int) (a2_:Int) (r:Zj) (h:Za9 N a0_ a1_ a2_=some r):Zac Tryz.prog 30 [iv a0_,iv a1_,iv a2_] (.agg [iv r.Id,iv r.Talker,iv r.Listener,iv r.Class,iv r.Size,iv r.Period,iv r.Bucket.Burst,iv r.Bucket.Rate,iv r.Deadline,Zn false r.Routes]):=by
 unfold Za9 at h
 have hH:HP ([]:List HO) []:=trivial
 refine ZD chk30 rfl rfl (Zt _ _ _ ?_) rfl
 refine sq (rg Za.f ?_)
 refine tq (sq ?_)
 refine rg Za.f (tq ?_)
 refine rt ?_
 obtain rfl:=Zb h
 exact Zx kr
theorem ZhB (N:Nat) (a0_:Zh) (a1_:ZE) (a2_:Zj) (a3_:Int) (H:List HO) (r:Zj × Int × Zh × ZE) (h:Zf7 N a0_ a1_ a2_ a3_=some r):∃ (id0_ id1_ id2_ id3_:Nat) (H':List HO),Zbe Tryz.prog 36 [.agg (Zc a0_),.agg (Zl a1_),.agg (Zf a2_),iv a3_] H (.fn 58 [] [.ptr id0_ 0,.ptr id1_ 0,.ptr id2_ 0,.ptr id3_ 0]) H'∧Fp H H' [] [.cel id0_ [iv r.1.Id,iv r.1.Talker,iv r.1.Listener,iv r.1.Class,iv r.1.Size,iv r.1.Period,iv r.1.Bucket.Burst,iv r.1.Bucket.Rate,iv r.1.Deadline,Zn false r.1.Routes],.cel id1_ [iv r.2.1],.cel id2_ [iv r.2.2.1.Nodes,s_eB false r.2.2.1.Station,Ze false r.2.2.1.Links],.cel id3_ [iv r.2.2.2.Grid,iv r.2.2.2.Slack,iv r.2.2.2.Proc,iv r.2.2.2.Cap]]:=by
 suffices hs:∃ r' H',Zbe Tryz.prog 36 [.agg (Zc a0_),.agg (Zl a1_),.agg (Zf a2_),iv a3_] H r' H'∧∃ (id0_ id1_ id2_ id3_:Nat),r' = .fn 58 [] [.ptr id0_ 0,.ptr id1_ 0,.ptr id2_ 0,.ptr id3_ 0]∧Fp H H' [] [.cel id0_ [iv r.1.Id,iv r.1.Talker,iv r.1.Listener,iv r.1.Class,iv r.1.Size,iv r.1.Period,iv r.1.Bucket.Burst,iv r.1.Bucket.Rate,iv r.1.Deadline,Zn false r.1.Routes],.cel id1_ [iv r.2.1],.cel id2_ [iv r.2.2.1.Nodes,s_eB false r.2.2.1.Station,Ze false r.2.2.1.Links],.cel id3_ [iv r.2.2.2.Grid,iv r.2.2.2.Slack,iv r.2.2.2.Proc,iv r.2.2.2.Cap]] by
  obtain ⟨_,H',h1,id0_,id1_,id2_,id3_,rfl,h2⟩:=hs
  exact ⟨id0_,id1_,id2_,id3_,H',h1,h2⟩
 unfold Zf7 at h
 have hH:Fp H H [] []:=Fp.refl trivial
 refine Zjc chk36 (fun r' H'=>∃ (id0_ id1_ id2_ id3_:Nat),r' = .fn 58 [] [.ptr id0_ 0,.ptr id1_ 0,.ptr id2_ 0,.ptr id3_ 0]∧Fp H H' [] [.cel id0_ [iv r.1.Id,iv r.1.Talker,iv r.1.Listener,iv r.1.Class,iv r.1.Size,iv r.1.Period,iv r.1.Bucket.Burst,iv r.1.Bucket.Rate,iv r.1.Deadline,Zn false r.1.Routes],.cel id1_ [iv r.2.1],.cel id2_ [iv r.2.2.1.Nodes,s_eB false r.2.2.1.Station,Ze false r.2.2.1.Links],.cel id3_ [iv r.2.2.2.Grid,iv r.2.2.2.Slack,iv r.2.2.2.Proc,iv r.2.2.2.Cap]]) (fun r' H' ⟨_,_,_,_,e,_⟩=>by rw [e];rfl) rfl rfl ?_
 refine sq ?_
 obtain ⟨id1,H2,hid1,hH2,hH⟩:=Fp.newCell hH (Zc a0_)
 replace hH:Fp _ _ _ [.cel id1 (Zc a0_)]:=hH
 obtain ⟨id3,H4,hid3,hH4,hH⟩:=Fp.newCell hH (Zl a1_)
 replace hH:Fp _ _ _ [.cel id3 (Zl a1_),.cel id1 (Zc a0_)]:=hH
 obtain ⟨id5,H6,hid5,hH6,hH⟩:=Fp.newCell hH (Zf a2_)
 replace hH:Fp _ _ _ [.cel id5 (Zf a2_),.cel id3 (Zl a1_),.cel id1 (Zc a0_)]:=hH
 obtain ⟨id7,H8,hid7,hH8,hH⟩:=Fp.newCell hH [iv a3_]
 replace hH:Fp _ _ _ [.cel id7 [iv a3_],.cel id5 (Zf a2_),.cel id3 (Zl a1_),.cel id1 (Zc a0_)]:=hH
 refine rg (Za.h 0 (Zb6 (H:=H) (v:=.agg (Zc a0_)) (hid:=hid1) (hH:=hH2)) (Za.h 0 (Zb6 (H:=H2) (v:=.agg (Zl a1_)) (hid:=hid3) (hH:=hH4)) (Za.h 0 (Zb6 (H:=H4) (v:=.agg (Zf a2_)) (hid:=hid5) (hH:=hH6)) (Za.h 0 (Zb6 (H:=H6) (v:=iv a3_) (hid:=hid7) (hH:=hH8)) Za.f)))) (tq ?_)
 refine sq (rg Za.f ?_)
 refine tq (rt ?_)
 obtain rfl:=Zb h
 exact ⟨[.fn 58 [] [.ptr id5 0,.ptr id7 0,.ptr id1 0,.ptr id3 0]],kr,id5,id7,id1,id3,rfl,Fp.pk hH [1,0,3,2] rfl⟩
theorem Zlt (N:Nat) (a0_:Zy) (a1_:Int) (a2_:Int) (r:Bool) (h:Ze8 N a0_ a1_ a2_=some r):Zac Tryz.prog 38 [.agg (Zay a0_),iv a1_,iv a2_] (bv r):=by
 unfold Ze8 at h
 have hH:HP ([]:List HO) []:=trivial
 refine ZD chk38 rfl rfl (Zt _ _ _ ?_) rfl
 refine sq (rg Za.f ?_)
 refine tq (sq ?_)
 refine rgX ⟨[(6,bv (if (a0_.A==a1_) then ((a0_.B==a2_)||((a0_.A==a2_)&&(a0_.B==a1_))) else ((a0_.A==a2_)&&(a0_.B==a1_))))],[],[]⟩ ?_ ?_
 ·rcases Bool.eq_false_or_eq_true (a0_.A==a1_) with hc1 | hc6
  ·refine (EP.u 3 (Zi (c:=(a0_.A==a1_)) (h:=hc1)) ?_)
   rcases Bool.eq_false_or_eq_true (a0_.B==a2_) with hc2 | hc3
   ·exact (EP.u 4 (Zi (c:=(a0_.B==a2_)) (h:=hc2)) (EP.f (by simp only [hc1,hc2];kernel_rfl)))
   refine (EP.u 4 (Zi (c:=(a0_.B==a2_)) (h:=hc3)) ?_)
   rcases Bool.eq_false_or_eq_true (a0_.A==a2_) with hc4 | hc5
   ·exact (EP.u 5 (Zi (c:=(a0_.A==a2_)) (h:=hc4)) (EP.f (by simp only [hc1,hc3,hc4];kernel_rfl)))
   exact (EP.u 5 (Zi (c:=(a0_.A==a2_)) (h:=hc5)) (EP.f (by simp only [hc1,hc3,hc5];kernel_rfl)))
  refine (EP.u 3 (Zi (c:=(a0_.A==a1_)) (h:=hc6)) ?_)
  rcases Bool.eq_false_or_eq_true (a0_.A==a2_) with hc7 | hc8
  ·exact (EP.u 10 (Zi (c:=(a0_.A==a2_)) (h:=hc7)) (EP.f (by simp only [hc6,hc7];kernel_rfl)))
  exact (EP.u 10 (Zi (c:=(a0_.A==a2_)) (h:=hc8)) (EP.f (by simp only [hc6,hc8];kernel_rfl)))
 refine tq (rt ?_)
 obtain rfl:=Zb h
 exact Zx kr
theorem Zcv (N:Nat) (a0_:Zh) (a1_:Int) (r:Int) (h:ZbV N a0_ a1_=some r):Zac Tryz.prog 40 [.agg (Zc a0_),iv a1_] (iv r):=by
 unfold ZbV at h
 have hH:HP ([]:List HO) []:=trivial
 refine ZD chk40 rfl rfl (Zt _ _ _ ?_) rfl
 refine sq (rg Za.f ?_)
 refine tq (sq ?_)
 obtain ⟨e1,he1,h⟩:=bs h
 refine rg (Za.u 4 (Zm (ys:=[Ze false a0_.Links,iv (w64 (Int.tdiv a1_ 2))]) (h:=Zk Zp he1)) (Za.u 0 (Zu (sz:=4) (off:=0) (cs:=[.int .i64 e1.A,.int .i64 e1.B,.int .i64 e1.Per,.int .i64 e1.Delay]) (r:=.agg (Zay e1)) Zp he1) Za.f)) (tq ?_)
 refine sq (sq ?_)
 refine rg Za.f (tq ?_)
 refine it h (fun hc2 h => ?_) (fun hc2 h => ?_)
 ·refine sq (rg Za.f ?_)
  refine tq (rt ?_)
  refine tr ?_
  obtain rfl:=Zb h
  exact Zx kr
 refine sk (tq ?_)
 refine kq (sq ?_)
 refine rg Za.f (tq ?_)
 refine rt ?_
 obtain rfl:=Zb h
 exact Zx kr
theorem ZcZ (N:Nat) (a0_:Zh) (a1_:Int) (r:Int) (h:ZcP N a0_ a1_=some r):Zac Tryz.prog 41 [.agg (Zc a0_),iv a1_] (iv r):=by
 unfold ZcP at h
 have hH:HP ([]:List HO) []:=trivial
 refine ZD chk41 rfl rfl (Zt _ _ _ ?_) rfl
 refine sq (rg Za.f ?_)
 refine tq (sq ?_)
 obtain ⟨e1,he1,h⟩:=bs h
 refine rg (Za.u 4 (Zm (ys:=[Ze false a0_.Links,iv (w64 (Int.tdiv a1_ 2))]) (h:=Zk Zp he1)) (Za.u 0 (Zu (sz:=4) (off:=0) (cs:=[.int .i64 e1.A,.int .i64 e1.B,.int .i64 e1.Per,.int .i64 e1.Delay]) (r:=.agg (Zay e1)) Zp he1) Za.f)) (tq ?_)
 refine sq (sq ?_)
 refine rg Za.f (tq ?_)
 refine it h (fun hc2 h => ?_) (fun hc2 h => ?_)
 ·refine sq (rg Za.f ?_)
  refine tq (rt ?_)
  refine tr ?_
  obtain rfl:=Zb h
  exact Zx kr
 refine sk (tq ?_)
 refine kq (sq ?_)
 refine rg Za.f (tq ?_)
 refine rt ?_
 obtain rfl:=Zb h
 exact Zx kr
theorem Zab (N:Nat) (a0_:Int) (a1_:Int) (a2_:Int) (r:Bool) (h:Zan N a0_ a1_ a2_=some r):Zac Tryz.prog 46 [iv a0_,iv a1_,iv a2_] (bv r):=by
 unfold Zan at h
 have hH:HP ([]:List HO) []:=trivial
 refine ZD chk46 rfl rfl (Zt _ _ _ ?_) rfl
 refine sq (rg Za.f ?_)
 refine tq (sq ?_)
 refine rgX ⟨[(6,bv ((decide (a0_ ≥ a1_))&&(decide (a0_≤a2_))))],[],[]⟩ ?_ ?_
 ·rcases Bool.eq_false_or_eq_true (decide (a0_ ≥ a1_)) with hc1 | hc2
  ·exact (EP.u 2 (Zi (c:=(decide (a0_ ≥ a1_))) (h:=hc1)) (EP.f (by simp only [hc1];kernel_rfl)))
  exact (EP.u 2 (Zi (c:=(decide (a0_ ≥ a1_))) (h:=hc2)) (EP.f (by simp only [hc2];kernel_rfl)))
 refine tq (rt ?_)
 obtain rfl:=Zb h
 exact Zx kr
theorem Zgh (N:Nat) (a0_:Int) (a1_:Int) (r:Int) (h:ZcJ N a0_ a1_=some r):Zac Tryz.prog 47 [iv a0_,iv a1_] (iv r):=by
 unfold ZcJ at h
 have hH:HP ([]:List HO) []:=trivial
 refine ZD chk47 rfl rfl (Zt _ _ _ ?_) rfl
 refine sq (rg Za.f ?_)
 refine tq (sq ?_)
 obtain ⟨q1,hq1,h⟩:=bs h
 refine rg (Za.u 2 (Zm (ys:=[iv a0_,iv a1_]) (h:=Zh8 hq1)) Za.f) (tq ?_)
 obtain ⟨a3,a0,h⟩:=bs h
 refine Zc6 [5] (fun s=>s=⟨[(5,iv a3)],[],[]⟩) ?_ ?_
 ·clear h
  have h:=a0
  refine sq ?_
  obtain ⟨a4,a1,h⟩:=bs h
  refine rg (Za.u 2 (Zm (ys:=[iv a0_,iv a1_]) (h:=Zce a1)) Za.f) (tq ?_)
  refine it h (fun a2 h => ?_) (fun a2 h => ?_)
  ·refine rg Za.f ?_
   obtain rfl:=Zb h
   exact ⟨rfl,(by show _=_;kernel_rfl)⟩
  refine sk ?_
  obtain rfl:=Zb h
  exact ⟨rfl,(by show _=_;kernel_rfl)⟩
 clear a0
 rintro s hR
 obtain rfl:=hR
 refine sq (rg Za.f ?_)
 refine tq (rt ?_)
 obtain rfl:=Zb h
 exact Zx kr
theorem ZcY (N:Nat) (a0_:Int) (a1_:Int) (a2_:Int) (r:Bool) (h:Zdb N a0_ a1_ a2_=some r):Zac Tryz.prog 49 [iv a0_,iv a1_,iv a2_] (bv r):=by
 unfold Zdb at h
 have hH:HP ([]:List HO) []:=trivial
 refine ZD chk49 rfl rfl (Zt _ _ _ ?_) rfl
 refine sq (rg Za.f ?_)
 refine tq (sq ?_)
 refine rgX ⟨[(6,bv ((decide (a0_ ≥ a1_))&&(decide (a0_≤a2_))))],[],[]⟩ ?_ ?_
 ·rcases Bool.eq_false_or_eq_true (decide (a0_ ≥ a1_)) with hc1 | hc2
  ·exact (EP.u 2 (Zi (c:=(decide (a0_ ≥ a1_))) (h:=hc1)) (EP.f (by simp only [hc1];kernel_rfl)))
  exact (EP.u 2 (Zi (c:=(decide (a0_ ≥ a1_))) (h:=hc2)) (EP.f (by simp only [hc2];kernel_rfl)))
 refine tq (rt ?_)
 obtain rfl:=Zb h
 exact Zx kr
theorem ZmH (N:Nat) (r:Zh) (h:Zi4 N=some r):Zac Tryz.prog 54 [] (.agg [iv r.Nodes,s_eB false r.Station,Ze false r.Links]):=by
 unfold Zi4 at h
 have hH:HP ([]:List HO) []:=trivial
 refine ZD chk54 rfl rfl (Zt _ _ _ ?_) rfl
 refine sq (rg Za.f ?_)
 refine tq (sq ?_)
 refine rg Za.f (tq ?_)
 refine rt ?_
 obtain rfl:=Zb h
 exact Zx kr
theorem Zgv {σ:Type} (N:Nat) (y_:σ→ZR→Option (σ × Bool)) (c0_:Zj) (c1_:Int) (c2_:Zh) (c3_:ZE) (s_:σ) (k0_:Nat) (k1_:Nat) (k2_:Nat) (k3_:Nat) (yid_:Nat) (T_:σ→List Z8→Prop) (hy_:∀ (x0:ZR) (s:σ) (r:σ × Bool) (H:List HO) (its:List Z8),T_ s its→HP H its→y_ s x0=some r→∃ H' its',Zhh Tryz.prog yid_ [.agg [iv x0.Port,iv x0.Early,iv x0.Late,iv x0.Open,iv x0.Long]] H r.2 H'∧T_ r.1 its'∧Fp H H' its its') (H:List HO) (its:List Z8) (hT:T_ s_ its) (hH:HP H (.cel k0_ (Zf c0_) :: .cel k1_ [iv c1_] :: .cel k2_ (Zc c2_) :: .cel k3_ (Zl c3_)::its)) (r:σ) (h:ZbY N y_ c0_ c1_ c2_ c3_ s_=some r):∃ H' its',Zbe Tryz.prog 58 [.yl yid_,.ptr k0_ 0,.ptr k1_ 0,.ptr k2_ 0,.ptr k3_ 0] H (.tup []) H'∧T_ r its'∧Fp H H' (.cel k0_ (Zf c0_) :: .cel k1_ [iv c1_] :: .cel k2_ (Zc c2_) :: .cel k3_ (Zl c3_)::its) (.cel k0_ (Zf c0_) :: .cel k1_ [iv c1_] :: .cel k2_ (Zc c2_) :: .cel k3_ (Zl c3_)::its'):=by
 suffices hs:∃ H',Zbe Tryz.prog 58 [.yl yid_,.ptr k0_ 0,.ptr k1_ 0,.ptr k2_ 0,.ptr k3_ 0] H (.tup []) H'∧∃ its',T_ r its'∧Fp H H' (.cel k0_ (Zf c0_) :: .cel k1_ [iv c1_] :: .cel k2_ (Zc c2_) :: .cel k3_ (Zl c3_)::its) (.cel k0_ (Zf c0_) :: .cel k1_ [iv c1_] :: .cel k2_ (Zc c2_) :: .cel k3_ (Zl c3_)::its') by
  obtain ⟨H',h1,its',h2,h3⟩:=hs
  exact ⟨H',its',h1,h2,h3⟩
 unfold ZbY at h
 replace hH:Fp H H (.cel k0_ (Zf c0_) :: .cel k1_ [iv c1_] :: .cel k2_ (Zc c2_) :: .cel k3_ (Zl c3_)::its) (.cel k0_ (Zf c0_) :: .cel k1_ [iv c1_] :: .cel k2_ (Zc c2_) :: .cel k3_ (Zl c3_)::its):=Fp.refl hH
 refine Zlb chk58 (fun H'=>∃ its',T_ r its'∧Fp H H' (.cel k0_ (Zf c0_) :: .cel k1_ [iv c1_] :: .cel k2_ (Zc c2_) :: .cel k3_ (Zl c3_)::its) (.cel k0_ (Zf c0_) :: .cel k1_ [iv c1_] :: .cel k2_ (Zc c2_) :: .cel k3_ (Zl c3_)::its')) rfl rfl rfl ?_
 refine sq (rg Za.f ?_)
 refine tq (sq ?_)
 have hlc1:=Fp.get hH 0 rfl
 have hlc2:=Fp.get hH 1 rfl
 obtain ⟨e3,he3,h⟩:=bs h
 refine rg (Za.u 1 (Zv (H:=H) (id:=k0_) (off:=9) (cs:=(Zf c0_)) (c:=[Zn false c0_.Routes]) (r:=Zn false c0_.Routes) (hl:=hlc1)) (Za.u 0 (Zv (H:=H) (id:=k1_) (off:=0) (cs:=[iv c1_]) (c:=[iv c1_]) (r:=iv c1_) (hl:=hlc2)) (Za.u 0 (Zm (ys:=[Zn false c0_.Routes,iv c1_]) (h:=Zk (eSl 1 eI64) he3)) (Za.u 0 (Zu (sz:=1) (off:=0) (cs:=[.sl 1 false (List.map eI64 e3)]) (r:=Zg false e3) (eSl 1 eI64) he3) (Za.u 0 (Zm (ys:=[Zg false e3]) (h:=Zr eI64)) Za.f))))) (tq ?_)
 refine bk ?_
 obtain ⟨an,a5,h⟩:=bs h
 refine ZS ((ZL (fun (x:Int × Int × Int × Int × Int × Int × σ) s=>∃ (its4:List Z8) (H5:List HO),s=⟨[(0,.yl yid_),(1,.ptr k0_ 0),(3,.ptr k2_ 0),(4,.ptr k3_ 0),(6,.loc 6 0),(14,Zg false e3),(15,iv ((List.length e3:Nat):Int)),(16,iv x.1)],[(6,[iv x.2.1,iv x.2.2.1,iv x.2.2.2.1,iv x.2.2.2.2.1,iv x.2.2.2.2.2.1])],H5⟩∧T_ x.2.2.2.2.2.2 its4∧Fp H H5 (.cel k0_ (Zf c0_) :: .cel k1_ [iv c1_] :: .cel k2_ (Zc c2_) :: .cel k3_ (Zl c3_)::its) (.cel k0_ (Zf c0_) :: .cel k1_ [iv c1_] :: .cel k2_ (Zc c2_) :: .cel k3_ (Zl c3_)::its4)) (fun x:Int × Int × Int × Int × Int × Int × σ=>ZaD N y_ c0_ c2_ c3_ e3 x.1 x.2.1 x.2.2.1 x.2.2.2.1 x.2.2.2.2.1 x.2.2.2.2.2.1 x.2.2.2.2.2.2) (fun (p:(σ) ⊕ (σ)) e s=>match p with | (.inl p)=>e = .exit 0∧(∃ (a1:List Z8) (am:List HO),s=⟨[],[],am⟩∧T_ p a1∧Fp H am (.cel k0_ (Zf c0_) :: .cel k1_ [iv c1_] :: .cel k2_ (Zc c2_) :: .cel k3_ (Zl c3_)::its) (.cel k0_ (Zf c0_) :: .cel k1_ [iv c1_] :: .cel k2_ (Zc c2_) :: .cel k3_ (Zl c3_)::a1)) | (.inr p)=>e = .ret∧∃ xs,rawL s i58.res=some xs∧ZaW xs = .tup []∧∃ its',T_ p its'∧Fp H s.H (.cel k0_ (Zf c0_) :: .cel k1_ [iv c1_] :: .cel k2_ (Zc c2_) :: .cel k3_ (Zl c3_)::its) (.cel k0_ (Zf c0_) :: .cel k1_ [iv c1_] :: .cel k2_ (Zc c2_) :: .cel k3_ (Zl c3_)::its')) ?_ N _ an _ a5 ⟨its,H,(by show _=_;kernel_rfl),hT,Fp.at hH⟩).mono ?_)
 ·clear h a5
  rintro ⟨i6,i7,i10,i11,i12,i8,g9⟩ o s h hR
  obtain ⟨its4,H5,rfl,hT,hH⟩:=hR
  replace hH:Fp H H5 (.cel k0_ (Zf c0_) :: .cel k1_ [iv c1_] :: .cel k2_ (Zc c2_) :: .cel k3_ (Zl c3_)::its) (.cel k0_ (Zf c0_) :: .cel k1_ [iv c1_] :: .cel k2_ (Zc c2_) :: .cel k3_ (Zl c3_)::its4):=hH
  replace h:ZaD N y_ c0_ c2_ c3_ e3 i6 i7 i10 i11 i12 i8 g9=some o:=h
  unfold ZaD at h
  refine sq (rg Za.f ?_)
  refine tq (sq ?_)
  refine it h (fun ax h => ?_) (fun ax h => ?_)
  ·refine sk (tq ?_)
   refine kq (sq ?_)
   refine bk (sq ?_)
   obtain ⟨a4,ao,h⟩:=bs h
   refine rg (Za.u 1 (Zm (ys:=[Zg false e3,iv i6]) (h:=Zk eI64 ao)) (Za.u 0 (Zu (sz:=1) (off:=0) (cs:=[.int .i64 a4]) (r:=iv a4) eI64 ao) Za.f)) (tq ?_)
   obtain ⟨a0,a6,h⟩:=bs h
   refine Zc6 [0,1,3,4,6,8,14,15,16] (fun s=>s=⟨[(0,.yl yid_),(1,.ptr k0_ 0),(3,.ptr k2_ 0),(4,.ptr k3_ 0),(6,.loc 6 0),(8,iv a4),(14,Zg false e3),(15,iv ((List.length e3:Nat):Int)),(16,iv i6)],[(6,[iv i7,iv a0.1,iv a0.2.1,iv a0.2.2,iv i8])],H5⟩) ?_ ?_
   ·clear h
    have h:=a6
    refine sq (rg Za.f ?_)
    refine tq (it h (fun av h => ?_) (fun av h => ?_))
    ·refine sq ?_
     have ak:=Fp.get hH 2 rfl
     obtain ⟨a9,a8,h⟩:=bs h
     have aj:=Fp.get hH 3 rfl
     refine rq (Za.u 6 (ZN (Zv (H:=H5) (id:=k2_) (off:=2) (cs:=(Zc c2_)) (c:=[Ze false c2_.Links]) (r:=Ze false c2_.Links) (hl:=ak))) (Za.u 3 (Zm (ys:=[Ze false c2_.Links,iv (w64 (Int.tdiv i7 2))]) (h:=Zk Zp a8)) (Za.u 1 (ZN (Zu (sz:=4) (off:=3) (cs:=[.int .i64 a9.Delay]) (r:=iv a9.Delay) Zp a8)) (Za.u 2 (ZN (Zv (H:=H5) (id:=k3_) (off:=2) (cs:=(Zl c3_)) (c:=[iv c3_.Proc]) (r:=iv c3_.Proc) (hl:=aj))) Za.f)))) (tq ?_)
     refine sq ?_
     have ai:=Fp.get hH 3 rfl
     have ag:=Fp.get hH 3 rfl
     refine rq (Za.u 2 (ZN (Zv (H:=H5) (id:=k3_) (off:=1) (cs:=(Zl c3_)) (c:=[iv c3_.Slack]) (r:=iv c3_.Slack) (hl:=ai))) (Za.u 4 (ZN (Zv (H:=H5) (id:=k3_) (off:=1) (cs:=(Zl c3_)) (c:=[iv c3_.Slack]) (r:=iv c3_.Slack) (hl:=ag))) Za.f)) (tq ?_)
     have af:=Fp.get hH 3 rfl
     have ae:=Fp.get hH 3 rfl
     obtain ⟨ay,ar,h⟩:=bs h
     have ad:=Fp.get hH 3 rfl
     refine rq (Za.u 3 (ZN (Zv (H:=H5) (id:=k3_) (off:=0) (cs:=(Zl c3_)) (c:=[iv c3_.Grid]) (r:=iv c3_.Grid) (hl:=af))) (Za.u 3 (ZN (Zv (H:=H5) (id:=k3_) (off:=0) (cs:=(Zl c3_)) (c:=[iv c3_.Grid]) (r:=iv c3_.Grid) (hl:=ae))) (Za.u 0 (Zm (ys:=[iv (w64 ((w64 ((w64 ((w64 ((w64 ((w64 (i12+i8))+a9.Delay))+c3_.Proc))+(w64 (2 * c3_.Slack))))+c3_.Grid)) - 1)),iv c3_.Grid]) (h:=Zh8 ar)) (Za.u 1 (ZN (Zv (H:=H5) (id:=k3_) (off:=0) (cs:=(Zl c3_)) (c:=[iv c3_.Grid]) (r:=iv c3_.Grid) (hl:=ad))) Za.f)))) ?_
     obtain rfl:=Zb h
     exact ⟨rfl,(by show _=_;kernel_rfl)⟩
    refine sk ?_
    obtain rfl:=Zb h
    exact ⟨rfl,(by show _=_;kernel_rfl)⟩
   clear a6
   rintro s hR
   obtain rfl:=hR
   refine sq ?_
   have ac:=Fp.get hH 0 rfl
   have ab:=Fp.get hH 2 rfl
   obtain ⟨a3,a7,h⟩:=bs h
   refine rq (Za.u 2 (ZN (Zv (H:=H5) (id:=k0_) (off:=4) (cs:=(Zf c0_)) (c:=[iv c0_.Size]) (r:=iv c0_.Size) (hl:=ac))) (Za.u 1 (ZN (Zv (H:=H5) (id:=k2_) (off:=2) (cs:=(Zc c2_)) (c:=[Ze false c2_.Links]) (r:=Ze false c2_.Links) (hl:=ab))) (Za.u 2 (Zm (ys:=[Ze false c2_.Links,iv (w64 (Int.tdiv a4 2))]) (h:=Zk Zp a7)) (Za.u 1 (ZN (Zu (sz:=4) (off:=2) (cs:=[.int .i64 a3.Per]) (r:=iv a3.Per) Zp a7)) Za.f)))) (tq ?_)
   refine sq ?_
   obtain ⟨aw,aq,h⟩:=bs h
   obtain ⟨ap,a2,aa,hT,al⟩:=hy_ (ZR.mk a4 a0.1 a0.2.1 a0.2.2 (w64 (c0_.Size * a3.Per))) g9 aw H5 its4 hT (Fp.tail (own:=[.cel k0_ (Zf c0_),.cel k1_ [iv c1_],.cel k2_ (Zc c2_),.cel k3_ (Zl c3_)]) (its:=its4) hH) aq
   replace hH:Fp H ap (.cel k0_ (Zf c0_) :: .cel k1_ [iv c1_] :: .cel k2_ (Zc c2_) :: .cel k3_ (Zl c3_)::its) (.cel k0_ (Zf c0_) :: .cel k1_ [iv c1_] :: .cel k2_ (Zc c2_) :: .cel k3_ (Zl c3_)::a2):=Fp.callT (own:=[.cel k0_ (Zf c0_),.cel k1_ [iv c1_],.cel k2_ (Zc c2_),.cel k3_ (Zl c3_)]) (its:=its4) hH al
   refine rg (Za.v 2 (Zmk (H:=H5) (id:=yid_) (ys:=[.agg [iv a4,iv a0.1,iv a0.2.1,iv a0.2.2,iv (w64 (c0_.Size * a3.Per))]]) kr kr kr kr aa) Za.f) (tq ?_)
   refine it h (fun au h => ?_) (fun au h => ?_)
   ·refine rt (br ?_)
    refine tr ?_
    obtain rfl:=Zb h
    exact ⟨_,rfl,rfl,⟨[],kr,kr,a2,hT,Fp.at hH⟩⟩
   refine sk (bn ?_)
   refine tq (kq ?_)
   refine rg Za.f ?_
   obtain rfl:=Zb h
   exact ⟨_,rfl,⟨a2,ap,(by show _=_;kernel_rfl),hT,Fp.at hH⟩⟩
  refine kq (xq ?_)
  refine tx ?_
  obtain rfl:=Zb h
  exact ⟨_,rfl,rfl,⟨its4,H5,(by show _=_;kernel_rfl),hT,Fp.at hH⟩⟩
 rintro e s hq
 rcases an with aA | az
 ·dsimp only at h hq
  obtain ⟨rfl,hR⟩:=hq
  obtain ⟨a1,am,rfl,hT,hH⟩:=hR
  replace hH:Fp H am (.cel k0_ (Zf c0_) :: .cel k1_ [iv c1_] :: .cel k2_ (Zc c2_) :: .cel k3_ (Zl c3_)::its) (.cel k0_ (Zf c0_) :: .cel k1_ [iv c1_] :: .cel k2_ (Zc c2_) :: .cel k3_ (Zl c3_)::a1):=hH
  refine bx ?_
  obtain rfl:=Zb h
  exact ⟨[],kr,kr,a1,hT,Fp.at hH⟩
 dsimp only at h hq
 obtain ⟨rfl,hq⟩:=hq
 refine br ?_
 obtain rfl:=Zb h
 exact hq
theorem Zii (N:Nat) (a0_:Zh) (a1_:Int) (r:Bool) (h:ZeY N a0_ a1_=some r):Zac Tryz.prog 59 [.agg (Zc a0_),iv a1_] (bv r):=by
 unfold ZeY at h
 have hH:HP ([]:List HO) []:=trivial
 refine ZD chk59 rfl rfl (Zt _ _ _ ?_) rfl
 refine sq (rg Za.f ?_)
 refine tq (sq ?_)
 refine rgX ⟨[(4,bv ((decide (a1_ ≥ 0))&&(decide (a1_<a0_.Nodes))))],[],[]⟩ ?_ ?_
 ·rcases Bool.eq_false_or_eq_true (decide (a1_ ≥ 0)) with hc1 | hc2
  ·exact (EP.u 1 (Zi (c:=(decide (a1_ ≥ 0))) (h:=hc1)) (EP.f (by simp only [hc1];kernel_rfl)))
  exact (EP.u 1 (Zi (c:=(decide (a1_ ≥ 0))) (h:=hc2)) (EP.f (by simp only [hc2];kernel_rfl)))
 refine tq (rt ?_)
 obtain rfl:=Zb h
 exact Zx kr
theorem Zdp (N:Nat) (a0_:Zh) (a1_:(List Int)) (r:(List Int)) (h:Zct N a0_ a1_=some r):Zac Tryz.prog 63 [.agg (Zc a0_),Zg false a1_] (Zg false r):=by
 unfold Zct at h
 have hH:HP ([]:List HO) []:=trivial
 refine ZD chk63 rfl rfl (Zt _ _ _ ?_) rfl
 refine sq (rg Za.f ?_)
 refine tq (sq ?_)
 obtain ⟨e1,he1,h⟩:=bs h
 obtain ⟨r2,hr2,h⟩:=bs h
 obtain ⟨a3,H4,ha3,hH4,hH⟩:=HP.lit 1 [r2] eI64 hH
 replace hH:HP _ [.arr a3 1 false (List.map eI64 [r2])]:=hH
 have hfa3:=ZW (HP.get hH 0 rfl)
 refine rqS ⟨[(1,Zg false a1_),(2,.loc 2 0),(5,a3)],[(2,(Zc a0_))],H4⟩ (Za.u 2 (Zm (ys:=[Zg false a1_,iv 0]) (h:=Zk eI64 he1)) (Za.u 0 (ZN (Zu (sz:=1) (off:=0) (cs:=[.int .i64 e1]) (r:=iv e1) eI64 he1)) (Za.v 0 (Zw (hc:=Zcv N a0_ e1 r2 hr2)) (Za.h 0 (Zmj (H:=[]) (ys:=[iv r2]) (rows:=(List.map eI64 [r2])) kr kr kr ha3 hH4) Za.f)))) (by cases hfa3<;>kernel_rfl) ?_
 refine tq (sq ?_)
 refine sq (rgS ⟨[(1,Zg false a1_),(2,.loc 2 0),(5,a3),(6,iv 0)],[(2,(Zc a0_))],H4⟩ Za.f (by cases hfa3<;>kernel_rfl) ?_)
 refine tq (bk ?_)
 obtain ⟨a9,a7,h⟩:=bs h
 refine ZS ((ZL (fun (x:Int × (List Int)) s=>∃ (a5:AV) (H6:List HO),s=⟨[(1,Zg false a1_),(2,.loc 2 0),(5,a5),(6,iv x.1)],[(2,(Zc a0_))],H6⟩∧HP H6 [.arr a5 1 false (List.map eI64 x.2)]) (fun x:Int × (List Int)=>Zbp N a0_ a1_ x.1 x.2) (fun (p:(List Int)) e s=>e = .exit 0∧(∃ (a2:AV) (a4:List HO),s=⟨[(5,a2)],[],a4⟩∧HP a4 [.arr a2 1 false (List.map eI64 p)])) ?_ N _ a9 _ a7 ⟨a3,H4,(by show _=_;cases hfa3<;>kernel_rfl),(HP.pick hH [0] rfl)⟩).mono ?_)
 ·clear h a7
  rintro ⟨i7,l8⟩ o s h hR
  obtain ⟨a5,H6,rfl,hH⟩:=hR
  replace hH:HP _ [.arr a5 1 false (List.map eI64 l8)]:=hH
  have hfa5:=ZW (HP.get hH 0 rfl)
  replace h:Zbp N a0_ a1_ i7 l8=some o:=h
  unfold Zbp at h
  refine sq (sq ?_)
  refine rgS ⟨[(1,Zg false a1_),(2,.loc 2 0),(5,a5),(6,iv i7),(16,bv (decide (i7<((List.length a1_:Nat):Int))))],[(2,(Zc a0_))],H6⟩ (Za.u 2 (Zm (ys:=[Zg false a1_]) (h:=Zr eI64)) Za.f) (by cases hfa5<;>kernel_rfl) ?_
  refine tq (it h (fun af h => ?_) (fun af h => ?_))
  ·refine sk (tq ?_)
   refine kq (sq ?_)
   refine bk ?_
   obtain ⟨aa,a8,h⟩:=bs h
   obtain ⟨ac,ad,h⟩:=bs h
   obtain ⟨ai,ae,h⟩:=bs h
   obtain ⟨a6,ab,ag,hH⟩:=HP.app (k:=0) (a:=a5) (sz:=1) (frz:=false) eI64 hH rfl ae
   replace hH:HP _ [.arr a6 1 false (List.map eI64 ai)]:=hH
   have a0:=ZW (HP.get hH 0 rfl)
   refine rqS ⟨[(1,Zg false a1_),(2,.loc 2 0),(5,a6),(6,iv i7)],[(2,(Zc a0_))],ab⟩ (Za.u 4 (Zm (ys:=[Zg false a1_,iv i7]) (h:=Zk eI64 a8)) (Za.u 0 (ZN (Zu (sz:=1) (off:=0) (cs:=[.int .i64 aa]) (r:=iv aa) eI64 a8)) (Za.u 0 (ZaK (hc:=ZcZ N a0_ aa ac ad)) (Za.h 1 (Ze1 (H:=H6) (a:=a5) (b:=Zg true [ac]) (by cases hfa5<;>kernel_rfl) (by cases hfa5<;>kernel_rfl) (by cases hfa5<;>kernel_rfl) (by cases hfa5<;>kernel_rfl) ag) Za.f)))) (by cases hfa5<;>cases a0<;>kernel_rfl) ?_
   refine bn (tq ?_)
   refine rgS ⟨[(1,Zg false a1_),(2,.loc 2 0),(5,a6),(6,iv (w64 (i7+1)))],[(2,(Zc a0_))],ab⟩ Za.f (by cases a0<;>kernel_rfl) ?_
   obtain rfl:=Zb h
   exact ⟨_,rfl,⟨a6,ab,(by show _=_;cases a0<;>kernel_rfl),(HP.pick hH [0] rfl)⟩⟩
  refine kq (xq ?_)
  refine tx ?_
  obtain rfl:=Zb h
  exact ⟨_,rfl,rfl,⟨a5,H6,(by show _=_;cases hfa5<;>kernel_rfl),(HP.pick hH [0] rfl)⟩⟩
 rintro e s hq
 obtain ⟨rfl,hR⟩:=hq
 obtain ⟨a2,a4,rfl,hH⟩:=hR
 replace hH:HP _ [.arr a2 1 false (List.map eI64 a9)]:=hH
 have a1:=ZW (HP.get hH 0 rfl)
 refine bx (tq ?_)
 refine sq (rgS ⟨[(4,a2)],[],a4⟩ Za.f (by cases a1<;>kernel_rfl) ?_)
 refine tq (rt ?_)
 obtain rfl:=Zb h
 exact Zd6 (H:=a4) (ys:=[a2]) (xs:=[.p (.sl 1 false (List.map eI64 a9))]) (by cases a1<;>kernel_rfl) (by cases a1<;>kernel_rfl) (ZaJ (HP.pure (k:=0) (frz:=false) eI64 hH rfl).2 ZbJ) kr
theorem Zgy (N:Nat) (a0_:Zh) (a1_:Int) (r:Bool) (h:Zb0 N a0_ a1_=some r):Zac Tryz.prog 64 [.agg (Zc a0_),iv a1_] (bv r):=by
 unfold Zb0 at h
 have hH:HP ([]:List HO) []:=trivial
 refine ZD chk64 rfl rfl (Zt _ _ _ ?_) rfl
 refine sq (rg Za.f ?_)
 refine tq (sq ?_)
 obtain ⟨j5,hj,h⟩:=bs h
 refine rgR (fun s=>s=⟨[(4,bv j5)],[],[]⟩) ?_ ?_
 ·clear h
  obtain ⟨r1,hr1,hj⟩:=bs hj
  rcases Zz hj with ⟨hc2,hj⟩ | ⟨hc4,hj⟩
  ·refine (EP.h 4 (Za3 kr (ZcY N a1_ 0 (w64 (a0_.Nodes - 1)) r1 hr1) hc2) ?_)
   obtain ⟨e3,he3,hj⟩:=bs hj
   obtain rfl:=Zb hj
   exact (EP.u 4 (Zm (ys:=[s_eB false a0_.Station,iv a1_]) (h:=Zk eB he3)) (EP.u 0 (Zu (sz:=1) (off:=0) (cs:=[.bool e3]) (r:=bv e3) eB he3) (EP.f (by show _=_;kernel_rfl))))
  obtain rfl:=Zb hj
  exact (EP.h 4 (Za3 kr (ZcY N a1_ 0 (w64 (a0_.Nodes - 1)) r1 hr1) hc4) (EP.f (by show _=_;kernel_rfl)))
 clear hj
 rintro s hR
 obtain rfl:=hR
 refine tq (rt ?_)
 obtain rfl:=Zb h
 exact Zx kr
theorem Zme (N:Nat) (a0_:Zh) (a1_:Int) (a2_:ZbM) (r:(List Bool)) (h:ZfN N a0_ a1_ a2_=some r):Zac Tryz.prog 67 [.agg (Zc a0_),iv a1_,.agg (Zap a2_)] (s_eB false r):=by
 unfold ZfN at h
 have hH:HP ([]:List HO) []:=trivial
 refine ZD chk67 rfl rfl (Zt _ _ _ ?_) rfl
 refine sq (rg Za.f ?_)
 refine tq (sq ?_)
 obtain ⟨l3,hl3,h⟩:=bs h
 obtain ⟨a1,H2,ha1,hH2,ha1b,hH⟩:=HP.make eB hH hl3
 replace hH:HP _ [.arr a1 1 false (List.map eB l3)]:=hH
 have hfa1:=ZW (HP.get hH 0 rfl)
 refine rgS ⟨[(1,iv a1_),(3,.loc 3 0),(5,.loc 5 0),(7,a1)],[(3,(Zc a0_)),(5,(Zap a2_))],H2⟩ (Za.h 2 (Zkf (H:=[]) (zero:=[.bool false]) (bytes:=1) kr kr kr ha1 hH2 ha1b) Za.f) (by cases hfa1<;>kernel_rfl) ?_
 refine tq (sq ?_)
 obtain ⟨e4,he4,h⟩:=bs h
 obtain ⟨id5,ver6,_,hid5f,hid5,hid5a,hid5v⟩:=HP.elem (k:=0) (a:=a1) (sz:=1) (frz:=false) eB hH rfl he4
 obtain ⟨H7,hH7,hH⟩:=HP.setRow (k:=0) (off:=0) (cs:=[bv true]) (ps:=[.bool true]) (e':=true) eB hH rfl hid5a hid5 (hid5f rfl) he4 kr kr
 replace hH:HP _ [.arr a1 1 false (List.map eB (List.set l3 (Int.toNat a1_) true))]:=hH
 refine rgS ⟨[(3,.loc 3 0),(5,.loc 5 0),(7,a1)],[(3,(Zc a0_)),(5,(Zap a2_))],H7⟩ (Za.u 2 (Zm (ys:=[a1,iv a1_]) (by cases hfa1<;>kernel_rfl) (hid5v .i64)) (Za.o 0 (Zaw (H:=H2) (v:=bv true) (hw:=hH7)) Za.f)) (by cases hfa1<;>kernel_rfl) ?_
 refine tq (sq ?_)
 refine sq (rgS ⟨[(3,.loc 3 0),(5,.loc 5 0),(7,a1),(17,iv a0_.Nodes),(18,iv 0)],[(3,(Zc a0_)),(5,(Zap a2_))],H7⟩ Za.f (by cases hfa1<;>kernel_rfl) ?_)
 refine tq (bk ?_)
 obtain ⟨af,ag,h⟩:=bs h
 refine ZS ((ZL (fun (x:Int × (List Bool)) s=>∃ (a8:AV) (H9:List HO),s=⟨[(3,.loc 3 0),(5,.loc 5 0),(7,a8),(17,iv a0_.Nodes),(18,iv x.1)],[(3,(Zc a0_)),(5,(Zap a2_))],H9⟩∧HP H9 [.arr a8 1 false (List.map eB x.2)]) (fun x:Int × (List Bool)=>ZbA N a0_ a2_ x.1 x.2) (fun (p:(List Bool)) e s=>e = .exit 0∧(∃ (ae:AV) (aA:List HO),s=⟨[(7,ae)],[],aA⟩∧HP aA [.arr ae 1 false (List.map eB p)])) ?_ N _ af _ ag ⟨a1,H7,(by show _=_;cases hfa1<;>kernel_rfl),(HP.pick hH [0] rfl)⟩).mono ?_)
 ·clear h ag
  rintro ⟨i10,bm⟩ o s h hR
  obtain ⟨a8,H9,rfl,hH⟩:=hR
  replace hH:HP _ [.arr a8 1 false (List.map eB bm)]:=hH
  have hfa8:=ZW (HP.get hH 0 rfl)
  replace h:ZbA N a0_ a2_ i10 bm=some o:=h
  unfold ZbA at h
  refine sq (rgS ⟨[(3,.loc 3 0),(5,.loc 5 0),(7,a8),(17,iv a0_.Nodes),(18,iv i10),(19,bv (decide (i10<a0_.Nodes)))],[(3,(Zc a0_)),(5,(Zap a2_))],H9⟩ Za.f (by cases hfa8<;>kernel_rfl) ?_)
  refine tq (sq ?_)
  refine it h (fun b2 h => ?_) (fun b2 h => ?_)
  ·refine sk (tq ?_)
   refine kq (sq ?_)
   refine bk (sq ?_)
   refine rgS ⟨[(3,.loc 3 0),(5,.loc 5 0),(7,a8),(17,iv a0_.Nodes),(18,iv i10),(21,Ze false a0_.Links),(22,iv ((List.length a0_.Links:Nat):Int)),(23,iv 0)],[(3,(Zc a0_)),(5,(Zap a2_))],H9⟩ (Za.u 2 (Zm (ys:=[Ze false a0_.Links]) (h:=Zr Zp)) Za.f) (by cases hfa8<;>kernel_rfl) ?_
   refine tq (bk ?_)
   obtain ⟨aI,ai,h⟩:=bs h
   refine ZS ((ZL (fun (x:Int × (List Bool)) s=>∃ (a3:AV) (a5:List HO),s=⟨[(3,.loc 3 0),(5,.loc 5 0),(7,a3),(17,iv a0_.Nodes),(18,iv i10),(21,Ze false a0_.Links),(22,iv ((List.length a0_.Links:Nat):Int)),(23,iv x.1)],[(3,(Zc a0_)),(5,(Zap a2_))],a5⟩∧HP a5 [.arr a3 1 false (List.map eB x.2)]) (fun x:Int × (List Bool)=>Zbm N a0_ a2_ x.1 x.2) (fun (p:(List Bool)) e s=>e = .exit 2∧(∃ (a7:AV) (aa:List HO),s=⟨[(3,.loc 3 0),(5,.loc 5 0),(7,a7),(17,iv a0_.Nodes),(18,iv i10)],[(3,(Zc a0_)),(5,(Zap a2_))],aa⟩∧HP aa [.arr a7 1 false (List.map eB p)])) ?_ N _ aI _ ai ⟨a8,H9,(by show _=_;cases hfa8<;>kernel_rfl),(HP.pick hH [0] rfl)⟩).mono ?_)
   ·clear h ai
    rintro ⟨a4,aB⟩ o s h hR
    obtain ⟨a3,a5,rfl,hH⟩:=hR
    replace hH:HP _ [.arr a3 1 false (List.map eB aB)]:=hH
    have a0:=ZW (HP.get hH 0 rfl)
    replace h:Zbm N a0_ a2_ a4 aB=some o:=h
    unfold Zbm at h
    refine sq (rgS ⟨[(3,.loc 3 0),(5,.loc 5 0),(7,a3),(17,iv a0_.Nodes),(18,iv i10),(21,Ze false a0_.Links),(22,iv ((List.length a0_.Links:Nat):Int)),(23,iv a4),(24,bv (decide (a4<((List.length a0_.Links:Nat):Int))))],[(3,(Zc a0_)),(5,(Zap a2_))],a5⟩ Za.f (by cases a0<;>kernel_rfl) ?_)
    refine tq (sq ?_)
    refine it h (fun aU h => ?_) (fun aU h => ?_)
    ·refine sk (tq ?_)
     refine kq ?_
     obtain ⟨aJ,aj,h⟩:=bs h
     refine Zc6 [3,5,7,17,18,21,22,23] (fun s=>∃ (a6:AV) (a9:List HO),s=⟨[(3,.loc 3 0),(5,.loc 5 0),(7,a6),(17,iv a0_.Nodes),(18,iv i10),(21,Ze false a0_.Links),(22,iv ((List.length a0_.Links:Nat):Int)),(23,iv a4)],[(3,(Zc a0_)),(5,(Zap a2_))],a9⟩∧HP a9 [.arr a6 1 false (List.map eB aJ)]) ?_ ?_
     ·clear h
      have h:=aj
      refine bk (sq ?_)
      obtain ⟨a2,az,h⟩:=bs h
      refine rgS ⟨[(3,.loc 3 0),(5,.loc 5 0),(7,a3),(8,iv a4),(9,.loc 9 0),(17,iv a0_.Nodes),(18,iv i10),(21,Ze false a0_.Links),(22,iv ((List.length a0_.Links:Nat):Int)),(23,iv a4)],[(3,(Zc a0_)),(5,(Zap a2_)),(9,(Zay a2))],a5⟩ (Za.u 1 (Zm (ys:=[Ze false a0_.Links,iv a4]) (h:=Zk Zp az)) (Za.u 0 (Zu (sz:=4) (off:=0) (cs:=[.int .i64 a2.A,.int .i64 a2.B,.int .i64 a2.Per,.int .i64 a2.Delay]) (r:=.agg (Zay a2)) Zp az) (Za.f (h:=(by cases a0<;>kernel_rfl))))) (by cases a0<;>kernel_rfl) ?_
      refine tq (sq ?_)
      obtain ⟨aX,hj,h⟩:=bs h
      refine rqR (fun s=>s=⟨[(3,.loc 3 0),(5,.loc 5 0),(7,a3),(9,.loc 9 0),(17,iv a0_.Nodes),(18,iv i10),(21,Ze false a0_.Links),(22,iv ((List.length a0_.Links:Nat):Int)),(23,iv a4),(44,bv aX)],[(3,(Zc a0_)),(5,(Zap a2_)),(9,(Zay a2))],a5⟩) ?_ ?_
      ·clear h
       obtain ⟨aM,ay,hj⟩:=bs hj
       refine (EP.u 1 (Zm (ys:=[.loc 5 0,iv a4]) (h:=ZmY (l:=a2_.l) ay rfl)) (EP.o 0 (Zo8 (t:=5) (off:=0) (cs:=(Zap a2_)) (l:=a2_.l) (fun x=>bv x) [] [] ay kr kr rfl rfl) ?_))
       rcases Zz hj with ⟨aT,hj⟩ | ⟨aS,hj⟩
       ·refine (EP.u 0 (Zi (c:=(!aM)) (h:=aT)) ?_)
        obtain ⟨aL,ax,hj⟩:=bs hj
        obtain ⟨bl,be,_,b0,aG,b1,ar⟩:=HP.elem (k:=0) (a:=a3) (sz:=1) (frz:=false) eB hH rfl ax
        refine (EP.u 4 (Zm (ys:=[a3,iv a2.A]) (by cases a0<;>kernel_rfl) (ar .i64)) (EP.u 0 (ZN (Zc8 (H:=a5) (off:=0) (cs:=[.bool aL]) (r:=bv aL) eB ax aG)) ?_))
        obtain ⟨aK,aw,hj⟩:=bs hj
        obtain ⟨bj,bd,_,aY,aE,aZ,aq⟩:=HP.elem (k:=0) (a:=a3) (sz:=1) (frz:=false) eB hH rfl aw
        obtain rfl:=Zb hj
        exact (EP.u 3 (Zm (ys:=[a3,iv a2.B]) (by cases a0<;>kernel_rfl) (aq .i64)) (EP.u 0 (ZN (Zc8 (H:=a5) (off:=0) (cs:=[.bool aK]) (r:=bv aK) eB aw aE)) (EP.f (by show _=_;cases a0<;>kernel_rfl))))
       obtain rfl:=Zb hj
       exact (EP.u 0 (Zi (c:=(!aM)) (h:=aS)) (EP.f (by show _=_;cases a0<;>kernel_rfl)))
      clear hj
      rintro s hR
      obtain rfl:=hR
      refine tq (it h (fun aR h => ?_) (fun aR h => ?_))
      ·obtain ⟨bq,av,h⟩:=bs h
       obtain ⟨bi,bc,_,ao,aD,ap,an⟩:=HP.elem (k:=0) (a:=a3) (sz:=1) (frz:=false) eB hH rfl av
       obtain ⟨ba,aW,hH⟩:=HP.setRow (k:=0) (off:=0) (cs:=[bv true]) (ps:=[.bool true]) (e':=true) eB hH rfl ap aD (ao rfl) av kr kr
       replace hH:HP _ [.arr a3 1 false (List.map eB (List.set aB (Int.toNat a2.A) true))]:=hH
       obtain ⟨bp,au,h⟩:=bs h
       obtain ⟨bf,bb,_,al,aC,am,ak⟩:=HP.elem (k:=0) (a:=a3) (sz:=1) (frz:=false) eB hH rfl au
       obtain ⟨aQ,aV,hH⟩:=HP.setRow (k:=0) (off:=0) (cs:=[bv true]) (ps:=[.bool true]) (e':=true) eB hH rfl am aC (al rfl) au kr kr
       replace hH:HP _ [.arr a3 1 false (List.map eB (List.set (List.set aB (Int.toNat a2.A) true) (Int.toNat a2.B) true))]:=hH
       refine rqS ⟨[(3,.loc 3 0),(5,.loc 5 0),(7,a3),(17,iv a0_.Nodes),(18,iv i10),(21,Ze false a0_.Links),(22,iv ((List.length a0_.Links:Nat):Int)),(23,iv a4)],[(3,(Zc a0_)),(5,(Zap a2_))],aQ⟩ (Za.u 6 (Zm (ys:=[a3,iv a2.A]) (by cases a0<;>kernel_rfl) (an .i64)) (Za.o 0 (Zm6 (Zaw (H:=a5) (v:=bv true) (hw:=aW)) kr) (Za.u 0 (Zm (ys:=[a3,iv a2.B]) (by cases a0<;>kernel_rfl) (ak .i64)) (Za.o 0 (Zm6 (Zaw (H:=ba) (v:=bv true) (hw:=aV)) kr) Za.f)))) (by cases a0<;>kernel_rfl) ?_
       refine bn ?_
       obtain rfl:=Zb h
       exact ⟨rfl,⟨a3,aQ,(by show _=_;cases a0<;>kernel_rfl),(HP.pick hH [0] rfl)⟩⟩
      refine sk (bn ?_)
      obtain rfl:=Zb h
      exact ⟨rfl,⟨a3,a5,(by show _=_;cases a0<;>kernel_rfl),(HP.pick hH [0] rfl)⟩⟩
     clear aj
     rintro s hR
     obtain ⟨a6,a9,rfl,hH⟩:=hR
     replace hH:HP _ [.arr a6 1 false (List.map eB aJ)]:=hH
     have ac:=ZW (HP.get hH 0 rfl)
     refine rgS ⟨[(3,.loc 3 0),(5,.loc 5 0),(7,a6),(17,iv a0_.Nodes),(18,iv i10),(21,Ze false a0_.Links),(22,iv ((List.length a0_.Links:Nat):Int)),(23,iv (w64 (a4+1)))],[(3,(Zc a0_)),(5,(Zap a2_))],a9⟩ Za.f (by cases ac<;>kernel_rfl) ?_
     obtain rfl:=Zb h
     exact ⟨_,rfl,⟨a6,a9,(by show _=_;cases ac<;>kernel_rfl),(HP.pick hH [0] rfl)⟩⟩
    refine kq (xq ?_)
    refine tx ?_
    obtain rfl:=Zb h
    exact ⟨_,rfl,rfl,⟨a3,a5,(by show _=_;cases a0<;>kernel_rfl),(HP.pick hH [0] rfl)⟩⟩
   rintro e s hq
   obtain ⟨rfl,hR⟩:=hq
   obtain ⟨a7,aa,rfl,hH⟩:=hR
   replace hH:HP _ [.arr a7 1 false (List.map eB aI)]:=hH
   have ad:=ZW (HP.get hH 0 rfl)
   refine bx (bn ?_)
   refine tq (rgS ⟨[(3,.loc 3 0),(5,.loc 5 0),(7,a7),(17,iv a0_.Nodes),(18,iv (w64 (i10+1)))],[(3,(Zc a0_)),(5,(Zap a2_))],aa⟩ Za.f (by cases ad<;>kernel_rfl) ?_)
   obtain rfl:=Zb h
   exact ⟨_,rfl,⟨a7,aa,(by show _=_;cases ad<;>kernel_rfl),(HP.pick hH [0] rfl)⟩⟩
  refine kq (xq ?_)
  refine tx ?_
  obtain rfl:=Zb h
  exact ⟨_,rfl,rfl,⟨a8,H9,(by show _=_;cases hfa8<;>kernel_rfl),(HP.pick hH [0] rfl)⟩⟩
 rintro e s hq
 obtain ⟨rfl,hR⟩:=hq
 obtain ⟨ae,aA,rfl,hH⟩:=hR
 replace hH:HP _ [.arr ae 1 false (List.map eB af)]:=hH
 have ab:=ZW (HP.get hH 0 rfl)
 refine bx (tq ?_)
 refine sq (rgS ⟨[(6,ae)],[],aA⟩ Za.f (by cases ab<;>kernel_rfl) ?_)
 refine tq (rt ?_)
 obtain rfl:=Zb h
 exact Zd6 (H:=aA) (ys:=[ae]) (xs:=[.p (.sl 1 false (List.map eB af))]) (by cases ab<;>kernel_rfl) (by cases ab<;>kernel_rfl) (ZaJ (HP.pure (k:=0) (frz:=false) eB hH rfl).2 ZbJ) kr
theorem ZiL (N:Nat) (c0_:Zj) (k0_:Nat) (H:List HO) (hH:HP H [.cel k0_ (Zf c0_)]) (r:Bool) (h:Zeg N c0_=some r):Zbe Tryz.prog 68 [.ptr k0_ 0] H (bv r) H:=by
 unfold Zeg at h
 refine Zbz chk68 rfl rfl rfl (Zt _ _ _ ?_)
 refine sq (rg Za.f ?_)
 refine tq (sq ?_)
 have hlc1:=HP.get hH 0 rfl
 obtain ⟨r2,hr2,h⟩:=bs h
 refine rg (Za.u 1 (Zv (H:=H) (id:=k0_) (off:=0) (cs:=(Zf c0_)) (c:=[iv c0_.Id]) (r:=iv c0_.Id) (hl:=hlc1)) (Za.v 0 (Zw (hc:=Zab N c0_.Id 1 4095 r2 hr2)) Za.f)) ?_
 replace hH:HP _ []:=HP.pick hH [] rfl
 refine tq (rt ?_)
 obtain rfl:=Zb h
 exact Za4 kr kr
theorem Zc7 (N:Nat) (a0_:Zh) (a1_:Int) (r:Bool) (h:ZcG N a0_ a1_=some r):Zac Tryz.prog 70 [.agg (Zc a0_),iv a1_] (bv r):=by
 unfold ZcG at h
 have hH:HP ([]:List HO) []:=trivial
 refine ZD chk70 rfl rfl (Zt _ _ _ ?_) rfl
 refine sq (rg Za.f ?_)
 refine tq (sq ?_)
 obtain ⟨j5,hj,h⟩:=bs h
 refine rgR (fun s=>s=⟨[(4,bv j5)],[],[]⟩) ?_ ?_
 ·clear h
  obtain ⟨r1,hr1,hj⟩:=bs hj
  rcases Zz hj with ⟨hc2,hj⟩ | ⟨hc4,hj⟩
  ·refine (EP.h 4 (Za3 kr (Zab N a1_ 0 (w64 (a0_.Nodes - 1)) r1 hr1) hc2) ?_)
   obtain ⟨e3,he3,hj⟩:=bs hj
   obtain rfl:=Zb hj
   exact (EP.u 4 (Zm (ys:=[s_eB false a0_.Station,iv a1_]) (h:=Zk eB he3)) (EP.u 0 (Zu (sz:=1) (off:=0) (cs:=[.bool e3]) (r:=bv e3) eB he3) (EP.f (by show _=_;kernel_rfl))))
  obtain rfl:=Zb hj
  exact (EP.h 4 (Za3 kr (Zab N a1_ 0 (w64 (a0_.Nodes - 1)) r1 hr1) hc4) (EP.f (by show _=_;kernel_rfl)))
 clear hj
 rintro s hR
 obtain rfl:=hR
 refine tq (rt ?_)
 obtain rfl:=Zb h
 exact Zx kr
theorem ZiJ (N:Nat) (c0_:Zj) (k0_:Nat) (H:List HO) (hH:HP H [.cel k0_ (Zf c0_)]) (r:Bool) (h:Zee N c0_=some r):Zbe Tryz.prog 71 [.ptr k0_ 0] H (bv r) H:=by
 unfold Zee at h
 refine Zbz chk71 rfl rfl rfl (Zt _ _ _ ?_)
 refine sq (rg Za.f ?_)
 refine tq (sq ?_)
 have hlc1:=HP.get hH 0 rfl
 obtain ⟨r2,hr2,h⟩:=bs h
 refine rg (Za.u 1 (Zv (H:=H) (id:=k0_) (off:=4) (cs:=(Zf c0_)) (c:=[iv c0_.Size]) (r:=iv c0_.Size) (hl:=hlc1)) (Za.v 0 (Zw (hc:=Zab N c0_.Size 84 1542 r2 hr2)) Za.f)) ?_
 replace hH:HP _ []:=HP.pick hH [] rfl
 refine tq (rt ?_)
 obtain rfl:=Zb h
 exact Za4 kr kr
theorem ZiI (N:Nat) (c0_:Zj) (k0_:Nat) (H:List HO) (hH:HP H [.cel k0_ (Zf c0_)]) (r:Bool) (h:Zed N c0_=some r):Zbe Tryz.prog 72 [.ptr k0_ 0] H (bv r) H:=by
 unfold Zed at h
 refine Zbz chk72 rfl rfl rfl (Zt _ _ _ ?_)
 refine sq (rg Za.f ?_)
 refine tq (sq ?_)
 have hlc1:=HP.get hH 0 rfl
 obtain ⟨r2,hr2,h⟩:=bs h
 refine rg (Za.u 1 (Zv (H:=H) (id:=k0_) (off:=8) (cs:=(Zf c0_)) (c:=[iv c0_.Deadline]) (r:=iv c0_.Deadline) (hl:=hlc1)) (Za.v 0 (Zw (hc:=Zab N c0_.Deadline 1 1099511627776 r2 hr2)) Za.f)) ?_
 replace hH:HP _ []:=HP.pick hH [] rfl
 refine tq (rt ?_)
 obtain rfl:=Zb h
 exact Za4 kr kr
theorem ZiG (N:Nat) (c0_:Zj) (k0_:Nat) (H:List HO) (hH:HP H [.cel k0_ (Zf c0_)]) (r:Bool) (h:Zec N c0_=some r):Zbe Tryz.prog 75 [.ptr k0_ 0] H (bv r) H:=by
 unfold Zec at h
 refine Zbz chk75 rfl rfl rfl (Zt _ _ _ ?_)
 refine sq (rg Za.f ?_)
 refine tq (sq ?_)
 have hlc1:=HP.get hH 0 rfl
 obtain ⟨r2,hr2,h⟩:=bs h
 refine rg (Za.u 1 (Zv (H:=H) (id:=k0_) (off:=9) (cs:=(Zf c0_)) (c:=[Zn false c0_.Routes]) (r:=Zn false c0_.Routes) (hl:=hlc1)) (Za.u 0 (Zm (ys:=[Zn false c0_.Routes]) (h:=Zr (eSl 1 eI64))) (Za.v 0 (Zw (hc:=Zab N ((List.length c0_.Routes:Nat):Int) 1 2 r2 hr2)) Za.f))) ?_
 replace hH:HP _ []:=HP.pick hH [] rfl
 refine tq (rt ?_)
 obtain rfl:=Zb h
 exact Za4 kr kr
theorem ZhV (N:Nat) (a0_:(List Int)) (a1_:Int) (r:Bool) (h:Zgg N a0_ a1_=some r):Zac Tryz.prog 80 [Zg false a0_,iv a1_] (bv r):=by
 unfold Zgg at h
 have hH:HP ([]:List HO) []:=trivial
 refine ZD chk80 rfl rfl (Zt _ _ _ ?_) rfl
 refine sq (rg Za.f ?_)
 refine tq (sq ?_)
 refine sq (rg Za.f ?_)
 refine tq (bk ?_)
 obtain ⟨a2,a0,h⟩:=bs h
 refine ZS ((ZL (fun (x:Int) s=>s=⟨[(0,Zg false a0_),(1,iv a1_),(5,iv x)],[],[]⟩) (fun x:Int=>ZdD N a0_ a1_ x) (fun (p:(Unit) ⊕ (Bool)) e s=>match p with | (.inl p)=>e = .exit 0∧(s=⟨[],[],[]⟩) | (.inr p)=>e = .ret∧∃ xs,resL s i80.res=some xs∧ZaW xs=bv p) ?_ N _ a2 _ a0 (by show _=_;kernel_rfl)).mono ?_)
 ·clear h a0
  rintro i1 o s h hR
  obtain rfl:=hR
  replace h:ZdD N a0_ a1_ i1=some o:=h
  unfold ZdD at h
  refine sq (sq ?_)
  refine rg (Za.u 2 (Zm (ys:=[Zg false a0_]) (h:=Zr eI64)) Za.f) (tq ?_)
  refine it h (fun a4 h => ?_) (fun a4 h => ?_)
  ·refine sk (tq ?_)
   refine kq (sq ?_)
   refine bk (sq ?_)
   obtain ⟨a5,a1,h⟩:=bs h
   refine rg (Za.u 2 (Zm (ys:=[Zg false a0_,iv i1]) (h:=Zk eI64 a1)) (Za.u 0 (Zu (sz:=1) (off:=0) (cs:=[.int .i64 a5]) (r:=iv a5) eI64 a1) Za.f)) (tq ?_)
   refine it h (fun a3 h => ?_) (fun a3 h => ?_)
   ·refine sq (rg Za.f ?_)
    refine tq (rt ?_)
    refine br (tr ?_)
    obtain rfl:=Zb h
    exact ⟨_,rfl,rfl,Zx kr⟩
   refine sk (bn ?_)
   refine tq (kq ?_)
   refine rg Za.f ?_
   obtain rfl:=Zb h
   exact ⟨_,rfl,(by show _=_;kernel_rfl)⟩
  refine kq (xq ?_)
  refine tx ?_
  obtain rfl:=Zb h
  exact ⟨_,rfl,rfl,(by show _=_;kernel_rfl)⟩
 rintro e s hq
 rcases a2 with a7 | a6
 ·dsimp only at h hq
  obtain ⟨rfl,hR⟩:=hq
  obtain rfl:=hR
  refine bx (tq ?_)
  refine sq (rg Za.f ?_)
  refine tq (rt ?_)
  obtain rfl:=Zb h
  exact Zx kr
 dsimp only at h hq
 obtain ⟨rfl,hq⟩:=hq
 refine br (tr ?_)
 obtain rfl:=Zb h
 exact hq
theorem ZfH (N:Nat) (a0_:Zs) (a1_:Int) (a2_:Int) (r:Bool) (h:Ze9 N a0_ a1_ a2_=some r):Zac Tryz.prog 81 [.agg (Zd a0_),iv a1_,iv a2_] (bv r):=by
 unfold Ze9 at h
 have hH:HP ([]:List HO) []:=trivial
 refine ZD chk81 rfl rfl (Zt _ _ _ ?_) rfl
 refine sq (rg Za.f ?_)
 refine tq (sq ?_)
 obtain ⟨j4,hj,h⟩:=bs h
 refine rgR (fun s=>s=⟨[(6,bv j4)],[],[]⟩) ?_ ?_
 ·clear h
  rcases Zz hj with ⟨hc1,hj⟩ | ⟨hc3,hj⟩
  ·refine (EP.u 1 (Zi (c:=(decide (a2_ ≥ 0))) (h:=hc1)) ?_)
   obtain ⟨e2,he2,hj⟩:=bs hj
   obtain rfl:=Zb hj
   exact (EP.u 5 (Zm (ys:=[Zg false a0_.Periods,iv a1_]) (h:=Zk eI64 he2)) (EP.u 0 (Zu (sz:=1) (off:=0) (cs:=[.int .i64 e2]) (r:=iv e2) eI64 he2) (EP.f (by show _=_;kernel_rfl))))
  obtain rfl:=Zb hj
  exact (EP.u 1 (Zi (c:=(decide (a2_ ≥ 0))) (h:=hc3)) (EP.f (by show _=_;kernel_rfl)))
 clear hj
 rintro s hR
 obtain rfl:=hR
 refine tq (rt ?_)
 obtain rfl:=Zb h
 exact Zx kr
theorem Zlr (N:Nat) (a0_:Zh) (a1_:Int) (r:(List Int)) (h:Zd8 N a0_ a1_=some r):Zac Tryz.prog 85 [.agg (Zc a0_),iv a1_] (Zg false r):=by
 unfold Zd8 at h
 have hH:HP ([]:List HO) []:=trivial
 refine ZD chk85 rfl rfl (Zt _ _ _ ?_) rfl
 refine sq (rg Za.f ?_)
 refine tq (sq ?_)
 refine rg Za.f (tq ?_)
 refine sq (sq ?_)
 refine rg Za.f (tq ?_)
 refine bk ?_
 obtain ⟨a7,a8,h⟩:=bs h
 refine ZS ((ZL (fun (x:Int × (List Int)) s=>∃ (a1:AV) (H2:List HO),s=⟨[(1,iv a1_),(2,.loc 2 0),(5,a1),(6,iv x.1)],[(2,(Zc a0_))],H2⟩∧HP H2 [.arr a1 1 false (List.map eI64 x.2)]) (fun x:Int × (List Int)=>Zbq N a0_ a1_ x.1 x.2) (fun (p:(List Int)) e s=>e = .exit 0∧(∃ (a6:AV) (ab:List HO),s=⟨[(5,a6)],[],ab⟩∧HP ab [.arr a6 1 false (List.map eI64 p)])) ?_ N _ a7 _ a8 ⟨(.p (.sl 1 true [])),[],(by show _=_;kernel_rfl),(HP.pick (HP.nilArr hH 1 false) [0] rfl)⟩).mono ?_)
 ·clear h a8
  rintro ⟨i3,l4⟩ o s h hR
  obtain ⟨a1,H2,rfl,hH⟩:=hR
  replace hH:HP _ [.arr a1 1 false (List.map eI64 l4)]:=hH
  have hfa1:=ZW (HP.get hH 0 rfl)
  replace h:Zbq N a0_ a1_ i3 l4=some o:=h
  unfold Zbq at h
  refine sq (sq ?_)
  refine rgS ⟨[(1,iv a1_),(2,.loc 2 0),(5,a1),(6,iv i3),(12,bv (decide (i3<(w64 (2 * ((List.length a0_.Links:Nat):Int))))))],[(2,(Zc a0_))],H2⟩ (Za.u 3 (Zm (ys:=[Ze false a0_.Links]) (h:=Zr Zp)) Za.f) (by cases hfa1<;>kernel_rfl) ?_
  refine tq (it h (fun al h => ?_) (fun al h => ?_))
  ·refine sk (tq ?_)
   refine kq ?_
   obtain ⟨ad,a9,h⟩:=bs h
   refine Zc6 [1,2,5,6] (fun s=>∃ (a0:AV) (a2:List HO),s=⟨[(1,iv a1_),(2,.loc 2 0),(5,a0),(6,iv i3)],[(2,(Zc a0_))],a2⟩∧HP a2 [.arr a0 1 false (List.map eI64 ad)]) ?_ ?_
   ·clear h
    have h:=a9
    refine bk (sq ?_)
    obtain ⟨ac,af,h⟩:=bs h
    refine rgS ⟨[(1,iv a1_),(2,.loc 2 0),(5,a1),(6,iv i3),(19,bv (ac==a1_))],[(2,(Zc a0_))],H2⟩ (Za.v 2 (Zw (hc:=Zcv N a0_ i3 ac af)) Za.f) (by cases hfa1<;>kernel_rfl) ?_
    refine tq (it h (fun ai h => ?_) (fun ai h => ?_))
    ·obtain ⟨ak,ag,h⟩:=bs h
     obtain ⟨aa,ae,aj,hH⟩:=HP.app (k:=0) (a:=a1) (sz:=1) (frz:=false) eI64 hH rfl ag
     replace hH:HP _ [.arr aa 1 false (List.map eI64 ak)]:=hH
     have a4:=ZW (HP.get hH 0 rfl)
     refine rgS ⟨[(1,iv a1_),(2,.loc 2 0),(5,aa),(6,iv i3)],[(2,(Zc a0_))],ae⟩ (Za.h 3 (Ze1 (H:=H2) (a:=a1) (b:=Zg true [i3]) (by cases hfa1<;>kernel_rfl) (by cases hfa1<;>kernel_rfl) (by cases hfa1<;>kernel_rfl) (by cases hfa1<;>kernel_rfl) aj) Za.f) (by cases hfa1<;>cases a4<;>kernel_rfl) ?_
     refine bn ?_
     obtain rfl:=Zb h
     exact ⟨rfl,⟨aa,ae,(by show _=_;cases a4<;>kernel_rfl),(HP.pick hH [0] rfl)⟩⟩
    refine sk (bn ?_)
    obtain rfl:=Zb h
    exact ⟨rfl,⟨a1,H2,(by show _=_;cases hfa1<;>kernel_rfl),(HP.pick hH [0] rfl)⟩⟩
   clear a9
   rintro s hR
   obtain ⟨a0,a2,rfl,hH⟩:=hR
   replace hH:HP _ [.arr a0 1 false (List.map eI64 ad)]:=hH
   have a5:=ZW (HP.get hH 0 rfl)
   refine rgS ⟨[(1,iv a1_),(2,.loc 2 0),(5,a0),(6,iv (w64 (i3+1)))],[(2,(Zc a0_))],a2⟩ Za.f (by cases a5<;>kernel_rfl) ?_
   obtain rfl:=Zb h
   exact ⟨_,rfl,⟨a0,a2,(by show _=_;cases a5<;>kernel_rfl),(HP.pick hH [0] rfl)⟩⟩
  refine kq (xq ?_)
  refine tx ?_
  obtain rfl:=Zb h
  exact ⟨_,rfl,rfl,⟨a1,H2,(by show _=_;cases hfa1<;>kernel_rfl),(HP.pick hH [0] rfl)⟩⟩
 rintro e s hq
 obtain ⟨rfl,hR⟩:=hq
 obtain ⟨a6,ab,rfl,hH⟩:=hR
 replace hH:HP _ [.arr a6 1 false (List.map eI64 a7)]:=hH
 have a3:=ZW (HP.get hH 0 rfl)
 refine bx (tq ?_)
 refine sq (rgS ⟨[(4,a6)],[],ab⟩ Za.f (by cases a3<;>kernel_rfl) ?_)
 refine tq (rt ?_)
 obtain rfl:=Zb h
 exact Zd6 (H:=ab) (ys:=[a6]) (xs:=[.p (.sl 1 false (List.map eI64 a7))]) (by cases a3<;>kernel_rfl) (by cases a3<;>kernel_rfl) (ZaJ (HP.pure (k:=0) (frz:=false) eI64 hH rfl).2 ZbJ) kr
theorem Zmu (N:Nat) (a0_:Zh) (a1_:Int) (r:Bool) (h:ZfX N a0_ a1_=some r):Zac Tryz.prog 86 [.agg (Zc a0_),iv a1_] (bv r):=by
 unfold ZfX at h
 have hH:HP ([]:List HO) []:=trivial
 refine ZD chk86 rfl rfl (Zt _ _ _ ?_) rfl
 refine sq (rg Za.f ?_)
 refine tq (sq ?_)
 refine rgX ⟨[(4,bv ((decide (a1_ ≥ 0))&&(decide (a1_<(w64 (2 * ((List.length a0_.Links:Nat):Int)))))))],[],[]⟩ ?_ ?_
 ·rcases Bool.eq_false_or_eq_true (decide (a1_ ≥ 0)) with hc1 | hc2
  ·exact (EP.u 1 (Zi (c:=(decide (a1_ ≥ 0))) (h:=hc1)) (EP.u 4 (Zm (ys:=[Ze false a0_.Links]) (h:=Zr Zp)) (EP.f (by simp only [hc1];kernel_rfl))))
  exact (EP.u 1 (Zi (c:=(decide (a1_ ≥ 0))) (h:=hc2)) (EP.f (by simp only [hc2];kernel_rfl)))
 refine tq (rt ?_)
 obtain rfl:=Zb h
 exact Zx kr
theorem Zfi (N:Nat) (a0_:Zh) (a1_:Int) (r:Bool) (h:ZfO N a0_ a1_=some r):Zac Tryz.prog 88 [.agg (Zc a0_),iv a1_] (bv r):=by
 unfold ZfO at h
 have hH:HP ([]:List HO) []:=trivial
 refine ZD chk88 rfl rfl (Zt _ _ _ ?_) rfl
 refine sq (rg Za.f ?_)
 refine tq (sq ?_)
 refine rgX ⟨[(4,bv ((decide (a1_ ≥ 0))&&(decide (a1_<a0_.Nodes))))],[],[]⟩ ?_ ?_
 ·rcases Bool.eq_false_or_eq_true (decide (a1_ ≥ 0)) with hc1 | hc2
  ·exact (EP.u 1 (Zi (c:=(decide (a1_ ≥ 0))) (h:=hc1)) (EP.f (by simp only [hc1];kernel_rfl)))
  exact (EP.u 1 (Zi (c:=(decide (a1_ ≥ 0))) (h:=hc2)) (EP.f (by simp only [hc2];kernel_rfl)))
 refine tq (rt ?_)
 obtain rfl:=Zb h
 exact Zx kr
theorem Zj5 (N:Nat) (a0_:Int) (c0_:Zh) (k0_:Nat) (H:List HO) (hH:HP H [.cel k0_ (Zc c0_)]) (r:Bool) (h:Zfg N a0_ c0_=some r):Zbe Tryz.prog 89 [iv a0_,.ptr k0_ 0] H (bv r) H:=by
 unfold Zfg at h
 refine Zbz chk89 rfl rfl rfl (Zt _ _ _ ?_)
 refine sq (rg Za.f ?_)
 refine tq (sq ?_)
 have hlc1:=HP.get hH 0 rfl
 obtain ⟨e2,he2,h⟩:=bs h
 refine rg (Za.u 1 (Zv (H:=H) (id:=k0_) (off:=2) (cs:=(Zc c0_)) (c:=[Ze false c0_.Links]) (r:=Ze false c0_.Links) (hl:=hlc1)) (Za.u 1 (Zm (ys:=[Ze false c0_.Links,iv a0_]) (h:=Zk Zp he2)) (Za.u 0 (Zu (sz:=4) (off:=0) (cs:=[.int .i64 e2.A,.int .i64 e2.B,.int .i64 e2.Per,.int .i64 e2.Delay]) (r:=.agg (Zay e2)) Zp he2) Za.f))) (tq ?_)
 refine sq ?_
 obtain ⟨j9,hj,h⟩:=bs h
 refine rgR (fun s=>s=⟨[(3,bv j9)],[],H⟩) ?_ ?_
 ·clear h
  have hlc3:=HP.get hH 0 rfl
  refine (EP.u 1 (Zv (H:=H) (id:=k0_) (off:=1) (cs:=(Zc c0_)) (c:=[s_eB false c0_.Station]) (r:=s_eB false c0_.Station) (hl:=hlc3)) ?_)
  obtain ⟨e4,he4,hj⟩:=bs hj
  refine (EP.u 2 (Zm (ys:=[s_eB false c0_.Station,iv e2.A]) (h:=Zk eB he4)) (EP.u 0 (Zu (sz:=1) (off:=0) (cs:=[.bool e4]) (r:=bv e4) eB he4) ?_))
  rcases Zz hj with ⟨hc5,hj⟩ | ⟨hc6,hj⟩
  ·obtain rfl:=Zb hj
   exact (EP.u 0 (Zi (c:=(!e4)) (h:=hc5)) (EP.f (by show _=_;kernel_rfl)))
  refine (EP.u 0 (Zi (c:=(!e4)) (h:=hc6)) ?_)
  have hlc7:=HP.get hH 0 rfl
  refine (EP.u 2 (Zv (H:=H) (id:=k0_) (off:=1) (cs:=(Zc c0_)) (c:=[s_eB false c0_.Station]) (r:=s_eB false c0_.Station) (hl:=hlc7)) ?_)
  obtain ⟨e8,he8,hj⟩:=bs hj
  obtain rfl:=Zb hj
  exact (EP.u 2 (Zm (ys:=[s_eB false c0_.Station,iv e2.B]) (h:=Zk eB he8)) (EP.u 0 (Zu (sz:=1) (off:=0) (cs:=[.bool e8]) (r:=bv e8) eB he8) (EP.f (by show _=_;kernel_rfl))))
 clear hj
 rintro s hR
 obtain rfl:=hR
 refine tq (rt ?_)
 obtain rfl:=Zb h
 exact Za4 kr kr
theorem Zj4 (N:Nat) (a0_:Int) (c0_:Zh) (k0_:Nat) (H:List HO) (hH:HP H [.cel k0_ (Zc c0_)]) (r:Bool) (h:Zen N a0_ c0_=some r):Zbe Tryz.prog 90 [iv a0_,.ptr k0_ 0] H (bv r) H:=by
 unfold Zen at h
 refine Zbz chk90 rfl rfl rfl (Zt _ _ _ ?_)
 refine sq (rg Za.f ?_)
 refine tq (sq ?_)
 have hlc1:=HP.get hH 0 rfl
 obtain ⟨e2,he2,h⟩:=bs h
 refine rg (Za.u 1 (Zv (H:=H) (id:=k0_) (off:=2) (cs:=(Zc c0_)) (c:=[Ze false c0_.Links]) (r:=Ze false c0_.Links) (hl:=hlc1)) (Za.u 1 (Zm (ys:=[Ze false c0_.Links,iv a0_]) (h:=Zk Zp he2)) (Za.u 0 (Zu (sz:=4) (off:=0) (cs:=[.int .i64 e2.A,.int .i64 e2.B,.int .i64 e2.Per,.int .i64 e2.Delay]) (r:=.agg (Zay e2)) Zp he2) Za.f))) (tq ?_)
 refine sq (sq ?_)
 have hlc3:=HP.get hH 0 rfl
 obtain ⟨l4,hl4,h⟩:=bs h
 refine rg (Za.u 1 (Zv (H:=H) (id:=k0_) (off:=2) (cs:=(Zc c0_)) (c:=[Ze false c0_.Links]) (r:=Ze false c0_.Links) (hl:=hlc3)) (Za.u 1 (Zm (ys:=[Ze false c0_.Links,iv a0_]) (h:=Zf4 Zp hl4)) (Za.u 0 (Zm (ys:=[Ze false l4]) (h:=Zr Zp)) Za.f))) ?_
 replace hH:HP _ []:=HP.pick hH [] rfl
 refine tq (bk ?_)
 obtain ⟨ab,a4,h⟩:=bs h
 refine ZS ((ZL (fun (x:Int) s=>s=⟨[(4,.loc 4 0),(15,Ze false l4),(16,iv ((List.length l4:Nat):Int)),(17,iv x)],[(4,(Zay e2))],H⟩) (fun x:Int=>ZbN N e2 l4 x) (fun (p:(Unit) ⊕ (Bool)) e s=>match p with | (.inl p)=>e = .exit 0∧(s=⟨[],[],H⟩) | (.inr p)=>e = .ret∧∃ xs,rawL s i90.res=some xs∧ZaW (weakVs xs)=bv p∧s.H=H) ?_ N _ ab _ a4 (by show _=_;kernel_rfl)).mono ?_)
 ·clear h a4
  rintro i5 o s h hR
  obtain rfl:=hR
  replace h:ZbN N e2 l4 i5=some o:=h
  unfold ZbN at h
  refine sq (rg Za.f ?_)
  refine tq (sq ?_)
  refine it h (fun ad h => ?_) (fun ad h => ?_)
  ·refine sk (tq ?_)
   refine kq (sq ?_)
   refine bk (sq ?_)
   obtain ⟨a0,a5,h⟩:=bs h
   refine rg (Za.u 0 (Zm (ys:=[Ze false l4,iv i5]) (h:=Zk Zp a5)) (Za.u 0 (Zu (sz:=4) (off:=0) (cs:=[.int .i64 a0.A,.int .i64 a0.B,.int .i64 a0.Per,.int .i64 a0.Delay]) (r:=.agg (Zay a0)) Zp a5) Za.f)) (tq ?_)
   refine sq (rgX ⟨[(4,.loc 4 0),(15,Ze false l4),(16,iv ((List.length l4:Nat):Int)),(17,iv i5),(46,bv (if (e2.A==a0.A) then ((e2.B==a0.B)||((e2.A==a0.B)&&(e2.B==a0.A))) else ((e2.A==a0.B)&&(e2.B==a0.A))))],[(4,(Zay e2))],H⟩ ?_ ?_)
   ·rcases Bool.eq_false_or_eq_true (e2.A==a0.A) with a1 | a2
    ·refine (EP.u 4 (Zi (c:=(e2.A==a0.A)) (h:=a1)) ?_)
     rcases Bool.eq_false_or_eq_true (e2.B==a0.B) with aa | a3
     ·exact (EP.u 5 (Zi (c:=(e2.B==a0.B)) (h:=aa)) (EP.f (by simp only [a1,aa];kernel_rfl)))
     refine (EP.u 5 (Zi (c:=(e2.B==a0.B)) (h:=a3)) ?_)
     rcases Bool.eq_false_or_eq_true (e2.A==a0.B) with a9 | a8
     ·exact (EP.u 6 (Zi (c:=(e2.A==a0.B)) (h:=a9)) (EP.f (by simp only [a1,a3,a9];kernel_rfl)))
     exact (EP.u 6 (Zi (c:=(e2.A==a0.B)) (h:=a8)) (EP.f (by simp only [a1,a3,a8];kernel_rfl)))
    refine (EP.u 4 (Zi (c:=(e2.A==a0.A)) (h:=a2)) ?_)
    rcases Bool.eq_false_or_eq_true (e2.A==a0.B) with a7 | a6
    ·exact (EP.u 12 (Zi (c:=(e2.A==a0.B)) (h:=a7)) (EP.f (by simp only [a2,a7];kernel_rfl)))
    exact (EP.u 12 (Zi (c:=(e2.A==a0.B)) (h:=a6)) (EP.f (by simp only [a2,a6];kernel_rfl)))
   refine tq (it h (fun ac h => ?_) (fun ac h => ?_))
   ·refine sq (rg Za.f ?_)
    refine tq (rt ?_)
    refine br (tr ?_)
    obtain rfl:=Zb h
    exact ⟨_,rfl,rfl,Za4 kr kr⟩
   refine sk (bn ?_)
   refine tq (kq ?_)
   refine rg Za.f ?_
   obtain rfl:=Zb h
   exact ⟨_,rfl,(by show _=_;kernel_rfl)⟩
  refine kq (xq ?_)
  refine tx ?_
  obtain rfl:=Zb h
  exact ⟨_,rfl,rfl,(by show _=_;kernel_rfl)⟩
 rintro e s hq
 rcases ab with af | ae
 ·dsimp only at h hq
  obtain ⟨rfl,hR⟩:=hq
  obtain rfl:=hR
  refine bx (tq ?_)
  refine sq (rg Za.f ?_)
  refine tq (rt ?_)
  obtain rfl:=Zb h
  exact Za4 kr kr
 dsimp only at h hq
 obtain ⟨rfl,hq⟩:=hq
 refine br (tr ?_)
 obtain rfl:=Zb h
 exact hq
theorem Zj3 (N:Nat) (a0_:Int) (c0_:Zh) (k0_:Nat) (H:List HO) (hH:HP H [.cel k0_ (Zc c0_)]) (r:Bool) (h:Zff N a0_ c0_=some r):Zbe Tryz.prog 91 [iv a0_,.ptr k0_ 0] H (bv r) H:=by
 unfold Zff at h
 refine Zbz chk91 rfl rfl rfl (Zt _ _ _ ?_)
 refine sq (rg Za.f ?_)
 refine tq (sq ?_)
 have hlc1:=HP.get hH 0 rfl
 obtain ⟨e2,he2,h⟩:=bs h
 refine rg (Za.u 1 (Zv (H:=H) (id:=k0_) (off:=2) (cs:=(Zc c0_)) (c:=[Ze false c0_.Links]) (r:=Ze false c0_.Links) (hl:=hlc1)) (Za.u 1 (Zm (ys:=[Ze false c0_.Links,iv a0_]) (h:=Zk Zp he2)) (Za.u 0 (Zu (sz:=4) (off:=0) (cs:=[.int .i64 e2.A,.int .i64 e2.B,.int .i64 e2.Per,.int .i64 e2.Delay]) (r:=.agg (Zay e2)) Zp he2) Za.f))) ?_
 replace hH:HP _ []:=HP.pick hH [] rfl
 refine tq (sq ?_)
 refine rgX ⟨[(3,bv ((decide (e2.Per ≥ 1))&&((decide (e2.Per≤1000))&&((decide (e2.Delay ≥ 0))&&(decide (e2.Delay≤10000))))))],[],H⟩ ?_ ?_
 ·rcases Bool.eq_false_or_eq_true (decide (e2.Per ≥ 1)) with hc3 | hc8
  ·refine (EP.u 2 (Zi (c:=(decide (e2.Per ≥ 1))) (h:=hc3)) ?_)
   rcases Bool.eq_false_or_eq_true (decide (e2.Per≤1000)) with hc4 | hc7
   ·refine (EP.u 3 (Zi (c:=(decide (e2.Per≤1000))) (h:=hc4)) ?_)
    rcases Bool.eq_false_or_eq_true (decide (e2.Delay ≥ 0)) with hc5 | hc6
    ·exact (EP.u 4 (Zi (c:=(decide (e2.Delay ≥ 0))) (h:=hc5)) (EP.f (by simp only [hc3,hc4,hc5];kernel_rfl)))
    exact (EP.u 4 (Zi (c:=(decide (e2.Delay ≥ 0))) (h:=hc6)) (EP.f (by simp only [hc3,hc4,hc6];kernel_rfl)))
   exact (EP.u 3 (Zi (c:=(decide (e2.Per≤1000))) (h:=hc7)) (EP.f (by simp only [hc3,hc7];kernel_rfl)))
  exact (EP.u 2 (Zi (c:=(decide (e2.Per ≥ 1))) (h:=hc8)) (EP.f (by simp only [hc8];kernel_rfl)))
 refine tq (rt ?_)
 obtain rfl:=Zb h
 exact Za4 kr kr
theorem Zfe (N:Nat) (a0_:(List Bool)) (a1_:Bool) (r:Int) (h:ZbB N a0_ a1_=some r):Zac Tryz.prog 92 [s_eB false a0_,bv a1_] (iv r):=by
 unfold ZbB at h
 have hH:HP ([]:List HO) []:=trivial
 refine ZD chk92 rfl rfl (Zt _ _ _ ?_) rfl
 refine sq (rg Za.f ?_)
 refine tq (sq ?_)
 refine sq (rg (Za.u 1 (Zm (ys:=[s_eB false a0_]) (h:=Zr eB)) Za.f) ?_)
 refine tq (bk ?_)
 obtain ⟨a2,a0,h⟩:=bs h
 refine ZS ((ZL (fun (x:Int) s=>s=⟨[(0,s_eB false a0_),(1,bv a1_),(7,iv ((List.length a0_:Nat):Int)),(8,iv x)],[],[]⟩) (fun x:Int=>Zad N a0_ a1_ x) (fun (p:(Unit) ⊕ (Int)) e s=>match p with | (.inl p)=>e = .exit 0∧(s=⟨[],[],[]⟩) | (.inr p)=>e = .ret∧∃ xs,resL s i92.res=some xs∧ZaW xs=iv p) ?_ N _ a2 _ a0 (by show _=_;kernel_rfl)).mono ?_)
 ·clear h a0
  rintro i1 o s h hR
  obtain rfl:=hR
  replace h:Zad N a0_ a1_ i1=some o:=h
  unfold Zad at h
  refine sq (rg Za.f ?_)
  refine tq (sq ?_)
  refine it h (fun a4 h => ?_) (fun a4 h => ?_)
  ·refine sk (tq ?_)
   refine kq (sq ?_)
   refine bk (sq ?_)
   refine rg Za.f (tq ?_)
   refine sq ?_
   obtain ⟨a5,a1,h⟩:=bs h
   refine rg (Za.u 3 (Zm (ys:=[s_eB false a0_,iv i1]) (h:=Zk eB a1)) (Za.u 0 (Zu (sz:=1) (off:=0) (cs:=[.bool a5]) (r:=bv a5) eB a1) Za.f)) (tq ?_)
   refine it h (fun a3 h => ?_) (fun a3 h => ?_)
   ·refine sq (rg Za.f ?_)
    refine tq (rt ?_)
    refine br (tr ?_)
    obtain rfl:=Zb h
    exact ⟨_,rfl,rfl,Zx kr⟩
   refine sk (bn ?_)
   refine tq (kq ?_)
   refine rg Za.f ?_
   obtain rfl:=Zb h
   exact ⟨_,rfl,(by show _=_;kernel_rfl)⟩
  refine kq (xq ?_)
  refine tx ?_
  obtain rfl:=Zb h
  exact ⟨_,rfl,rfl,(by show _=_;kernel_rfl)⟩
 rintro e s hq
 rcases a2 with a7 | a6
 ·dsimp only at h hq
  obtain ⟨rfl,hR⟩:=hq
  obtain rfl:=hR
  refine bx (tq ?_)
  refine sq (rg Za.f ?_)
  refine tq (rt ?_)
  obtain rfl:=Zb h
  exact Zx kr
 dsimp only at h hq
 obtain ⟨rfl,hq⟩:=hq
 refine br (tr ?_)
 obtain rfl:=Zb h
 exact hq
theorem ZeL (N:Nat) (a0_:Int) (a1_:Int) (a2_:Int) (r:Bool) (h:Zcn N a0_ a1_ a2_=some r):Zac Tryz.prog 93 [iv a0_,iv a1_,iv a2_] (bv r):=by
 unfold Zcn at h
 have hH:HP ([]:List HO) []:=trivial
 refine ZD chk93 rfl rfl (Zt _ _ _ ?_) rfl
 refine sq (rg Za.f ?_)
 refine tq (sq ?_)
 refine rgX ⟨[(6,bv ((decide (a1_≤a0_))&&(decide (a0_≤a2_))))],[],[]⟩ ?_ ?_
 ·rcases Bool.eq_false_or_eq_true (decide (a1_≤a0_)) with hc1 | hc2
  ·exact (EP.u 2 (Zi (c:=(decide (a1_≤a0_))) (h:=hc1)) (EP.f (by simp only [hc1];kernel_rfl)))
  exact (EP.u 2 (Zi (c:=(decide (a1_≤a0_))) (h:=hc2)) (EP.f (by simp only [hc2];kernel_rfl)))
 refine tq (rt ?_)
 obtain rfl:=Zb h
 exact Zx kr
theorem Zkj (N:Nat) (a0_:(List Int)) (a1_:(List Int)) (r:Bool) (h:Zer N a0_ a1_=some r):Zac Tryz.prog 98 [Zg false a0_,Zg false a1_] (bv r):=by
 unfold Zer at h
 have hH:HP ([]:List HO) []:=trivial
 refine ZD chk98 rfl rfl (Zt _ _ _ ?_) rfl
 refine sq (rg Za.f ?_)
 refine tq (sq ?_)
 refine sq (rg (Za.u 1 (Zm (ys:=[Zg false a0_]) (h:=Zr eI64)) Za.f) ?_)
 refine tq (bk ?_)
 obtain ⟨a4,a0,h⟩:=bs h
 refine ZS ((ZL (fun (x:Int) s=>s=⟨[(1,Zg false a1_),(9,Zg false a0_),(10,iv ((List.length a0_:Nat):Int)),(11,iv x)],[],[]⟩) (fun x:Int=>ZbP N a0_ a1_ x) (fun (p:(Unit) ⊕ (Bool)) e s=>match p with | (.inl p)=>e = .exit 0∧(s=⟨[],[],[]⟩) | (.inr p)=>e = .ret∧∃ xs,resL s i98.res=some xs∧ZaW xs=bv p) ?_ N _ a4 _ a0 (by show _=_;kernel_rfl)).mono ?_)
 ·clear h a0
  rintro i1 o s h hR
  obtain rfl:=hR
  replace h:ZbP N a0_ a1_ i1=some o:=h
  unfold ZbP at h
  refine sq (rg Za.f ?_)
  refine tq (sq ?_)
  refine it h (fun ab h => ?_) (fun ab h => ?_)
  ·refine sk (tq ?_)
   refine kq (sq ?_)
   refine bk (sq ?_)
   obtain ⟨a3,a6,h⟩:=bs h
   refine rg (Za.u 0 (Zm (ys:=[Zg false a0_,iv i1]) (h:=Zk eI64 a6)) (Za.u 0 (Zu (sz:=1) (off:=0) (cs:=[.int .i64 a3]) (r:=iv a3) eI64 a6) Za.f)) (tq ?_)
   refine sq (rg (Za.u 1 (Zm (ys:=[Zg false a1_]) (h:=Zr eI64)) Za.f) ?_)
   refine tq (bk ?_)
   obtain ⟨a5,a1,h⟩:=bs h
   refine ZS ((ZL (fun (x:Int) s=>s=⟨[(1,Zg false a1_),(6,iv a3),(9,Zg false a0_),(10,iv ((List.length a0_:Nat):Int)),(11,iv i1),(15,Zg false a1_),(16,iv ((List.length a1_:Nat):Int)),(17,iv x)],[],[]⟩) (fun x:Int=>ZbO N a1_ a3 x) (fun (p:(Unit) ⊕ (Bool)) e s=>match p with | (.inl p)=>e = .exit 2∧(s=⟨[(1,Zg false a1_),(9,Zg false a0_),(10,iv ((List.length a0_:Nat):Int)),(11,iv i1)],[],[]⟩) | (.inr p)=>e = .ret∧∃ xs,resL s i98.res=some xs∧ZaW xs=bv p) ?_ N _ a5 _ a1 (by show _=_;kernel_rfl)).mono ?_)
   ·clear h a1
    rintro aa o s h hR
    obtain rfl:=hR
    replace h:ZbO N a1_ a3 aa=some o:=h
    unfold ZbO at h
    refine sq (rg Za.f ?_)
    refine tq (sq ?_)
    refine it h (fun a9 h => ?_) (fun a9 h => ?_)
    ·refine sk (tq ?_)
     refine kq (sq ?_)
     refine bk (sq ?_)
     obtain ⟨a7,a2,h⟩:=bs h
     refine rg (Za.u 0 (Zm (ys:=[Zg false a1_,iv aa]) (h:=Zk eI64 a2)) (Za.u 0 (Zu (sz:=1) (off:=0) (cs:=[.int .i64 a7]) (r:=iv a7) eI64 a2) Za.f)) (tq ?_)
     refine sq (rg Za.f ?_)
     refine tq (it h (fun a8 h => ?_) (fun a8 h => ?_))
     ·refine sq (rg Za.f ?_)
      refine tq (rt ?_)
      refine br (tr ?_)
      obtain rfl:=Zb h
      exact ⟨_,rfl,rfl,Zx kr⟩
     refine sk (bn ?_)
     refine tq (kq ?_)
     refine rg Za.f ?_
     obtain rfl:=Zb h
     exact ⟨_,rfl,(by show _=_;kernel_rfl)⟩
    refine kq (xq ?_)
    refine tx ?_
    obtain rfl:=Zb h
    exact ⟨_,rfl,rfl,(by show _=_;kernel_rfl)⟩
   rintro e s hq
   rcases a5 with af | ae
   ·dsimp only at h hq
    obtain ⟨rfl,hR⟩:=hq
    obtain rfl:=hR
    refine bx (bn ?_)
    refine tq (rg Za.f ?_)
    obtain rfl:=Zb h
    exact ⟨_,rfl,(by show _=_;kernel_rfl)⟩
   dsimp only at h hq
   obtain ⟨rfl,hq⟩:=hq
   refine br (br ?_)
   refine tr ?_
   obtain rfl:=Zb h
   exact ⟨_,rfl,rfl,hq⟩
  refine kq (xq ?_)
  refine tx ?_
  obtain rfl:=Zb h
  exact ⟨_,rfl,rfl,(by show _=_;kernel_rfl)⟩
 rintro e s hq
 rcases a4 with ad | ac
 ·dsimp only at h hq
  obtain ⟨rfl,hR⟩:=hq
  obtain rfl:=hR
  refine bx (tq ?_)
  refine sq (rg Za.f ?_)
  refine tq (rt ?_)
  obtain rfl:=Zb h
  exact Zx kr
 dsimp only at h hq
 obtain ⟨rfl,hq⟩:=hq
 refine br (tr ?_)
 obtain rfl:=Zb h
 exact hq
theorem Zmw (N:Nat) (a0_:Zs) (a1_:Int) (a2_:Int) (H:List HO) (r:Zs × Int × Int) (h:ZiU N a0_ a1_ a2_=some r):∃ (id0_ id1_ id2_:Nat) (H':List HO),Zbe Tryz.prog 100 [.agg (Zd a0_),iv a1_,iv a2_] H (.fn 110 [] [.ptr id0_ 0,.ptr id1_ 0,.ptr id2_ 0]) H'∧Fp H H' [] [.cel id0_ [Zg false r.1.Periods,ZK false r.1.Uses],.cel id1_ [iv r.2.1],.cel id2_ [iv r.2.2]]:=by
 suffices hs:∃ r' H',Zbe Tryz.prog 100 [.agg (Zd a0_),iv a1_,iv a2_] H r' H'∧∃ (id0_ id1_ id2_:Nat),r' = .fn 110 [] [.ptr id0_ 0,.ptr id1_ 0,.ptr id2_ 0]∧Fp H H' [] [.cel id0_ [Zg false r.1.Periods,ZK false r.1.Uses],.cel id1_ [iv r.2.1],.cel id2_ [iv r.2.2]] by
  obtain ⟨_,H',h1,id0_,id1_,id2_,rfl,h2⟩:=hs
  exact ⟨id0_,id1_,id2_,H',h1,h2⟩
 unfold ZiU at h
 have hH:Fp H H [] []:=Fp.refl trivial
 refine Zjc chk100 (fun r' H'=>∃ (id0_ id1_ id2_:Nat),r' = .fn 110 [] [.ptr id0_ 0,.ptr id1_ 0,.ptr id2_ 0]∧Fp H H' [] [.cel id0_ [Zg false r.1.Periods,ZK false r.1.Uses],.cel id1_ [iv r.2.1],.cel id2_ [iv r.2.2]]) (fun r' H' ⟨_,_,_,e,_⟩=>by rw [e];rfl) rfl rfl ?_
 refine sq ?_
 obtain ⟨id1,H2,hid1,hH2,hH⟩:=Fp.newCell hH (Zd a0_)
 replace hH:Fp _ _ _ [.cel id1 (Zd a0_)]:=hH
 obtain ⟨id3,H4,hid3,hH4,hH⟩:=Fp.newCell hH [iv a1_]
 replace hH:Fp _ _ _ [.cel id3 [iv a1_],.cel id1 (Zd a0_)]:=hH
 obtain ⟨id5,H6,hid5,hH6,hH⟩:=Fp.newCell hH [iv a2_]
 replace hH:Fp _ _ _ [.cel id5 [iv a2_],.cel id3 [iv a1_],.cel id1 (Zd a0_)]:=hH
 refine rg (Za.h 0 (Zb6 (H:=H) (v:=.agg (Zd a0_)) (hid:=hid1) (hH:=hH2)) (Za.h 0 (Zb6 (H:=H2) (v:=iv a1_) (hid:=hid3) (hH:=hH4)) (Za.h 0 (Zb6 (H:=H4) (v:=iv a2_) (hid:=hid5) (hH:=hH6)) Za.f))) (tq ?_)
 refine sq (rg Za.f ?_)
 refine tq (rt ?_)
 obtain rfl:=Zb h
 exact ⟨[.fn 110 [] [.ptr id1 0,.ptr id3 0,.ptr id5 0]],kr,id1,id3,id5,rfl,Fp.pk hH [2,1,0] rfl⟩
theorem ZgB (N:Nat) (a0_:Zs) (a1_:ZB) (a2_:Int) (r:ZF) (h:ZeS N a0_ a1_ a2_=some r):Zac Tryz.prog 102 [.agg (Zd a0_),.agg (ZZ a1_),iv a2_] (.agg [iv r.Period,iv r.From,iv r.Long]):=by
 unfold ZeS at h
 have hH:HP ([]:List HO) []:=trivial
 refine ZD chk102 rfl rfl (Zt _ _ _ ?_) rfl
 refine sq (rg Za.f ?_)
 refine tq (sq ?_)
 obtain ⟨e1,he1,h⟩:=bs h
 refine rg (Za.u 4 (Zm (ys:=[Zg false a0_.Periods,iv a1_.Stream]) (h:=Zk eI64 he1)) (Za.u 0 (Zu (sz:=1) (off:=0) (cs:=[.int .i64 e1]) (r:=iv e1) eI64 he1) Za.f)) (tq ?_)
 refine sq ?_
 obtain ⟨m2,hm2,h⟩:=bs h
 refine rq (Za.u 6 (Zm (ys:=[iv (w64 (a1_.From+a2_)),iv e1]) (h:=Zce hm2)) Za.f) (tq ?_)
 refine rt ?_
 obtain rfl:=Zb h
 exact Zx kr
theorem ZeE (N:Nat) (a0_:ZF) (r:Int) (h:Zcs N a0_=some r):Zac Tryz.prog 103 [.agg (Zcl a0_)] (iv r):=by
 unfold Zcs at h
 have hH:HP ([]:List HO) []:=trivial
 refine ZD chk103 rfl rfl (Zt _ _ _ ?_) rfl
 refine sq (rg Za.f ?_)
 refine tq (sq ?_)
 refine sq (rgX ⟨[(1,.loc 1 0),(22,bv ((decide (a0_.Period<1))||((decide (a0_.Period > 960))||((decide (a0_.From<0))||(decide (a0_.From ≥ a0_.Period))))))],[(1,(Zcl a0_))],[]⟩ ?_ ?_)
 ·rcases Bool.eq_false_or_eq_true (decide (a0_.Period<1)) with hc1 | hc2
  ·exact (EP.u 2 (Zi (c:=(decide (a0_.Period<1))) (h:=hc1)) (EP.f (by simp only [hc1];kernel_rfl)))
  refine (EP.u 2 (Zi (c:=(decide (a0_.Period<1))) (h:=hc2)) ?_)
  rcases Bool.eq_false_or_eq_true (decide (a0_.Period > 960)) with hc3 | hc4
  ·exact (EP.u 3 (Zi (c:=(decide (a0_.Period > 960))) (h:=hc3)) (EP.f (by simp only [hc2,hc3];kernel_rfl)))
  refine (EP.u 3 (Zi (c:=(decide (a0_.Period > 960))) (h:=hc4)) ?_)
  rcases Bool.eq_false_or_eq_true (decide (a0_.From<0)) with hc5 | hc6
  ·exact (EP.u 4 (Zi (c:=(decide (a0_.From<0))) (h:=hc5)) (EP.f (by simp only [hc2,hc4,hc5];kernel_rfl)))
  exact (EP.u 4 (Zi (c:=(decide (a0_.From<0))) (h:=hc6)) (EP.f (by simp only [hc2,hc4,hc6];kernel_rfl)))
 refine tq (it h (fun hc7 h => ?_) (fun hc7 h => ?_))
 ·refine sq (rg Za.f ?_)
  refine tq (rt ?_)
  refine tr ?_
  obtain rfl:=Zb h
  exact Zx kr
 refine sk (tq ?_)
 refine kq (sq ?_)
 refine sq (rgX ⟨[(32,bv ((decide (a0_.Long<1))||(decide (a0_.Long > a0_.Period))))],[],[]⟩ ?_ ?_)
 ·rcases Bool.eq_false_or_eq_true (decide (a0_.Long<1)) with hc8 | hc9
  ·exact (EP.u 2 (Zi (c:=(decide (a0_.Long<1))) (h:=hc8)) (EP.f (by simp only [hc8];kernel_rfl)))
  exact (EP.u 2 (Zi (c:=(decide (a0_.Long<1))) (h:=hc9)) (EP.f (by simp only [hc9];kernel_rfl)))
 refine tq (it h (fun a0 h => ?_) (fun a0 h => ?_))
 ·refine sq (rg Za.f ?_)
  refine tq (rt ?_)
  refine tr ?_
  obtain rfl:=Zb h
  exact Zx kr
 refine sk (tq ?_)
 refine kq (sq ?_)
 refine rg Za.f (tq ?_)
 refine rt ?_
 obtain rfl:=Zb h
 exact Zx kr
theorem ZhL (N:Nat) (a0_:Int) (a1_:Int) (r:Int) (h:Zd7 N a0_ a1_=some r):Zac Tryz.prog 104 [iv a0_,iv a1_] (iv r):=by
 unfold Zd7 at h
 have hH:HP ([]:List HO) []:=trivial
 refine ZD chk104 rfl rfl (Zt _ _ _ ?_) rfl
 refine sq (rg Za.f ?_)
 refine tq (sq ?_)
 refine bk ?_
 obtain ⟨a3,a0,h⟩:=bs h
 refine ZS ((ZL (fun (x:Int × Int) s=>s=⟨[(0,iv x.1),(1,iv x.2)],[],[]⟩) (fun x:Int × Int=>Zb7 N x.1 x.2) (fun (p:Int) e s=>e = .exit 0∧(s=⟨[(0,iv p)],[],[]⟩)) ?_ N _ a3 _ a0 (by show _=_;kernel_rfl)).mono ?_)
 ·clear h a0
  rintro ⟨i1,i2⟩ o s h hR
  obtain rfl:=hR
  replace h:Zb7 N i1 i2=some o:=h
  unfold Zb7 at h
  refine sq (sq ?_)
  refine rg Za.f (tq ?_)
  refine it h (fun a2 h => ?_) (fun a2 h => ?_)
  ·refine sk (tq ?_)
   refine kq (bk ?_)
   obtain ⟨a4,a1,h⟩:=bs h
   refine rq (Za.u 3 (Zm (ys:=[iv i1,iv i2]) (h:=Zce a1)) Za.f) (bn ?_)
   obtain rfl:=Zb h
   exact ⟨_,rfl,(by show _=_;kernel_rfl)⟩
  refine kq (xq ?_)
  refine tx ?_
  obtain rfl:=Zb h
  exact ⟨_,rfl,rfl,(by show _=_;kernel_rfl)⟩
 rintro e s hq
 obtain ⟨rfl,hR⟩:=hq
 obtain rfl:=hR
 refine bx (tq ?_)
 refine sq (rg Za.f ?_)
 refine tq (rt ?_)
 obtain rfl:=Zb h
 exact Zx kr
theorem Zfm (N:Nat) (a0_:Z6) (a1_:(List Int)) (H:List HO) (r:(List Int) × Z6) (h:Zcj N a0_ a1_=some r):∃ (id0_ id1_:Nat) (H':List HO),Zbe Tryz.prog 107 [.agg (Zc a0_.Topo),Zg false a1_] H (.fn 114 [] [.ptr id0_ 0,.ptr id1_ 0]) H'∧Fp H H' [] [.cel id0_ [Zg false r.1],.cel id1_ [iv r.2.Topo.Nodes,s_eB false r.2.Topo.Station,Ze false r.2.Topo.Links]]:=by
 suffices hs:∃ r' H',Zbe Tryz.prog 107 [.agg (Zc a0_.Topo),Zg false a1_] H r' H'∧∃ (id0_ id1_:Nat),r' = .fn 114 [] [.ptr id0_ 0,.ptr id1_ 0]∧Fp H H' [] [.cel id0_ [Zg false r.1],.cel id1_ [iv r.2.Topo.Nodes,s_eB false r.2.Topo.Station,Ze false r.2.Topo.Links]] by
  obtain ⟨_,H',h1,id0_,id1_,rfl,h2⟩:=hs
  exact ⟨id0_,id1_,H',h1,h2⟩
 unfold Zcj at h
 have hH:Fp H H [] []:=Fp.refl trivial
 refine Zjc chk107 (fun r' H'=>∃ (id0_ id1_:Nat),r' = .fn 114 [] [.ptr id0_ 0,.ptr id1_ 0]∧Fp H H' [] [.cel id0_ [Zg false r.1],.cel id1_ [iv r.2.Topo.Nodes,s_eB false r.2.Topo.Station,Ze false r.2.Topo.Links]]) (fun r' H' ⟨_,_,e,_⟩=>by rw [e];rfl) rfl rfl ?_
 refine sq ?_
 obtain ⟨id1,H2,hid1,hH2,hH⟩:=Fp.newCell hH (Zc a0_.Topo)
 replace hH:Fp _ _ _ [.cel id1 (Zc a0_.Topo)]:=hH
 obtain ⟨id3,H4,hid3,hH4,hH⟩:=Fp.newCell hH [Zg false a1_]
 replace hH:Fp _ _ _ [.cel id3 [Zg false a1_],.cel id1 (Zc a0_.Topo)]:=hH
 refine rg (Za.h 0 (Zb6 (H:=H) (v:=.agg (Zc a0_.Topo)) (hid:=hid1) (hH:=hH2)) (Za.h 0 (Zb6 (H:=H2) (v:=Zg false a1_) (hid:=hid3) (hH:=hH4)) Za.f)) (tq ?_)
 refine sq (rg Za.f ?_)
 refine tq (rt ?_)
 obtain rfl:=Zb h
 exact ⟨[.fn 114 [] [.ptr id3 0,.ptr id1 0]],kr,id3,id1,rfl,Fp.pk hH [0,1] rfl⟩
theorem Zkx {σ:Type} (N:Nat) (y_:σ→ZB→ZB→Option (σ × Bool)) (c0_:Zs) (c1_:Int) (c2_:Int) (s_:σ) (k0_:Nat) (k1_:Nat) (k2_:Nat) (yid_:Nat) (T_:σ→List Z8→Prop) (hy_:∀ (x0:ZB) (x1:ZB) (s:σ) (r:σ × Bool) (H:List HO) (its:List Z8),T_ s its→HP H its→y_ s x0 x1=some r→∃ H' its',Zhh Tryz.prog yid_ [.agg [iv x0.Stream,iv x0.Port,iv x0.From,iv x0.Long],.agg [iv x1.Stream,iv x1.Port,iv x1.From,iv x1.Long]] H r.2 H'∧T_ r.1 its'∧Fp H H' its its') (H:List HO) (its:List Z8) (hT:T_ s_ its) (hH:HP H (.cel k0_ (Zd c0_) :: .cel k1_ [iv c1_] :: .cel k2_ [iv c2_]::its)) (r:σ) (h:Zg0 N y_ c0_ c1_ c2_ s_=some r):∃ H' its',Zbe Tryz.prog 110 [.yl yid_,.ptr k0_ 0,.ptr k1_ 0,.ptr k2_ 0] H (.tup []) H'∧T_ r its'∧Fp H H' (.cel k0_ (Zd c0_) :: .cel k1_ [iv c1_] :: .cel k2_ [iv c2_]::its) (.cel k0_ (Zd c0_) :: .cel k1_ [iv c1_] :: .cel k2_ [iv c2_]::its'):=by
 suffices hs:∃ H',Zbe Tryz.prog 110 [.yl yid_,.ptr k0_ 0,.ptr k1_ 0,.ptr k2_ 0] H (.tup []) H'∧∃ its',T_ r its'∧Fp H H' (.cel k0_ (Zd c0_) :: .cel k1_ [iv c1_] :: .cel k2_ [iv c2_]::its) (.cel k0_ (Zd c0_) :: .cel k1_ [iv c1_] :: .cel k2_ [iv c2_]::its') by
  obtain ⟨H',h1,its',h2,h3⟩:=hs
  exact ⟨H',its',h1,h2,h3⟩
 unfold Zg0 at h
 replace hH:Fp H H (.cel k0_ (Zd c0_) :: .cel k1_ [iv c1_] :: .cel k2_ [iv c2_]::its) (.cel k0_ (Zd c0_) :: .cel k1_ [iv c1_] :: .cel k2_ [iv c2_]::its):=Fp.refl hH
 refine Zlb chk110 (fun H'=>∃ its',T_ r its'∧Fp H H' (.cel k0_ (Zd c0_) :: .cel k1_ [iv c1_] :: .cel k2_ [iv c2_]::its) (.cel k0_ (Zd c0_) :: .cel k1_ [iv c1_] :: .cel k2_ [iv c2_]::its')) rfl rfl rfl ?_
 refine sq ?_
 have hlc1:=Fp.get hH 0 rfl
 refine rg (Za.u 1 (Zv (H:=H) (id:=k0_) (off:=1) (cs:=(Zd c0_)) (c:=[ZK false c0_.Uses]) (r:=ZK false c0_.Uses) (hl:=hlc1)) (Za.u 0 (Zm (ys:=[ZK false c0_.Uses]) (h:=Zr Zq)) Za.f)) (tq ?_)
 refine bk ?_
 obtain ⟨ag,a9,h⟩:=bs h
 refine ZS ((ZL (fun (x:Int × σ) s=>∃ (its2:List Z8) (H3:List HO),s=⟨[(0,.yl yid_),(1,.ptr k0_ 0),(2,.ptr k1_ 0),(3,.ptr k2_ 0),(10,ZK false c0_.Uses),(11,iv ((List.length c0_.Uses:Nat):Int)),(12,iv x.1)],[],H3⟩∧T_ x.2 its2∧Fp H H3 (.cel k0_ (Zd c0_) :: .cel k1_ [iv c1_] :: .cel k2_ [iv c2_]::its) (.cel k0_ (Zd c0_) :: .cel k1_ [iv c1_] :: .cel k2_ [iv c2_]::its2)) (fun x:Int × σ=>ZdT N y_ c0_ c1_ c2_ x.1 x.2) (fun (p:(σ) ⊕ (σ)) e s=>match p with | (.inl p)=>e = .exit 0∧(∃ (a3:List Z8) (af:List HO),s=⟨[],[],af⟩∧T_ p a3∧Fp H af (.cel k0_ (Zd c0_) :: .cel k1_ [iv c1_] :: .cel k2_ [iv c2_]::its) (.cel k0_ (Zd c0_) :: .cel k1_ [iv c1_] :: .cel k2_ [iv c2_]::a3)) | (.inr p)=>e = .ret∧∃ xs,rawL s i110.res=some xs∧ZaW xs = .tup []∧∃ its',T_ p its'∧Fp H s.H (.cel k0_ (Zd c0_) :: .cel k1_ [iv c1_] :: .cel k2_ [iv c2_]::its) (.cel k0_ (Zd c0_) :: .cel k1_ [iv c1_] :: .cel k2_ [iv c2_]::its')) ?_ N _ ag _ a9 ⟨its,H,(by show _=_;kernel_rfl),hT,Fp.at hH⟩).mono ?_)
 ·clear h a9
  rintro ⟨i4,g5⟩ o s h hR
  obtain ⟨its2,H3,rfl,hT,hH⟩:=hR
  replace hH:Fp H H3 (.cel k0_ (Zd c0_) :: .cel k1_ [iv c1_] :: .cel k2_ [iv c2_]::its) (.cel k0_ (Zd c0_) :: .cel k1_ [iv c1_] :: .cel k2_ [iv c2_]::its2):=hH
  replace h:ZdT N y_ c0_ c1_ c2_ i4 g5=some o:=h
  unfold ZdT at h
  refine sq (rg Za.f ?_)
  refine tq (sq ?_)
  refine it h (fun aA h => ?_) (fun aA h => ?_)
  ·refine sk (tq ?_)
   refine kq (sq ?_)
   refine bk (sq ?_)
   obtain ⟨a4,aj,h⟩:=bs h
   refine rg (Za.u 1 (Zm (ys:=[ZK false c0_.Uses,iv i4]) (h:=Zk Zq aj)) (Za.u 0 (Zu (sz:=4) (off:=0) (cs:=[.int .i64 a4.Stream,.int .i64 a4.Port,.int .i64 a4.From,.int .i64 a4.Long]) (r:=.agg (ZZ a4)) Zq aj) Za.f)) (tq ?_)
   refine sq (sq ?_)
   have an:=Fp.get hH 1 rfl
   refine rg (Za.u 2 (Zv (H:=H3) (id:=k1_) (off:=0) (cs:=[iv c1_]) (c:=[iv c1_]) (r:=iv c1_) (hl:=an)) Za.f) (tq ?_)
   refine it h (fun az h => ?_) (fun az h => ?_)
   ·refine kq (xq ?_)
    refine tx (bx ?_)
    refine tq (kq ?_)
    refine rg Za.f ?_
    obtain rfl:=Zb h
    exact ⟨_,rfl,⟨its2,H3,(by show _=_;kernel_rfl),hT,Fp.at hH⟩⟩
   refine sk (tq ?_)
   refine kq (sq ?_)
   have am:=Fp.get hH 0 rfl
   refine rg (Za.u 1 (Zv (H:=H3) (id:=k0_) (off:=1) (cs:=(Zd c0_)) (c:=[ZK false c0_.Uses]) (r:=ZK false c0_.Uses) (hl:=am)) (Za.u 0 (Zm (ys:=[ZK false c0_.Uses]) (h:=Zr Zq)) Za.f)) (tq ?_)
   refine bk ?_
   obtain ⟨ai,aa,h⟩:=bs h
   refine ZS ((ZL (fun (x:Int × σ) s=>∃ (a0:List Z8) (a5:List HO),s=⟨[(0,.yl yid_),(1,.ptr k0_ 0),(2,.ptr k1_ 0),(3,.ptr k2_ 0),(5,iv i4),(6,.loc 6 0),(10,ZK false c0_.Uses),(11,iv ((List.length c0_.Uses:Nat):Int)),(12,iv i4),(22,ZK false c0_.Uses),(23,iv ((List.length c0_.Uses:Nat):Int)),(24,iv x.1)],[(6,(ZZ a4))],a5⟩∧T_ x.2 a0∧Fp H a5 (.cel k0_ (Zd c0_) :: .cel k1_ [iv c1_] :: .cel k2_ [iv c2_]::its) (.cel k0_ (Zd c0_) :: .cel k1_ [iv c1_] :: .cel k2_ [iv c2_]::a0)) (fun x:Int × σ=>ZdS N y_ c0_ c2_ i4 a4 x.1 x.2) (fun (p:(σ) ⊕ (σ)) e s=>match p with | (.inl p)=>e = .exit 2∧(∃ (a2:List Z8) (a7:List HO),s=⟨[(0,.yl yid_),(1,.ptr k0_ 0),(2,.ptr k1_ 0),(3,.ptr k2_ 0),(10,ZK false c0_.Uses),(11,iv ((List.length c0_.Uses:Nat):Int)),(12,iv i4)],[],a7⟩∧T_ p a2∧Fp H a7 (.cel k0_ (Zd c0_) :: .cel k1_ [iv c1_] :: .cel k2_ [iv c2_]::its) (.cel k0_ (Zd c0_) :: .cel k1_ [iv c1_] :: .cel k2_ [iv c2_]::a2)) | (.inr p)=>e = .ret∧∃ xs,rawL s i110.res=some xs∧ZaW xs = .tup []∧∃ its',T_ p its'∧Fp H s.H (.cel k0_ (Zd c0_) :: .cel k1_ [iv c1_] :: .cel k2_ [iv c2_]::its) (.cel k0_ (Zd c0_) :: .cel k1_ [iv c1_] :: .cel k2_ [iv c2_]::its')) ?_ N _ ai _ aa ⟨its2,H3,(by show _=_;kernel_rfl),hT,Fp.at hH⟩).mono ?_)
   ·clear h aa
    rintro ⟨a8,aB⟩ o s h hR
    obtain ⟨a0,a5,rfl,hT,hH⟩:=hR
    replace hH:Fp H a5 (.cel k0_ (Zd c0_) :: .cel k1_ [iv c1_] :: .cel k2_ [iv c2_]::its) (.cel k0_ (Zd c0_) :: .cel k1_ [iv c1_] :: .cel k2_ [iv c2_]::a0):=hH
    replace h:ZdS N y_ c0_ c2_ i4 a4 a8 aB=some o:=h
    unfold ZdS at h
    refine sq (rg Za.f ?_)
    refine tq (sq ?_)
    refine it h (fun aw h => ?_) (fun aw h => ?_)
    ·refine sk (tq ?_)
     refine kq (sq ?_)
     refine bk (sq ?_)
     obtain ⟨a1,ab,h⟩:=bs h
     refine rg (Za.u 1 (Zm (ys:=[ZK false c0_.Uses,iv a8]) (h:=Zk Zq ab)) (Za.u 0 (Zu (sz:=4) (off:=0) (cs:=[.int .i64 a1.Stream,.int .i64 a1.Port,.int .i64 a1.From,.int .i64 a1.Long]) (r:=.agg (ZZ a1)) Zq ab) Za.f)) (tq ?_)
     refine sq (sq ?_)
     obtain ⟨ay,hj,h⟩:=bs h
     refine rgR (fun s=>s=⟨[(0,.yl yid_),(1,.ptr k0_ 0),(2,.ptr k1_ 0),(3,.ptr k2_ 0),(5,iv i4),(6,.loc 6 0),(8,.loc 8 0),(10,ZK false c0_.Uses),(11,iv ((List.length c0_.Uses:Nat):Int)),(12,iv i4),(22,ZK false c0_.Uses),(23,iv ((List.length c0_.Uses:Nat):Int)),(24,iv a8),(44,bv ay)],[(6,(ZZ a4)),(8,(ZZ a1))],a5⟩) ?_ ?_
     ·clear h
      rcases Zz hj with ⟨av,hj⟩ | ⟨au,hj⟩
      ·obtain rfl:=Zb hj
       exact (EP.u 2 (Zi (c:=(a8==i4)) (h:=av)) (EP.f (by show _=_;kernel_rfl)))
      refine (EP.u 2 (Zi (c:=(a8==i4)) (h:=au)) ?_)
      have ad:=Fp.get hH 2 rfl
      refine (EP.u 3 (Zv (H:=a5) (id:=k2_) (off:=0) (cs:=[iv c2_]) (c:=[iv c2_]) (r:=iv c2_) (hl:=ad)) ?_)
      rcases Zz hj with ⟨ar,hj⟩ | ⟨aq,hj⟩
      ·obtain rfl:=Zb hj
       exact (EP.u 0 (Zi (c:=(a1.Stream != c2_)) (h:=ar)) (EP.f (by show _=_;kernel_rfl)))
      obtain rfl:=Zb hj
      exact (EP.u 0 (Zi (c:=(a1.Stream != c2_)) (h:=aq)) (EP.f (by show _=_;kernel_rfl)))
     clear hj
     rintro s hR
     obtain rfl:=hR
     refine tq (it h (fun ap h => ?_) (fun ap h => ?_))
     ·refine kq (xq ?_)
      refine tx (bx ?_)
      refine tq (kq ?_)
      refine rg Za.f ?_
      obtain rfl:=Zb h
      exact ⟨_,rfl,⟨a0,a5,(by show _=_;kernel_rfl),hT,Fp.at hH⟩⟩
     refine sk (tq ?_)
     refine kq (sq ?_)
     obtain ⟨ax,al,h⟩:=bs h
     obtain ⟨ak,a6,ac,hT,ae⟩:=hy_ a4 a1 aB ax a5 a0 hT (Fp.tail (own:=[.cel k0_ (Zd c0_),.cel k1_ [iv c1_],.cel k2_ [iv c2_]]) (its:=a0) hH) al
     replace hH:Fp H ak (.cel k0_ (Zd c0_) :: .cel k1_ [iv c1_] :: .cel k2_ [iv c2_]::its) (.cel k0_ (Zd c0_) :: .cel k1_ [iv c1_] :: .cel k2_ [iv c2_]::a6):=Fp.callT (own:=[.cel k0_ (Zd c0_),.cel k1_ [iv c1_],.cel k2_ [iv c2_]]) (its:=a0) hH ae
     refine rg (Za.v 3 (Zmk (H:=a5) (id:=yid_) (ys:=[.agg (ZZ a4),.agg (ZZ a1)]) kr kr kr kr ac) Za.f) (tq ?_)
     refine it h (fun ao h => ?_) (fun ao h => ?_)
     ·refine rt (br ?_)
      refine tr ?_
      obtain rfl:=Zb h
      exact ⟨_,rfl,rfl,⟨[],kr,kr,a6,hT,Fp.at hH⟩⟩
     refine sk (bn ?_)
     refine tq (kq ?_)
     refine rg Za.f ?_
     obtain rfl:=Zb h
     exact ⟨_,rfl,⟨a6,ak,(by show _=_;kernel_rfl),hT,Fp.at hH⟩⟩
    refine kq (xq ?_)
    refine tx ?_
    obtain rfl:=Zb h
    exact ⟨_,rfl,rfl,⟨a0,a5,(by show _=_;kernel_rfl),hT,Fp.at hH⟩⟩
   rintro e s hq
   rcases ai with aG | aE
   ·dsimp only at h hq
    obtain ⟨rfl,hR⟩:=hq
    obtain ⟨a2,a7,rfl,hT,hH⟩:=hR
    replace hH:Fp H a7 (.cel k0_ (Zd c0_) :: .cel k1_ [iv c1_] :: .cel k2_ [iv c2_]::its) (.cel k0_ (Zd c0_) :: .cel k1_ [iv c1_] :: .cel k2_ [iv c2_]::a2):=hH
    refine bx (bn ?_)
    refine tq (kq ?_)
    refine rg Za.f ?_
    obtain rfl:=Zb h
    exact ⟨_,rfl,⟨a2,a7,(by show _=_;kernel_rfl),hT,Fp.at hH⟩⟩
   dsimp only at h hq
   obtain ⟨rfl,hq⟩:=hq
   refine br (br ?_)
   refine tr ?_
   obtain rfl:=Zb h
   exact ⟨_,rfl,rfl,hq⟩
  refine kq (xq ?_)
  refine tx ?_
  obtain rfl:=Zb h
  exact ⟨_,rfl,rfl,⟨its2,H3,(by show _=_;kernel_rfl),hT,Fp.at hH⟩⟩
 rintro e s hq
 rcases ag with aD | aC
 ·dsimp only at h hq
  obtain ⟨rfl,hR⟩:=hq
  obtain ⟨a3,af,rfl,hT,hH⟩:=hR
  replace hH:Fp H af (.cel k0_ (Zd c0_) :: .cel k1_ [iv c1_] :: .cel k2_ [iv c2_]::its) (.cel k0_ (Zd c0_) :: .cel k1_ [iv c1_] :: .cel k2_ [iv c2_]::a3):=hH
  refine bx ?_
  obtain rfl:=Zb h
  exact ⟨[],kr,kr,a3,hT,Fp.at hH⟩
 dsimp only at h hq
 obtain ⟨rfl,hq⟩:=hq
 refine br ?_
 obtain rfl:=Zb h
 exact hq
theorem ZeK {σ:Type} (N:Nat) (y_:σ→Int→ZaG→Option (σ × Bool)) (c0_:(List Int)) (c1_:Z6) (s_:σ) (k0_:Nat) (k1_:Nat) (yid_:Nat) (T_:σ→List Z8→Prop) (hy_:∀ (x0:Int) (x1:ZaG) (s:σ) (r:σ × Bool) (H:List HO) (its:List Z8),T_ s its→HP H its→y_ s x0 x1=some r→∃ H' its',Zhh Tryz.prog yid_ [iv x0,.agg [iv x1.port,iv x1.from_,iv x1.to_]] H r.2 H'∧T_ r.1 its'∧Fp H H' its its') (H:List HO) (its:List Z8) (hT:T_ s_ its) (hH:HP H (.cel k0_ [Zg false c0_] :: .cel k1_ (Zc c1_.Topo)::its)) (r:σ) (h:ZbI N y_ c0_ c1_ s_=some r):∃ H' its',Zbe Tryz.prog 114 [.yl yid_,.ptr k0_ 0,.ptr k1_ 0] H (.tup []) H'∧T_ r its'∧Fp H H' (.cel k0_ [Zg false c0_] :: .cel k1_ (Zc c1_.Topo)::its) (.cel k0_ [Zg false c0_] :: .cel k1_ (Zc c1_.Topo)::its'):=by
 suffices hs:∃ H',Zbe Tryz.prog 114 [.yl yid_,.ptr k0_ 0,.ptr k1_ 0] H (.tup []) H'∧∃ its',T_ r its'∧Fp H H' (.cel k0_ [Zg false c0_] :: .cel k1_ (Zc c1_.Topo)::its) (.cel k0_ [Zg false c0_] :: .cel k1_ (Zc c1_.Topo)::its') by
  obtain ⟨H',h1,its',h2,h3⟩:=hs
  exact ⟨H',its',h1,h2,h3⟩
 unfold ZbI at h
 replace hH:Fp H H (.cel k0_ [Zg false c0_] :: .cel k1_ (Zc c1_.Topo)::its) (.cel k0_ [Zg false c0_] :: .cel k1_ (Zc c1_.Topo)::its):=Fp.refl hH
 refine Zlb chk114 (fun H'=>∃ its',T_ r its'∧Fp H H' (.cel k0_ [Zg false c0_] :: .cel k1_ (Zc c1_.Topo)::its) (.cel k0_ [Zg false c0_] :: .cel k1_ (Zc c1_.Topo)::its')) rfl rfl rfl ?_
 refine ZqL (EvI.scope ?_)
 refine sq (ZqM ?_)
 refine tq (sq ?_)
 have hlc1:=Fp.get hH 0 rfl
 refine rg (Za.u 0 (Zv (H:=H) (id:=k0_) (off:=0) (cs:=[Zg false c0_]) (c:=[Zg false c0_]) (r:=Zg false c0_) (hl:=hlc1)) (Za.u 0 (Zm (ys:=[Zg false c0_]) (h:=Zr eI64)) Za.f)) (tq ?_)
 refine bk ?_
 obtain ⟨ak,a4,h⟩:=bs h
 refine ZS ((ZL (fun (x:Int × σ) s=>∃ (its2:List Z8) (H3:List HO),s=⟨[(0,.yl yid_),(2,.ptr k1_ 0),(8,Zg false c0_),(9,iv ((List.length c0_:Nat):Int)),(10,iv x.1)],[],H3⟩∧T_ x.2 its2∧Fp H H3 (.cel k0_ [Zg false c0_] :: .cel k1_ (Zc c1_.Topo)::its) (.cel k0_ [Zg false c0_] :: .cel k1_ (Zc c1_.Topo)::its2)) (fun x:Int × σ=>Z0 N y_ c0_ c1_ x.1 x.2) (fun (p:σ) e s=>e = .exit 0∧(∃ (a0:List Z8) (aa:List HO),s=⟨[],[],aa⟩∧T_ p a0∧Fp H aa (.cel k0_ [Zg false c0_] :: .cel k1_ (Zc c1_.Topo)::its) (.cel k0_ [Zg false c0_] :: .cel k1_ (Zc c1_.Topo)::a0))) ?_ N _ ak _ a4 ⟨its,H,(by show _=_;kernel_rfl),hT,Fp.at hH⟩).mono ?_)
 ·clear h a4
  rintro ⟨i4,g5⟩ o s h hR
  obtain ⟨its2,H3,rfl,hT,hH⟩:=hR
  replace hH:Fp H H3 (.cel k0_ [Zg false c0_] :: .cel k1_ (Zc c1_.Topo)::its) (.cel k0_ [Zg false c0_] :: .cel k1_ (Zc c1_.Topo)::its2):=hH
  replace h:Z0 N y_ c0_ c1_ i4 g5=some o:=h
  unfold Z0 at h
  refine sq (rg Za.f ?_)
  refine tq (sq ?_)
  refine it h (fun ao h => ?_) (fun ao h => ?_)
  ·refine sk (tq ?_)
   refine kq (sq ?_)
   refine bk (sq ?_)
   obtain ⟨a3,ac,h⟩:=bs h
   refine rg (Za.u 1 (Zm (ys:=[Zg false c0_,iv i4]) (h:=Zk eI64 ac)) (Za.u 0 (Zu (sz:=1) (off:=0) (cs:=[.int .i64 a3]) (r:=iv a3) eI64 ac) Za.f)) (tq ?_)
   refine sq (sq ?_)
   obtain ⟨ap,hj,h⟩:=bs h
   refine rgR (fun s=>s=⟨[(0,.yl yid_),(2,.ptr k1_ 0),(4,iv i4),(5,iv a3),(8,Zg false c0_),(9,iv ((List.length c0_:Nat):Int)),(10,iv i4),(25,bv ap)],[],H3⟩) ?_ ?_
   ·clear h
    rcases Zz hj with ⟨an,hj⟩ | ⟨am,hj⟩
    ·obtain rfl:=Zb hj
     exact (EP.u 1 (Zi (c:=(decide (a3<0))) (h:=an)) (EP.f (by show _=_;kernel_rfl)))
    refine (EP.u 1 (Zi (c:=(decide (a3<0))) (h:=am)) ?_)
    have af:=Fp.get hH 1 rfl
    obtain rfl:=Zb hj
    exact (EP.u 4 (Zv (H:=H3) (id:=k1_) (off:=2) (cs:=(Zc c1_.Topo)) (c:=[Ze false c1_.Topo.Links]) (r:=Ze false c1_.Topo.Links) (hl:=af)) (EP.u 0 (Zm (ys:=[Ze false c1_.Topo.Links]) (h:=Zr Zp)) (EP.f (by show _=_;kernel_rfl))))
   clear hj
   rintro s hR
   obtain rfl:=hR
   refine tq (it h (fun al h => ?_) (fun al h => ?_))
   ·refine kq (xq ?_)
    refine tx (bo ?_)
    refine tx ?_
    obtain rfl:=Zb h
    exact ⟨_,rfl,rfl,⟨its2,H3,(by show _=_;kernel_rfl),hT,Fp.at hH⟩⟩
   refine sk (tq ?_)
   refine kq (sq ?_)
   have ae:=Fp.get hH 1 rfl
   obtain ⟨a6,ab,h⟩:=bs h
   refine rg (Za.u 2 (Zv (H:=H3) (id:=k1_) (off:=2) (cs:=(Zc c1_.Topo)) (c:=[Ze false c1_.Topo.Links]) (r:=Ze false c1_.Topo.Links) (hl:=ae)) (Za.u 2 (Zm (ys:=[Ze false c1_.Topo.Links,iv (w64 (Int.tdiv a3 2))]) (h:=Zk Zp ab)) (Za.u 0 (Zu (sz:=4) (off:=0) (cs:=[.int .i64 a6.A,.int .i64 a6.B,.int .i64 a6.Per,.int .i64 a6.Delay]) (r:=.agg (Zay a6)) Zp ab) Za.f))) (tq ?_)
   refine sq (rg Za.f ?_)
   refine tq ?_
   obtain ⟨a1,a5,h⟩:=bs h
   refine Zc6 [0,2,4,7,8,9,10] (fun s=>s=⟨[(0,.yl yid_),(2,.ptr k1_ 0),(4,iv i4),(7,.loc 7 0),(8,Zg false c0_),(9,iv ((List.length c0_:Nat):Int)),(10,iv i4)],[(7,[iv a3,iv a1.1,iv a1.2])],H3⟩) ?_ ?_
   ·clear h
    have h:=a5
    refine sq (rg Za.f ?_)
    refine tq (it h (fun ai h => ?_) (fun ai h => ?_))
    ·refine rg Za.f ?_
     obtain rfl:=Zb h
     exact ⟨rfl,(by show _=_;kernel_rfl)⟩
    refine sk ?_
    obtain rfl:=Zb h
    exact ⟨rfl,(by show _=_;kernel_rfl)⟩
   clear a5
   rintro s hR
   obtain rfl:=hR
   refine sq ?_
   obtain ⟨aj,ad,h⟩:=bs h
   obtain ⟨a7,a2,a8,hT,a9⟩:=hy_ i4 (ZaG.mk a3 a1.1 a1.2) g5 aj H3 its2 hT (Fp.tail (own:=[.cel k0_ [Zg false c0_],.cel k1_ (Zc c1_.Topo)]) (its:=its2) hH) ad
   replace hH:Fp H a7 (.cel k0_ [Zg false c0_] :: .cel k1_ (Zc c1_.Topo)::its) (.cel k0_ [Zg false c0_] :: .cel k1_ (Zc c1_.Topo)::a2):=Fp.callT (own:=[.cel k0_ [Zg false c0_],.cel k1_ (Zc c1_.Topo)]) (its:=its2) hH a9
   refine rg (Za.v 3 (Zmk (H:=H3) (id:=yid_) (ys:=[iv i4,.agg [iv a3,iv a1.1,iv a1.2]]) kr kr kr kr a8) Za.f) (tq ?_)
   refine it h (fun ag h => ?_) (fun ag h => ?_)
   ·refine kq (xq ?_)
    refine bo (tx ?_)
    obtain rfl:=Zb h
    exact ⟨_,rfl,rfl,⟨a2,a7,(by show _=_;kernel_rfl),hT,Fp.at hH⟩⟩
   refine sk (bn ?_)
   refine tq (kq ?_)
   refine rg Za.f ?_
   obtain rfl:=Zb h
   exact ⟨_,rfl,⟨a2,a7,(by show _=_;kernel_rfl),hT,Fp.at hH⟩⟩
  refine kq (xq ?_)
  refine tx ?_
  obtain rfl:=Zb h
  exact ⟨_,rfl,rfl,⟨its2,H3,(by show _=_;kernel_rfl),hT,Fp.at hH⟩⟩
 rintro e s hq
 obtain ⟨rfl,hR⟩:=hq
 obtain ⟨a0,aa,rfl,hT,hH⟩:=hR
 replace hH:Fp H aa (.cel k0_ [Zg false c0_] :: .cel k1_ (Zc c1_.Topo)::its) (.cel k0_ [Zg false c0_] :: .cel k1_ (Zc c1_.Topo)::a0):=hH
 refine bx (nn ?_)
 obtain rfl:=Zb h
 exact ⟨[],kr,kr,a0,hT,Fp.at hH⟩
theorem ZfS (N:Nat) (a0_:(List Int)) (a1_:Int) (r:Int) (h:ZbZ N a0_ a1_=some r):Zac Tryz.prog 115 [Zg false a0_,iv a1_] (iv r):=by
 unfold ZbZ at h
 have hH:HP ([]:List HO) []:=trivial
 refine ZD chk115 rfl rfl (Zt _ _ _ ?_) rfl
 refine sq (rg Za.f ?_)
 refine tq (sq ?_)
 refine sq (rg (Za.u 1 (Zm (ys:=[Zg false a0_]) (h:=Zr eI64)) Za.f) ?_)
 refine tq (bk ?_)
 obtain ⟨a2,a0,h⟩:=bs h
 refine ZS ((ZL (fun (x:Int) s=>s=⟨[(0,Zg false a0_),(1,iv a1_),(7,iv ((List.length a0_:Nat):Int)),(8,iv x)],[],[]⟩) (fun x:Int=>Zal N a0_ a1_ x) (fun (p:(Unit) ⊕ (Int)) e s=>match p with | (.inl p)=>e = .exit 0∧(s=⟨[],[],[]⟩) | (.inr p)=>e = .ret∧∃ xs,resL s i115.res=some xs∧ZaW xs=iv p) ?_ N _ a2 _ a0 (by show _=_;kernel_rfl)).mono ?_)
 ·clear h a0
  rintro i1 o s h hR
  obtain rfl:=hR
  replace h:Zal N a0_ a1_ i1=some o:=h
  unfold Zal at h
  refine sq (rg Za.f ?_)
  refine tq (sq ?_)
  refine it h (fun a4 h => ?_) (fun a4 h => ?_)
  ·refine sk (tq ?_)
   refine kq (sq ?_)
   refine bk (sq ?_)
   refine rg Za.f (tq ?_)
   refine sq ?_
   obtain ⟨a5,a1,h⟩:=bs h
   refine rg (Za.u 3 (Zm (ys:=[Zg false a0_,iv i1]) (h:=Zk eI64 a1)) (Za.u 0 (Zu (sz:=1) (off:=0) (cs:=[.int .i64 a5]) (r:=iv a5) eI64 a1) Za.f)) (tq ?_)
   refine it h (fun a3 h => ?_) (fun a3 h => ?_)
   ·refine sq (rg Za.f ?_)
    refine tq (rt ?_)
    refine br (tr ?_)
    obtain rfl:=Zb h
    exact ⟨_,rfl,rfl,Zx kr⟩
   refine sk (bn ?_)
   refine tq (kq ?_)
   refine rg Za.f ?_
   obtain rfl:=Zb h
   exact ⟨_,rfl,(by show _=_;kernel_rfl)⟩
  refine kq (xq ?_)
  refine tx ?_
  obtain rfl:=Zb h
  exact ⟨_,rfl,rfl,(by show _=_;kernel_rfl)⟩
 rintro e s hq
 rcases a2 with a7 | a6
 ·dsimp only at h hq
  obtain ⟨rfl,hR⟩:=hq
  obtain rfl:=hR
  refine bx (tq ?_)
  refine sq (rg Za.f ?_)
  refine tq (rt ?_)
  obtain rfl:=Zb h
  exact Zx kr
 dsimp only at h hq
 obtain ⟨rfl,hq⟩:=hq
 refine br (tr ?_)
 obtain rfl:=Zb h
 exact hq
theorem Zkp (N:Nat) (a0_:ZF) (a1_:ZF) (r:Int × Int × Int) (h:ZgV N a0_ a1_=some r):Zac Tryz.prog 116 [.agg (Zcl a0_),.agg (Zcl a1_)] (.tup [iv r.1,iv r.2.1,iv r.2.2]):=by
 unfold ZgV at h
 have hH:HP ([]:List HO) []:=trivial
 refine ZD chk116 rfl rfl (Zt _ _ _ ?_) rfl
 refine sq (rg Za.f ?_)
 refine tq (sq ?_)
 obtain ⟨r1,hr1,h⟩:=bs h
 refine rg (Za.v 4 (Zw (hc:=ZhL N a0_.Period a1_.Period r1 hr1)) Za.f) (tq ?_)
 refine sq (rq Za.f ?_)
 refine tq (rt ?_)
 obtain rfl:=Zb h
 exact Zx kr
theorem Zll (N:Nat) (a0_:Int) (a1_:Int) (r:Int) (h:ZhR N a0_ a1_=some r):Zac Tryz.prog 117 [iv a0_,iv a1_] (iv r):=by
 unfold ZhR at h
 have hH:HP ([]:List HO) []:=trivial
 refine ZD chk117 rfl rfl (Zt _ _ _ ?_) rfl
 refine sq (rg Za.f ?_)
 refine tq (sq ?_)
 obtain ⟨m1,hm1,h⟩:=bs h
 obtain ⟨m2,hm2,h⟩:=bs h
 refine rg (Za.u 2 (Zm (ys:=[iv a0_,iv a1_]) (h:=Zce hm1)) (Za.u 3 (Zm (ys:=[iv (w64 (m1+a1_)),iv a1_]) (h:=Zce hm2)) Za.f)) (tq ?_)
 refine rt ?_
 obtain rfl:=Zb h
 exact Zx kr
theorem ZeH (N:Nat) (a0_:ZE) (r:Int) (h:ZbH N a0_=some r):Zac Tryz.prog 19 [.agg (Zl a0_)] (iv r):=by
 unfold ZbH at h
 have hH:HP ([]:List HO) []:=trivial
 refine ZD chk19 rfl rfl (Zt _ _ _ ?_) rfl
 refine sq (rg Za.f ?_)
 refine tq (sq ?_)
 refine sq ?_
 obtain ⟨j5,hj,h⟩:=bs h
 refine rgR (fun s=>s=⟨[(1,.loc 1 0),(12,bv j5)],[(1,(Zl a0_))],[]⟩) ?_ ?_
 ·clear h
  obtain ⟨r1,hr1,hj⟩:=bs hj
  refine (EP.v 2 (Zw (hc:=Zab N a0_.Grid 1 10000 r1 hr1)) ?_)
  rcases Zz hj with ⟨hc2,hj⟩ | ⟨hc3,hj⟩
  ·obtain rfl:=Zb hj
   exact (EP.u 0 (Zi (c:=(!r1)) (h:=hc2)) (EP.f (by show _=_;kernel_rfl)))
  refine (EP.u 0 (Zi (c:=(!r1)) (h:=hc3)) ?_)
  obtain ⟨r4,hr4,hj⟩:=bs hj
  obtain rfl:=Zb hj
  exact (EP.v 3 (Zw (hc:=Zab N a0_.Slack 0 1000 r4 hr4)) (EP.f (by show _=_;kernel_rfl)))
 clear hj
 rintro s hR
 obtain rfl:=hR
 refine tq (it h (fun hc6 h => ?_) (fun hc6 h => ?_))
 ·refine sq (rg Za.f ?_)
  refine tq (rt ?_)
  refine tr ?_
  obtain rfl:=Zb h
  exact Zx kr
 refine sk (tq ?_)
 refine kq (sq ?_)
 refine sq ?_
 obtain ⟨a3,hj,h⟩:=bs h
 refine rgR (fun s=>s=⟨[(22,bv a3)],[],[]⟩) ?_ ?_
 ·clear h
  obtain ⟨r7,hr7,hj⟩:=bs hj
  refine (EP.v 2 (Zw (hc:=Zab N a0_.Proc 0 10000 r7 hr7)) ?_)
  rcases Zz hj with ⟨hc8,hj⟩ | ⟨hc9,hj⟩
  ·obtain rfl:=Zb hj
   exact (EP.u 0 (Zi (c:=(!r7)) (h:=hc8)) (EP.f (by show _=_;kernel_rfl)))
  refine (EP.u 0 (Zi (c:=(!r7)) (h:=hc9)) ?_)
  obtain ⟨a2,a0,hj⟩:=bs hj
  obtain rfl:=Zb hj
  exact (EP.v 3 (Zw (hc:=Zab N a0_.Cap 1542 65536 a2 a0)) (EP.f (by show _=_;kernel_rfl)))
 clear hj
 rintro s hR
 obtain rfl:=hR
 refine tq (it h (fun a1 h => ?_) (fun a1 h => ?_))
 ·refine sq (rg Za.f ?_)
  refine tq (rt ?_)
  refine tr ?_
  obtain rfl:=Zb h
  exact Zx kr
 refine sk (tq ?_)
 refine kq (sq ?_)
 refine rg Za.f (tq ?_)
 refine rt ?_
 obtain rfl:=Zb h
 exact Zx kr
theorem Zms (N:Nat) (a0_:Zh) (a1_:Zy) (r:Bool) (h:ZfW N a0_ a1_=some r):Zac Tryz.prog 37 [.agg (Zc a0_),.agg (Zay a1_)] (bv r):=by
 unfold ZfW at h
 have hH:HP ([]:List HO) []:=trivial
 refine ZD chk37 rfl rfl (Zt _ _ _ ?_) rfl
 refine sq (rg Za.f ?_)
 refine tq (sq ?_)
 refine sq ?_
 obtain ⟨ab,hj,h⟩:=bs h
 refine rgR (fun s=>s=⟨[(3,.loc 3 0),(39,bv ab)],[(3,(Zay a1_))],[]⟩) ?_ ?_
 ·clear h
  obtain ⟨r1,hr1,hj⟩:=bs hj
  refine (EP.v 3 (Zw (hc:=Zii N a0_ a1_.A r1 hr1)) ?_)
  rcases Zz hj with ⟨hc2,hj⟩ | ⟨hc3,hj⟩
  ·obtain rfl:=Zb hj
   exact (EP.u 0 (Zi (c:=(!r1)) (h:=hc2)) (EP.f (by show _=_;kernel_rfl)))
  refine (EP.u 0 (Zi (c:=(!r1)) (h:=hc3)) ?_)
  obtain ⟨r4,hr4,hj⟩:=bs hj
  refine (EP.v 4 (Zw (hc:=Zii N a0_ a1_.B r4 hr4)) ?_)
  rcases Zz hj with ⟨hc5,hj⟩ | ⟨hc6,hj⟩
  ·obtain rfl:=Zb hj
   exact (EP.u 0 (Zi (c:=(!r4)) (h:=hc5)) (EP.f (by show _=_;kernel_rfl)))
  refine (EP.u 0 (Zi (c:=(!r4)) (h:=hc6)) ?_)
  rcases Zz hj with ⟨hc7,hj⟩ | ⟨hc8,hj⟩
  ·obtain rfl:=Zb hj
   exact (EP.u 6 (Zi (c:=(a1_.A==a1_.B)) (h:=hc7)) (EP.f (by show _=_;kernel_rfl)))
  refine (EP.u 6 (Zi (c:=(a1_.A==a1_.B)) (h:=hc8)) ?_)
  obtain ⟨e9,he9,hj⟩:=bs hj
  refine (EP.u 6 (Zm (ys:=[s_eB false a0_.Station,iv a1_.A]) (h:=Zk eB he9)) ?_)
  rcases Zz hj with ⟨a9,hj⟩ | ⟨a8,hj⟩
  ·refine (EP.u 0 (ZI.bool (Zu (sz:=1) (off:=0) (cs:=[.bool e9]) (r:=bv e9) eB he9) a9) ?_)
   obtain ⟨aa,a2,hj⟩:=bs hj
   obtain rfl:=Zb hj
   exact (EP.u 5 (Zm (ys:=[s_eB false a0_.Station,iv a1_.B]) (h:=Zk eB a2)) (EP.u 0 (Zu (sz:=1) (off:=0) (cs:=[.bool aa]) (r:=bv aa) eB a2) (EP.f (by show _=_;kernel_rfl))))
  obtain rfl:=Zb hj
  exact (EP.u 0 (ZI.bool (Zu (sz:=1) (off:=0) (cs:=[.bool e9]) (r:=bv e9) eB he9) a8) (EP.f (by show _=_;kernel_rfl)))
 clear hj
 rintro s hR
 obtain rfl:=hR
 refine tq (it h (fun a7 h => ?_) (fun a7 h => ?_))
 ·refine sq (rg Za.f ?_)
  refine tq (rt ?_)
  refine tr ?_
  obtain rfl:=Zb h
  exact Zx kr
 refine sk (tq ?_)
 refine kq (sq ?_)
 refine rgX ⟨[(4,bv ((decide (a1_.Per ≥ 1))&&((decide (a1_.Per≤1000))&&((decide (a1_.Delay ≥ 0))&&(decide (a1_.Delay≤10000))))))],[],[]⟩ ?_ ?_
 ·rcases Bool.eq_false_or_eq_true (decide (a1_.Per ≥ 1)) with a0 | a3
  ·refine (EP.u 2 (Zi (c:=(decide (a1_.Per ≥ 1))) (h:=a0)) ?_)
   rcases Bool.eq_false_or_eq_true (decide (a1_.Per≤1000)) with a1 | a4
   ·refine (EP.u 3 (Zi (c:=(decide (a1_.Per≤1000))) (h:=a1)) ?_)
    rcases Bool.eq_false_or_eq_true (decide (a1_.Delay ≥ 0)) with a6 | a5
    ·exact (EP.u 4 (Zi (c:=(decide (a1_.Delay ≥ 0))) (h:=a6)) (EP.f (by simp only [a0,a1,a6];kernel_rfl)))
    exact (EP.u 4 (Zi (c:=(decide (a1_.Delay ≥ 0))) (h:=a5)) (EP.f (by simp only [a0,a1,a5];kernel_rfl)))
   exact (EP.u 3 (Zi (c:=(decide (a1_.Per≤1000))) (h:=a4)) (EP.f (by simp only [a0,a4];kernel_rfl)))
  exact (EP.u 2 (Zi (c:=(decide (a1_.Per ≥ 1))) (h:=a3)) (EP.f (by simp only [a3];kernel_rfl)))
 refine tq (rt ?_)
 obtain rfl:=Zb h
 exact Zx kr
theorem Zmr (N:Nat) (a0_:Zh) (a1_:Int) (a2_:Int) (r:(List Int)) (h:ZfV N a0_ a1_ a2_=some r):Zac Tryz.prog 60 [.agg (Zc a0_),.p (.int .u8 a1_),.p (.int .u8 a2_)] (Zg false r):=by
 unfold ZfV at h
 have hH:HP ([]:List HO) []:=trivial
 refine ZD chk60 rfl rfl (Zt _ _ _ ?_) rfl
 refine sq (rg Za.f ?_)
 refine tq (sq ?_)
 obtain ⟨m1,hm1,h⟩:=bs h
 refine rg (Za.u 4 (Zm (ys:=[iv (w64 (a1_)),iv a0_.Nodes]) (h:=Zce hm1)) Za.f) (tq ?_)
 refine sq ?_
 obtain ⟨a2,H3,ha2,hH3,hH⟩:=HP.lit 1 [m1] eI64 hH
 replace hH:HP _ [.arr a2 1 false (List.map eI64 [m1])]:=hH
 have hfa2:=ZW (HP.get hH 0 rfl)
 refine rgS ⟨[(2,.p (.int .u8 a2_)),(3,.loc 3 0),(7,iv m1),(8,a2)],[(3,(Zc a0_))],H3⟩ (Za.h 1 (Zmj (H:=[]) (ys:=[iv m1]) (rows:=(List.map eI64 [m1])) kr kr kr ha2 hH3) Za.f) (by cases hfa2<;>kernel_rfl) ?_
 refine tq (sq ?_)
 refine rgS ⟨[(2,.p (.int .u8 a2_)),(3,.loc 3 0),(7,iv m1),(8,a2),(9,Zg true [])],[(3,(Zc a0_))],H3⟩ Za.f (by cases hfa2<;>kernel_rfl) ?_
 refine tq (sq ?_)
 refine bk ?_
 obtain ⟨ba,aE,h⟩:=bs h
 refine ZS ((ZL (fun (x:Int × (List Int) × (List Int)) s=>∃ (a4:AV) (a5:AV) (H6:List HO),s=⟨[(2,.p (.int .u8 a2_)),(3,.loc 3 0),(7,iv x.1),(8,a4),(9,a5)],[(3,(Zc a0_))],H6⟩∧HP H6 [.arr a4 1 true (List.map eI64 x.2.1),.arr a5 1 false (List.map eI64 x.2.2)]) (fun x:Int × (List Int) × (List Int)=>Zb2 N a0_ a2_ x.1 x.2.1 x.2.2) (fun (p:((List Int)) ⊕ ((List Int))) e s=>match p with | (.inl p)=>e = .exit 0∧(∃ (aA:AV) (aU:List HO),s=⟨[(9,aA)],[],aU⟩∧HP aU [.arr aA 1 false (List.map eI64 p)]) | (.inr p)=>e = .ret∧∃ xs,resL s i60.res=some xs∧ZaW xs=Zg false p) ?_ N _ ba _ aE ⟨a2,(.p (.sl 1 true [])),H3,(by show _=_;cases hfa2<;>kernel_rfl),(HP.frzUp (k:=0) (HP.pick (HP.nilArr hH 1 false) [1,0] rfl) rfl)⟩).mono ?_)
 ·clear h aE
  rintro ⟨i7,l8,l9⟩ o s h hR
  obtain ⟨a4,a5,H6,rfl,hH⟩:=hR
  replace hH:HP _ [.arr a4 1 true (List.map eI64 l8),.arr a5 1 false (List.map eI64 l9)]:=hH
  have hfa4:=ZW (HP.get hH 0 rfl)
  have hfa5:=ZW (HP.get hH 1 rfl)
  replace h:Zb2 N a0_ a2_ i7 l8 l9=some o:=h
  unfold Zb2 at h
  refine sq (sq ?_)
  obtain ⟨bZ,hj,h⟩:=bs h
  refine rgR (fun s=>s=⟨[(2,.p (.int .u8 a2_)),(3,.loc 3 0),(7,iv i7),(8,a4),(9,a5),(36,bv bZ)],[(3,(Zc a0_))],H6⟩) ?_ ?_
  ·clear h
   have bt:=HP.len (k:=1) (a:=a5) (sz:=1) (frz:=false) (l:=l9) eI64 hH rfl
   refine (EP.u 1 (Zm (ys:=[a5]) (by cases hfa5<;>kernel_rfl) bt) ?_)
   rcases Zz hj with ⟨bV,hj⟩ | ⟨bS,hj⟩
   ·refine (EP.u 0 (Zi (c:=(decide (((List.length l9:Nat):Int)<8))) (h:=bV)) ?_)
    have bq:=HP.len (k:=1) (a:=a5) (sz:=1) (frz:=false) (l:=l9) eI64 hH rfl
    refine (EP.u 2 (Zm (ys:=[a5]) (by cases hfa5<;>kernel_rfl) bq) ?_)
    rcases Zz hj with ⟨bU,hj⟩ | ⟨bT,hj⟩
    ·obtain rfl:=Zb hj
     exact (EP.u 0 (Zi (c:=(((List.length l9:Nat):Int)==0)) (h:=bU)) (EP.f (by show _=_;cases hfa4<;>cases hfa5<;>kernel_rfl)))
    refine (EP.u 0 (Zi (c:=(((List.length l9:Nat):Int)==0)) (h:=bT)) ?_)
    obtain ⟨bW,bd,hj⟩:=bs hj
    obtain rfl:=Zb hj
    exact (EP.u 4 (Zm (ys:=[s_eB false a0_.Station,iv i7]) (h:=Zk eB bd)) (EP.u 0 (Zu (sz:=1) (off:=0) (cs:=[.bool bW]) (r:=bv bW) eB bd) (EP.f (by show _=_;cases hfa4<;>cases hfa5<;>kernel_rfl))))
   obtain rfl:=Zb hj
   exact (EP.u 0 (Zi (c:=(decide (((List.length l9:Nat):Int)<8))) (h:=bS)) (EP.f (by show _=_;cases hfa4<;>cases hfa5<;>kernel_rfl)))
  clear hj
  rintro s hR
  obtain rfl:=hR
  refine tq (it h (fun bR h => ?_) (fun bR h => ?_))
  ·refine sk (tq ?_)
   refine kq (bk ?_)
   refine sq (rgS ⟨[(2,.p (.int .u8 a2_)),(3,.loc 3 0),(7,iv i7),(8,a4),(9,a5),(10,Zg true [])],[(3,(Zc a0_))],H6⟩ Za.f (by cases hfa4<;>cases hfa5<;>kernel_rfl) ?_)
   refine tq (sq ?_)
   obtain ⟨ab,bL,h⟩:=bs h
   refine rgS ⟨[(2,.p (.int .u8 a2_)),(3,.loc 3 0),(8,a4),(9,a5),(10,Zg true []),(11,Zg false ab)],[(3,(Zc a0_))],H6⟩ (Za.v 2 (Zw (hc:=Zlr N a0_ i7 ab bL)) Za.f) (by cases hfa4<;>cases hfa5<;>kernel_rfl) ?_
   refine tq (sq ?_)
   refine sq (rgS ⟨[(2,.p (.int .u8 a2_)),(3,.loc 3 0),(8,a4),(9,a5),(10,Zg true []),(11,Zg false ab),(12,iv 0)],[(3,(Zc a0_))],H6⟩ Za.f (by cases hfa4<;>cases hfa5<;>kernel_rfl) ?_)
   refine tq (bk ?_)
   obtain ⟨aj,aG,h⟩:=bs h
   refine ZS ((ZL (fun (x:Int × (List Int)) s=>∃ (ac:AV) (af:AV) (ai:AV) (aB:List HO),s=⟨[(2,.p (.int .u8 a2_)),(3,.loc 3 0),(8,ac),(9,af),(10,ai),(11,Zg false ab),(12,iv x.1)],[(3,(Zc a0_))],aB⟩∧HP aB [.arr ac 1 true (List.map eI64 l8),.arr af 1 false (List.map eI64 l9),.arr ai 1 false (List.map eI64 x.2)]) (fun x:Int × (List Int)=>Za7 N a0_ l8 ab x.1 x.2) (fun (p:(List Int)) e s=>e = .exit 2∧(∃ (a7:AV) (a3:AV) (a9:AV) (ad:List HO),s=⟨[(2,.p (.int .u8 a2_)),(3,.loc 3 0),(8,a7),(9,a3),(10,a9)],[(3,(Zc a0_))],ad⟩∧HP ad [.arr a7 1 true (List.map eI64 l8),.arr a3 1 false (List.map eI64 l9),.arr a9 1 false (List.map eI64 p)])) ?_ N _ aj _ aG ⟨a4,a5,(.p (.sl 1 true [])),H6,(by show _=_;cases hfa4<;>cases hfa5<;>kernel_rfl),(HP.pick (HP.nilArr hH 1 false) [1,2,0] rfl)⟩).mono ?_)
   ·clear h aG
    rintro ⟨ap,bi⟩ o s h hR
    obtain ⟨ac,af,ai,aB,rfl,hH⟩:=hR
    replace hH:HP _ [.arr ac 1 true (List.map eI64 l8),.arr af 1 false (List.map eI64 l9),.arr ai 1 false (List.map eI64 bi)]:=hH
    have a8:=ZW (HP.get hH 0 rfl)
    have ae:=ZW (HP.get hH 1 rfl)
    have a6:=ZW (HP.get hH 2 rfl)
    replace h:Za7 N a0_ l8 ab ap bi=some o:=h
    unfold Za7 at h
    refine sq (sq ?_)
    refine rgS ⟨[(2,.p (.int .u8 a2_)),(3,.loc 3 0),(8,ac),(9,af),(10,ai),(11,Zg false ab),(12,iv ap),(43,bv (decide (ap<((List.length ab:Nat):Int))))],[(3,(Zc a0_))],aB⟩ (Za.u 2 (Zm (ys:=[Zg false ab]) (h:=Zr eI64)) Za.f) (by cases a8<;>cases ae<;>cases a6<;>kernel_rfl) ?_
    refine tq (it h (fun bC h => ?_) (fun bC h => ?_))
    ·refine sk (tq ?_)
     refine kq ?_
     obtain ⟨bc,aI,h⟩:=bs h
     refine Zc6 [2,3,8,9,10,11,12] (fun s=>∃ (ao:AV) (an:AV) (am:AV) (aq:List HO),s=⟨[(2,.p (.int .u8 a2_)),(3,.loc 3 0),(8,ao),(9,an),(10,am),(11,Zg false ab),(12,iv ap)],[(3,(Zc a0_))],aq⟩∧HP aq [.arr ao 1 true (List.map eI64 l8),.arr an 1 false (List.map eI64 l9),.arr am 1 false (List.map eI64 bc)]) ?_ ?_
     ·clear h
      have h:=aI
      refine bk (sq ?_)
      obtain ⟨aR,aM,h⟩:=bs h
      obtain ⟨aC,bm,h⟩:=bs h
      obtain ⟨b1,bl,h⟩:=bs h
      obtain ⟨aW,bY,aD,hH⟩:=HP.frz (k:=0) (a:=ac) (sz:=1) (frz:=true) eI64 hH rfl
      replace hH:HP _ [.arr ac 1 true (List.map eI64 l8),.arr af 1 false (List.map eI64 l9),.arr ai 1 false (List.map eI64 bi)]:=hH
      refine rqS ⟨[(2,.p (.int .u8 a2_)),(3,.loc 3 0),(8,ac),(9,af),(10,ai),(11,Zg false ab),(12,iv ap),(54,bv (!b1))],[(3,(Zc a0_))],aW⟩ (Za.u 4 (Zm (ys:=[Zg false ab,iv ap]) (h:=Zk eI64 aM)) (Za.u 0 (ZN (Zu (sz:=1) (off:=0) (cs:=[.int .i64 aR]) (r:=iv aR) eI64 aM)) (Za.u 0 (ZaK (hc:=ZcZ N a0_ aR aC bm)) (Za.v 0 (Zic (H:=aB) (ys:=[ac,iv aC]) (by cases a8<;>kernel_rfl) (by cases a8<;>kernel_rfl) (Zew aD (Zew rfl Zis)) (ZhV N l8 aC b1 bl)) Za.f)))) (by cases a8<;>cases ae<;>cases a6<;>kernel_rfl) ?_
      refine tq (it h (fun bB h => ?_) (fun bB h => ?_))
      ·obtain ⟨aQ,aL,h⟩:=bs h
       obtain ⟨bK,bz,h⟩:=bs h
       obtain ⟨aT,bf,bG,hH⟩:=HP.app (k:=2) (a:=ai) (sz:=1) (frz:=false) eI64 hH rfl bz
       replace hH:HP _ [.arr ac 1 true (List.map eI64 l8),.arr af 1 false (List.map eI64 l9),.arr aT 1 false (List.map eI64 bK)]:=hH
       have aw:=ZW (HP.get hH 2 rfl)
       refine rgS ⟨[(2,.p (.int .u8 a2_)),(3,.loc 3 0),(8,ac),(9,af),(10,aT),(11,Zg false ab),(12,iv ap)],[(3,(Zc a0_))],bf⟩ (Za.u 3 (Zm (ys:=[Zg false ab,iv ap]) (h:=Zk eI64 aL)) (Za.u 0 (Zu (sz:=1) (off:=0) (cs:=[.int .i64 aQ]) (r:=iv aQ) eI64 aL) (Za.h 1 (Ze1 (H:=aW) (a:=ai) (b:=Zg true [aQ]) (by cases a6<;>kernel_rfl) (by cases a6<;>kernel_rfl) (by cases a6<;>kernel_rfl) (by cases a6<;>kernel_rfl) bG) Za.f))) (by cases aw<;>cases a8<;>cases ae<;>cases a6<;>kernel_rfl) ?_
       refine bn ?_
       obtain rfl:=Zb h
       exact ⟨rfl,⟨ac,af,aT,bf,(by show _=_;cases aw<;>cases a8<;>cases ae<;>kernel_rfl),(HP.pick hH [0,1,2] rfl)⟩⟩
      refine sk (bn ?_)
      obtain rfl:=Zb h
      exact ⟨rfl,⟨ac,af,ai,aW,(by show _=_;cases a8<;>cases ae<;>cases a6<;>kernel_rfl),(HP.pick hH [0,1,2] rfl)⟩⟩
     clear aI
     rintro s hR
     obtain ⟨ao,an,am,aq,rfl,hH⟩:=hR
     replace hH:HP _ [.arr ao 1 true (List.map eI64 l8),.arr an 1 false (List.map eI64 l9),.arr am 1 false (List.map eI64 bc)]:=hH
     have az:=ZW (HP.get hH 0 rfl)
     have ay:=ZW (HP.get hH 1 rfl)
     have ax:=ZW (HP.get hH 2 rfl)
     refine rgS ⟨[(2,.p (.int .u8 a2_)),(3,.loc 3 0),(8,ao),(9,an),(10,am),(11,Zg false ab),(12,iv (w64 (ap+1)))],[(3,(Zc a0_))],aq⟩ Za.f (by cases az<;>cases ay<;>cases ax<;>kernel_rfl) ?_
     obtain rfl:=Zb h
     exact ⟨_,rfl,⟨ao,an,am,aq,(by show _=_;cases az<;>cases ay<;>cases ax<;>kernel_rfl),(HP.pick hH [0,1,2] rfl)⟩⟩
    refine kq (xq ?_)
    refine tx ?_
    obtain rfl:=Zb h
    exact ⟨_,rfl,rfl,⟨ac,af,ai,aB,(by show _=_;cases a8<;>cases ae<;>cases a6<;>kernel_rfl),(HP.pick hH [0,1,2] rfl)⟩⟩
   rintro e s hq
   obtain ⟨rfl,hR⟩:=hq
   obtain ⟨a7,a3,a9,ad,rfl,hH⟩:=hR
   replace hH:HP _ [.arr a7 1 true (List.map eI64 l8),.arr a3 1 false (List.map eI64 l9),.arr a9 1 false (List.map eI64 aj)]:=hH
   have a1:=ZW (HP.get hH 0 rfl)
   have a0:=ZW (HP.get hH 1 rfl)
   have aa:=ZW (HP.get hH 2 rfl)
   refine bx (tq ?_)
   refine sq (sq ?_)
   have aZ:=HP.len (k:=2) (a:=a9) (sz:=1) (frz:=false) (l:=aj) eI64 hH rfl
   refine rgS ⟨[(2,.p (.int .u8 a2_)),(3,.loc 3 0),(8,a7),(9,a3),(10,a9),(64,bv (((List.length aj:Nat):Int)==0))],[(3,(Zc a0_))],ad⟩ (Za.u 1 (Zm (ys:=[a9]) (by cases aa<;>kernel_rfl) aZ) Za.f) (by cases a1<;>cases a0<;>cases aa<;>kernel_rfl) ?_
   refine tq (it h (fun bA h => ?_) (fun bA h => ?_))
   ·refine sq (rgS ⟨[(6,a3)],[],ad⟩ Za.f (by cases a1<;>cases a0<;>cases aa<;>kernel_rfl) ?_)
    replace hH:HP _ [.arr a3 1 false (List.map eI64 l9)]:=HP.pick hH [1] rfl
    refine tq (rt ?_)
    refine tr (br ?_)
    obtain rfl:=Zb h
    exact ⟨_,rfl,rfl,Zd6 (H:=ad) (ys:=[a3]) (xs:=[.p (.sl 1 false (List.map eI64 l9))]) (by cases a0<;>kernel_rfl) (by cases a0<;>kernel_rfl) (ZaJ (HP.pure (k:=0) (frz:=false) eI64 hH rfl).2 ZbJ) kr⟩
   refine sk (tq ?_)
   refine kq (sq ?_)
   have aY:=HP.len (k:=1) (a:=a3) (sz:=1) (frz:=false) (l:=l9) eI64 hH rfl
   have aX:=HP.len (k:=2) (a:=a9) (sz:=1) (frz:=false) (l:=aj) eI64 hH rfl
   obtain ⟨bI,bp,h⟩:=bs h
   obtain ⟨ak,aK,h⟩:=bs h
   obtain ⟨c0,bX,_,bM,b0,bQ,aJ⟩:=HP.elem (k:=2) (a:=a9) (sz:=1) (frz:=false) eI64 hH rfl aK
   refine rgS ⟨[(2,.p (.int .u8 a2_)),(3,.loc 3 0),(8,a7),(9,a3),(13,iv ak)],[(3,(Zc a0_))],ad⟩ (Za.u 4 (Zm (ys:=[a3]) (by cases a0<;>kernel_rfl) aY) (Za.u 3 (Zm (ys:=[a9]) (by cases aa<;>kernel_rfl) aX) (Za.u 0 (Zm (ys:=[iv (w64 ((w64 (a2_))+(w64 (3 * ((List.length l9:Nat):Int))))),iv ((List.length aj:Nat):Int)]) (h:=Zce bp)) (Za.u 0 (Zm (ys:=[a9,iv bI]) (by cases aa<;>kernel_rfl) (aJ .i64)) (Za.u 0 (Zc8 (H:=ad) (off:=0) (cs:=[.int .i64 ak]) (r:=iv ak) eI64 aK b0) Za.f))))) (by cases a1<;>cases a0<;>cases aa<;>kernel_rfl) ?_
   replace hH:HP _ [.arr a7 1 true (List.map eI64 l8),.arr a3 1 false (List.map eI64 l9)]:=HP.pick hH [0,1] rfl
   refine tq (sq ?_)
   obtain ⟨bb,bw,h⟩:=bs h
   obtain ⟨al,aV,bE,hH⟩:=HP.app (k:=1) (a:=a3) (sz:=1) (frz:=false) eI64 hH rfl bw
   replace hH:HP _ [.arr a7 1 true (List.map eI64 l8),.arr al 1 false (List.map eI64 bb)]:=hH
   have ag:=ZW (HP.get hH 1 rfl)
   refine rgS ⟨[(2,.p (.int .u8 a2_)),(3,.loc 3 0),(8,a7),(9,al),(13,iv ak)],[(3,(Zc a0_))],aV⟩ (Za.h 3 (Ze1 (H:=ad) (a:=a3) (b:=Zg true [ak]) (by cases a0<;>kernel_rfl) (by cases a0<;>kernel_rfl) (by cases a0<;>kernel_rfl) (by cases a0<;>kernel_rfl) bE) Za.f) (by cases a1<;>cases a0<;>cases ag<;>kernel_rfl) ?_
   refine tq (sq ?_)
   obtain ⟨au,bj,h⟩:=bs h
   refine rgS ⟨[(2,.p (.int .u8 a2_)),(3,.loc 3 0),(7,iv au),(8,a7),(9,al)],[(3,(Zc a0_))],aV⟩ (Za.v 2 (Zw (hc:=ZcZ N a0_ ak au bj)) Za.f) (by cases a1<;>cases ag<;>kernel_rfl) ?_
   refine tq ?_
   obtain ⟨bJ,bu,h⟩:=bs h
   obtain ⟨aS,be,bD,hH⟩:=HP.app (k:=0) (a:=a7) (sz:=1) (frz:=true) eI64 hH rfl bu
   replace hH:HP _ [.arr aS 1 true (List.map eI64 bJ),.arr al 1 false (List.map eI64 bb)]:=hH
   have av:=ZW (HP.get hH 0 rfl)
   refine rgS ⟨[(2,.p (.int .u8 a2_)),(3,.loc 3 0),(7,iv au),(8,aS),(9,al)],[(3,(Zc a0_))],be⟩ (Za.h 3 (Ze1 (H:=aV) (a:=a7) (b:=Zg true [au]) (by cases a1<;>kernel_rfl) (by cases a1<;>kernel_rfl) (by cases a1<;>kernel_rfl) (by cases a1<;>kernel_rfl) bD) Za.f) (by cases a1<;>cases ag<;>cases av<;>kernel_rfl) ?_
   refine bn ?_
   obtain rfl:=Zb h
   exact ⟨_,rfl,⟨aS,al,be,(by show _=_;cases ag<;>cases av<;>kernel_rfl),(HP.pick hH [0,1] rfl)⟩⟩
  refine kq ?_
  replace hH:HP _ [.arr a5 1 false (List.map eI64 l9)]:=HP.pick hH [1] rfl
  refine xq (tx ?_)
  obtain rfl:=Zb h
  exact ⟨_,rfl,rfl,⟨a5,H6,(by show _=_;cases hfa5<;>kernel_rfl),(HP.pick hH [0] rfl)⟩⟩
 rintro e s hq
 rcases ba with b2 | c1
 ·dsimp only at h hq
  obtain ⟨rfl,hR⟩:=hq
  obtain ⟨aA,aU,rfl,hH⟩:=hR
  replace hH:HP _ [.arr aA 1 false (List.map eI64 b2)]:=hH
  have ar:=ZW (HP.get hH 0 rfl)
  refine bx (tq ?_)
  refine sq (rgS ⟨[(6,aA)],[],aU⟩ Za.f (by cases ar<;>kernel_rfl) ?_)
  refine tq (rt ?_)
  obtain rfl:=Zb h
  exact Zd6 (H:=aU) (ys:=[aA]) (xs:=[.p (.sl 1 false (List.map eI64 b2))]) (by cases ar<;>kernel_rfl) (by cases ar<;>kernel_rfl) (ZaJ (HP.pure (k:=0) (frz:=false) eI64 hH rfl).2 ZbJ) kr
 dsimp only at h hq
 obtain ⟨rfl,hq⟩:=hq
 refine br (tr ?_)
 obtain rfl:=Zb h
 exact hq
theorem Zej (N:Nat) (a0_:Zh) (a1_:(List Int)) (r:Bool) (h:Zca N a0_ a1_=some r):Zac Tryz.prog 61 [.agg (Zc a0_),Zg false a1_] (bv r):=by
 unfold Zca at h
 have hH:HP ([]:List HO) []:=trivial
 refine ZD chk61 rfl rfl (Zt _ _ _ ?_) rfl
 refine sq (rg Za.f ?_)
 refine tq (sq ?_)
 refine sq (rgX ⟨[(1,Zg false a1_),(2,.loc 2 0),(15,bv ((decide (((List.length a1_:Nat):Int)<1))||(decide (((List.length a1_:Nat):Int) > 8))))],[(2,(Zc a0_))],[]⟩ ?_ ?_)
 ·refine (EP.u 1 (Zm (ys:=[Zg false a1_]) (h:=Zr eI64)) ?_)
  rcases Bool.eq_false_or_eq_true (decide (((List.length a1_:Nat):Int)<1)) with hc1 | hc2
  ·exact (EP.u 0 (Zi (c:=(decide (((List.length a1_:Nat):Int)<1))) (h:=hc1)) (EP.f (by simp only [hc1];kernel_rfl)))
  exact (EP.u 0 (Zi (c:=(decide (((List.length a1_:Nat):Int)<1))) (h:=hc2)) (EP.u 2 (Zm (ys:=[Zg false a1_]) (h:=Zr eI64)) (EP.f (by simp only [hc2];kernel_rfl))))
 refine tq (it h (fun hc3 h => ?_) (fun hc3 h => ?_))
 ·refine sq (rg Za.f ?_)
  refine tq (rt ?_)
  refine tr ?_
  obtain rfl:=Zb h
  exact Zx kr
 refine sk (tq ?_)
 refine kq (sq ?_)
 refine sq (rg Za.f ?_)
 refine tq (bk ?_)
 obtain ⟨ay,ad,h⟩:=bs h
 refine ZS ((ZL (fun (x:Int) s=>s=⟨[(1,Zg false a1_),(2,.loc 2 0),(5,iv x)],[(2,(Zc a0_))],[]⟩) (fun x:Int=>Zb9 N a0_ a1_ x) (fun (p:(Unit) ⊕ (Bool)) e s=>match p with | (.inl p)=>e = .exit 0∧(s=⟨[(1,Zg false a1_),(2,.loc 2 0)],[(2,(Zc a0_))],[]⟩) | (.inr p)=>e = .ret∧∃ xs,resL s i61.res=some xs∧ZaW xs=bv p) ?_ N _ ay _ ad (by show _=_;kernel_rfl)).mono ?_)
 ·clear h ad
  rintro i4 o s h hR
  obtain rfl:=hR
  replace h:Zb9 N a0_ a1_ i4=some o:=h
  unfold Zb9 at h
  refine sq (sq ?_)
  refine rg (Za.u 2 (Zm (ys:=[Zg false a1_]) (h:=Zr eI64)) Za.f) (tq ?_)
  refine it h (fun aE h => ?_) (fun aE h => ?_)
  ·refine sk (tq ?_)
   refine kq (sq ?_)
   refine bk (sq ?_)
   obtain ⟨av,ae,h⟩:=bs h
   obtain ⟨aG,aC,h⟩:=bs h
   refine rq (Za.u 3 (Zm (ys:=[Zg false a1_,iv i4]) (h:=Zk eI64 ae)) (Za.u 0 (ZN (Zu (sz:=1) (off:=0) (cs:=[.int .i64 av]) (r:=iv av) eI64 ae)) (Za.v 0 (Zw (hc:=Zmu N a0_ av aG aC)) Za.f))) (tq ?_)
   refine it h (fun aD h => ?_) (fun aD h => ?_)
   ·refine sq (rg Za.f ?_)
    refine tq (rt ?_)
    refine br (tr ?_)
    obtain rfl:=Zb h
    exact ⟨_,rfl,rfl,Zx kr⟩
   refine sk (bn ?_)
   refine tq (kq ?_)
   refine rg Za.f ?_
   obtain rfl:=Zb h
   exact ⟨_,rfl,(by show _=_;kernel_rfl)⟩
  refine kq (xq ?_)
  refine tx ?_
  obtain rfl:=Zb h
  exact ⟨_,rfl,rfl,(by show _=_;kernel_rfl)⟩
 rintro e s hq
 rcases ay with aL | aI
 ·dsimp only at h hq
  obtain ⟨rfl,hR⟩:=hq
  obtain rfl:=hR
  refine bx (tq ?_)
  refine sq ?_
  obtain ⟨a1,aB,h⟩:=bs h
  refine rg (Za.v 2 (Zw (hc:=Zdp N a0_ a1_ a1 aB)) Za.f) (tq ?_)
  refine sq (sq ?_)
  refine rg Za.f (tq ?_)
  refine bk ?_
  obtain ⟨ac,a4,h⟩:=bs h
  refine ZS ((ZL (fun (x:Int) s=>s=⟨[(1,Zg false a1_),(2,.loc 2 0),(6,Zg false a1),(7,iv x)],[(2,(Zc a0_))],[]⟩) (fun x:Int=>Zb8 N a0_ a1_ a1 x) (fun (p:(Unit) ⊕ (Bool)) e s=>match p with | (.inl p)=>e = .exit 2∧(s=⟨[],[],[]⟩) | (.inr p)=>e = .ret∧∃ xs,resL s i61.res=some xs∧ZaW xs=bv p) ?_ N _ ac _ a4 (by show _=_;kernel_rfl)).mono ?_)
  ·clear h a4
   rintro a0 o s h hR
   obtain rfl:=hR
   replace h:Zb8 N a0_ a1_ a1 a0=some o:=h
   unfold Zb8 at h
   refine sq (sq ?_)
   refine rg (Za.u 2 (Zm (ys:=[Zg false a1]) (h:=Zr eI64)) Za.f) (tq ?_)
   refine it h (fun au h => ?_) (fun au h => ?_)
   ·refine sk (tq ?_)
    refine kq (sq ?_)
    refine bk (sq ?_)
    refine sq ?_
    obtain ⟨az,aj,h⟩:=bs h
    obtain ⟨ab,a8,h⟩:=bs h
    obtain ⟨ax,ai,h⟩:=bs h
    refine rq (Za.u 2 (Zm (ys:=[Zg false a1,iv a0]) (h:=Zf4 eI64 aj)) (Za.u 2 (Zm (ys:=[Zg false a1,iv a0]) (h:=Zk eI64 a8)) (Za.u 0 (ZN (Zu (sz:=1) (off:=0) (cs:=[.int .i64 ab]) (r:=iv ab) eI64 a8)) (Za.v 0 (Zw (hc:=ZhV N az ab ax ai)) Za.f)))) (tq ?_)
    refine it h (fun ar h => ?_) (fun ar h => ?_)
    ·refine sq (rg Za.f ?_)
     refine tq (rt ?_)
     refine tr (br ?_)
     refine tr ?_
     obtain rfl:=Zb h
     exact ⟨_,rfl,rfl,Zx kr⟩
    refine sk (tq ?_)
    refine kq (sq ?_)
    obtain ⟨aA,hj,h⟩:=bs h
    refine rqR (fun s=>s=⟨[(1,Zg false a1_),(2,.loc 2 0),(6,Zg false a1),(7,iv a0),(76,bv aA)],[(2,(Zc a0_))],[]⟩) ?_ ?_
    ·clear h
     rcases Zz hj with ⟨aq,hj⟩ | ⟨al,hj⟩
     ·refine (EP.u 1 (Zi (c:=(decide (a0 > 0))) (h:=aq)) (EP.u 3 (Zm (ys:=[Zg false a1_]) (h:=Zr eI64)) ?_))
      rcases Zz hj with ⟨ap,hj⟩ | ⟨am,hj⟩
      ·refine (EP.u 0 (Zi (c:=(decide (a0<((List.length a1_:Nat):Int)))) (h:=ap)) ?_)
       obtain ⟨aa,a7,hj⟩:=bs hj
       refine (EP.u 6 (Zm (ys:=[Zg false a1,iv a0]) (h:=Zk eI64 a7)) (EP.u 0 (ZN (Zu (sz:=1) (off:=0) (cs:=[.int .i64 aa]) (r:=iv aa) eI64 a7)) ?_))
       obtain ⟨a3,a2,hj⟩:=bs hj
       refine (EP.u 0 (Zm (ys:=[s_eB false a0_.Station,iv aa]) (h:=Zk eB a2)) ?_)
       rcases Zz hj with ⟨ao,hj⟩ | ⟨an,hj⟩
       ·obtain rfl:=Zb hj
        exact (EP.u 0 (ZI.bool (ZN (Zu (sz:=1) (off:=0) (cs:=[.bool a3]) (r:=bv a3) eB a2)) ao) (EP.f (by show _=_;kernel_rfl)))
       refine (EP.u 0 (ZI.bool (ZN (Zu (sz:=1) (off:=0) (cs:=[.bool a3]) (r:=bv a3) eB a2)) an) ?_)
       obtain ⟨a9,a6,hj⟩:=bs hj
       refine (EP.u 4 (Zm (ys:=[Zg false a1_,iv a0]) (h:=Zk eI64 a6)) (EP.u 0 (ZN (Zu (sz:=1) (off:=0) (cs:=[.int .i64 a9]) (r:=iv a9) eI64 a6)) ?_))
       obtain ⟨aw,ag,hj⟩:=bs hj
       refine (EP.u 0 (ZaK (hc:=Zcv N a0_ a9 aw ag)) ?_)
       obtain ⟨af,a5,hj⟩:=bs hj
       obtain rfl:=Zb hj
       exact (EP.u 2 (Zm (ys:=[Zg false a1,iv a0]) (h:=Zk eI64 a5)) (EP.u 0 (ZN (Zu (sz:=1) (off:=0) (cs:=[.int .i64 af]) (r:=iv af) eI64 a5)) (EP.f (by show _=_;kernel_rfl))))
      obtain rfl:=Zb hj
      exact (EP.u 0 (Zi (c:=(decide (a0<((List.length a1_:Nat):Int)))) (h:=am)) (EP.f (by show _=_;kernel_rfl)))
     obtain rfl:=Zb hj
     exact (EP.u 1 (Zi (c:=(decide (a0 > 0))) (h:=al)) (EP.f (by show _=_;kernel_rfl)))
    clear hj
    rintro s hR
    obtain rfl:=hR
    refine tq (it h (fun ak h => ?_) (fun ak h => ?_))
    ·refine sq (rg Za.f ?_)
     refine tq (rt ?_)
     refine br (tr ?_)
     obtain rfl:=Zb h
     exact ⟨_,rfl,rfl,Zx kr⟩
    refine sk (bn ?_)
    refine tq (kq ?_)
    refine rg Za.f ?_
    obtain rfl:=Zb h
    exact ⟨_,rfl,(by show _=_;kernel_rfl)⟩
   refine kq (xq ?_)
   refine tx ?_
   obtain rfl:=Zb h
   exact ⟨_,rfl,rfl,(by show _=_;kernel_rfl)⟩
  rintro e s hq
  rcases ac with aK | aJ
  ·dsimp only at h hq
   obtain ⟨rfl,hR⟩:=hq
   obtain rfl:=hR
   refine bx (tq ?_)
   refine sq (rg Za.f ?_)
   refine tq (rt ?_)
   obtain rfl:=Zb h
   exact Zx kr
  dsimp only at h hq
  obtain ⟨rfl,hq⟩:=hq
  refine br (tr ?_)
  obtain rfl:=Zb h
  exact hq
 dsimp only at h hq
 obtain ⟨rfl,hq⟩:=hq
 refine br (tr ?_)
 obtain rfl:=Zb h
 exact hq
theorem Zgz (N:Nat) (a0_:(List Int)) (a1_:(List Int)) (r:Bool) (h:Zdd N a0_ a1_=some r):Zac Tryz.prog 62 [Zg false a0_,Zg false a1_] (bv r):=by
 unfold Zdd at h
 have hH:HP ([]:List HO) []:=trivial
 refine ZD chk62 rfl rfl (Zt _ _ _ ?_) rfl
 refine sq (rg Za.f ?_)
 refine tq (sq ?_)
 refine sq (rg Za.f ?_)
 refine tq (bk ?_)
 obtain ⟨a3,a0,h⟩:=bs h
 refine ZS ((ZL (fun (x:Int) s=>s=⟨[(0,Zg false a0_),(1,Zg false a1_),(5,iv x)],[],[]⟩) (fun x:Int=>Zbv N a0_ a1_ x) (fun (p:(Unit) ⊕ (Bool)) e s=>match p with | (.inl p)=>e = .exit 0∧(s=⟨[],[],[]⟩) | (.inr p)=>e = .ret∧∃ xs,resL s i62.res=some xs∧ZaW xs=bv p) ?_ N _ a3 _ a0 (by show _=_;kernel_rfl)).mono ?_)
 ·clear h a0
  rintro i1 o s h hR
  obtain rfl:=hR
  replace h:Zbv N a0_ a1_ i1=some o:=h
  unfold Zbv at h
  refine sq (sq ?_)
  refine rg (Za.u 2 (Zm (ys:=[Zg false a0_]) (h:=Zr eI64)) Za.f) (tq ?_)
  refine it h (fun a6 h => ?_) (fun a6 h => ?_)
  ·refine sk (tq ?_)
   refine kq (sq ?_)
   refine bk (sq ?_)
   obtain ⟨a2,a1,h⟩:=bs h
   obtain ⟨a7,a4,h⟩:=bs h
   refine rg (Za.u 3 (Zm (ys:=[Zg false a0_,iv i1]) (h:=Zk eI64 a1)) (Za.u 0 (Zu (sz:=1) (off:=0) (cs:=[.int .i64 a2]) (r:=iv a2) eI64 a1) (Za.v 0 (Zw (hc:=ZhV N a1_ a2 a7 a4)) Za.f))) (tq ?_)
   refine it h (fun a5 h => ?_) (fun a5 h => ?_)
   ·refine sq (rg Za.f ?_)
    refine tq (rt ?_)
    refine br (tr ?_)
    obtain rfl:=Zb h
    exact ⟨_,rfl,rfl,Zx kr⟩
   refine sk (bn ?_)
   refine tq (kq ?_)
   refine rg Za.f ?_
   obtain rfl:=Zb h
   exact ⟨_,rfl,(by show _=_;kernel_rfl)⟩
  refine kq (xq ?_)
  refine tx ?_
  obtain rfl:=Zb h
  exact ⟨_,rfl,rfl,(by show _=_;kernel_rfl)⟩
 rintro e s hq
 rcases a3 with a9 | a8
 ·dsimp only at h hq
  obtain ⟨rfl,hR⟩:=hq
  obtain rfl:=hR
  refine bx (tq ?_)
  refine sq (rg Za.f ?_)
  refine tq (rt ?_)
  obtain rfl:=Zb h
  exact Zx kr
 dsimp only at h hq
 obtain ⟨rfl,hq⟩:=hq
 refine br (tr ?_)
 obtain rfl:=Zb h
 exact hq
theorem ZeC (N:Nat) (a0_:(List Bool)) (a1_:Bool) (r:Bool) (h:ZaF N a0_ a1_=some r):Zac Tryz.prog 66 [s_eB false a0_,bv a1_] (bv r):=by
 unfold ZaF at h
 have hH:HP ([]:List HO) []:=trivial
 refine ZD chk66 rfl rfl (Zt _ _ _ ?_) rfl
 refine sq (rg Za.f ?_)
 refine tq (sq ?_)
 obtain ⟨r1,hr1,h⟩:=bs h
 refine rg (Za.v 2 (Zw (hc:=Zfe N a0_ a1_ r1 hr1)) Za.f) (tq ?_)
 refine rt ?_
 obtain rfl:=Zb h
 exact Zx kr
theorem ZiK (N:Nat) (c0_:Zh) (c1_:Zj) (k0_:Nat) (k1_:Nat) (H:List HO) (hH:HP H [.cel k0_ (Zc c0_),.cel k1_ (Zf c1_)]) (r:Bool) (h:Zef N c0_ c1_=some r):Zbe Tryz.prog 69 [.ptr k0_ 0,.ptr k1_ 0] H (bv r) H:=by
 unfold Zef at h
 refine Zbz chk69 rfl rfl rfl (Zt _ _ _ ?_)
 refine sq (rg Za.f ?_)
 refine tq (sq ?_)
 obtain ⟨a3,hj,h⟩:=bs h
 refine rgR (fun s=>s=⟨[(2,bv a3)],[],H⟩) ?_ ?_
 ·clear h
  have hlc1:=HP.get hH 0 rfl
  refine (EP.u 0 (Zv (H:=H) (id:=k0_) (off:=0) (cs:=(Zc c0_)) (c:=(Zc c0_)) (r:=.agg (Zc c0_)) (hl:=hlc1)) ?_)
  have hlc2:=HP.get hH 1 rfl
  refine (EP.u 1 (Zv (H:=H) (id:=k1_) (off:=1) (cs:=(Zf c1_)) (c:=[iv c1_.Talker]) (r:=iv c1_.Talker) (hl:=hlc2)) ?_)
  obtain ⟨r3,hr3,hj⟩:=bs hj
  rcases Zz hj with ⟨hc4,hj⟩ | ⟨a1,hj⟩
  ·refine (EP.h 0 (Za3 kr (Zc7 N c0_ c1_.Talker r3 hr3) hc4) ?_)
   have hlc5:=HP.get hH 0 rfl
   refine (EP.u 1 (Zv (H:=H) (id:=k0_) (off:=0) (cs:=(Zc c0_)) (c:=(Zc c0_)) (r:=.agg (Zc c0_)) (hl:=hlc5)) ?_)
   have hlc6:=HP.get hH 1 rfl
   refine (EP.u 1 (Zv (H:=H) (id:=k1_) (off:=2) (cs:=(Zf c1_)) (c:=[iv c1_.Listener]) (r:=iv c1_.Listener) (hl:=hlc6)) ?_)
   obtain ⟨r7,hr7,hj⟩:=bs hj
   rcases Zz hj with ⟨hc8,hj⟩ | ⟨a2,hj⟩
   ·refine (EP.h 0 (Za3 kr (Zc7 N c0_ c1_.Listener r7 hr7) hc8) ?_)
    have hlc9:=HP.get hH 1 rfl
    refine (EP.u 3 (Zv (H:=H) (id:=k1_) (off:=1) (cs:=(Zf c1_)) (c:=[iv c1_.Talker]) (r:=iv c1_.Talker) (hl:=hlc9)) ?_)
    have a0:=HP.get hH 1 rfl
    obtain rfl:=Zb hj
    exact (EP.u 1 (Zv (H:=H) (id:=k1_) (off:=2) (cs:=(Zf c1_)) (c:=[iv c1_.Listener]) (r:=iv c1_.Listener) (hl:=a0)) (EP.f (by show _=_;kernel_rfl)))
   obtain rfl:=Zb hj
   exact (EP.h 0 (Za3 kr (Zc7 N c0_ c1_.Listener r7 hr7) a2) (EP.f (by show _=_;kernel_rfl)))
  obtain rfl:=Zb hj
  exact (EP.h 0 (Za3 kr (Zc7 N c0_ c1_.Talker r3 hr3) a1) (EP.f (by show _=_;kernel_rfl)))
 clear hj
 rintro s hR
 obtain rfl:=hR
 refine tq (rt ?_)
 obtain rfl:=Zb h
 exact Za4 kr kr
theorem Zk3 (N:Nat) (a0_:Zdj) (r:Int) (h:ZfB N a0_=some r):Zac Tryz.prog 74 [.agg (Zex a0_)] (iv r):=by
 unfold ZfB at h
 have hH:HP ([]:List HO) []:=trivial
 refine ZD chk74 rfl rfl (Zt _ _ _ ?_) rfl
 refine sq (rg Za.f ?_)
 refine tq (sq ?_)
 refine sq ?_
 obtain ⟨j5,hj,h⟩:=bs h
 refine rgR (fun s=>s=⟨[(12,bv j5)],[],[]⟩) ?_ ?_
 ·clear h
  obtain ⟨r1,hr1,hj⟩:=bs hj
  refine (EP.v 2 (Zw (hc:=ZeL N a0_.Burst 1 1048576 r1 hr1)) ?_)
  rcases Zz hj with ⟨hc2,hj⟩ | ⟨hc3,hj⟩
  ·obtain rfl:=Zb hj
   exact (EP.u 0 (Zi (c:=(!r1)) (h:=hc2)) (EP.f (by show _=_;kernel_rfl)))
  refine (EP.u 0 (Zi (c:=(!r1)) (h:=hc3)) ?_)
  obtain ⟨r4,hr4,hj⟩:=bs hj
  obtain rfl:=Zb hj
  exact (EP.v 3 (Zw (hc:=ZeL N a0_.Rate 1 2097152 r4 hr4)) (EP.f (by show _=_;kernel_rfl)))
 clear hj
 rintro s hR
 obtain rfl:=hR
 refine tq (it h (fun hc6 h => ?_) (fun hc6 h => ?_))
 ·refine sq (rg Za.f ?_)
  refine tq (rt ?_)
  refine tr ?_
  obtain rfl:=Zb h
  exact Zx kr
 refine sk (tq ?_)
 refine kq (sq ?_)
 refine rg Za.f (tq ?_)
 refine rt ?_
 obtain rfl:=Zb h
 exact Zx kr
theorem ZhS (N:Nat) (a0_:(List ZF)) (r:Int) (h:ZcC N a0_=some r):Zac Tryz.prog 83 [Zat false a0_] (iv r):=by
 unfold ZcC at h
 have hH:HP ([]:List HO) []:=trivial
 refine ZD chk83 rfl rfl (Zt _ _ _ ?_) rfl
 refine sq (rg Za.f ?_)
 refine tq (sq ?_)
 refine sq (rg (Za.u 1 (Zm (ys:=[Zat false a0_]) (h:=Zr Zax)) Za.f) ?_)
 refine tq (it h (fun hc1 h => ?_) (fun hc1 h => ?_))
 ·refine sq (rg Za.f ?_)
  refine tq (rt ?_)
  refine tr ?_
  obtain rfl:=Zb h
  exact Zx kr
 refine sk (tq ?_)
 refine kq (sq ?_)
 refine sq (rg (Za.u 1 (Zm (ys:=[Zat false a0_]) (h:=Zr Zax)) Za.f) ?_)
 refine tq (bk ?_)
 obtain ⟨a3,a1,h⟩:=bs h
 refine ZS ((ZL (fun (x:Int) s=>s=⟨[(9,Zat false a0_),(10,iv ((List.length a0_:Nat):Int)),(11,iv x)],[],[]⟩) (fun x:Int=>ZaO N a0_ x) (fun (p:(Unit) ⊕ (Int)) e s=>match p with | (.inl p)=>e = .exit 0∧(s=⟨[],[],[]⟩) | (.inr p)=>e = .ret∧∃ xs,resL s i83.res=some xs∧ZaW xs=iv p) ?_ N _ a3 _ a1 (by show _=_;kernel_rfl)).mono ?_)
 ·clear h a1
  rintro i2 o s h hR
  obtain rfl:=hR
  replace h:ZaO N a0_ i2=some o:=h
  unfold ZaO at h
  refine sq (rg Za.f ?_)
  refine tq (sq ?_)
  refine it h (fun a6 h => ?_) (fun a6 h => ?_)
  ·refine sk (tq ?_)
   refine kq (sq ?_)
   refine bk (sq ?_)
   obtain ⟨a0,a2,h⟩:=bs h
   refine rg (Za.u 0 (Zm (ys:=[Zat false a0_,iv i2]) (h:=Zk Zax a2)) (Za.u 0 (Zu (sz:=3) (off:=0) (cs:=[.int .i64 a0.Period,.int .i64 a0.From,.int .i64 a0.Long]) (r:=.agg (Zcl a0)) Zax a2) Za.f)) (tq ?_)
   refine sq ?_
   obtain ⟨a7,a4,h⟩:=bs h
   refine rg (Za.v 1 (Zw (hc:=ZeE N a0 a7 a4)) Za.f) (tq ?_)
   refine sq (rg Za.f ?_)
   refine tq (it h (fun a5 h => ?_) (fun a5 h => ?_))
   ·refine sq (rg Za.f ?_)
    refine tq (rt ?_)
    refine br (tr ?_)
    obtain rfl:=Zb h
    exact ⟨_,rfl,rfl,Zx kr⟩
   refine sk (bn ?_)
   refine tq (kq ?_)
   refine rg Za.f ?_
   obtain rfl:=Zb h
   exact ⟨_,rfl,(by show _=_;kernel_rfl)⟩
  refine kq (xq ?_)
  refine tx ?_
  obtain rfl:=Zb h
  exact ⟨_,rfl,rfl,(by show _=_;kernel_rfl)⟩
 rintro e s hq
 rcases a3 with a9 | a8
 ·dsimp only at h hq
  obtain ⟨rfl,hR⟩:=hq
  obtain rfl:=hR
  refine bx (tq ?_)
  refine sq (rg Za.f ?_)
  refine tq (rt ?_)
  obtain rfl:=Zb h
  exact Zx kr
 dsimp only at h hq
 obtain ⟨rfl,hq⟩:=hq
 refine br (tr ?_)
 obtain rfl:=Zb h
 exact hq
theorem Zkq (N:Nat) (a0_:Int) (a1_:(List Int)) (r:Int) (h:Zes N a0_ a1_=some r):Zac Tryz.prog 84 [iv a0_,Zg false a1_] (iv r):=by
 unfold Zes at h
 have hH:HP ([]:List HO) []:=trivial
 refine ZD chk84 rfl rfl (Zt _ _ _ ?_) rfl
 refine sq (rg Za.f ?_)
 refine tq (sq ?_)
 refine rg Za.f (tq ?_)
 refine sq (sq ?_)
 refine rg (Za.u 1 (Zm (ys:=[Zg false a1_]) (h:=Zr eI64)) Za.f) (tq ?_)
 refine bk ?_
 obtain ⟨a8,a0,h⟩:=bs h
 refine ZS ((ZL (fun (x:Int × Int) s=>s=⟨[(0,iv a0_),(5,iv x.1),(8,Zg false a1_),(9,iv ((List.length a1_:Nat):Int)),(10,iv x.2)],[],[]⟩) (fun x:Int × Int=>Za6 N a0_ a1_ x.1 x.2) (fun (p:Int) e s=>e = .exit 0∧(s=⟨[(5,iv p)],[],[]⟩)) ?_ N _ a8 _ a0 (by show _=_;kernel_rfl)).mono ?_)
 ·clear h a0
  rintro ⟨i1,i2⟩ o s h hR
  obtain rfl:=hR
  replace h:Za6 N a0_ a1_ i1 i2=some o:=h
  unfold Za6 at h
  refine sq (rg Za.f ?_)
  refine tq (sq ?_)
  refine it h (fun a7 h => ?_) (fun a7 h => ?_)
  ·refine sk (tq ?_)
   refine kq (sq ?_)
   refine bk (sq ?_)
   obtain ⟨a2,a1,h⟩:=bs h
   refine rg (Za.u 0 (Zm (ys:=[Zg false a1_,iv i2]) (h:=Zk eI64 a1)) (Za.u 0 (Zu (sz:=1) (off:=0) (cs:=[.int .i64 a2]) (r:=iv a2) eI64 a1) Za.f)) (tq ?_)
   refine sq ?_
   obtain ⟨a3,a4,h⟩:=bs h
   obtain ⟨a9,a5,h⟩:=bs h
   refine rg (Za.v 3 (Zw (hc:=ZhL N i1 a2 a3 a4)) (Za.u 0 (Zm (ys:=[iv i1,iv a3]) (h:=Zh8 a5)) Za.f)) (tq ?_)
   refine sq (rg Za.f ?_)
   refine tq (it h (fun a6 h => ?_) (fun a6 h => ?_))
   ·refine kq (xq ?_)
    refine bo (tx ?_)
    obtain rfl:=Zb h
    exact ⟨_,rfl,rfl,(by show _=_;kernel_rfl)⟩
   refine sk (bn ?_)
   refine tq (kq ?_)
   refine rg Za.f ?_
   obtain rfl:=Zb h
   exact ⟨_,rfl,(by show _=_;kernel_rfl)⟩
  refine kq (xq ?_)
  refine tx ?_
  obtain rfl:=Zb h
  exact ⟨_,rfl,rfl,(by show _=_;kernel_rfl)⟩
 rintro e s hq
 obtain ⟨rfl,hR⟩:=hq
 obtain rfl:=hR
 refine bx (tq ?_)
 refine sq (rg Za.f ?_)
 refine tq (rt ?_)
 obtain rfl:=Zb h
 exact Zx kr
theorem Zj6 (N:Nat) (a0_:Int) (c0_:Zh) (k0_:Nat) (H:List HO) (hH:HP H [.cel k0_ (Zc c0_)]) (r:Bool) (h:Zfh N a0_ c0_=some r):Zbe Tryz.prog 87 [iv a0_,.ptr k0_ 0] H (bv r) H:=by
 unfold Zfh at h
 refine Zbz chk87 rfl rfl rfl (Zt _ _ _ ?_)
 refine sq (rg Za.f ?_)
 refine tq (sq ?_)
 have hlc1:=HP.get hH 0 rfl
 obtain ⟨e2,he2,h⟩:=bs h
 refine rg (Za.u 1 (Zv (H:=H) (id:=k0_) (off:=2) (cs:=(Zc c0_)) (c:=[Ze false c0_.Links]) (r:=Ze false c0_.Links) (hl:=hlc1)) (Za.u 1 (Zm (ys:=[Ze false c0_.Links,iv a0_]) (h:=Zk Zp he2)) (Za.u 0 (Zu (sz:=4) (off:=0) (cs:=[.int .i64 e2.A,.int .i64 e2.B,.int .i64 e2.Per,.int .i64 e2.Delay]) (r:=.agg (Zay e2)) Zp he2) Za.f))) (tq ?_)
 refine sq ?_
 obtain ⟨a1,hj,h⟩:=bs h
 refine rgR (fun s=>s=⟨[(3,bv a1)],[],H⟩) ?_ ?_
 ·clear h
  have hlc3:=HP.get hH 0 rfl
  refine (EP.u 0 (Zv (H:=H) (id:=k0_) (off:=0) (cs:=(Zc c0_)) (c:=(Zc c0_)) (r:=.agg (Zc c0_)) (hl:=hlc3)) ?_)
  obtain ⟨r4,hr4,hj⟩:=bs hj
  rcases Zz hj with ⟨hc5,hj⟩ | ⟨a0,hj⟩
  ·refine (EP.h 2 (Za3 kr (Zfi N c0_ e2.A r4 hr4) hc5) ?_)
   have hlc6:=HP.get hH 0 rfl
   refine (EP.u 1 (Zv (H:=H) (id:=k0_) (off:=0) (cs:=(Zc c0_)) (c:=(Zc c0_)) (r:=.agg (Zc c0_)) (hl:=hlc6)) ?_)
   obtain ⟨r7,hr7,hj⟩:=bs hj
   rcases Zz hj with ⟨hc8,hj⟩ | ⟨hc9,hj⟩
   ·obtain rfl:=Zb hj
    exact (EP.h 2 (Za3 kr (Zfi N c0_ e2.B r7 hr7) hc8) (EP.f (by show _=_;kernel_rfl)))
   obtain rfl:=Zb hj
   exact (EP.h 2 (Za3 kr (Zfi N c0_ e2.B r7 hr7) hc9) (EP.f (by show _=_;kernel_rfl)))
  obtain rfl:=Zb hj
  exact (EP.h 2 (Za3 kr (Zfi N c0_ e2.A r4 hr4) a0) (EP.f (by show _=_;kernel_rfl)))
 clear hj
 rintro s hR
 obtain rfl:=hR
 refine tq (rt ?_)
 obtain rfl:=Zb h
 exact Za4 kr kr
theorem Ze4 (N:Nat) (a0_:Z6) (a1_:(List Int)) (r:Bool) (h:Zbc N a0_ a1_=some r):Zac Tryz.prog 97 [.agg (Zc a0_.Topo),Zg false a1_] (bv r):=by
 unfold Zbc at h
 have hH:HP ([]:List HO) []:=trivial
 refine ZD chk97 rfl rfl (Zt _ _ _ ?_) rfl
 refine sq ?_
 obtain ⟨id1,H2,hid1,hH2,hH⟩:=HP.newCell hH (Zc a0_.Topo)
 replace hH:HP _ [.cel id1 (Zc a0_.Topo)]:=hH
 refine rgS ⟨[(1,Zg false a1_),(2,.ptr id1 0)],[],H2⟩ (Za.h 0 (Zb6 (H:=[]) (v:=.agg (Zc a0_.Topo)) (hid:=hid1) (hH:=hH2)) Za.f) kr ?_
 refine tq (sq ?_)
 refine sq (rgX ⟨[(1,Zg false a1_),(2,.ptr id1 0),(17,bv ((decide (((List.length a1_:Nat):Int)<1))||(decide (((List.length a1_:Nat):Int) > 8))))],[],H2⟩ ?_ ?_)
 ·refine (EP.u 1 (Zm (ys:=[Zg false a1_]) (h:=Zr eI64)) ?_)
  rcases Bool.eq_false_or_eq_true (decide (((List.length a1_:Nat):Int)<1)) with hc3 | hc4
  ·exact (EP.u 0 (Zi (c:=(decide (((List.length a1_:Nat):Int)<1))) (h:=hc3)) (EP.f (by simp only [hc3];kernel_rfl)))
  exact (EP.u 0 (Zi (c:=(decide (((List.length a1_:Nat):Int)<1))) (h:=hc4)) (EP.u 2 (Zm (ys:=[Zg false a1_]) (h:=Zr eI64)) (EP.f (by simp only [hc4];kernel_rfl))))
 refine tq (it h (fun hc5 h => ?_) (fun hc5 h => ?_))
 ·refine sq (rgS ⟨[(4,bv false)],[],H2⟩ Za.f kr ?_)
  replace hH:HP _ []:=HP.pick hH [] rfl
  refine tq (rt ?_)
  refine tr ?_
  obtain rfl:=Zb h
  exact Zx kr
 refine sk (tq ?_)
 refine kq (sq ?_)
 obtain ⟨id6,H7,hid6,hH7,hH⟩:=HP.newCell hH (ZC (Zo.mk false false false false false false false false false false false false))
 replace hH:HP _ [.cel id6 (ZC (Zo.mk false false false false false false false false false false false false)),.cel id1 (Zc a0_.Topo)]:=hH
 refine rgS ⟨[(1,Zg false a1_),(2,.ptr id1 0),(5,.ptr id6 0)],[],H7⟩ (Za.h 0 (ZgP (H:=H2) kr hid6 hH7) Za.f) kr ?_
 refine tq (sq ?_)
 obtain ⟨id8,H9,hid8,hH9,hH⟩:=HP.newCell hH [iv 0]
 replace hH:HP _ [.cel id8 [iv 0],.cel id6 (ZC (Zo.mk false false false false false false false false false false false false)),.cel id1 (Zc a0_.Topo)]:=hH
 obtain ⟨a1,bz,bc,bp,hH⟩:=HP.newCell hH [iv 0]
 replace hH:HP _ [.cel a1 [iv 0],.cel id8 [iv 0],.cel id6 (ZC (Zo.mk false false false false false false false false false false false false)),.cel id1 (Zc a0_.Topo)]:=hH
 obtain ⟨bw,bm,hH⟩:=HP.setCell (k:=1) (off:=0) (cs:=[iv 0]) (vs:=[iv 0]) (cs':=[iv 0]) hH rfl kr
 replace hH:HP _ [.cel a1 [iv 0],.cel id8 [iv 0],.cel id6 (ZC (Zo.mk false false false false false false false false false false false false)),.cel id1 (Zc a0_.Topo)]:=hH
 obtain ⟨bj,bl,hH⟩:=HP.setCell (k:=0) (off:=0) (cs:=[iv 0]) (vs:=[iv 0]) (cs':=[iv 0]) hH rfl kr
 replace hH:HP _ [.cel a1 [iv 0],.cel id8 [iv 0],.cel id6 (ZC (Zo.mk false false false false false false false false false false false false)),.cel id1 (Zc a0_.Topo)]:=hH
 refine rgS ⟨[(1,Zg false a1_),(2,.ptr id1 0),(5,.ptr id6 0),(6,.ptr id8 0),(7,.ptr a1 0)],[],bj⟩ (Za.h 0 (ZgP (H:=H7) kr hid8 hH9) (Za.h 0 (ZgP (H:=H9) kr bc bp) (Za.o 0 (Zaw (H:=bz) (v:=iv 0) (hw:=bm)) (Za.o 0 (Zaw (H:=bw) (v:=iv 0) (hw:=bl)) Za.f)))) kr ?_
 refine tq ?_
 obtain ⟨af,aB,h⟩:=bs h
 refine Zc6 [1,7] (fun s=>∃ (an:List HO),s=⟨[(1,Zg false a1_),(7,.ptr a1 0)],[],an⟩∧HP an [.cel a1 [iv af]]) ?_ ?_
 ·clear h
  have h:=aB
  refine sq ?_
  have aK:=HP.get hH 3 rfl
  obtain ⟨aa,bb,h⟩:=bs h
  obtain ⟨a9,a8,a4,aG,aI⟩:=Zfm N a0_ a1_ bj aa bb
  replace hH:HP _ [.cel a9 [Zg false aa.1],.cel a8 (Zc aa.2.Topo),.cel a1 [iv 0],.cel id8 [iv 0],.cel id6 (ZC (Zo.mk false false false false false false false false false false false false)),.cel id1 (Zc a0_.Topo)]:=HP.callee (fp:=[]) (rest:=[.cel a1 [iv 0],.cel id8 [iv 0],.cel id6 (ZC (Zo.mk false false false false false false false false false false false false)),.cel id1 (Zc a0_.Topo)]) hH aI
  refine rgS ⟨[(1,Zg false a1_),(2,.ptr id1 0),(5,.ptr id6 0),(6,.ptr id8 0),(7,.ptr a1 0),(20,.fn 114 [] [.ptr a9 0,.ptr a8 0])],[],a4⟩ (Za.u 0 (Zv (H:=bj) (id:=id1) (off:=0) (cs:=(Zc a0_.Topo)) (c:=(Zc a0_.Topo)) (r:=.agg (Zc a0_.Topo)) (hl:=aK)) (Za.v 1 (Zga (H:=bj) (ys:=[.agg (Zc a0_.Topo),Zg false a1_]) kr kr kr aG) Za.f)) kr ?_
  refine tq (bk ?_)
  obtain ⟨ab,aJ,h⟩:=bs h
  have aq:∀ (a7:Int) (a0:ZaG) (s:(Int × Int × Zo) × Nat) (r:((Int × Int × Zo) × Nat) × Bool) (H:List HO) (its:List Z8),(fun (s:(Int × Int × Zo) × Nat) (its:List Z8)=>its=[.cel a1 [iv s.1.1],.cel id8 [iv s.1.2.1],.cel id6 (ZC s.1.2.2),.cel id1 (Zc a0_.Topo)]++[.lp (List.length a4) (lcOf Tryz.prog i97.nt [21,22] ZdR ZdQ) [(2,.ptr id1 0),(5,.ptr id6 0),(6,.ptr id8 0),(7,.ptr a1 0)] (stAt [.ready,.done (.exit 0)] s.2)]) s its→HP H its→(fun (s:(Int × Int × Zo) × Nat) (a7:Int) (a0:ZaG)=>ZgK (fun v:Int × Int × Zo=>Zaq N a0_ v.1 v.2.1 v.2.2 a7 a0) s) s a7 a0=some r→∃ H' its',Zhh Tryz.prog (List.length a4) [iv a7,.agg (Zaa a0)] H r.2 H'∧(fun (s:(Int × Int × Zo) × Nat) (its:List Z8)=>its=[.cel a1 [iv s.1.1],.cel id8 [iv s.1.2.1],.cel id6 (ZC s.1.2.2),.cel id1 (Zc a0_.Topo)]++[.lp (List.length a4) (lcOf Tryz.prog i97.nt [21,22] ZdR ZdQ) [(2,.ptr id1 0),(5,.ptr id6 0),(6,.ptr id8 0),(7,.ptr a1 0)] (stAt [.ready,.done (.exit 0)] s.2)]) r.1 its'∧Fp H H' its its':=by
   clear h
   intro a7 a0 s r ac its hT hH h
   obtain ⟨h0,q,hb,rfl⟩:=Zj1 h
   clear h
   obtain ⟨vs,e⟩:=s
   obtain rfl:e=0:=h0
   obtain ⟨a3,a5,a2⟩:=vs
   obtain rfl:=hT
   replace h:Zaq N a0_ a3 a5 a2 a7 a0=some q:=hb
   clear hb
   unfold Zaq at h
   replace hH:Fp _ _ _ [.cel a1 [iv a3],.cel id8 [iv a5],.cel id6 (ZC a2),.cel id1 (Zc a0_.Topo),.lp (List.length a4) (lcOf Tryz.prog i97.nt [21,22] ZdR ZdQ) [(2,.ptr id1 0),(5,.ptr id6 0),(6,.ptr id8 0),(7,.ptr a1 0)] .ready]:=Fp.refl hH
   suffices hs:∃ H',Zhh Tryz.prog (List.length a4) [iv a7,.agg (Zaa a0)] ac (q.2==0) H'∧∃ its',(fun (s:(Int × Int × Zo) × Nat) (its:List Z8)=>its=[.cel a1 [iv s.1.1],.cel id8 [iv s.1.2.1],.cel id6 (ZC s.1.2.2),.cel id1 (Zc a0_.Topo)]++[.lp (List.length a4) (lcOf Tryz.prog i97.nt [21,22] ZdR ZdQ) [(2,.ptr id1 0),(5,.ptr id6 0),(6,.ptr id8 0),(7,.ptr a1 0)] (stAt [.ready,.done (.exit 0)] s.2)]) q its'∧Fp ac H' [.cel a1 [iv a3],.cel id8 [iv a5],.cel id6 (ZC a2),.cel id1 (Zc a0_.Topo),.lp (List.length a4) (lcOf Tryz.prog i97.nt [21,22] ZdR ZdQ) [(2,.ptr id1 0),(5,.ptr id6 0),(6,.ptr id8 0),(7,.ptr a1 0)] .ready] its' by
    obtain ⟨H',h1,its',h2,h3⟩:=hs
    exact ⟨H',its',h1,h2,h3⟩
   refine ZgL (id:=(List.length a4)) (args:=[iv a7,.agg (Zaa a0)]) (H:=ac) (n:=i97.nt) (ps:=[21,22]) (fr0:=[(2,.ptr id1 0),(5,.ptr id6 0),(6,.ptr id8 0),(7,.ptr a1 0)]) (ia:=ZdR) (ib:=ZdQ) (q.2==0) (fun H'=>∃ its',(fun (s:(Int × Int × Zo) × Nat) (its:List Z8)=>its=[.cel a1 [iv s.1.1],.cel id8 [iv s.1.2.1],.cel id6 (ZC s.1.2.2),.cel id1 (Zc a0_.Topo)]++[.lp (List.length a4) (lcOf Tryz.prog i97.nt [21,22] ZdR ZdQ) [(2,.ptr id1 0),(5,.ptr id6 0),(6,.ptr id8 0),(7,.ptr a1 0)] (stAt [.ready,.done (.exit 0)] s.2)]) q its'∧Fp ac H' [.cel a1 [iv a3],.cel id8 [iv a5],.cel id6 (ZC a2),.cel id1 (Zc a0_.Topo),.lp (List.length a4) (lcOf Tryz.prog i97.nt [21,22] ZdR ZdQ) [(2,.ptr id1 0),(5,.ptr id6 0),(6,.ptr id8 0),(7,.ptr a1 0)] .ready] its') (Fp.get hH 4 rfl) rfl (by decide +kernel) rfl ?_
   show vc _ _ _ _ ⟨[(2,.ptr id1 0),(5,.ptr id6 0),(6,.ptr id8 0),(7,.ptr a1 0),(21,iv a7),(22,.agg (Zaa a0))],[],ac⟩
   refine sq (rgS ⟨[(2,.ptr id1 0),(5,.ptr id6 0),(6,.ptr id8 0),(7,.ptr a1 0),(8,iv a7),(22,.agg (Zaa a0))],[],ac⟩ Za.f kr ?_)
   refine tq (rgS ⟨[(2,.ptr id1 0),(5,.ptr id6 0),(6,.ptr id8 0),(7,.ptr a1 0),(8,iv a7),(9,.loc 9 0)],[(9,(Zaa a0))],ac⟩ Za.f kr ?_)
   refine ZkP (k:=4) hH rfl ?_
   intro a6 hH
   replace hH:Fp _ _ _ [.cel a1 [iv a3],.cel id8 [iv a5],.cel id6 (ZC a2),.cel id1 (Zc a0_.Topo),.lp (List.length a4) (lcOf Tryz.prog i97.nt [21,22] ZdR ZdQ) [(2,.ptr id1 0),(5,.ptr id6 0),(6,.ptr id8 0),(7,.ptr a1 0)] .busy]:=hH
   show vc _ _ _ _ ⟨[(2,.ptr id1 0),(5,.ptr id6 0),(6,.ptr id8 0),(7,.ptr a1 0),(8,iv a7),(9,.loc 9 0)],[(9,(Zaa a0))],a6⟩
   refine bk (sq ?_)
   refine sq (rgS ⟨[(2,.ptr id1 0),(5,.ptr id6 0),(6,.ptr id8 0),(7,.ptr a1 0),(9,.loc 9 0),(24,bv (a7==0))],[(9,(Zaa a0))],a6⟩ Za.f kr ?_)
   refine tq (it h (fun aV h => ?_) (fun aV h => ?_))
   ·obtain ⟨bu,am,h⟩:=bs h
    obtain ⟨ae,b2,hH⟩:=Fp.setCell (k:=2) (off:=0+Int.toNat a0.from_ * 1) (cs:=(ZC a2)) (vs:=[bv true]) (cs':=(ZC (Zo.set a2 a0.from_ true))) hH rfl (ZiN (fun x=>bv x) [] [] (l:=a2.l) am rfl rfl rfl (Zor (Zo.c_set a2 a0.from_ true) (by show (ZC (Zo.set a2 a0.from_ true))=[]++(ZC (Zo.set a2 a0.from_ true)++[]);rfl)))
    replace hH:Fp _ _ _ [.cel a1 [iv a3],.cel id8 [iv a5],.cel id6 (ZC (Zo.set a2 a0.from_ true)),.cel id1 (Zc a0_.Topo),.lp (List.length a4) (lcOf Tryz.prog i97.nt [21,22] ZdR ZdQ) [(2,.ptr id1 0),(5,.ptr id6 0),(6,.ptr id8 0),(7,.ptr a1 0)] .busy]:=hH
    refine rgS ⟨[(5,.ptr id6 0),(6,.ptr id8 0),(7,.ptr a1 0),(9,.loc 9 0)],[(9,(Zaa a0))],ae⟩ (Za.u 2 (Zm (ys:=[.ptr id6 0,iv a0.from_]) (h:=Zem (l:=a2.l) am rfl)) (Za.o 0 (Zaw (H:=a6) (v:=bv true) (hw:=b2)) Za.f)) kr ?_
    refine tq (kq ?_)
    refine sq (sq ?_)
    obtain ⟨be,al,h⟩:=bs h
    have aA:=Fp.get hH 2 rfl
    refine rgS ⟨[(5,.ptr id6 0),(6,.ptr id8 0),(7,.ptr a1 0),(9,.loc 9 0),(43,bv be)],[(9,(Zaa a0))],ae⟩ (Za.u 2 (Zm (ys:=[.ptr id6 0,iv a0.to_]) (h:=Zem (l:=(Zo.set a2 a0.from_ true).l) al rfl)) (Za.u 0 (Zm9 (H:=ae) (id:=id6) (off:=0) (cs:=(ZC (Zo.set a2 a0.from_ true))) (l:=(Zo.set a2 a0.from_ true).l) (fun x=>bv x) [] [] al kr kr aA rfl rfl) Za.f)) kr ?_
    refine tq (it h (fun aU h => ?_) (fun aU h => ?_))
    ·refine kq (xq ?_)
     refine tx (bo ?_)
     obtain rfl:=Zb h
     exact rbd (k:=4) (.done (.exit 0)) hH rfl rfl (fun H6 hH=>⟨_,(Eq.refl _),(Fp.pick hH [0,1,2,3,4] rfl)⟩)
    refine sk (tq ?_)
    refine kq (sq ?_)
    obtain ⟨bt,ak,h⟩:=bs h
    obtain ⟨aE,b1,hH⟩:=Fp.setCell (k:=2) (off:=0+Int.toNat a0.to_ * 1) (cs:=(ZC (Zo.set a2 a0.from_ true))) (vs:=[bv true]) (cs':=(ZC (Zo.set (Zo.set a2 a0.from_ true) a0.to_ true))) hH rfl (ZiN (fun x=>bv x) [] [] (l:=(Zo.set a2 a0.from_ true).l) ak rfl rfl rfl (Zor (Zo.c_set (Zo.set a2 a0.from_ true) a0.to_ true) (by show (ZC (Zo.set (Zo.set a2 a0.from_ true) a0.to_ true))=[]++(ZC (Zo.set (Zo.set a2 a0.from_ true) a0.to_ true)++[]);rfl)))
    replace hH:Fp _ _ _ [.cel a1 [iv a3],.cel id8 [iv a5],.cel id6 (ZC (Zo.set (Zo.set a2 a0.from_ true) a0.to_ true)),.cel id1 (Zc a0_.Topo),.lp (List.length a4) (lcOf Tryz.prog i97.nt [21,22] ZdR ZdQ) [(2,.ptr id1 0),(5,.ptr id6 0),(6,.ptr id8 0),(7,.ptr a1 0)] .busy]:=hH
    refine rgS ⟨[(6,.ptr id8 0),(7,.ptr a1 0),(9,.loc 9 0)],[(9,(Zaa a0))],aE⟩ (Za.u 2 (Zm (ys:=[.ptr id6 0,iv a0.to_]) (h:=Zem (l:=(Zo.set a2 a0.from_ true).l) ak rfl)) (Za.o 0 (Zaw (H:=ae) (v:=bv true) (hw:=b1)) Za.f)) kr ?_
    refine tq (sq ?_)
    obtain ⟨ap,b0,hH⟩:=Fp.setCell (k:=1) (off:=0) (cs:=[iv a5]) (vs:=[iv a0.to_]) (cs':=[iv a0.to_]) hH rfl kr
    replace hH:Fp _ _ _ [.cel a1 [iv a3],.cel id8 [iv a0.to_],.cel id6 (ZC (Zo.set (Zo.set a2 a0.from_ true) a0.to_ true)),.cel id1 (Zc a0_.Topo),.lp (List.length a4) (lcOf Tryz.prog i97.nt [21,22] ZdR ZdQ) [(2,.ptr id1 0),(5,.ptr id6 0),(6,.ptr id8 0),(7,.ptr a1 0)] .busy]:=hH
    refine rgS ⟨[(7,.ptr a1 0)],[],ap⟩ (Za.o 2 (Zaw (H:=aE) (v:=iv a0.to_) (hw:=b0)) Za.f) kr ?_
    refine tq ?_
    have az:=Fp.get hH 0 rfl
    obtain ⟨bi,aZ,hH⟩:=Fp.setCell (k:=0) (off:=0) (cs:=[iv a3]) (vs:=[iv (w64 (a3+1))]) (cs':=[iv (w64 (a3+1))]) hH rfl kr
    replace hH:Fp _ _ _ [.cel a1 [iv (w64 (a3+1))],.cel id8 [iv a0.to_],.cel id6 (ZC (Zo.set (Zo.set a2 a0.from_ true) a0.to_ true)),.cel id1 (Zc a0_.Topo),.lp (List.length a4) (lcOf Tryz.prog i97.nt [21,22] ZdR ZdQ) [(2,.ptr id1 0),(5,.ptr id6 0),(6,.ptr id8 0),(7,.ptr a1 0)] .busy]:=hH
    refine rgS ⟨[],[],bi⟩ (Za.u 0 (Zv (H:=ap) (id:=a1) (off:=0) (cs:=[iv a3]) (c:=[iv a3]) (r:=iv a3) (hl:=az)) (Za.o 1 (Zaw (H:=ap) (v:=iv (w64 (a3+1))) (hw:=aZ)) Za.f)) kr ?_
    refine bn ?_
    obtain rfl:=Zb h
    exact rbd (k:=4) (.ready) hH rfl rfl (fun H6 hH=>⟨_,(Eq.refl _),(Fp.pick hH [0,1,2,3,4] rfl)⟩)
   refine sq ?_
   obtain ⟨ba,hj,h⟩:=bs h
   refine rgR (fun s=>s=⟨[(5,.ptr id6 0),(6,.ptr id8 0),(7,.ptr a1 0),(9,.loc 9 0),(39,bv ba)],[(9,(Zaa a0))],a6⟩) ?_ ?_
   ·clear h
    have ay:=Fp.get hH 1 rfl
    refine (EP.u 2 (Zv (H:=a6) (id:=id8) (off:=0) (cs:=[iv a5]) (c:=[iv a5]) (r:=iv a5) (hl:=ay)) ?_)
    rcases Zz hj with ⟨aT,hj⟩ | ⟨aS,hj⟩
    ·obtain rfl:=Zb hj
     exact (EP.u 0 (Zi (c:=(a0.from_ != a5)) (h:=aT)) (EP.f (by show _=_;kernel_rfl)))
    refine (EP.u 0 (Zi (c:=(a0.from_ != a5)) (h:=aS)) ?_)
    have ax:=Fp.get hH 3 rfl
    refine (EP.u 3 (Zv (H:=a6) (id:=id1) (off:=1) (cs:=(Zc a0_.Topo)) (c:=[s_eB false a0_.Topo.Station]) (r:=s_eB false a0_.Topo.Station) (hl:=ax)) ?_)
    have aw:=Fp.get hH 1 rfl
    refine (EP.u 0 (Zv (H:=a6) (id:=id8) (off:=0) (cs:=[iv a5]) (c:=[iv a5]) (r:=iv a5) (hl:=aw)) ?_)
    obtain ⟨aC,aj,hj⟩:=bs hj
    obtain rfl:=Zb hj
    exact (EP.u 0 (Zm (ys:=[s_eB false a0_.Topo.Station,iv a5]) (h:=Zk eB aj)) (EP.u 0 (Zu (sz:=1) (off:=0) (cs:=[.bool aC]) (r:=bv aC) eB aj) (EP.f (by show _=_;kernel_rfl))))
   clear hj
   rintro s hR
   obtain rfl:=hR
   refine tq (it h (fun aR h => ?_) (fun aR h => ?_))
   ·refine kq (xq ?_)
    refine tx (bo ?_)
    obtain rfl:=Zb h
    exact rbd (k:=4) (.done (.exit 0)) hH rfl rfl (fun H6 hH=>⟨_,(Eq.refl _),(Fp.pick hH [0,1,2,3,4] rfl)⟩)
   refine sk (tq ?_)
   refine kq (sq ?_)
   refine sq ?_
   obtain ⟨bd,ai,h⟩:=bs h
   have av:=Fp.get hH 2 rfl
   refine rgS ⟨[(5,.ptr id6 0),(6,.ptr id8 0),(7,.ptr a1 0),(9,.loc 9 0),(43,bv bd)],[(9,(Zaa a0))],a6⟩ (Za.u 2 (Zm (ys:=[.ptr id6 0,iv a0.to_]) (h:=Zem (l:=a2.l) ai rfl)) (Za.u 0 (Zm9 (H:=a6) (id:=id6) (off:=0) (cs:=(ZC a2)) (l:=a2.l) (fun x=>bv x) [] [] ai kr kr av rfl rfl) Za.f)) kr ?_
   refine tq (it h (fun aQ h => ?_) (fun aQ h => ?_))
   ·refine kq (xq ?_)
    refine tx (bo ?_)
    obtain rfl:=Zb h
    exact rbd (k:=4) (.done (.exit 0)) hH rfl rfl (fun H6 hH=>⟨_,(Eq.refl _),(Fp.pick hH [0,1,2,3,4] rfl)⟩)
   refine sk (tq ?_)
   refine kq (sq ?_)
   obtain ⟨bq,ag,h⟩:=bs h
   obtain ⟨aD,aY,hH⟩:=Fp.setCell (k:=2) (off:=0+Int.toNat a0.to_ * 1) (cs:=(ZC a2)) (vs:=[bv true]) (cs':=(ZC (Zo.set a2 a0.to_ true))) hH rfl (ZiN (fun x=>bv x) [] [] (l:=a2.l) ag rfl rfl rfl (Zor (Zo.c_set a2 a0.to_ true) (by show (ZC (Zo.set a2 a0.to_ true))=[]++(ZC (Zo.set a2 a0.to_ true)++[]);rfl)))
   replace hH:Fp _ _ _ [.cel a1 [iv a3],.cel id8 [iv a5],.cel id6 (ZC (Zo.set a2 a0.to_ true)),.cel id1 (Zc a0_.Topo),.lp (List.length a4) (lcOf Tryz.prog i97.nt [21,22] ZdR ZdQ) [(2,.ptr id1 0),(5,.ptr id6 0),(6,.ptr id8 0),(7,.ptr a1 0)] .busy]:=hH
   refine rgS ⟨[(6,.ptr id8 0),(7,.ptr a1 0),(9,.loc 9 0)],[(9,(Zaa a0))],aD⟩ (Za.u 2 (Zm (ys:=[.ptr id6 0,iv a0.to_]) (h:=Zem (l:=a2.l) ag rfl)) (Za.o 0 (Zaw (H:=a6) (v:=bv true) (hw:=aY)) Za.f)) kr ?_
   refine tq (sq ?_)
   obtain ⟨ao,aX,hH⟩:=Fp.setCell (k:=1) (off:=0) (cs:=[iv a5]) (vs:=[iv a0.to_]) (cs':=[iv a0.to_]) hH rfl kr
   replace hH:Fp _ _ _ [.cel a1 [iv a3],.cel id8 [iv a0.to_],.cel id6 (ZC (Zo.set a2 a0.to_ true)),.cel id1 (Zc a0_.Topo),.lp (List.length a4) (lcOf Tryz.prog i97.nt [21,22] ZdR ZdQ) [(2,.ptr id1 0),(5,.ptr id6 0),(6,.ptr id8 0),(7,.ptr a1 0)] .busy]:=hH
   refine rgS ⟨[(7,.ptr a1 0)],[],ao⟩ (Za.o 2 (Zaw (H:=aD) (v:=iv a0.to_) (hw:=aX)) Za.f) kr ?_
   refine tq ?_
   have au:=Fp.get hH 0 rfl
   obtain ⟨bf,aW,hH⟩:=Fp.setCell (k:=0) (off:=0) (cs:=[iv a3]) (vs:=[iv (w64 (a3+1))]) (cs':=[iv (w64 (a3+1))]) hH rfl kr
   replace hH:Fp _ _ _ [.cel a1 [iv (w64 (a3+1))],.cel id8 [iv a0.to_],.cel id6 (ZC (Zo.set a2 a0.to_ true)),.cel id1 (Zc a0_.Topo),.lp (List.length a4) (lcOf Tryz.prog i97.nt [21,22] ZdR ZdQ) [(2,.ptr id1 0),(5,.ptr id6 0),(6,.ptr id8 0),(7,.ptr a1 0)] .busy]:=hH
   refine rgS ⟨[],[],bf⟩ (Za.u 0 (Zv (H:=ao) (id:=a1) (off:=0) (cs:=[iv a3]) (c:=[iv a3]) (r:=iv a3) (hl:=au)) (Za.o 1 (Zaw (H:=ao) (v:=iv (w64 (a3+1))) (hw:=aW)) Za.f)) kr ?_
   refine bn ?_
   obtain rfl:=Zb h
   exact rbd (k:=4) (.ready) hH rfl rfl (fun H6 hH=>⟨_,(Eq.refl _),(Fp.pick hH [0,1,2,3,4] rfl)⟩)
  refine Zh9 (s:=⟨[(1,Zg false a1_),(2,.ptr id1 0),(5,.ptr id6 0),(6,.ptr id8 0),(7,.ptr a1 0),(20,.fn 114 [] [.ptr a9 0,.ptr a8 0])],[],a4⟩) [(2,.ptr id1 0),(5,.ptr id6 0),(6,.ptr id8 0),(7,.ptr a1 0)] (FrOK.cons kr kr (FrOK.cons kr kr (FrOK.cons kr kr (FrOK.cons kr kr FrOK.nil)))) kr (fun H=>rfl) (capT:=[.cel a9 [Zg false aa.1],.cel a8 (Zc aa.2.Topo)]) (cells0:=[.cel a1 [iv 0],.cel id8 [iv 0],.cel id6 (ZC (Zo.mk false false false false false false false false false false false false)),.cel id1 (Zc a0_.Topo)]) (rest:=[]) (HP.now (HP.pick hH [0,1,2,3,4,5] rfl)) (fun (s:(Int × Int × Zo) × Nat) (its:List Z8)=>its=[.cel a1 [iv s.1.1],.cel id8 [iv s.1.2.1],.cel id6 (ZC s.1.2.2),.cel id1 (Zc a0_.Topo)]++[.lp (List.length a4) (lcOf Tryz.prog i97.nt [21,22] ZdR ZdQ) [(2,.ptr id1 0),(5,.ptr id6 0),(6,.ptr id8 0),(7,.ptr a1 0)] (stAt [.ready,.done (.exit 0)] s.2)]) ((0,0,(Zo.mk false false false false false false false false false false false false)),0) ab (by exact (Eq.refl _)) (fun H its hT hH=>ZeK N (fun (s:(Int × Int × Zo) × Nat) (a7:Int) (a0:ZaG)=>ZgK (fun v:Int × Int × Zo=>Zaq N a0_ v.1 v.2.1 v.2.2 a7 a0) s) aa.1 aa.2 ((0,0,(Zo.mk false false false false false false false false false false false false)),0) a9 a8 (List.length a4) (fun (s:(Int × Int × Zo) × Nat) (its:List Z8)=>its=[.cel a1 [iv s.1.1],.cel id8 [iv s.1.2.1],.cel id6 (ZC s.1.2.2),.cel id1 (Zc a0_.Topo)]++[.lp (List.length a4) (lcOf Tryz.prog i97.nt [21,22] ZdR ZdQ) [(2,.ptr id1 0),(5,.ptr id6 0),(6,.ptr id8 0),(7,.ptr a1 0)] (stAt [.ready,.done (.exit 0)] s.2)]) aq H its hT hH ab aJ) ?_
  rintro its hT
  obtain rfl:=hT
  refine ⟨_,_,rfl,?_⟩
  intro ad hF
  replace hH:HP _ [.cel a9 [Zg false aa.1],.cel a8 (Zc aa.2.Topo),.cel a1 [iv ab.1.1],.cel id8 [iv ab.1.2.1],.cel id6 (ZC ab.1.2.2),.cel id1 (Zc a0_.Topo)]:=HP.after (HP.pick hH [0,1,2,3,4,5] rfl) hF
  rcases Zz h with ⟨aM,h⟩ | ⟨_,h⟩
  ·refine Zmz (S:=⟨[(1,Zg false a1_),(2,.ptr id1 0),(5,.ptr id6 0),(6,.ptr id8 0),(7,.ptr a1 0),(20,.fn 114 [] [.ptr a9 0,.ptr a8 0])],[],ad⟩) (e:=.normal) aM rfl ?_
   refine bn ?_
   obtain rfl:=Zb h
   exact ⟨rfl,⟨ad,(by show _=_;kernel_rfl),(HP.pick hH [2] rfl)⟩⟩
  rcases Zz h with ⟨aL,h⟩ | ⟨_,h⟩
  ·refine Zmz (S:=⟨[(1,Zg false a1_),(2,.ptr id1 0),(5,.ptr id6 0),(6,.ptr id8 0),(7,.ptr a1 0),(20,.fn 114 [] [.ptr a9 0,.ptr a8 0])],[],ad⟩) (e:=(.exit 0)) aL rfl ?_
   refine bx ?_
   obtain rfl:=Zb h
   exact ⟨rfl,⟨ad,(by show _=_;kernel_rfl),(HP.pick hH [2] rfl)⟩⟩
  cases h
 clear aB
 rintro s hR
 obtain ⟨an,rfl,hH⟩:=hR
 replace hH:HP _ [.cel a1 [iv af]]:=hH
 refine sq ?_
 have ar:=HP.get hH 0 rfl
 refine rgS ⟨[(4,bv (af==((List.length a1_:Nat):Int)))],[],an⟩ (Za.u 0 (Zv (H:=an) (id:=a1) (off:=0) (cs:=[iv af]) (c:=[iv af]) (r:=iv af) (hl:=ar)) (Za.u 1 (Zm (ys:=[Zg false a1_]) (h:=Zr eI64)) Za.f)) kr ?_
 replace hH:HP _ []:=HP.pick hH [] rfl
 refine tq (rt ?_)
 obtain rfl:=Zb h
 exact Zx kr
end Go.Sh

