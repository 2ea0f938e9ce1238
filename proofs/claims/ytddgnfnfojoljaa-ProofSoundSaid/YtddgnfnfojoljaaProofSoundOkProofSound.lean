/- Part of the proof. -/
import Derived.Test.YtddgnfnfojoljaaProofSoundOk2
set_option linter.all false
namespace Go.Sh
open Go Go.Eng Go.Proofs
set_option maxRecDepth 100000
set_option maxHeartbeats 4000000
attribute [local irreducible] vc ev Zfg opsD opsF Zgs upd updH updO
theorem law25_ProofSound_ok (N:Nat)(a0_:ZbH)(a1_:(List Z7))(a2_:ZaU)(a3_:(List Int))(r:Bool)(h:ZcU N a0_ a1_ a2_ a3_=some r):Zbx Try.prog 7 [.agg (ZaY a0_),Z8 false a1_,.agg (ZaD a2_),ZcW false a3_] (bv r):=by
 unfold ZcU at h
 have hH  := hp0
 refine ZaO chk7 rfl rfl (ZaA _ _ _ ?_) rfl
 refine sq (rg Z5.f (tq (sq (sq ?_))))
 obtain ⟨r1,hr1,h⟩:=bs h
 refine rg (Z5.v 0 (Zak (hc:=ZiY N  r1 hr1)) Z5.f) (tq (it h (λhc2 h=>?_) (λhc2 h=>?_)))
 ·refine sq (rg Z5.f (tq (rt (tr ?_))))
  cases h
  exact Zaq kr
 refine sk (tq (kq (sq ?_)))
 obtain ⟨r3,hr3,h⟩:=bs h
 refine rg (Z5.v 1 (Zak (hc:=Ze3 N a0_ r3 hr3)) Z5.f) (tq (sq ?_))
 obtain ⟨r4,hr4,h⟩:=bs h
 refine rg (Z5.v 2 (Zak (hc:=ZjR N r3 a3_ r4 hr4)) Z5.f) (tq (sq (sq ?_)))
 obtain ⟨r5,hr5,h⟩:=bs h
 refine rg (Z5.v 4 (Zak (hc:=Zik N r3 a1_ a2_ a2_ r5 hr5)) Z5.f) (tq (bk (Zm7 18 (ZaV (sq (rg Z5.f (tq (sq (ZcV kr (sk (tq (kq (sq (bk (sq (rg Z5.f (tq (sq (sq ?_)))))))))))))))))))
 obtain ⟨r6,hr6,h⟩:=bs h
 refine rg (Z5.v 2 (Zak (hc:=ZaG N r3 r5.x0 r6 hr6)) Z5.f) (tq (it h (λhc7 h=>?_) (λhc7 h=>?_)))
 ·refine kq (xq (tx (bx (tq (kq (rg Z5.f (tq (ZaV (sq (rg Z5.f (tq (sq (ZcV kr (sk (tq (kq (sq (bk (sq (rg Z5.f (tq (sq (sq ?_)))))))))))))))))))))))
  obtain ⟨r8,hr8,h⟩:=bs h
  refine rg (Z5.v 2 (Zak (hc:=ZaG N r3 r5.x1 r8 hr8)) Z5.f) (tq (it h (λhc9 h=>?_) (λhc9 h=>?_)))
  ·refine kq (xq (tx (bx (tq (kq (rg Z5.f (tq (ZaV (sq (rg Z5.f (tq (sq (ZcV kr (sk (tq (kq (sq (bk (sq (rg Z5.f (tq (sq (sq ?_)))))))))))))))))))))))
   obtain ⟨jj,iW,h⟩:=bs h
   refine rg (Z5.v 2 (Zak (hc:=ZaG N r3 r5.x2 jj iW)) Z5.f) (tq (it h (λj7 h=>?_) (λj7 h=>?_)))
   ·refine kq (xq (tx (bx (tq (kq (rg Z5.f (tq (ZaV (sq (rg Z5.f (tq (sq (ZcV kr (sk (tq (kq (sq (bk (sq (rg Z5.f (tq (sq (sq ?_)))))))))))))))))))))))
    obtain ⟨ji,iV,h⟩:=bs h
    refine rg (Z5.v 2 (Zak (hc:=ZaG N r3 r5.x3 ji iV)) Z5.f) (tq (it h (λj6 h=>?_) (λj6 h=>?_)))
    ·refine kq (xq (tx (bx (tq (kq (rg Z5.f (tq (ZaV (sq (rg Z5.f (tq (sq (ZbR kr (kq (xq (tx (tx (bx (tq (sq (rg Z5.f (tq (rt ?_)))))))))))))))))))))))
     cases h
     exact Zaq kr
    refine sk (tq (kq (sq ?_)))
    obtain ⟨ce,iU,h⟩:=bs h
    refine rg (Z5.v 2 (Zak (hc:=Za7 N r3 r4 ce iU)) Z5.f) (tq (sq ?_))
    obtain ⟨ae,iT,h⟩:=bs h
    refine rg (Z5.v 3 (Zak (hc:=Za1 N r3 r5.x3 r4 ae iT)) Z5.f) (tq (sq (sq (rgX ⟨[(9,.loc 9 0),(10,Zab false r4),(15,iv ae.1),(16,iv ae.2.1),(31,.agg (Zad r5)),(32,iv 3),(81,bv (ce.1||((ce.2 != 0)||((ae.2.2 != 0)||((decide (ae.1<0))||((decide (ae.2.1<0))||((decide (ae.1≥((List.length r4:Nat):Int)))||(decide (ae.2.1≥((List.length r4:Nat):Int))))))))))],[(9,(Z4 r3))],[]⟩ ?_ ?_))))
    ·rcases Bool.eq_false_or_eq_true ce.1 with ig|bf
     ·exact (EP.u 0 (Z9 (c:=ce.1) (h:=ig)) (EP.f (by simp only [ig];kernel_rfl)))
     refine (EP.u 0 (Z9 (c:=ce.1) (h:=bf)) ?_)
     rcases Bool.eq_false_or_eq_true (ce.2 != 0) with ic|bV
     ·exact (EP.u 2 (Z9 (c:=(ce.2 != 0)) (h:=ic)) (EP.f (by simp only [bf,ic];kernel_rfl)))
     refine (EP.u 2 (Z9 (c:=(ce.2 != 0)) (h:=bV)) ?_)
     rcases Bool.eq_false_or_eq_true (ae.2.2 != 0) with gZ|c5
     ·exact (EP.u 3 (Z9 (c:=(ae.2.2 != 0)) (h:=gZ)) (EP.f (by simp only [bf,bV,gZ];kernel_rfl)))
     refine (EP.u 3 (Z9 (c:=(ae.2.2 != 0)) (h:=c5)) ?_)
     rcases Bool.eq_false_or_eq_true (decide (ae.1<0)) with gW|cj
     ·exact (EP.u 3 (Z9 (c:=(decide (ae.1<0))) (h:=gW)) (EP.f (by simp only [bf,bV,c5,gW];kernel_rfl)))
     refine (EP.u 3 (Z9 (c:=(decide (ae.1<0))) (h:=cj)) ?_)
     rcases Bool.eq_false_or_eq_true (decide (ae.2.1<0)) with gS|eA
     ·exact (EP.u 3 (Z9 (c:=(decide (ae.2.1<0))) (h:=gS)) (EP.f (by simp only [bf,bV,c5,cj,gS];kernel_rfl)))
     refine (EP.u 3 (Z9 (c:=(decide (ae.2.1<0))) (h:=eA)) (EP.u 4 (Zac (ys:=[Zab false r4]) (h:=Zai eI64)) ?_))
     rcases Bool.eq_false_or_eq_true (decide (ae.1≥((List.length r4:Nat):Int))) with gQ|gL
     ·exact (EP.u 0 (Z9 (c:=(decide (ae.1≥((List.length r4:Nat):Int)))) (h:=gQ)) (EP.f (by simp only [bf,bV,c5,cj,eA,gQ];kernel_rfl)))
     exact (EP.u 0 (Z9 (c:=(decide (ae.1≥((List.length r4:Nat):Int)))) (h:=gL)) (EP.u 4 (Zac (ys:=[Zab false r4]) (h:=Zai eI64)) (EP.f (by simp only [bf,bV,c5,cj,eA,gL];kernel_rfl))))
    refine tq (it h (λj5 h=>?_) (λj5 h=>?_))
    ·refine sq (rg Z5.f (tq (rt (tr (br (tr (tr (br (tr ?_)))))))))
     cases h
     exact Zaq kr
    refine sk (tq (kq (sq ?_)))
    obtain ⟨jf,g3,h⟩:=bs h
    obtain ⟨je,g2,h⟩:=bs h
    obtain ⟨f7,iS,h⟩:=bs h
    refine rq (Z5.u 4 (Zac (ys:=[Zab false r4,iv ae.1]) (h:=Zaa eI64 g3)) (Z5.u 0 (Zay (Zao (sz:=1) (off:=0) (cs:=[.int .i64 jf]) (r:=iv jf) eI64 g3)) (Z5.u 3 (Zac (ys:=[Zab false r4,iv ae.2.1]) (h:=Zaa eI64 g2)) (Z5.u 0 (Zay (Zao (sz:=1) (off:=0) (cs:=[.int .i64 je]) (r:=iv je) eI64 g2)) (Z5.v 0 (Zak (hc:=ZaI N r3 ae.1 jf ae.2.1 je f7 iS)) Z5.f))))) (tq (sq (rgX ⟨[(9,.loc 9 0),(10,Zab false r4),(31,.agg (Zad r5)),(32,iv 3),(102,bv ((!f7.1)||(f7.2 != 0)))],[(9,(Z4 r3))],[]⟩ ?_ ?_)))
    ·rcases Bool.eq_false_or_eq_true (!f7.1) with gC|gy
     ·exact (EP.u 1 (Z9 (c:=(!f7.1)) (h:=gC)) (EP.f (by simp only [gC];kernel_rfl)))
     exact (EP.u 1 (Z9 (c:=(!f7.1)) (h:=gy)) (EP.f (by simp only [gy];kernel_rfl)))
    refine tq (it h (λj4 h=>?_) (λj4 h=>?_))
    ·refine sq (rg Z5.f (tq (rt (br (tr (tr (br (tr ?_))))))))
     cases h
     exact Zaq kr
    refine sk (bn (tq (kq (rg Z5.f (tq (ZaV (sq (rg Z5.f (tq (sq (ZbR kr (kq (xq (tx (tx (bx (tq (sq (rg Z5.f (tq (rt ?_)))))))))))))))))))))
    cases h
    exact Zaq kr
   refine sk (tq (kq (sq ?_)))
   obtain ⟨cd,iR,h⟩:=bs h
   refine rg (Z5.v 2 (Zak (hc:=Za7 N r3 r4 cd iR)) Z5.f) (tq (sq ?_))
   obtain ⟨ad,iQ,h⟩:=bs h
   refine rg (Z5.v 3 (Zak (hc:=Za1 N r3 r5.x2 r4 ad iQ)) Z5.f) (tq (sq (sq (rgX ⟨[(9,.loc 9 0),(10,Zab false r4),(15,iv ad.1),(16,iv ad.2.1),(31,.agg (Zad r5)),(32,iv 2),(81,bv (cd.1||((cd.2 != 0)||((ad.2.2 != 0)||((decide (ad.1<0))||((decide (ad.2.1<0))||((decide (ad.1≥((List.length r4:Nat):Int)))||(decide (ad.2.1≥((List.length r4:Nat):Int))))))))))],[(9,(Z4 r3))],[]⟩ ?_ ?_))))
   ·rcases Bool.eq_false_or_eq_true cd.1 with gv|be
    ·exact (EP.u 0 (Z9 (c:=cd.1) (h:=gv)) (EP.f (by simp only [gv];kernel_rfl)))
    refine (EP.u 0 (Z9 (c:=cd.1) (h:=be)) ?_)
    rcases Bool.eq_false_or_eq_true (cd.2 != 0) with gu|bU
    ·exact (EP.u 2 (Z9 (c:=(cd.2 != 0)) (h:=gu)) (EP.f (by simp only [be,gu];kernel_rfl)))
    refine (EP.u 2 (Z9 (c:=(cd.2 != 0)) (h:=bU)) ?_)
    rcases Bool.eq_false_or_eq_true (ad.2.2 != 0) with gt|bY
    ·exact (EP.u 3 (Z9 (c:=(ad.2.2 != 0)) (h:=gt)) (EP.f (by simp only [be,bU,gt];kernel_rfl)))
    refine (EP.u 3 (Z9 (c:=(ad.2.2 != 0)) (h:=bY)) ?_)
    rcases Bool.eq_false_or_eq_true (decide (ad.1<0)) with gs|ci
    ·exact (EP.u 3 (Z9 (c:=(decide (ad.1<0))) (h:=gs)) (EP.f (by simp only [be,bU,bY,gs];kernel_rfl)))
    refine (EP.u 3 (Z9 (c:=(decide (ad.1<0))) (h:=ci)) ?_)
    rcases Bool.eq_false_or_eq_true (decide (ad.2.1<0)) with gr|ez
    ·exact (EP.u 3 (Z9 (c:=(decide (ad.2.1<0))) (h:=gr)) (EP.f (by simp only [be,bU,bY,ci,gr];kernel_rfl)))
    refine (EP.u 3 (Z9 (c:=(decide (ad.2.1<0))) (h:=ez)) (EP.u 4 (Zac (ys:=[Zab false r4]) (h:=Zai eI64)) ?_))
    rcases Bool.eq_false_or_eq_true (decide (ad.1≥((List.length r4:Nat):Int))) with gq|gp
    ·exact (EP.u 0 (Z9 (c:=(decide (ad.1≥((List.length r4:Nat):Int)))) (h:=gq)) (EP.f (by simp only [be,bU,bY,ci,ez,gq];kernel_rfl)))
    exact (EP.u 0 (Z9 (c:=(decide (ad.1≥((List.length r4:Nat):Int)))) (h:=gp)) (EP.u 4 (Zac (ys:=[Zab false r4]) (h:=Zai eI64)) (EP.f (by simp only [be,bU,bY,ci,ez,gp];kernel_rfl))))
   refine tq (it h (λj3 h=>?_) (λj3 h=>?_))
   ·refine sq (rg Z5.f (tq (rt (tr (br (tr (tr (br (tr ?_)))))))))
    cases h
    exact Zaq kr
   refine sk (tq (kq (sq ?_)))
   obtain ⟨jd,g1,h⟩:=bs h
   obtain ⟨jc,fZ,h⟩:=bs h
   obtain ⟨f6,iM,h⟩:=bs h
   refine rq (Z5.u 4 (Zac (ys:=[Zab false r4,iv ad.1]) (h:=Zaa eI64 g1)) (Z5.u 0 (Zay (Zao (sz:=1) (off:=0) (cs:=[.int .i64 jd]) (r:=iv jd) eI64 g1)) (Z5.u 3 (Zac (ys:=[Zab false r4,iv ad.2.1]) (h:=Zaa eI64 fZ)) (Z5.u 0 (Zay (Zao (sz:=1) (off:=0) (cs:=[.int .i64 jc]) (r:=iv jc) eI64 fZ)) (Z5.v 0 (Zak (hc:=ZaI N r3 ad.1 jd ad.2.1 jc f6 iM)) Z5.f))))) (tq (sq (rgX ⟨[(9,.loc 9 0),(10,Zab false r4),(31,.agg (Zad r5)),(32,iv 2),(102,bv ((!f6.1)||(f6.2 != 0)))],[(9,(Z4 r3))],[]⟩ ?_ ?_)))
   ·rcases Bool.eq_false_or_eq_true (!f6.1) with go|gn
    ·exact (EP.u 1 (Z9 (c:=(!f6.1)) (h:=go)) (EP.f (by simp only [go];kernel_rfl)))
    exact (EP.u 1 (Z9 (c:=(!f6.1)) (h:=gn)) (EP.f (by simp only [gn];kernel_rfl)))
   refine tq (it h (λj2 h=>?_) (λj2 h=>?_))
   ·refine sq (rg Z5.f (tq (rt (br (tr (tr (br (tr ?_))))))))
    cases h
    exact Zaq kr
   refine sk (bn (tq (kq (rg Z5.f (tq (ZaV (sq (rg Z5.f (tq (sq (ZcV kr (sk (tq (kq (sq (bk (sq (rg Z5.f (tq (sq (sq ?_)))))))))))))))))))))
   obtain ⟨jg,iL,h⟩:=bs h
   refine rg (Z5.v 2 (Zak (hc:=ZaG N r3 r5.x3 jg iL)) Z5.f) (tq (it h (λj1 h=>?_) (λj1 h=>?_)))
   ·refine kq (xq (tx (bx (tq (kq (rg Z5.f (tq (ZaV (sq (rg Z5.f (tq (sq (ZbR kr (kq (xq (tx (tx (bx (tq (sq (rg Z5.f (tq (rt ?_)))))))))))))))))))))))
    cases h
    exact Zaq kr
   refine sk (tq (kq (sq ?_)))
   obtain ⟨cc,iK,h⟩:=bs h
   refine rg (Z5.v 2 (Zak (hc:=Za7 N r3 r4 cc iK)) Z5.f) (tq (sq ?_))
   obtain ⟨ac,iJ,h⟩:=bs h
   refine rg (Z5.v 3 (Zak (hc:=Za1 N r3 r5.x3 r4 ac iJ)) Z5.f) (tq (sq (sq (rgX ⟨[(9,.loc 9 0),(10,Zab false r4),(15,iv ac.1),(16,iv ac.2.1),(31,.agg (Zad r5)),(32,iv 3),(81,bv (cc.1||((cc.2 != 0)||((ac.2.2 != 0)||((decide (ac.1<0))||((decide (ac.2.1<0))||((decide (ac.1≥((List.length r4:Nat):Int)))||(decide (ac.2.1≥((List.length r4:Nat):Int))))))))))],[(9,(Z4 r3))],[]⟩ ?_ ?_))))
   ·rcases Bool.eq_false_or_eq_true cc.1 with gm|bd
    ·exact (EP.u 0 (Z9 (c:=cc.1) (h:=gm)) (EP.f (by simp only [gm];kernel_rfl)))
    refine (EP.u 0 (Z9 (c:=cc.1) (h:=bd)) ?_)
    rcases Bool.eq_false_or_eq_true (cc.2 != 0) with gl|bT
    ·exact (EP.u 2 (Z9 (c:=(cc.2 != 0)) (h:=gl)) (EP.f (by simp only [bd,gl];kernel_rfl)))
    refine (EP.u 2 (Z9 (c:=(cc.2 != 0)) (h:=bT)) ?_)
    rcases Bool.eq_false_or_eq_true (ac.2.2 != 0) with gk|bX
    ·exact (EP.u 3 (Z9 (c:=(ac.2.2 != 0)) (h:=gk)) (EP.f (by simp only [bd,bT,gk];kernel_rfl)))
    refine (EP.u 3 (Z9 (c:=(ac.2.2 != 0)) (h:=bX)) ?_)
    rcases Bool.eq_false_or_eq_true (decide (ac.1<0)) with gj|cg
    ·exact (EP.u 3 (Z9 (c:=(decide (ac.1<0))) (h:=gj)) (EP.f (by simp only [bd,bT,bX,gj];kernel_rfl)))
    refine (EP.u 3 (Z9 (c:=(decide (ac.1<0))) (h:=cg)) ?_)
    rcases Bool.eq_false_or_eq_true (decide (ac.2.1<0)) with gi|ey
    ·exact (EP.u 3 (Z9 (c:=(decide (ac.2.1<0))) (h:=gi)) (EP.f (by simp only [bd,bT,bX,cg,gi];kernel_rfl)))
    refine (EP.u 3 (Z9 (c:=(decide (ac.2.1<0))) (h:=ey)) (EP.u 4 (Zac (ys:=[Zab false r4]) (h:=Zai eI64)) ?_))
    rcases Bool.eq_false_or_eq_true (decide (ac.1≥((List.length r4:Nat):Int))) with gg|gf
    ·exact (EP.u 0 (Z9 (c:=(decide (ac.1≥((List.length r4:Nat):Int)))) (h:=gg)) (EP.f (by simp only [bd,bT,bX,cg,ey,gg];kernel_rfl)))
    exact (EP.u 0 (Z9 (c:=(decide (ac.1≥((List.length r4:Nat):Int)))) (h:=gf)) (EP.u 4 (Zac (ys:=[Zab false r4]) (h:=Zai eI64)) (EP.f (by simp only [bd,bT,bX,cg,ey,gf];kernel_rfl))))
   refine tq (it h (λj0 h=>?_) (λj0 h=>?_))
   ·refine sq (rg Z5.f (tq (rt (tr (br (tr (tr (br (tr ?_)))))))))
    cases h
    exact Zaq kr
   refine sk (tq (kq (sq ?_)))
   obtain ⟨jb,fY,h⟩:=bs h
   obtain ⟨ja,fX,h⟩:=bs h
   obtain ⟨f5,iI,h⟩:=bs h
   refine rq (Z5.u 4 (Zac (ys:=[Zab false r4,iv ac.1]) (h:=Zaa eI64 fY)) (Z5.u 0 (Zay (Zao (sz:=1) (off:=0) (cs:=[.int .i64 jb]) (r:=iv jb) eI64 fY)) (Z5.u 3 (Zac (ys:=[Zab false r4,iv ac.2.1]) (h:=Zaa eI64 fX)) (Z5.u 0 (Zay (Zao (sz:=1) (off:=0) (cs:=[.int .i64 ja]) (r:=iv ja) eI64 fX)) (Z5.v 0 (Zak (hc:=ZaI N r3 ac.1 jb ac.2.1 ja f5 iI)) Z5.f))))) (tq (sq (rgX ⟨[(9,.loc 9 0),(10,Zab false r4),(31,.agg (Zad r5)),(32,iv 3),(102,bv ((!f5.1)||(f5.2 != 0)))],[(9,(Z4 r3))],[]⟩ ?_ ?_)))
   ·rcases Bool.eq_false_or_eq_true (!f5.1) with ge|gd
    ·exact (EP.u 1 (Z9 (c:=(!f5.1)) (h:=ge)) (EP.f (by simp only [ge];kernel_rfl)))
    exact (EP.u 1 (Z9 (c:=(!f5.1)) (h:=gd)) (EP.f (by simp only [gd];kernel_rfl)))
   refine tq (it h (λiZ h=>?_) (λiZ h=>?_))
   ·refine sq (rg Z5.f (tq (rt (br (tr (tr (br (tr ?_))))))))
    cases h
    exact Zaq kr
   refine sk (bn (tq (kq (rg Z5.f (tq (ZaV (sq (rg Z5.f (tq (sq (ZbR kr (kq (xq (tx (tx (bx (tq (sq (rg Z5.f (tq (rt ?_)))))))))))))))))))))
   cases h
   exact Zaq kr
  refine sk (tq (kq (sq ?_)))
  obtain ⟨cb,iG,h⟩:=bs h
  refine rg (Z5.v 2 (Zak (hc:=Za7 N r3 r4 cb iG)) Z5.f) (tq (sq ?_))
  obtain ⟨ab,iE,h⟩:=bs h
  refine rg (Z5.v 3 (Zak (hc:=Za1 N r3 r5.x1 r4 ab iE)) Z5.f) (tq (sq (sq (rgX ⟨[(9,.loc 9 0),(10,Zab false r4),(15,iv ab.1),(16,iv ab.2.1),(31,.agg (Zad r5)),(32,iv 1),(81,bv (cb.1||((cb.2 != 0)||((ab.2.2 != 0)||((decide (ab.1<0))||((decide (ab.2.1<0))||((decide (ab.1≥((List.length r4:Nat):Int)))||(decide (ab.2.1≥((List.length r4:Nat):Int))))))))))],[(9,(Z4 r3))],[]⟩ ?_ ?_))))
  ·rcases Bool.eq_false_or_eq_true cb.1 with gc|bc
   ·exact (EP.u 0 (Z9 (c:=cb.1) (h:=gc)) (EP.f (by simp only [gc];kernel_rfl)))
   refine (EP.u 0 (Z9 (c:=cb.1) (h:=bc)) ?_)
   rcases Bool.eq_false_or_eq_true (cb.2 != 0) with gb|bR
   ·exact (EP.u 2 (Z9 (c:=(cb.2 != 0)) (h:=gb)) (EP.f (by simp only [bc,gb];kernel_rfl)))
   refine (EP.u 2 (Z9 (c:=(cb.2 != 0)) (h:=bR)) ?_)
   rcases Bool.eq_false_or_eq_true (ab.2.2 != 0) with ga|bW
   ·exact (EP.u 3 (Z9 (c:=(ab.2.2 != 0)) (h:=ga)) (EP.f (by simp only [bc,bR,ga];kernel_rfl)))
   refine (EP.u 3 (Z9 (c:=(ab.2.2 != 0)) (h:=bW)) ?_)
   rcases Bool.eq_false_or_eq_true (decide (ab.1<0)) with g9|cf
   ·exact (EP.u 3 (Z9 (c:=(decide (ab.1<0))) (h:=g9)) (EP.f (by simp only [bc,bR,bW,g9];kernel_rfl)))
   refine (EP.u 3 (Z9 (c:=(decide (ab.1<0))) (h:=cf)) ?_)
   rcases Bool.eq_false_or_eq_true (decide (ab.2.1<0)) with g8|ex
   ·exact (EP.u 3 (Z9 (c:=(decide (ab.2.1<0))) (h:=g8)) (EP.f (by simp only [bc,bR,bW,cf,g8];kernel_rfl)))
   refine (EP.u 3 (Z9 (c:=(decide (ab.2.1<0))) (h:=ex)) (EP.u 4 (Zac (ys:=[Zab false r4]) (h:=Zai eI64)) ?_))
   rcases Bool.eq_false_or_eq_true (decide (ab.1≥((List.length r4:Nat):Int))) with g7|g6
   ·exact (EP.u 0 (Z9 (c:=(decide (ab.1≥((List.length r4:Nat):Int)))) (h:=g7)) (EP.f (by simp only [bc,bR,bW,cf,ex,g7];kernel_rfl)))
   exact (EP.u 0 (Z9 (c:=(decide (ab.1≥((List.length r4:Nat):Int)))) (h:=g6)) (EP.u 4 (Zac (ys:=[Zab false r4]) (h:=Zai eI64)) (EP.f (by simp only [bc,bR,bW,cf,ex,g6];kernel_rfl))))
  refine tq (it h (λiY h=>?_) (λiY h=>?_))
  ·refine sq (rg Z5.f (tq (rt (tr (br (tr (tr (br (tr ?_)))))))))
   cases h
   exact Zaq kr
  refine sk (tq (kq (sq ?_)))
  obtain ⟨j9,fW,h⟩:=bs h
  obtain ⟨j8,fV,h⟩:=bs h
  obtain ⟨f4,iD,h⟩:=bs h
  refine rq (Z5.u 4 (Zac (ys:=[Zab false r4,iv ab.1]) (h:=Zaa eI64 fW)) (Z5.u 0 (Zay (Zao (sz:=1) (off:=0) (cs:=[.int .i64 j9]) (r:=iv j9) eI64 fW)) (Z5.u 3 (Zac (ys:=[Zab false r4,iv ab.2.1]) (h:=Zaa eI64 fV)) (Z5.u 0 (Zay (Zao (sz:=1) (off:=0) (cs:=[.int .i64 j8]) (r:=iv j8) eI64 fV)) (Z5.v 0 (Zak (hc:=ZaI N r3 ab.1 j9 ab.2.1 j8 f4 iD)) Z5.f))))) (tq (sq (rgX ⟨[(9,.loc 9 0),(10,Zab false r4),(31,.agg (Zad r5)),(32,iv 1),(102,bv ((!f4.1)||(f4.2 != 0)))],[(9,(Z4 r3))],[]⟩ ?_ ?_)))
  ·rcases Bool.eq_false_or_eq_true (!f4.1) with g5|g4
   ·exact (EP.u 1 (Z9 (c:=(!f4.1)) (h:=g5)) (EP.f (by simp only [g5];kernel_rfl)))
   exact (EP.u 1 (Z9 (c:=(!f4.1)) (h:=g4)) (EP.f (by simp only [g4];kernel_rfl)))
  refine tq (it h (λiX h=>?_) (λiX h=>?_))
  ·refine sq (rg Z5.f (tq (rt (br (tr (tr (br (tr ?_))))))))
   cases h
   exact Zaq kr
  refine sk (bn (tq (kq (rg Z5.f (tq (ZaV (sq (rg Z5.f (tq (sq (ZcV kr (sk (tq (kq (sq (bk (sq (rg Z5.f (tq (sq (sq ?_)))))))))))))))))))))
  obtain ⟨iC,fU,h⟩:=bs h
  refine rg (Z5.v 2 (Zak (hc:=ZaG N r3 r5.x2 iC fU)) Z5.f) (tq (it h (λip h=>?_) (λip h=>?_)))
  ·refine kq (xq (tx (bx (tq (kq (rg Z5.f (tq (ZaV (sq (rg Z5.f (tq (sq (ZcV kr (sk (tq (kq (sq (bk (sq (rg Z5.f (tq (sq (sq ?_)))))))))))))))))))))))
   obtain ⟨iB,fT,h⟩:=bs h
   refine rg (Z5.v 2 (Zak (hc:=ZaG N r3 r5.x3 iB fT)) Z5.f) (tq (it h (λio h=>?_) (λio h=>?_)))
   ·refine kq (xq (tx (bx (tq (kq (rg Z5.f (tq (ZaV (sq (rg Z5.f (tq (sq (ZbR kr (kq (xq (tx (tx (bx (tq (sq (rg Z5.f (tq (rt ?_)))))))))))))))))))))))
    cases h
    exact Zaq kr
   refine sk (tq (kq (sq ?_)))
   obtain ⟨aT,fS,h⟩:=bs h
   refine rg (Z5.v 2 (Zak (hc:=Za7 N r3 r4 aT fS)) Z5.f) (tq (sq ?_))
   obtain ⟨aa,fR,h⟩:=bs h
   refine rg (Z5.v 3 (Zak (hc:=Za1 N r3 r5.x3 r4 aa fR)) Z5.f) (tq (sq (sq (rgX ⟨[(9,.loc 9 0),(10,Zab false r4),(15,iv aa.1),(16,iv aa.2.1),(31,.agg (Zad r5)),(32,iv 3),(81,bv (aT.1||((aT.2 != 0)||((aa.2.2 != 0)||((decide (aa.1<0))||((decide (aa.2.1<0))||((decide (aa.1≥((List.length r4:Nat):Int)))||(decide (aa.2.1≥((List.length r4:Nat):Int))))))))))],[(9,(Z4 r3))],[]⟩ ?_ ?_))))
   ·rcases Bool.eq_false_or_eq_true aT.1 with ew|aq
    ·exact (EP.u 0 (Z9 (c:=aT.1) (h:=ew)) (EP.f (by simp only [ew];kernel_rfl)))
    refine (EP.u 0 (Z9 (c:=aT.1) (h:=aq)) ?_)
    rcases Bool.eq_false_or_eq_true (aT.2 != 0) with eu|aD
    ·exact (EP.u 2 (Z9 (c:=(aT.2 != 0)) (h:=eu)) (EP.f (by simp only [aq,eu];kernel_rfl)))
    refine (EP.u 2 (Z9 (c:=(aT.2 != 0)) (h:=aD)) ?_)
    rcases Bool.eq_false_or_eq_true (aa.2.2 != 0) with et|bb
    ·exact (EP.u 3 (Z9 (c:=(aa.2.2 != 0)) (h:=et)) (EP.f (by simp only [aq,aD,et];kernel_rfl)))
    refine (EP.u 3 (Z9 (c:=(aa.2.2 != 0)) (h:=bb)) ?_)
    rcases Bool.eq_false_or_eq_true (decide (aa.1<0)) with es|bA
    ·exact (EP.u 3 (Z9 (c:=(decide (aa.1<0))) (h:=es)) (EP.f (by simp only [aq,aD,bb,es];kernel_rfl)))
    refine (EP.u 3 (Z9 (c:=(decide (aa.1<0))) (h:=bA)) ?_)
    rcases Bool.eq_false_or_eq_true (decide (aa.2.1<0)) with er|ca
    ·exact (EP.u 3 (Z9 (c:=(decide (aa.2.1<0))) (h:=er)) (EP.f (by simp only [aq,aD,bb,bA,er];kernel_rfl)))
    refine (EP.u 3 (Z9 (c:=(decide (aa.2.1<0))) (h:=ca)) (EP.u 4 (Zac (ys:=[Zab false r4]) (h:=Zai eI64)) ?_))
    rcases Bool.eq_false_or_eq_true (decide (aa.1≥((List.length r4:Nat):Int))) with eq|ep
    ·exact (EP.u 0 (Z9 (c:=(decide (aa.1≥((List.length r4:Nat):Int)))) (h:=eq)) (EP.f (by simp only [aq,aD,bb,bA,ca,eq];kernel_rfl)))
    exact (EP.u 0 (Z9 (c:=(decide (aa.1≥((List.length r4:Nat):Int)))) (h:=ep)) (EP.u 4 (Zac (ys:=[Zab false r4]) (h:=Zai eI64)) (EP.f (by simp only [aq,aD,bb,bA,ca,ep];kernel_rfl))))
   refine tq (it h (λim h=>?_) (λim h=>?_))
   ·refine sq (rg Z5.f (tq (rt (tr (br (tr (tr (br (tr ?_)))))))))
    cases h
    exact Zaq kr
   refine sk (tq (kq (sq ?_)))
   obtain ⟨f3,cJ,h⟩:=bs h
   obtain ⟨f2,cI,h⟩:=bs h
   obtain ⟨bQ,fQ,h⟩:=bs h
   refine rq (Z5.u 4 (Zac (ys:=[Zab false r4,iv aa.1]) (h:=Zaa eI64 cJ)) (Z5.u 0 (Zay (Zao (sz:=1) (off:=0) (cs:=[.int .i64 f3]) (r:=iv f3) eI64 cJ)) (Z5.u 3 (Zac (ys:=[Zab false r4,iv aa.2.1]) (h:=Zaa eI64 cI)) (Z5.u 0 (Zay (Zao (sz:=1) (off:=0) (cs:=[.int .i64 f2]) (r:=iv f2) eI64 cI)) (Z5.v 0 (Zak (hc:=ZaI N r3 aa.1 f3 aa.2.1 f2 bQ fQ)) Z5.f))))) (tq (sq (rgX ⟨[(9,.loc 9 0),(10,Zab false r4),(31,.agg (Zad r5)),(32,iv 3),(102,bv ((!bQ.1)||(bQ.2 != 0)))],[(9,(Z4 r3))],[]⟩ ?_ ?_)))
   ·rcases Bool.eq_false_or_eq_true (!bQ.1) with eo|en
    ·exact (EP.u 1 (Z9 (c:=(!bQ.1)) (h:=eo)) (EP.f (by simp only [eo];kernel_rfl)))
    exact (EP.u 1 (Z9 (c:=(!bQ.1)) (h:=en)) (EP.f (by simp only [en];kernel_rfl)))
   refine tq (it h (λil h=>?_) (λil h=>?_))
   ·refine sq (rg Z5.f (tq (rt (br (tr (tr (br (tr ?_))))))))
    cases h
    exact Zaq kr
   refine sk (bn (tq (kq (rg Z5.f (tq (ZaV (sq (rg Z5.f (tq (sq (ZbR kr (kq (xq (tx (tx (bx (tq (sq (rg Z5.f (tq (rt ?_)))))))))))))))))))))
   cases h
   exact Zaq kr
  refine sk (tq (kq (sq ?_)))
  obtain ⟨aS,fM,h⟩:=bs h
  refine rg (Z5.v 2 (Zak (hc:=Za7 N r3 r4 aS fM)) Z5.f) (tq (sq ?_))
  obtain ⟨a9,fL,h⟩:=bs h
  refine rg (Z5.v 3 (Zak (hc:=Za1 N r3 r5.x2 r4 a9 fL)) Z5.f) (tq (sq (sq (rgX ⟨[(9,.loc 9 0),(10,Zab false r4),(15,iv a9.1),(16,iv a9.2.1),(31,.agg (Zad r5)),(32,iv 2),(81,bv (aS.1||((aS.2 != 0)||((a9.2.2 != 0)||((decide (a9.1<0))||((decide (a9.2.1<0))||((decide (a9.1≥((List.length r4:Nat):Int)))||(decide (a9.2.1≥((List.length r4:Nat):Int))))))))))],[(9,(Z4 r3))],[]⟩ ?_ ?_))))
  ·rcases Bool.eq_false_or_eq_true aS.1 with em|ap
   ·exact (EP.u 0 (Z9 (c:=aS.1) (h:=em)) (EP.f (by simp only [em];kernel_rfl)))
   refine (EP.u 0 (Z9 (c:=aS.1) (h:=ap)) ?_)
   rcases Bool.eq_false_or_eq_true (aS.2 != 0) with el|aC
   ·exact (EP.u 2 (Z9 (c:=(aS.2 != 0)) (h:=el)) (EP.f (by simp only [ap,el];kernel_rfl)))
   refine (EP.u 2 (Z9 (c:=(aS.2 != 0)) (h:=aC)) ?_)
   rcases Bool.eq_false_or_eq_true (a9.2.2 != 0) with ek|ba
   ·exact (EP.u 3 (Z9 (c:=(a9.2.2 != 0)) (h:=ek)) (EP.f (by simp only [ap,aC,ek];kernel_rfl)))
   refine (EP.u 3 (Z9 (c:=(a9.2.2 != 0)) (h:=ba)) ?_)
   rcases Bool.eq_false_or_eq_true (decide (a9.1<0)) with ej|bz
   ·exact (EP.u 3 (Z9 (c:=(decide (a9.1<0))) (h:=ej)) (EP.f (by simp only [ap,aC,ba,ej];kernel_rfl)))
   refine (EP.u 3 (Z9 (c:=(decide (a9.1<0))) (h:=bz)) ?_)
   rcases Bool.eq_false_or_eq_true (decide (a9.2.1<0)) with ei|c9
   ·exact (EP.u 3 (Z9 (c:=(decide (a9.2.1<0))) (h:=ei)) (EP.f (by simp only [ap,aC,ba,bz,ei];kernel_rfl)))
   refine (EP.u 3 (Z9 (c:=(decide (a9.2.1<0))) (h:=c9)) (EP.u 4 (Zac (ys:=[Zab false r4]) (h:=Zai eI64)) ?_))
   rcases Bool.eq_false_or_eq_true (decide (a9.1≥((List.length r4:Nat):Int))) with eg|ef
   ·exact (EP.u 0 (Z9 (c:=(decide (a9.1≥((List.length r4:Nat):Int)))) (h:=eg)) (EP.f (by simp only [ap,aC,ba,bz,c9,eg];kernel_rfl)))
   exact (EP.u 0 (Z9 (c:=(decide (a9.1≥((List.length r4:Nat):Int)))) (h:=ef)) (EP.u 4 (Zac (ys:=[Zab false r4]) (h:=Zai eI64)) (EP.f (by simp only [ap,aC,ba,bz,c9,ef];kernel_rfl))))
  refine tq (it h (λik h=>?_) (λik h=>?_))
  ·refine sq (rg Z5.f (tq (rt (tr (br (tr (tr (br (tr ?_)))))))))
   cases h
   exact Zaq kr
  refine sk (tq (kq (sq ?_)))
  obtain ⟨f1,cG,h⟩:=bs h
  obtain ⟨f0,cE,h⟩:=bs h
  obtain ⟨bM,fK,h⟩:=bs h
  refine rq (Z5.u 4 (Zac (ys:=[Zab false r4,iv a9.1]) (h:=Zaa eI64 cG)) (Z5.u 0 (Zay (Zao (sz:=1) (off:=0) (cs:=[.int .i64 f1]) (r:=iv f1) eI64 cG)) (Z5.u 3 (Zac (ys:=[Zab false r4,iv a9.2.1]) (h:=Zaa eI64 cE)) (Z5.u 0 (Zay (Zao (sz:=1) (off:=0) (cs:=[.int .i64 f0]) (r:=iv f0) eI64 cE)) (Z5.v 0 (Zak (hc:=ZaI N r3 a9.1 f1 a9.2.1 f0 bM fK)) Z5.f))))) (tq (sq (rgX ⟨[(9,.loc 9 0),(10,Zab false r4),(31,.agg (Zad r5)),(32,iv 2),(102,bv ((!bM.1)||(bM.2 != 0)))],[(9,(Z4 r3))],[]⟩ ?_ ?_)))
  ·rcases Bool.eq_false_or_eq_true (!bM.1) with ee|ed
   ·exact (EP.u 1 (Z9 (c:=(!bM.1)) (h:=ee)) (EP.f (by simp only [ee];kernel_rfl)))
   exact (EP.u 1 (Z9 (c:=(!bM.1)) (h:=ed)) (EP.f (by simp only [ed];kernel_rfl)))
  refine tq (it h (λij h=>?_) (λij h=>?_))
  ·refine sq (rg Z5.f (tq (rt (br (tr (tr (br (tr ?_))))))))
   cases h
   exact Zaq kr
  refine sk (bn (tq (kq (rg Z5.f (tq (ZaV (sq (rg Z5.f (tq (sq (ZcV kr (sk (tq (kq (sq (bk (sq (rg Z5.f (tq (sq (sq ?_)))))))))))))))))))))
  obtain ⟨iA,fJ,h⟩:=bs h
  refine rg (Z5.v 2 (Zak (hc:=ZaG N r3 r5.x3 iA fJ)) Z5.f) (tq (it h (λii h=>?_) (λii h=>?_)))
  ·refine kq (xq (tx (bx (tq (kq (rg Z5.f (tq (ZaV (sq (rg Z5.f (tq (sq (ZbR kr (kq (xq (tx (tx (bx (tq (sq (rg Z5.f (tq (rt ?_)))))))))))))))))))))))
   cases h
   exact Zaq kr
  refine sk (tq (kq (sq ?_)))
  obtain ⟨aR,fI,h⟩:=bs h
  refine rg (Z5.v 2 (Zak (hc:=Za7 N r3 r4 aR fI)) Z5.f) (tq (sq ?_))
  obtain ⟨a8,fG,h⟩:=bs h
  refine rg (Z5.v 3 (Zak (hc:=Za1 N r3 r5.x3 r4 a8 fG)) Z5.f) (tq (sq (sq (rgX ⟨[(9,.loc 9 0),(10,Zab false r4),(15,iv a8.1),(16,iv a8.2.1),(31,.agg (Zad r5)),(32,iv 3),(81,bv (aR.1||((aR.2 != 0)||((a8.2.2 != 0)||((decide (a8.1<0))||((decide (a8.2.1<0))||((decide (a8.1≥((List.length r4:Nat):Int)))||(decide (a8.2.1≥((List.length r4:Nat):Int))))))))))],[(9,(Z4 r3))],[]⟩ ?_ ?_))))
  ·rcases Bool.eq_false_or_eq_true aR.1 with ec|ao
   ·exact (EP.u 0 (Z9 (c:=aR.1) (h:=ec)) (EP.f (by simp only [ec];kernel_rfl)))
   refine (EP.u 0 (Z9 (c:=aR.1) (h:=ao)) ?_)
   rcases Bool.eq_false_or_eq_true (aR.2 != 0) with eb|aB
   ·exact (EP.u 2 (Z9 (c:=(aR.2 != 0)) (h:=eb)) (EP.f (by simp only [ao,eb];kernel_rfl)))
   refine (EP.u 2 (Z9 (c:=(aR.2 != 0)) (h:=aB)) ?_)
   rcases Bool.eq_false_or_eq_true (a8.2.2 != 0) with ea|b2
   ·exact (EP.u 3 (Z9 (c:=(a8.2.2 != 0)) (h:=ea)) (EP.f (by simp only [ao,aB,ea];kernel_rfl)))
   refine (EP.u 3 (Z9 (c:=(a8.2.2 != 0)) (h:=b2)) ?_)
   rcases Bool.eq_false_or_eq_true (decide (a8.1<0)) with e9|bw
   ·exact (EP.u 3 (Z9 (c:=(decide (a8.1<0))) (h:=e9)) (EP.f (by simp only [ao,aB,b2,e9];kernel_rfl)))
   refine (EP.u 3 (Z9 (c:=(decide (a8.1<0))) (h:=bw)) ?_)
   rcases Bool.eq_false_or_eq_true (decide (a8.2.1<0)) with e8|c8
   ·exact (EP.u 3 (Z9 (c:=(decide (a8.2.1<0))) (h:=e8)) (EP.f (by simp only [ao,aB,b2,bw,e8];kernel_rfl)))
   refine (EP.u 3 (Z9 (c:=(decide (a8.2.1<0))) (h:=c8)) (EP.u 4 (Zac (ys:=[Zab false r4]) (h:=Zai eI64)) ?_))
   rcases Bool.eq_false_or_eq_true (decide (a8.1≥((List.length r4:Nat):Int))) with e7|e6
   ·exact (EP.u 0 (Z9 (c:=(decide (a8.1≥((List.length r4:Nat):Int)))) (h:=e7)) (EP.f (by simp only [ao,aB,b2,bw,c8,e7];kernel_rfl)))
   exact (EP.u 0 (Z9 (c:=(decide (a8.1≥((List.length r4:Nat):Int)))) (h:=e6)) (EP.u 4 (Zac (ys:=[Zab false r4]) (h:=Zai eI64)) (EP.f (by simp only [ao,aB,b2,bw,c8,e6];kernel_rfl))))
  refine tq (it h (λie h=>?_) (λie h=>?_))
  ·refine sq (rg Z5.f (tq (rt (tr (br (tr (tr (br (tr ?_)))))))))
   cases h
   exact Zaq kr
  refine sk (tq (kq (sq ?_)))
  obtain ⟨eZ,cD,h⟩:=bs h
  obtain ⟨eY,cC,h⟩:=bs h
  obtain ⟨bL,fE,h⟩:=bs h
  refine rq (Z5.u 4 (Zac (ys:=[Zab false r4,iv a8.1]) (h:=Zaa eI64 cD)) (Z5.u 0 (Zay (Zao (sz:=1) (off:=0) (cs:=[.int .i64 eZ]) (r:=iv eZ) eI64 cD)) (Z5.u 3 (Zac (ys:=[Zab false r4,iv a8.2.1]) (h:=Zaa eI64 cC)) (Z5.u 0 (Zay (Zao (sz:=1) (off:=0) (cs:=[.int .i64 eY]) (r:=iv eY) eI64 cC)) (Z5.v 0 (Zak (hc:=ZaI N r3 a8.1 eZ a8.2.1 eY bL fE)) Z5.f))))) (tq (sq (rgX ⟨[(9,.loc 9 0),(10,Zab false r4),(31,.agg (Zad r5)),(32,iv 3),(102,bv ((!bL.1)||(bL.2 != 0)))],[(9,(Z4 r3))],[]⟩ ?_ ?_)))
  ·rcases Bool.eq_false_or_eq_true (!bL.1) with e5|e4
   ·exact (EP.u 1 (Z9 (c:=(!bL.1)) (h:=e5)) (EP.f (by simp only [e5];kernel_rfl)))
   exact (EP.u 1 (Z9 (c:=(!bL.1)) (h:=e4)) (EP.f (by simp only [e4];kernel_rfl)))
  refine tq (it h (λid h=>?_) (λid h=>?_))
  ·refine sq (rg Z5.f (tq (rt (br (tr (tr (br (tr ?_))))))))
   cases h
   exact Zaq kr
  refine sk (bn (tq (kq (rg Z5.f (tq (ZaV (sq (rg Z5.f (tq (sq (ZbR kr (kq (xq (tx (tx (bx (tq (sq (rg Z5.f (tq (rt ?_)))))))))))))))))))))
  cases h
  exact Zaq kr
 refine sk (tq (kq (sq ?_)))
 obtain ⟨aQ,fD,h⟩:=bs h
 refine rg (Z5.v 2 (Zak (hc:=Za7 N r3 r4 aQ fD)) Z5.f) (tq (sq ?_))
 obtain ⟨a7,fC,h⟩:=bs h
 refine rg (Z5.v 3 (Zak (hc:=Za1 N r3 r5.x0 r4 a7 fC)) Z5.f) (tq (sq (sq (rgX ⟨[(9,.loc 9 0),(10,Zab false r4),(15,iv a7.1),(16,iv a7.2.1),(31,.agg (Zad r5)),(32,iv 0),(81,bv (aQ.1||((aQ.2 != 0)||((a7.2.2 != 0)||((decide (a7.1<0))||((decide (a7.2.1<0))||((decide (a7.1≥((List.length r4:Nat):Int)))||(decide (a7.2.1≥((List.length r4:Nat):Int))))))))))],[(9,(Z4 r3))],[]⟩ ?_ ?_))))
 ·rcases Bool.eq_false_or_eq_true aQ.1 with e3|an
  ·exact (EP.u 0 (Z9 (c:=aQ.1) (h:=e3)) (EP.f (by simp only [e3];kernel_rfl)))
  refine (EP.u 0 (Z9 (c:=aQ.1) (h:=an)) ?_)
  rcases Bool.eq_false_or_eq_true (aQ.2 != 0) with e2|aA
  ·exact (EP.u 2 (Z9 (c:=(aQ.2 != 0)) (h:=e2)) (EP.f (by simp only [an,e2];kernel_rfl)))
  refine (EP.u 2 (Z9 (c:=(aQ.2 != 0)) (h:=aA)) ?_)
  rcases Bool.eq_false_or_eq_true (a7.2.2 != 0) with e1|b1
  ·exact (EP.u 3 (Z9 (c:=(a7.2.2 != 0)) (h:=e1)) (EP.f (by simp only [an,aA,e1];kernel_rfl)))
  refine (EP.u 3 (Z9 (c:=(a7.2.2 != 0)) (h:=b1)) ?_)
  rcases Bool.eq_false_or_eq_true (decide (a7.1<0)) with e0|bu
  ·exact (EP.u 3 (Z9 (c:=(decide (a7.1<0))) (h:=e0)) (EP.f (by simp only [an,aA,b1,e0];kernel_rfl)))
  refine (EP.u 3 (Z9 (c:=(decide (a7.1<0))) (h:=bu)) ?_)
  rcases Bool.eq_false_or_eq_true (decide (a7.2.1<0)) with dZ|c7
  ·exact (EP.u 3 (Z9 (c:=(decide (a7.2.1<0))) (h:=dZ)) (EP.f (by simp only [an,aA,b1,bu,dZ];kernel_rfl)))
  refine (EP.u 3 (Z9 (c:=(decide (a7.2.1<0))) (h:=c7)) (EP.u 4 (Zac (ys:=[Zab false r4]) (h:=Zai eI64)) ?_))
  rcases Bool.eq_false_or_eq_true (decide (a7.1≥((List.length r4:Nat):Int))) with dY|dX
  ·exact (EP.u 0 (Z9 (c:=(decide (a7.1≥((List.length r4:Nat):Int)))) (h:=dY)) (EP.f (by simp only [an,aA,b1,bu,c7,dY];kernel_rfl)))
  exact (EP.u 0 (Z9 (c:=(decide (a7.1≥((List.length r4:Nat):Int)))) (h:=dX)) (EP.u 4 (Zac (ys:=[Zab false r4]) (h:=Zai eI64)) (EP.f (by simp only [an,aA,b1,bu,c7,dX];kernel_rfl))))
 refine tq (it h (λib h=>?_) (λib h=>?_))
 ·refine sq (rg Z5.f (tq (rt (tr (br (tr (tr (br (tr ?_)))))))))
  cases h
  exact Zaq kr
 refine sk (tq (kq (sq ?_)))
 obtain ⟨eX,cB,h⟩:=bs h
 obtain ⟨eW,cA,h⟩:=bs h
 obtain ⟨bK,fB,h⟩:=bs h
 refine rq (Z5.u 4 (Zac (ys:=[Zab false r4,iv a7.1]) (h:=Zaa eI64 cB)) (Z5.u 0 (Zay (Zao (sz:=1) (off:=0) (cs:=[.int .i64 eX]) (r:=iv eX) eI64 cB)) (Z5.u 3 (Zac (ys:=[Zab false r4,iv a7.2.1]) (h:=Zaa eI64 cA)) (Z5.u 0 (Zay (Zao (sz:=1) (off:=0) (cs:=[.int .i64 eW]) (r:=iv eW) eI64 cA)) (Z5.v 0 (Zak (hc:=ZaI N r3 a7.1 eX a7.2.1 eW bK fB)) Z5.f))))) (tq (sq (rgX ⟨[(9,.loc 9 0),(10,Zab false r4),(31,.agg (Zad r5)),(32,iv 0),(102,bv ((!bK.1)||(bK.2 != 0)))],[(9,(Z4 r3))],[]⟩ ?_ ?_)))
 ·rcases Bool.eq_false_or_eq_true (!bK.1) with dW|dV
  ·exact (EP.u 1 (Z9 (c:=(!bK.1)) (h:=dW)) (EP.f (by simp only [dW];kernel_rfl)))
  exact (EP.u 1 (Z9 (c:=(!bK.1)) (h:=dV)) (EP.f (by simp only [dV];kernel_rfl)))
 refine tq (it h (λia h=>?_) (λia h=>?_))
 ·refine sq (rg Z5.f (tq (rt (br (tr (tr (br (tr ?_))))))))
  cases h
  exact Zaq kr
 refine sk (bn (tq (kq (rg Z5.f (tq (ZaV (sq (rg Z5.f (tq (sq (ZcV kr (sk (tq (kq (sq (bk (sq (rg Z5.f (tq (sq (sq ?_)))))))))))))))))))))
 obtain ⟨iz,fA,h⟩:=bs h
 refine rg (Z5.v 2 (Zak (hc:=ZaG N r3 r5.x1 iz fA)) Z5.f) (tq (it h (λi2 h=>?_) (λi2 h=>?_)))
 ·refine kq (xq (tx (bx (tq (kq (rg Z5.f (tq (ZaV (sq (rg Z5.f (tq (sq (ZcV kr (sk (tq (kq (sq (bk (sq (rg Z5.f (tq (sq (sq ?_)))))))))))))))))))))))
  obtain ⟨iy,fz,h⟩:=bs h
  refine rg (Z5.v 2 (Zak (hc:=ZaG N r3 r5.x2 iy fz)) Z5.f) (tq (it h (λi1 h=>?_) (λi1 h=>?_)))
  ·refine kq (xq (tx (bx (tq (kq (rg Z5.f (tq (ZaV (sq (rg Z5.f (tq (sq (ZcV kr (sk (tq (kq (sq (bk (sq (rg Z5.f (tq (sq (sq ?_)))))))))))))))))))))))
   obtain ⟨ix,fy,h⟩:=bs h
   refine rg (Z5.v 2 (Zak (hc:=ZaG N r3 r5.x3 ix fy)) Z5.f) (tq (it h (λi0 h=>?_) (λi0 h=>?_)))
   ·refine kq (xq (tx (bx (tq (kq (rg Z5.f (tq (ZaV (sq (rg Z5.f (tq (sq (ZbR kr (kq (xq (tx (tx (bx (tq (sq (rg Z5.f (tq (rt ?_)))))))))))))))))))))))
    cases h
    exact Zaq kr
   refine sk (tq (kq (sq ?_)))
   obtain ⟨aM,fx,h⟩:=bs h
   refine rg (Z5.v 2 (Zak (hc:=Za7 N r3 r4 aM fx)) Z5.f) (tq (sq ?_))
   obtain ⟨a6,fw,h⟩:=bs h
   refine rg (Z5.v 3 (Zak (hc:=Za1 N r3 r5.x3 r4 a6 fw)) Z5.f) (tq (sq (sq (rgX ⟨[(9,.loc 9 0),(10,Zab false r4),(15,iv a6.1),(16,iv a6.2.1),(31,.agg (Zad r5)),(32,iv 3),(81,bv (aM.1||((aM.2 != 0)||((a6.2.2 != 0)||((decide (a6.1<0))||((decide (a6.2.1<0))||((decide (a6.1≥((List.length r4:Nat):Int)))||(decide (a6.2.1≥((List.length r4:Nat):Int))))))))))],[(9,(Z4 r3))],[]⟩ ?_ ?_))))
   ·rcases Bool.eq_false_or_eq_true aM.1 with dU|am
    ·exact (EP.u 0 (Z9 (c:=aM.1) (h:=dU)) (EP.f (by simp only [dU];kernel_rfl)))
    refine (EP.u 0 (Z9 (c:=aM.1) (h:=am)) ?_)
    rcases Bool.eq_false_or_eq_true (aM.2 != 0) with dT|az
    ·exact (EP.u 2 (Z9 (c:=(aM.2 != 0)) (h:=dT)) (EP.f (by simp only [am,dT];kernel_rfl)))
    refine (EP.u 2 (Z9 (c:=(aM.2 != 0)) (h:=az)) ?_)
    rcases Bool.eq_false_or_eq_true (a6.2.2 != 0) with dS|b0
    ·exact (EP.u 3 (Z9 (c:=(a6.2.2 != 0)) (h:=dS)) (EP.f (by simp only [am,az,dS];kernel_rfl)))
    refine (EP.u 3 (Z9 (c:=(a6.2.2 != 0)) (h:=b0)) ?_)
    rcases Bool.eq_false_or_eq_true (decide (a6.1<0)) with dR|bt
    ·exact (EP.u 3 (Z9 (c:=(decide (a6.1<0))) (h:=dR)) (EP.f (by simp only [am,az,b0,dR];kernel_rfl)))
    refine (EP.u 3 (Z9 (c:=(decide (a6.1<0))) (h:=bt)) ?_)
    rcases Bool.eq_false_or_eq_true (decide (a6.2.1<0)) with dQ|c6
    ·exact (EP.u 3 (Z9 (c:=(decide (a6.2.1<0))) (h:=dQ)) (EP.f (by simp only [am,az,b0,bt,dQ];kernel_rfl)))
    refine (EP.u 3 (Z9 (c:=(decide (a6.2.1<0))) (h:=c6)) (EP.u 4 (Zac (ys:=[Zab false r4]) (h:=Zai eI64)) ?_))
    rcases Bool.eq_false_or_eq_true (decide (a6.1≥((List.length r4:Nat):Int))) with dM|dL
    ·exact (EP.u 0 (Z9 (c:=(decide (a6.1≥((List.length r4:Nat):Int)))) (h:=dM)) (EP.f (by simp only [am,az,b0,bt,c6,dM];kernel_rfl)))
    exact (EP.u 0 (Z9 (c:=(decide (a6.1≥((List.length r4:Nat):Int)))) (h:=dL)) (EP.u 4 (Zac (ys:=[Zab false r4]) (h:=Zai eI64)) (EP.f (by simp only [am,az,b0,bt,c6,dL];kernel_rfl))))
   refine tq (it h (λgY h=>?_) (λgY h=>?_))
   ·refine sq (rg Z5.f (tq (rt (tr (br (tr (tr (br (tr ?_)))))))))
    cases h
    exact Zaq kr
   refine sk (tq (kq (sq ?_)))
   obtain ⟨eV,cz,h⟩:=bs h
   obtain ⟨eU,cy,h⟩:=bs h
   obtain ⟨bJ,fv,h⟩:=bs h
   refine rq (Z5.u 4 (Zac (ys:=[Zab false r4,iv a6.1]) (h:=Zaa eI64 cz)) (Z5.u 0 (Zay (Zao (sz:=1) (off:=0) (cs:=[.int .i64 eV]) (r:=iv eV) eI64 cz)) (Z5.u 3 (Zac (ys:=[Zab false r4,iv a6.2.1]) (h:=Zaa eI64 cy)) (Z5.u 0 (Zay (Zao (sz:=1) (off:=0) (cs:=[.int .i64 eU]) (r:=iv eU) eI64 cy)) (Z5.v 0 (Zak (hc:=ZaI N r3 a6.1 eV a6.2.1 eU bJ fv)) Z5.f))))) (tq (sq (rgX ⟨[(9,.loc 9 0),(10,Zab false r4),(31,.agg (Zad r5)),(32,iv 3),(102,bv ((!bJ.1)||(bJ.2 != 0)))],[(9,(Z4 r3))],[]⟩ ?_ ?_)))
   ·rcases Bool.eq_false_or_eq_true (!bJ.1) with dK|dJ
    ·exact (EP.u 1 (Z9 (c:=(!bJ.1)) (h:=dK)) (EP.f (by simp only [dK];kernel_rfl)))
    exact (EP.u 1 (Z9 (c:=(!bJ.1)) (h:=dJ)) (EP.f (by simp only [dJ];kernel_rfl)))
   refine tq (it h (λgX h=>?_) (λgX h=>?_))
   ·refine sq (rg Z5.f (tq (rt (br (tr (tr (br (tr ?_))))))))
    cases h
    exact Zaq kr
   refine sk (bn (tq (kq (rg Z5.f (tq (ZaV (sq (rg Z5.f (tq (sq (ZbR kr (kq (xq (tx (tx (bx (tq (sq (rg Z5.f (tq (rt ?_)))))))))))))))))))))
   cases h
   exact Zaq kr
  refine sk (tq (kq (sq ?_)))
  obtain ⟨aL,fu,h⟩:=bs h
  refine rg (Z5.v 2 (Zak (hc:=Za7 N r3 r4 aL fu)) Z5.f) (tq (sq ?_))
  obtain ⟨a5,ft,h⟩:=bs h
  refine rg (Z5.v 3 (Zak (hc:=Za1 N r3 r5.x2 r4 a5 ft)) Z5.f) (tq (sq (sq (rgX ⟨[(9,.loc 9 0),(10,Zab false r4),(15,iv a5.1),(16,iv a5.2.1),(31,.agg (Zad r5)),(32,iv 2),(81,bv (aL.1||((aL.2 != 0)||((a5.2.2 != 0)||((decide (a5.1<0))||((decide (a5.2.1<0))||((decide (a5.1≥((List.length r4:Nat):Int)))||(decide (a5.2.1≥((List.length r4:Nat):Int))))))))))],[(9,(Z4 r3))],[]⟩ ?_ ?_))))
  ·rcases Bool.eq_false_or_eq_true aL.1 with dI|al
   ·exact (EP.u 0 (Z9 (c:=aL.1) (h:=dI)) (EP.f (by simp only [dI];kernel_rfl)))
   refine (EP.u 0 (Z9 (c:=aL.1) (h:=al)) ?_)
   rcases Bool.eq_false_or_eq_true (aL.2 != 0) with dG|ay
   ·exact (EP.u 2 (Z9 (c:=(aL.2 != 0)) (h:=dG)) (EP.f (by simp only [al,dG];kernel_rfl)))
   refine (EP.u 2 (Z9 (c:=(aL.2 != 0)) (h:=ay)) ?_)
   rcases Bool.eq_false_or_eq_true (a5.2.2 != 0) with dE|aZ
   ·exact (EP.u 3 (Z9 (c:=(a5.2.2 != 0)) (h:=dE)) (EP.f (by simp only [al,ay,dE];kernel_rfl)))
   refine (EP.u 3 (Z9 (c:=(a5.2.2 != 0)) (h:=aZ)) ?_)
   rcases Bool.eq_false_or_eq_true (decide (a5.1<0)) with dD|bq
   ·exact (EP.u 3 (Z9 (c:=(decide (a5.1<0))) (h:=dD)) (EP.f (by simp only [al,ay,aZ,dD];kernel_rfl)))
   refine (EP.u 3 (Z9 (c:=(decide (a5.1<0))) (h:=bq)) ?_)
   rcases Bool.eq_false_or_eq_true (decide (a5.2.1<0)) with dC|c4
   ·exact (EP.u 3 (Z9 (c:=(decide (a5.2.1<0))) (h:=dC)) (EP.f (by simp only [al,ay,aZ,bq,dC];kernel_rfl)))
   refine (EP.u 3 (Z9 (c:=(decide (a5.2.1<0))) (h:=c4)) (EP.u 4 (Zac (ys:=[Zab false r4]) (h:=Zai eI64)) ?_))
   rcases Bool.eq_false_or_eq_true (decide (a5.1≥((List.length r4:Nat):Int))) with dB|dA
   ·exact (EP.u 0 (Z9 (c:=(decide (a5.1≥((List.length r4:Nat):Int)))) (h:=dB)) (EP.f (by simp only [al,ay,aZ,bq,c4,dB];kernel_rfl)))
   exact (EP.u 0 (Z9 (c:=(decide (a5.1≥((List.length r4:Nat):Int)))) (h:=dA)) (EP.u 4 (Zac (ys:=[Zab false r4]) (h:=Zai eI64)) (EP.f (by simp only [al,ay,aZ,bq,c4,dA];kernel_rfl))))
  refine tq (it h (λgV h=>?_) (λgV h=>?_))
  ·refine sq (rg Z5.f (tq (rt (tr (br (tr (tr (br (tr ?_)))))))))
   cases h
   exact Zaq kr
  refine sk (tq (kq (sq ?_)))
  obtain ⟨eT,cw,h⟩:=bs h
  obtain ⟨eS,cv,h⟩:=bs h
  obtain ⟨bI,fs,h⟩:=bs h
  refine rq (Z5.u 4 (Zac (ys:=[Zab false r4,iv a5.1]) (h:=Zaa eI64 cw)) (Z5.u 0 (Zay (Zao (sz:=1) (off:=0) (cs:=[.int .i64 eT]) (r:=iv eT) eI64 cw)) (Z5.u 3 (Zac (ys:=[Zab false r4,iv a5.2.1]) (h:=Zaa eI64 cv)) (Z5.u 0 (Zay (Zao (sz:=1) (off:=0) (cs:=[.int .i64 eS]) (r:=iv eS) eI64 cv)) (Z5.v 0 (Zak (hc:=ZaI N r3 a5.1 eT a5.2.1 eS bI fs)) Z5.f))))) (tq (sq (rgX ⟨[(9,.loc 9 0),(10,Zab false r4),(31,.agg (Zad r5)),(32,iv 2),(102,bv ((!bI.1)||(bI.2 != 0)))],[(9,(Z4 r3))],[]⟩ ?_ ?_)))
  ·rcases Bool.eq_false_or_eq_true (!bI.1) with dz|dy
   ·exact (EP.u 1 (Z9 (c:=(!bI.1)) (h:=dz)) (EP.f (by simp only [dz];kernel_rfl)))
   exact (EP.u 1 (Z9 (c:=(!bI.1)) (h:=dy)) (EP.f (by simp only [dy];kernel_rfl)))
  refine tq (it h (λgU h=>?_) (λgU h=>?_))
  ·refine sq (rg Z5.f (tq (rt (br (tr (tr (br (tr ?_))))))))
   cases h
   exact Zaq kr
  refine sk (bn (tq (kq (rg Z5.f (tq (ZaV (sq (rg Z5.f (tq (sq (ZcV kr (sk (tq (kq (sq (bk (sq (rg Z5.f (tq (sq (sq ?_)))))))))))))))))))))
  obtain ⟨iw,fr,h⟩:=bs h
  refine rg (Z5.v 2 (Zak (hc:=ZaG N r3 r5.x3 iw fr)) Z5.f) (tq (it h (λgT h=>?_) (λgT h=>?_)))
  ·refine kq (xq (tx (bx (tq (kq (rg Z5.f (tq (ZaV (sq (rg Z5.f (tq (sq (ZbR kr (kq (xq (tx (tx (bx (tq (sq (rg Z5.f (tq (rt ?_)))))))))))))))))))))))
   cases h
   exact Zaq kr
  refine sk (tq (kq (sq ?_)))
  obtain ⟨aK,fq,h⟩:=bs h
  refine rg (Z5.v 2 (Zak (hc:=Za7 N r3 r4 aK fq)) Z5.f) (tq (sq ?_))
  obtain ⟨a4,fp,h⟩:=bs h
  refine rg (Z5.v 3 (Zak (hc:=Za1 N r3 r5.x3 r4 a4 fp)) Z5.f) (tq (sq (sq (rgX ⟨[(9,.loc 9 0),(10,Zab false r4),(15,iv a4.1),(16,iv a4.2.1),(31,.agg (Zad r5)),(32,iv 3),(81,bv (aK.1||((aK.2 != 0)||((a4.2.2 != 0)||((decide (a4.1<0))||((decide (a4.2.1<0))||((decide (a4.1≥((List.length r4:Nat):Int)))||(decide (a4.2.1≥((List.length r4:Nat):Int))))))))))],[(9,(Z4 r3))],[]⟩ ?_ ?_))))
  ·rcases Bool.eq_false_or_eq_true aK.1 with dx|ak
   ·exact (EP.u 0 (Z9 (c:=aK.1) (h:=dx)) (EP.f (by simp only [dx];kernel_rfl)))
   refine (EP.u 0 (Z9 (c:=aK.1) (h:=ak)) ?_)
   rcases Bool.eq_false_or_eq_true (aK.2 != 0) with dw|ax
   ·exact (EP.u 2 (Z9 (c:=(aK.2 != 0)) (h:=dw)) (EP.f (by simp only [ak,dw];kernel_rfl)))
   refine (EP.u 2 (Z9 (c:=(aK.2 != 0)) (h:=ax)) ?_)
   rcases Bool.eq_false_or_eq_true (a4.2.2 != 0) with dv|aY
   ·exact (EP.u 3 (Z9 (c:=(a4.2.2 != 0)) (h:=dv)) (EP.f (by simp only [ak,ax,dv];kernel_rfl)))
   refine (EP.u 3 (Z9 (c:=(a4.2.2 != 0)) (h:=aY)) ?_)
   rcases Bool.eq_false_or_eq_true (decide (a4.1<0)) with du|bp
   ·exact (EP.u 3 (Z9 (c:=(decide (a4.1<0))) (h:=du)) (EP.f (by simp only [ak,ax,aY,du];kernel_rfl)))
   refine (EP.u 3 (Z9 (c:=(decide (a4.1<0))) (h:=bp)) ?_)
   rcases Bool.eq_false_or_eq_true (decide (a4.2.1<0)) with dt|c3
   ·exact (EP.u 3 (Z9 (c:=(decide (a4.2.1<0))) (h:=dt)) (EP.f (by simp only [ak,ax,aY,bp,dt];kernel_rfl)))
   refine (EP.u 3 (Z9 (c:=(decide (a4.2.1<0))) (h:=c3)) (EP.u 4 (Zac (ys:=[Zab false r4]) (h:=Zai eI64)) ?_))
   rcases Bool.eq_false_or_eq_true (decide (a4.1≥((List.length r4:Nat):Int))) with ds|dr
   ·exact (EP.u 0 (Z9 (c:=(decide (a4.1≥((List.length r4:Nat):Int)))) (h:=ds)) (EP.f (by simp only [ak,ax,aY,bp,c3,ds];kernel_rfl)))
   exact (EP.u 0 (Z9 (c:=(decide (a4.1≥((List.length r4:Nat):Int)))) (h:=dr)) (EP.u 4 (Zac (ys:=[Zab false r4]) (h:=Zai eI64)) (EP.f (by simp only [ak,ax,aY,bp,c3,dr];kernel_rfl))))
  refine tq (it h (λgR h=>?_) (λgR h=>?_))
  ·refine sq (rg Z5.f (tq (rt (tr (br (tr (tr (br (tr ?_)))))))))
   cases h
   exact Zaq kr
  refine sk (tq (kq (sq ?_)))
  obtain ⟨eR,cu,h⟩:=bs h
  obtain ⟨eQ,ct,h⟩:=bs h
  obtain ⟨bG,fo,h⟩:=bs h
  refine rq (Z5.u 4 (Zac (ys:=[Zab false r4,iv a4.1]) (h:=Zaa eI64 cu)) (Z5.u 0 (Zay (Zao (sz:=1) (off:=0) (cs:=[.int .i64 eR]) (r:=iv eR) eI64 cu)) (Z5.u 3 (Zac (ys:=[Zab false r4,iv a4.2.1]) (h:=Zaa eI64 ct)) (Z5.u 0 (Zay (Zao (sz:=1) (off:=0) (cs:=[.int .i64 eQ]) (r:=iv eQ) eI64 ct)) (Z5.v 0 (Zak (hc:=ZaI N r3 a4.1 eR a4.2.1 eQ bG fo)) Z5.f))))) (tq (sq (rgX ⟨[(9,.loc 9 0),(10,Zab false r4),(31,.agg (Zad r5)),(32,iv 3),(102,bv ((!bG.1)||(bG.2 != 0)))],[(9,(Z4 r3))],[]⟩ ?_ ?_)))
  ·rcases Bool.eq_false_or_eq_true (!bG.1) with dq|dp
   ·exact (EP.u 1 (Z9 (c:=(!bG.1)) (h:=dq)) (EP.f (by simp only [dq];kernel_rfl)))
   exact (EP.u 1 (Z9 (c:=(!bG.1)) (h:=dp)) (EP.f (by simp only [dp];kernel_rfl)))
  refine tq (it h (λgM h=>?_) (λgM h=>?_))
  ·refine sq (rg Z5.f (tq (rt (br (tr (tr (br (tr ?_))))))))
   cases h
   exact Zaq kr
  refine sk (bn (tq (kq (rg Z5.f (tq (ZaV (sq (rg Z5.f (tq (sq (ZbR kr (kq (xq (tx (tx (bx (tq (sq (rg Z5.f (tq (rt ?_)))))))))))))))))))))
  cases h
  exact Zaq kr
 refine sk (tq (kq (sq ?_)))
 obtain ⟨aJ,fn,h⟩:=bs h
 refine rg (Z5.v 2 (Zak (hc:=Za7 N r3 r4 aJ fn)) Z5.f) (tq (sq ?_))
 obtain ⟨a3,fm,h⟩:=bs h
 refine rg (Z5.v 3 (Zak (hc:=Za1 N r3 r5.x1 r4 a3 fm)) Z5.f) (tq (sq (sq (rgX ⟨[(9,.loc 9 0),(10,Zab false r4),(15,iv a3.1),(16,iv a3.2.1),(31,.agg (Zad r5)),(32,iv 1),(81,bv (aJ.1||((aJ.2 != 0)||((a3.2.2 != 0)||((decide (a3.1<0))||((decide (a3.2.1<0))||((decide (a3.1≥((List.length r4:Nat):Int)))||(decide (a3.2.1≥((List.length r4:Nat):Int))))))))))],[(9,(Z4 r3))],[]⟩ ?_ ?_))))
 ·rcases Bool.eq_false_or_eq_true aJ.1 with dn|aj
  ·exact (EP.u 0 (Z9 (c:=aJ.1) (h:=dn)) (EP.f (by simp only [dn];kernel_rfl)))
  refine (EP.u 0 (Z9 (c:=aJ.1) (h:=aj)) ?_)
  rcases Bool.eq_false_or_eq_true (aJ.2 != 0) with dm|aw
  ·exact (EP.u 2 (Z9 (c:=(aJ.2 != 0)) (h:=dm)) (EP.f (by simp only [aj,dm];kernel_rfl)))
  refine (EP.u 2 (Z9 (c:=(aJ.2 != 0)) (h:=aw)) ?_)
  rcases Bool.eq_false_or_eq_true (a3.2.2 != 0) with dl|aX
  ·exact (EP.u 3 (Z9 (c:=(a3.2.2 != 0)) (h:=dl)) (EP.f (by simp only [aj,aw,dl];kernel_rfl)))
  refine (EP.u 3 (Z9 (c:=(a3.2.2 != 0)) (h:=aX)) ?_)
  rcases Bool.eq_false_or_eq_true (decide (a3.1<0)) with dk|bm
  ·exact (EP.u 3 (Z9 (c:=(decide (a3.1<0))) (h:=dk)) (EP.f (by simp only [aj,aw,aX,dk];kernel_rfl)))
  refine (EP.u 3 (Z9 (c:=(decide (a3.1<0))) (h:=bm)) ?_)
  rcases Bool.eq_false_or_eq_true (decide (a3.2.1<0)) with dj|c2
  ·exact (EP.u 3 (Z9 (c:=(decide (a3.2.1<0))) (h:=dj)) (EP.f (by simp only [aj,aw,aX,bm,dj];kernel_rfl)))
  refine (EP.u 3 (Z9 (c:=(decide (a3.2.1<0))) (h:=c2)) (EP.u 4 (Zac (ys:=[Zab false r4]) (h:=Zai eI64)) ?_))
  rcases Bool.eq_false_or_eq_true (decide (a3.1≥((List.length r4:Nat):Int))) with di|dg
  ·exact (EP.u 0 (Z9 (c:=(decide (a3.1≥((List.length r4:Nat):Int)))) (h:=di)) (EP.f (by simp only [aj,aw,aX,bm,c2,di];kernel_rfl)))
  exact (EP.u 0 (Z9 (c:=(decide (a3.1≥((List.length r4:Nat):Int)))) (h:=dg)) (EP.u 4 (Zac (ys:=[Zab false r4]) (h:=Zai eI64)) (EP.f (by simp only [aj,aw,aX,bm,c2,dg];kernel_rfl))))
 refine tq (it h (λgK h=>?_) (λgK h=>?_))
 ·refine sq (rg Z5.f (tq (rt (tr (br (tr (tr (br (tr ?_)))))))))
  cases h
  exact Zaq kr
 refine sk (tq (kq (sq ?_)))
 obtain ⟨eM,cr,h⟩:=bs h
 obtain ⟨eL,cq,h⟩:=bs h
 obtain ⟨bE,fl,h⟩:=bs h
 refine rq (Z5.u 4 (Zac (ys:=[Zab false r4,iv a3.1]) (h:=Zaa eI64 cr)) (Z5.u 0 (Zay (Zao (sz:=1) (off:=0) (cs:=[.int .i64 eM]) (r:=iv eM) eI64 cr)) (Z5.u 3 (Zac (ys:=[Zab false r4,iv a3.2.1]) (h:=Zaa eI64 cq)) (Z5.u 0 (Zay (Zao (sz:=1) (off:=0) (cs:=[.int .i64 eL]) (r:=iv eL) eI64 cq)) (Z5.v 0 (Zak (hc:=ZaI N r3 a3.1 eM a3.2.1 eL bE fl)) Z5.f))))) (tq (sq (rgX ⟨[(9,.loc 9 0),(10,Zab false r4),(31,.agg (Zad r5)),(32,iv 1),(102,bv ((!bE.1)||(bE.2 != 0)))],[(9,(Z4 r3))],[]⟩ ?_ ?_)))
 ·rcases Bool.eq_false_or_eq_true (!bE.1) with df|de
  ·exact (EP.u 1 (Z9 (c:=(!bE.1)) (h:=df)) (EP.f (by simp only [df];kernel_rfl)))
  exact (EP.u 1 (Z9 (c:=(!bE.1)) (h:=de)) (EP.f (by simp only [de];kernel_rfl)))
 refine tq (it h (λgJ h=>?_) (λgJ h=>?_))
 ·refine sq (rg Z5.f (tq (rt (br (tr (tr (br (tr ?_))))))))
  cases h
  exact Zaq kr
 refine sk (bn (tq (kq (rg Z5.f (tq (ZaV (sq (rg Z5.f (tq (sq (ZcV kr (sk (tq (kq (sq (bk (sq (rg Z5.f (tq (sq (sq ?_)))))))))))))))))))))
 obtain ⟨iu,fk,h⟩:=bs h
 refine rg (Z5.v 2 (Zak (hc:=ZaG N r3 r5.x2 iu fk)) Z5.f) (tq (it h (λgI h=>?_) (λgI h=>?_)))
 ·refine kq (xq (tx (bx (tq (kq (rg Z5.f (tq (ZaV (sq (rg Z5.f (tq (sq (ZcV kr (sk (tq (kq (sq (bk (sq (rg Z5.f (tq (sq (sq ?_)))))))))))))))))))))))
  obtain ⟨ir,fj,h⟩:=bs h
  refine rg (Z5.v 2 (Zak (hc:=ZaG N r3 r5.x3 ir fj)) Z5.f) (tq (it h (λgG h=>?_) (λgG h=>?_)))
  ·refine kq (xq (tx (bx (tq (kq (rg Z5.f (tq (ZaV (sq (rg Z5.f (tq (sq (ZbR kr (kq (xq (tx (tx (bx (tq (sq (rg Z5.f (tq (rt ?_)))))))))))))))))))))))
   cases h
   exact Zaq kr
  refine sk (tq (kq (sq ?_)))
  obtain ⟨aI,fi,h⟩:=bs h
  refine rg (Z5.v 2 (Zak (hc:=Za7 N r3 r4 aI fi)) Z5.f) (tq (sq ?_))
  obtain ⟨a2,fg,h⟩:=bs h
  refine rg (Z5.v 3 (Zak (hc:=Za1 N r3 r5.x3 r4 a2 fg)) Z5.f) (tq (sq (sq (rgX ⟨[(9,.loc 9 0),(10,Zab false r4),(15,iv a2.1),(16,iv a2.2.1),(31,.agg (Zad r5)),(32,iv 3),(81,bv (aI.1||((aI.2 != 0)||((a2.2.2 != 0)||((decide (a2.1<0))||((decide (a2.2.1<0))||((decide (a2.1≥((List.length r4:Nat):Int)))||(decide (a2.2.1≥((List.length r4:Nat):Int))))))))))],[(9,(Z4 r3))],[]⟩ ?_ ?_))))
  ·rcases Bool.eq_false_or_eq_true aI.1 with dd|ai
   ·exact (EP.u 0 (Z9 (c:=aI.1) (h:=dd)) (EP.f (by simp only [dd];kernel_rfl)))
   refine (EP.u 0 (Z9 (c:=aI.1) (h:=ai)) ?_)
   rcases Bool.eq_false_or_eq_true (aI.2 != 0) with dc|av
   ·exact (EP.u 2 (Z9 (c:=(aI.2 != 0)) (h:=dc)) (EP.f (by simp only [ai,dc];kernel_rfl)))
   refine (EP.u 2 (Z9 (c:=(aI.2 != 0)) (h:=av)) ?_)
   rcases Bool.eq_false_or_eq_true (a2.2.2 != 0) with db|aW
   ·exact (EP.u 3 (Z9 (c:=(a2.2.2 != 0)) (h:=db)) (EP.f (by simp only [ai,av,db];kernel_rfl)))
   refine (EP.u 3 (Z9 (c:=(a2.2.2 != 0)) (h:=aW)) ?_)
   rcases Bool.eq_false_or_eq_true (decide (a2.1<0)) with da|bl
   ·exact (EP.u 3 (Z9 (c:=(decide (a2.1<0))) (h:=da)) (EP.f (by simp only [ai,av,aW,da];kernel_rfl)))
   refine (EP.u 3 (Z9 (c:=(decide (a2.1<0))) (h:=bl)) ?_)
   rcases Bool.eq_false_or_eq_true (decide (a2.2.1<0)) with d9|c1
   ·exact (EP.u 3 (Z9 (c:=(decide (a2.2.1<0))) (h:=d9)) (EP.f (by simp only [ai,av,aW,bl,d9];kernel_rfl)))
   refine (EP.u 3 (Z9 (c:=(decide (a2.2.1<0))) (h:=c1)) (EP.u 4 (Zac (ys:=[Zab false r4]) (h:=Zai eI64)) ?_))
   rcases Bool.eq_false_or_eq_true (decide (a2.1≥((List.length r4:Nat):Int))) with d8|d7
   ·exact (EP.u 0 (Z9 (c:=(decide (a2.1≥((List.length r4:Nat):Int)))) (h:=d8)) (EP.f (by simp only [ai,av,aW,bl,c1,d8];kernel_rfl)))
   exact (EP.u 0 (Z9 (c:=(decide (a2.1≥((List.length r4:Nat):Int)))) (h:=d7)) (EP.u 4 (Zac (ys:=[Zab false r4]) (h:=Zai eI64)) (EP.f (by simp only [ai,av,aW,bl,c1,d7];kernel_rfl))))
  refine tq (it h (λgE h=>?_) (λgE h=>?_))
  ·refine sq (rg Z5.f (tq (rt (tr (br (tr (tr (br (tr ?_)))))))))
   cases h
   exact Zaq kr
  refine sk (tq (kq (sq ?_)))
  obtain ⟨eK,cp,h⟩:=bs h
  obtain ⟨eJ,co,h⟩:=bs h
  obtain ⟨bD,ff,h⟩:=bs h
  refine rq (Z5.u 4 (Zac (ys:=[Zab false r4,iv a2.1]) (h:=Zaa eI64 cp)) (Z5.u 0 (Zay (Zao (sz:=1) (off:=0) (cs:=[.int .i64 eK]) (r:=iv eK) eI64 cp)) (Z5.u 3 (Zac (ys:=[Zab false r4,iv a2.2.1]) (h:=Zaa eI64 co)) (Z5.u 0 (Zay (Zao (sz:=1) (off:=0) (cs:=[.int .i64 eJ]) (r:=iv eJ) eI64 co)) (Z5.v 0 (Zak (hc:=ZaI N r3 a2.1 eK a2.2.1 eJ bD ff)) Z5.f))))) (tq (sq (rgX ⟨[(9,.loc 9 0),(10,Zab false r4),(31,.agg (Zad r5)),(32,iv 3),(102,bv ((!bD.1)||(bD.2 != 0)))],[(9,(Z4 r3))],[]⟩ ?_ ?_)))
  ·rcases Bool.eq_false_or_eq_true (!bD.1) with d6|d5
   ·exact (EP.u 1 (Z9 (c:=(!bD.1)) (h:=d6)) (EP.f (by simp only [d6];kernel_rfl)))
   exact (EP.u 1 (Z9 (c:=(!bD.1)) (h:=d5)) (EP.f (by simp only [d5];kernel_rfl)))
  refine tq (it h (λgD h=>?_) (λgD h=>?_))
  ·refine sq (rg Z5.f (tq (rt (br (tr (tr (br (tr ?_))))))))
   cases h
   exact Zaq kr
  refine sk (bn (tq (kq (rg Z5.f (tq (ZaV (sq (rg Z5.f (tq (sq (ZbR kr (kq (xq (tx (tx (bx (tq (sq (rg Z5.f (tq (rt ?_)))))))))))))))))))))
  cases h
  exact Zaq kr
 refine sk (tq (kq (sq ?_)))
 obtain ⟨aG,fe,h⟩:=bs h
 refine rg (Z5.v 2 (Zak (hc:=Za7 N r3 r4 aG fe)) Z5.f) (tq (sq ?_))
 obtain ⟨a1,fd,h⟩:=bs h
 refine rg (Z5.v 3 (Zak (hc:=Za1 N r3 r5.x2 r4 a1 fd)) Z5.f) (tq (sq (sq (rgX ⟨[(9,.loc 9 0),(10,Zab false r4),(15,iv a1.1),(16,iv a1.2.1),(31,.agg (Zad r5)),(32,iv 2),(81,bv (aG.1||((aG.2 != 0)||((a1.2.2 != 0)||((decide (a1.1<0))||((decide (a1.2.1<0))||((decide (a1.1≥((List.length r4:Nat):Int)))||(decide (a1.2.1≥((List.length r4:Nat):Int))))))))))],[(9,(Z4 r3))],[]⟩ ?_ ?_))))
 ·rcases Bool.eq_false_or_eq_true aG.1 with d4|ag
  ·exact (EP.u 0 (Z9 (c:=aG.1) (h:=d4)) (EP.f (by simp only [d4];kernel_rfl)))
  refine (EP.u 0 (Z9 (c:=aG.1) (h:=ag)) ?_)
  rcases Bool.eq_false_or_eq_true (aG.2 != 0) with d3|au
  ·exact (EP.u 2 (Z9 (c:=(aG.2 != 0)) (h:=d3)) (EP.f (by simp only [ag,d3];kernel_rfl)))
  refine (EP.u 2 (Z9 (c:=(aG.2 != 0)) (h:=au)) ?_)
  rcases Bool.eq_false_or_eq_true (a1.2.2 != 0) with d2|aV
  ·exact (EP.u 3 (Z9 (c:=(a1.2.2 != 0)) (h:=d2)) (EP.f (by simp only [ag,au,d2];kernel_rfl)))
  refine (EP.u 3 (Z9 (c:=(a1.2.2 != 0)) (h:=aV)) ?_)
  rcases Bool.eq_false_or_eq_true (decide (a1.1<0)) with d1|bj
  ·exact (EP.u 3 (Z9 (c:=(decide (a1.1<0))) (h:=d1)) (EP.f (by simp only [ag,au,aV,d1];kernel_rfl)))
  refine (EP.u 3 (Z9 (c:=(decide (a1.1<0))) (h:=bj)) ?_)
  rcases Bool.eq_false_or_eq_true (decide (a1.2.1<0)) with d0|c0
  ·exact (EP.u 3 (Z9 (c:=(decide (a1.2.1<0))) (h:=d0)) (EP.f (by simp only [ag,au,aV,bj,d0];kernel_rfl)))
  refine (EP.u 3 (Z9 (c:=(decide (a1.2.1<0))) (h:=c0)) (EP.u 4 (Zac (ys:=[Zab false r4]) (h:=Zai eI64)) ?_))
  rcases Bool.eq_false_or_eq_true (decide (a1.1≥((List.length r4:Nat):Int))) with cZ|cY
  ·exact (EP.u 0 (Z9 (c:=(decide (a1.1≥((List.length r4:Nat):Int)))) (h:=cZ)) (EP.f (by simp only [ag,au,aV,bj,c0,cZ];kernel_rfl)))
  exact (EP.u 0 (Z9 (c:=(decide (a1.1≥((List.length r4:Nat):Int)))) (h:=cY)) (EP.u 4 (Zac (ys:=[Zab false r4]) (h:=Zai eI64)) (EP.f (by simp only [ag,au,aV,bj,c0,cY];kernel_rfl))))
 refine tq (it h (λgB h=>?_) (λgB h=>?_))
 ·refine sq (rg Z5.f (tq (rt (tr (br (tr (tr (br (tr ?_)))))))))
  cases h
  exact Zaq kr
 refine sk (tq (kq (sq ?_)))
 obtain ⟨eG,cn,h⟩:=bs h
 obtain ⟨eE,cm,h⟩:=bs h
 obtain ⟨bC,fc,h⟩:=bs h
 refine rq (Z5.u 4 (Zac (ys:=[Zab false r4,iv a1.1]) (h:=Zaa eI64 cn)) (Z5.u 0 (Zay (Zao (sz:=1) (off:=0) (cs:=[.int .i64 eG]) (r:=iv eG) eI64 cn)) (Z5.u 3 (Zac (ys:=[Zab false r4,iv a1.2.1]) (h:=Zaa eI64 cm)) (Z5.u 0 (Zay (Zao (sz:=1) (off:=0) (cs:=[.int .i64 eE]) (r:=iv eE) eI64 cm)) (Z5.v 0 (Zak (hc:=ZaI N r3 a1.1 eG a1.2.1 eE bC fc)) Z5.f))))) (tq (sq (rgX ⟨[(9,.loc 9 0),(10,Zab false r4),(31,.agg (Zad r5)),(32,iv 2),(102,bv ((!bC.1)||(bC.2 != 0)))],[(9,(Z4 r3))],[]⟩ ?_ ?_)))
 ·rcases Bool.eq_false_or_eq_true (!bC.1) with cX|cW
  ·exact (EP.u 1 (Z9 (c:=(!bC.1)) (h:=cX)) (EP.f (by simp only [cX];kernel_rfl)))
  exact (EP.u 1 (Z9 (c:=(!bC.1)) (h:=cW)) (EP.f (by simp only [cW];kernel_rfl)))
 refine tq (it h (λgA h=>?_) (λgA h=>?_))
 ·refine sq (rg Z5.f (tq (rt (br (tr (tr (br (tr ?_))))))))
  cases h
  exact Zaq kr
 refine sk (bn (tq (kq (rg Z5.f (tq (ZaV (sq (rg Z5.f (tq (sq (ZcV kr (sk (tq (kq (sq (bk (sq (rg Z5.f (tq (sq (sq ?_)))))))))))))))))))))
 obtain ⟨iq,fb,h⟩:=bs h
 refine rg (Z5.v 2 (Zak (hc:=ZaG N r3 r5.x3 iq fb)) Z5.f) (tq (it h (λgz h=>?_) (λgz h=>?_)))
 ·refine kq (xq (tx (bx (tq (kq (rg Z5.f (tq (ZaV (sq (rg Z5.f (tq (sq (ZbR kr (kq (xq (tx (tx (bx (tq (sq (rg Z5.f (tq (rt ?_)))))))))))))))))))))))
  cases h
  exact Zaq kr
 refine sk (tq (kq (sq ?_)))
 obtain ⟨aE,fa,h⟩:=bs h
 refine rg (Z5.v 2 (Zak (hc:=Za7 N r3 r4 aE fa)) Z5.f) (tq (sq ?_))
 obtain ⟨a0,f9,h⟩:=bs h
 refine rg (Z5.v 3 (Zak (hc:=Za1 N r3 r5.x3 r4 a0 f9)) Z5.f) (tq (sq (sq (rgX ⟨[(9,.loc 9 0),(10,Zab false r4),(15,iv a0.1),(16,iv a0.2.1),(31,.agg (Zad r5)),(32,iv 3),(81,bv (aE.1||((aE.2 != 0)||((a0.2.2 != 0)||((decide (a0.1<0))||((decide (a0.2.1<0))||((decide (a0.1≥((List.length r4:Nat):Int)))||(decide (a0.2.1≥((List.length r4:Nat):Int))))))))))],[(9,(Z4 r3))],[]⟩ ?_ ?_))))
 ·rcases Bool.eq_false_or_eq_true aE.1 with cV|af
  ·exact (EP.u 0 (Z9 (c:=aE.1) (h:=cV)) (EP.f (by simp only [cV];kernel_rfl)))
  refine (EP.u 0 (Z9 (c:=aE.1) (h:=af)) ?_)
  rcases Bool.eq_false_or_eq_true (aE.2 != 0) with cU|ar
  ·exact (EP.u 2 (Z9 (c:=(aE.2 != 0)) (h:=cU)) (EP.f (by simp only [af,cU];kernel_rfl)))
  refine (EP.u 2 (Z9 (c:=(aE.2 != 0)) (h:=ar)) ?_)
  rcases Bool.eq_false_or_eq_true (a0.2.2 != 0) with cT|aU
  ·exact (EP.u 3 (Z9 (c:=(a0.2.2 != 0)) (h:=cT)) (EP.f (by simp only [af,ar,cT];kernel_rfl)))
  refine (EP.u 3 (Z9 (c:=(a0.2.2 != 0)) (h:=aU)) ?_)
  rcases Bool.eq_false_or_eq_true (decide (a0.1<0)) with cS|bi
  ·exact (EP.u 3 (Z9 (c:=(decide (a0.1<0))) (h:=cS)) (EP.f (by simp only [af,ar,aU,cS];kernel_rfl)))
  refine (EP.u 3 (Z9 (c:=(decide (a0.1<0))) (h:=bi)) ?_)
  rcases Bool.eq_false_or_eq_true (decide (a0.2.1<0)) with cR|bZ
  ·exact (EP.u 3 (Z9 (c:=(decide (a0.2.1<0))) (h:=cR)) (EP.f (by simp only [af,ar,aU,bi,cR];kernel_rfl)))
  refine (EP.u 3 (Z9 (c:=(decide (a0.2.1<0))) (h:=bZ)) (EP.u 4 (Zac (ys:=[Zab false r4]) (h:=Zai eI64)) ?_))
  rcases Bool.eq_false_or_eq_true (decide (a0.1≥((List.length r4:Nat):Int))) with cQ|cM
  ·exact (EP.u 0 (Z9 (c:=(decide (a0.1≥((List.length r4:Nat):Int)))) (h:=cQ)) (EP.f (by simp only [af,ar,aU,bi,bZ,cQ];kernel_rfl)))
  exact (EP.u 0 (Z9 (c:=(decide (a0.1≥((List.length r4:Nat):Int)))) (h:=cM)) (EP.u 4 (Zac (ys:=[Zab false r4]) (h:=Zai eI64)) (EP.f (by simp only [af,ar,aU,bi,bZ,cM];kernel_rfl))))
 refine tq (it h (λgx h=>?_) (λgx h=>?_))
 ·refine sq (rg Z5.f (tq (rt (tr (br (tr (tr (br (tr ?_)))))))))
  cases h
  exact Zaq kr
 refine sk (tq (kq (sq ?_)))
 obtain ⟨eD,cl,h⟩:=bs h
 obtain ⟨eC,ck,h⟩:=bs h
 obtain ⟨bB,f8,h⟩:=bs h
 refine rq (Z5.u 4 (Zac (ys:=[Zab false r4,iv a0.1]) (h:=Zaa eI64 cl)) (Z5.u 0 (Zay (Zao (sz:=1) (off:=0) (cs:=[.int .i64 eD]) (r:=iv eD) eI64 cl)) (Z5.u 3 (Zac (ys:=[Zab false r4,iv a0.2.1]) (h:=Zaa eI64 ck)) (Z5.u 0 (Zay (Zao (sz:=1) (off:=0) (cs:=[.int .i64 eC]) (r:=iv eC) eI64 ck)) (Z5.v 0 (Zak (hc:=ZaI N r3 a0.1 eD a0.2.1 eC bB f8)) Z5.f))))) (tq (sq (rgX ⟨[(9,.loc 9 0),(10,Zab false r4),(31,.agg (Zad r5)),(32,iv 3),(102,bv ((!bB.1)||(bB.2 != 0)))],[(9,(Z4 r3))],[]⟩ ?_ ?_)))
 ·rcases Bool.eq_false_or_eq_true (!bB.1) with cL|cK
  ·exact (EP.u 1 (Z9 (c:=(!bB.1)) (h:=cL)) (EP.f (by simp only [cL];kernel_rfl)))
  exact (EP.u 1 (Z9 (c:=(!bB.1)) (h:=cK)) (EP.f (by simp only [cK];kernel_rfl)))
 refine tq (it h (λgw h=>?_) (λgw h=>?_))
 ·refine sq (rg Z5.f (tq (rt (br (tr (tr (br (tr ?_))))))))
  cases h
  exact Zaq kr
 refine sk (bn (tq (kq (rg Z5.f (tq (ZaV (sq (rg Z5.f (tq (sq (ZbR kr (kq (xq (tx (tx (bx (tq (sq (rg Z5.f (tq (rt ?_)))))))))))))))))))))
 cases h
 exact Zaq kr
end Go.Sh

