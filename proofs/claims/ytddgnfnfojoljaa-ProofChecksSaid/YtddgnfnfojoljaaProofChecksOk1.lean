/- Part of the proof. -/
import Derived.Test.YtddgnfnfojoljaaProofChecksSh
import Derived.Test.YtddgnfnfojoljaaProofChecksChk
set_option linter.all false
namespace Go.Sh
open Go Go.Eng Go.Proofs
set_option maxRecDepth 100000
set_option maxHeartbeats 4000000
attribute [local irreducible] vc ev Zfb opsD opsF Zgh upd updH updO
theorem Zbi (N:Nat)(a0_:Zbk)(r:Z4)(h:ZaT N a0_=some r):Zbc Try.prog 8 [.agg (ZaI a0_)] (.agg [Zag false r.Periods,Zac false r.Uses]):=by
 unfold ZaT at h
 have hH  := hp0
 refine ZaD chk8 rfl rfl (Zas _ _ _ ?_) rfl
 refine sq (rg Z1.f (tq (sq (rg Z1.f (tq (sq (sq (rg Z1.f (tq (bk ?_))))))))))
 obtain ⟨a5,az,h⟩:=bs h
 refine ZaN ((ZaC (λ(x:Int×(List Int)) s=>∃ (a1:AV) (H2:List HO),s=⟨[(1,.loc 1 0),(2,.loc 2 0),(3,.loc 3 0),(4,iv x.1)],[(1,(ZaI a0_)),(2,[Zag true [],Zac true []]),(3,[a1,Zac true []])],H2⟩/\HP H2 [.arr a1 1 false (List.map eI64 x.2)]) (λx:Int×(List Int)=>Za4 N a0_ x.1 x.2) (λ(p:(List Int)) e s=>e=.exit 0/\(∃ (ak:AV) (ar:List HO),s=⟨[(1,.loc 1 0),(2,.loc 2 0),(3,.loc 3 0)],[(1,(ZaI a0_)),(2,[Zag true [],Zac true []]),(3,[ak,Zac true []])],ar⟩/\HP ar [.arr ak 1 false (List.map eI64 p)])) ?_ N _ a5 _ az ⟨(.p (.sl 1 true [])),[],kr,(HP.pick (HP.nilArr hH 1 false) [0] rfl)⟩).mono ?_)
 ·clear h az
  rintro ⟨i3,l4⟩ o s h hR
  obtain ⟨a1,H2,rfl,hH⟩:=hR
  replace hH:HP _ [.arr a1 1 false (List.map eI64 l4)]:=hH
  have hfa1:=Zbd (HP.get hH 0 rfl)
  replace h:Za4 N a0_ i3 l4=some o:=h
  unfold Za4 at h
  refine sq (sq (rgX ⟨[(1,.loc 1 0),(2,.loc 2 0),(3,.loc 3 0),(4,iv i3),(17,bv ((decide (i3<((List.length a0_.Periods:Nat):Int)))&&(decide (i3<5))))],[(1,(ZaI a0_)),(2,[Zag true [],Zac true []]),(3,[a1,Zac true []])],H2⟩ ?_ ?_))
  ·refine (EP.u 3 (Zaa (ys:=[Zlp false a0_.Periods]) (h:=Zal (eI .u8))) ?_)
   rcases Bool.eq_false_or_eq_true (decide (i3<((List.length a0_.Periods:Nat):Int))) with aD|aC
   ·exact (EP.u 0 (Z8 (c:=(decide (i3<((List.length a0_.Periods:Nat):Int)))) (h:=aD)) (EP.f (by simp only [aD];cases hfa1<;>kernel_rfl)))
   exact (EP.u 0 (Z8 (c:=(decide (i3<((List.length a0_.Periods:Nat):Int)))) (h:=aC)) (EP.f (by simp only [aC];cases hfa1<;>kernel_rfl)))
  refine tq (it h (λbd h=>?_) (λbd h=>?_))
  ·refine sk (tq (kq (sq (bk ?_))))
   obtain ⟨aV,aB,h⟩:=bs h
   obtain ⟨aU,aA,h⟩:=bs h
   obtain ⟨bi,ba,h⟩:=bs h
   obtain ⟨ay,aW,be,hH⟩:=HP.app (k:=0) (a:=a1) (sz:=1) (frz:=false) eI64 hH rfl ba
   replace hH:HP _ [.arr ay 1 false (List.map eI64 bi)]:=hH
   have af:=Zbd (HP.get hH 0 rfl)
   refine rqS ⟨[(1,.loc 1 0),(2,.loc 2 0),(3,.loc 3 0),(4,iv i3)],[(1,(ZaI a0_)),(2,[Zag true [],Zac true []]),(3,[ay,Zac true []])],aW⟩ (Z1.u (hm:=(by cases hfa1<;>kernel_rfl)) 6 (Zaa (ys:=[Zlp false a0_.Periods,iv i3]) (by cases hfa1<;>kernel_rfl) (Z7 (eI .u8) aB)) (Z1.u (hm:=(by cases hfa1<;>kernel_rfl)) 0 (ZaK (Zam (sz:=1) (off:=0) (cs:=[.int .u8 aV]) (r:=.p (.int .u8 aV)) (eI .u8) aB (by cases hfa1<;>kernel_rfl) (by cases hfa1<;>kernel_rfl) (by cases hfa1<;>kernel_rfl)) (by cases hfa1<;>kernel_rfl)) (Z1.u (hm:=(by cases hfa1<;>kernel_rfl)) 1 (Zaa (ys:=[Zag true [4,6,8,12,3,5,10,24],.p (.int .u8 (Int.tmod aV 8))]) (by cases hfa1<;>kernel_rfl) (Z7 eI64 aA)) (Z1.u (hm:=(by cases hfa1<;>kernel_rfl)) 0 (ZaK (Zam (sz:=1) (off:=0) (cs:=[.int .i64 aU]) (r:=iv aU) eI64 aA (by cases hfa1<;>kernel_rfl) (by cases hfa1<;>kernel_rfl) (by cases hfa1<;>kernel_rfl)) (by cases hfa1<;>kernel_rfl)) (Z1.h (hm:=(by cases hfa1<;>kernel_rfl)) 1 (ZdQ (H:=H2) (a:=a1) (b:=Zag true [aU]) (by cases hfa1<;>kernel_rfl) (by cases hfa1<;>kernel_rfl) (by cases hfa1<;>kernel_rfl) (by cases hfa1<;>kernel_rfl) be) (Z1.f (h:=(by cases hfa1<;>cases af<;>kernel_rfl)))))))) (by cases hfa1<;>cases af<;>kernel_rfl) (bn (tq (rgS ⟨[(1,.loc 1 0),(2,.loc 2 0),(3,.loc 3 0),(4,iv (w64 (i3+1)))],[(1,(ZaI a0_)),(2,[Zag true [],Zac true []]),(3,[ay,Zac true []])],aW⟩ Z1.f (by cases af<;>kernel_rfl) ?_)))
   cases h
   exact ⟨_,rfl,⟨ay,aW,(by show _=_;cases af<;>kernel_rfl),(HP.pick hH [0] rfl)⟩⟩
  refine kq (xq (tx ?_))
  cases h
  exact ⟨_,rfl,rfl,⟨a1,H2,(by show _=_;cases hfa1<;>kernel_rfl),(HP.pick hH [0] rfl)⟩⟩
 rintro e s hq
 obtain ⟨rfl,hR⟩:=hq
 obtain ⟨ak,ar,rfl,hH⟩:=hR
 replace hH:HP _ [.arr ak 1 false (List.map eI64 a5)]:=hH
 have ao:=Zbd (HP.get hH 0 rfl)
 refine bx (tq (sq (sq (rgS ⟨[(1,.loc 1 0),(2,.loc 2 0),(3,.loc 3 0),(5,iv 0)],[(1,(ZaI a0_)),(2,[Zag true [],Zac true []]),(3,[ak,Zac true []])],ar⟩ Z1.f (by cases ao<;>kernel_rfl) (tq (bk ?_))))))
 obtain ⟨al,am,h⟩:=bs h
 refine ZaN ((ZaC (λ(x:Int×(List ZaE)) s=>∃ (a3:AV) (aa:AV) (ab:List HO),s=⟨[(1,.loc 1 0),(2,.loc 2 0),(3,.loc 3 0),(5,iv x.1)],[(1,(ZaI a0_)),(2,[Zag true [],Zac true []]),(3,[a3,aa])],ab⟩/\HP ab [.arr a3 1 false (List.map eI64 a5),.arr aa 4 false (List.map Zaz x.2)]) (λx:Int×(List ZaE)=>Za3 N a0_ a5 x.1 x.2) (λ(p:(List ZaE)) e s=>e=.exit 2/\(∃ (ae:AV) (ad:AV) (ag:List HO),s=⟨[(2,.loc 2 0),(3,.loc 3 0)],[(2,[Zag true [],Zac true []]),(3,[ae,ad])],ag⟩/\HP ag [.arr ae 1 false (List.map eI64 a5),.arr ad 4 false (List.map Zaz p)])) ?_ N _ al _ am ⟨ak,(.p (.sl 4 true [])),ar,(by show _=_;cases ao<;>kernel_rfl),(HP.pick (HP.nilArr hH 4 false) [1,0] rfl)⟩).mono ?_)
 ·clear h am
  rintro ⟨a6,b0⟩ o s h hR
  obtain ⟨a3,aa,ab,rfl,hH⟩:=hR
  replace hH:HP _ [.arr a3 1 false (List.map eI64 a5),.arr aa 4 false (List.map Zaz b0)]:=hH
  have a0:=Zbd (HP.get hH 0 rfl)
  have a2:=Zbd (HP.get hH 1 rfl)
  replace h:Za3 N a0_ a5 a6 b0=some o:=h
  unfold Za3 at h
  refine sq (sq ?_)
  obtain ⟨b2,hj,h⟩:=bs h
  refine rgR (λs=>s=⟨[(1,.loc 1 0),(2,.loc 2 0),(3,.loc 3 0),(5,iv a6),(48,bv b2)],[(1,(ZaI a0_)),(2,[Zag true [],Zac true []]),(3,[a3,aa])],ab⟩) ?_ ?_
  ·clear h
   refine (EP.u 3 (Zaa (ys:=[ZfO false a0_.Uses]) (h:=Zal ZeA)) ?_)
   rcases ZaB hj with ⟨aS,hj⟩|⟨aM,hj⟩
   ·refine (EP.u 0 (Z8 (c:=(decide (a6<((List.length a0_.Uses:Nat):Int)))) (h:=aS)) ?_)
    rcases ZaB hj with ⟨aR,hj⟩|⟨aQ,hj⟩
    ·refine (EP.u 2 (Z8 (c:=(decide (a6<12))) (h:=aR)) ?_)
     have aw:=HP.len (k:=0) (a:=a3) (sz:=1) (frz:=false) (l:=a5) eI64 hH rfl
     obtain rfl:=Zaj hj
     exact (EP.u (hm:=(by cases a0<;>cases a2<;>kernel_rfl)) 4 (Zaa (ys:=[a3]) (by cases a0<;>cases a2<;>kernel_rfl) aw) (EP.f (by show _=_;cases a0<;>cases a2<;>kernel_rfl) (h:=(by cases a0<;>cases a2<;>kernel_rfl))))
    obtain rfl:=Zaj hj
    exact (EP.u 2 (Z8 (c:=(decide (a6<12))) (h:=aQ)) (EP.f (by show _=_;cases a0<;>cases a2<;>kernel_rfl)))
   obtain rfl:=Zaj hj
   exact (EP.u 0 (Z8 (c:=(decide (a6<((List.length a0_.Uses:Nat):Int)))) (h:=aM)) (EP.f (by show _=_;cases a0<;>cases a2<;>kernel_rfl)))
  clear hj
  rintro s hR
  obtain rfl:=hR
  refine tq (it h (λaL h=>?_) (λaL h=>?_))
  ·refine sk (tq (kq (sq (bk (sq ?_)))))
   obtain ⟨a4,aq,h⟩:=bs h
   refine rgS ⟨[(1,.loc 1 0),(2,.loc 2 0),(3,.loc 3 0),(5,iv a6),(6,.loc 6 0)],[(1,(ZaI a0_)),(2,[Zag true [],Zac true []]),(3,[a3,aa]),(6,(Zgl a4))],ab⟩ (Z1.u 3 (Zaa (ys:=[ZfO false a0_.Uses,iv a6]) (h:=Z7 ZeA aq)) (Z1.u 0 (Zam (sz:=4) (off:=0) (cs:=[.int .u8 a4.x0,.int .u8 a4.x1,.int .u8 a4.x2,.int .u8 a4.x3]) (r:=.agg (Zgl a4)) ZeA aq) Z1.f)) (by cases a0<;>cases a2<;>kernel_rfl) (tq (sq ?_))
   have av:=HP.len (k:=0) (a:=a3) (sz:=1) (frz:=false) (l:=a5) eI64 hH rfl
   obtain ⟨ai,aJ,h⟩:=bs h
   refine rgS ⟨[(1,.loc 1 0),(2,.loc 2 0),(3,.loc 3 0),(5,iv a6),(6,.loc 6 0),(7,iv ai)],[(1,(ZaI a0_)),(2,[Zag true [],Zac true []]),(3,[a3,aa]),(6,(Zgl a4))],ab⟩ (Z1.u (hm:=(by cases a0<;>cases a2<;>kernel_rfl)) 5 (Zaa (ys:=[a3]) (by cases a0<;>cases a2<;>kernel_rfl) av) (Z1.u (hm:=(by cases a0<;>cases a2<;>kernel_rfl)) 0 (Zaa (ys:=[iv (w64 (a4.x0)),iv ((List.length a5:Nat):Int)]) (by cases a0<;>cases a2<;>kernel_rfl) (Zba aJ)) (Z1.f (h:=(by cases a0<;>cases a2<;>kernel_rfl))))) (by cases a0<;>cases a2<;>kernel_rfl) (tq (sq ?_))
   obtain ⟨ac,ap,h⟩:=bs h
   obtain ⟨bj,bf,_,bb,ax,bc,an⟩:=HP.elem (k:=0) (a:=a3) (sz:=1) (frz:=false) eI64 hH rfl ap
   refine rgS ⟨[(1,.loc 1 0),(2,.loc 2 0),(3,.loc 3 0),(5,iv a6),(6,.loc 6 0),(7,iv ai),(8,iv ac)],[(1,(ZaI a0_)),(2,[Zag true [],Zac true []]),(3,[a3,aa]),(6,(Zgl a4))],ab⟩ (Z1.u (hm:=(by cases a0<;>cases a2<;>kernel_rfl)) 3 (Zaa (ys:=[a3,iv ai]) (by cases a0<;>cases a2<;>kernel_rfl) (an .i64)) (Z1.u (hm:=(by cases a0<;>cases a2<;>kernel_rfl)) 0 (ZdS (H:=ab) (off:=0) (cs:=[.int .i64 ac]) (r:=iv ac) eI64 ap ax (by cases a0<;>cases a2<;>kernel_rfl) (by cases a0<;>cases a2<;>kernel_rfl) (by cases a0<;>cases a2<;>kernel_rfl) (by cases a0<;>cases a2<;>kernel_rfl)) (Z1.f (h:=(by cases a0<;>cases a2<;>kernel_rfl))))) (by cases a0<;>cases a2<;>kernel_rfl) (tq ?_)
   obtain ⟨aZ,aI,h⟩:=bs h
   obtain ⟨aY,aG,h⟩:=bs h
   obtain ⟨aX,aE,h⟩:=bs h
   obtain ⟨b1,aK,h⟩:=bs h
   obtain ⟨aj,au,aT,hH⟩:=HP.app (k:=1) (a:=aa) (sz:=4) (frz:=false) Zaz hH rfl aK
   replace hH:HP _ [.arr a3 1 false (List.map eI64 a5),.arr aj 4 false (List.map Zaz b1)]:=hH
   have a7:=Zbd (HP.get hH 1 rfl)
   refine rqS ⟨[(1,.loc 1 0),(2,.loc 2 0),(3,.loc 3 0),(5,iv a6)],[(1,(ZaI a0_)),(2,[Zag true [],Zac true []]),(3,[a3,aj])],au⟩ (Z1.u (hm:=(by cases a0<;>cases a2<;>kernel_rfl)) 11 (Zaa (ys:=[iv (w64 (a4.x2)),iv ac]) (by cases a0<;>cases a2<;>kernel_rfl) (Zba aI)) (Z1.u (hm:=(by cases a0<;>cases a2<;>kernel_rfl)) 4 (Zaa (ys:=[iv (w64 (a4.x3)),iv ac]) (by cases a0<;>cases a2<;>kernel_rfl) (Zba aG)) (Z1.u (hm:=(by cases a0<;>cases a2<;>kernel_rfl)) 2 (Zaa (ys:=[iv (Int.tmod aY 4),iv ac]) (by cases a0<;>cases a2<;>kernel_rfl) (Zba aE)) (Z1.h (hm:=(by cases a0<;>cases a2<;>kernel_rfl)) 3 (ZdQ (H:=ab) (a:=aa) (b:=Zac true [(ZaE.mk ai (w64 ((Int.tmod a4.x1 4))) aZ (w64 (1+aX)))]) (by cases a0<;>cases a2<;>kernel_rfl) (by cases a0<;>cases a2<;>kernel_rfl) (by cases a0<;>cases a2<;>kernel_rfl) (by cases a0<;>cases a2<;>kernel_rfl) aT) (Z1.f (h:=(by cases a7<;>cases a0<;>cases a2<;>kernel_rfl))))))) (by cases a7<;>cases a0<;>cases a2<;>kernel_rfl) (bn (tq (rgS ⟨[(1,.loc 1 0),(2,.loc 2 0),(3,.loc 3 0),(5,iv (w64 (a6+1)))],[(1,(ZaI a0_)),(2,[Zag true [],Zac true []]),(3,[a3,aj])],au⟩ Z1.f (by cases a7<;>cases a0<;>kernel_rfl) ?_)))
   cases h
   exact ⟨_,rfl,⟨a3,aj,au,(by show _=_;cases a7<;>cases a0<;>kernel_rfl),(HP.pick hH [0,1] rfl)⟩⟩
  refine kq (xq (tx ?_))
  cases h
  exact ⟨_,rfl,rfl,⟨a3,aa,ab,(by show _=_;cases a0<;>cases a2<;>kernel_rfl),(HP.pick hH [0,1] rfl)⟩⟩
 rintro e s hq
 obtain ⟨rfl,hR⟩:=hq
 obtain ⟨ae,ad,ag,rfl,hH⟩:=hR
 replace hH:HP _ [.arr ae 1 false (List.map eI64 a5),.arr ad 4 false (List.map Zaz al)]:=hH
 have a9:=Zbd (HP.get hH 0 rfl)
 have a8:=Zbd (HP.get hH 1 rfl)
 refine bx (tq (sq (rgS ⟨[(2,.loc 2 0)],[(2,[ae,ad])],ag⟩ (Z1.f (h:=(by cases a9<;>cases a8<;>kernel_rfl))) (by cases a9<;>cases a8<;>kernel_rfl) (tq (rt ?_)))))
 obtain rfl:=Zaj h
 exact ZeK (H:=ag) (ys:=[.agg [ae,ad]]) (xs:=[.agg [.p (.sl 1 false (List.map eI64 a5)),.p (.sl 4 false (List.map Zaz al))]]) (by cases a9<;>cases a8<;>kernel_rfl) (by cases a9<;>cases a8<;>kernel_rfl) (ZbM (Zkw (Zfn (HP.pure (k:=0) (frz:=false) eI64 hH rfl).1 (Zfn (HP.pure (k:=1) (frz:=false) Zaz hH rfl).1 Zkx))) ZcE) kr
theorem ZiS (N:Nat)(r:Z4)(h:ZfV N=some r):Zbc Try.prog 18 [] (.agg [Zag false r.Periods,Zac false r.Uses]):=by
 unfold ZfV at h
 have hH  := hp0
 refine ZaD ZyY rfl rfl (Zas _ _ _ ?_) rfl
 refine sq (rg Z1.f (tq (sq (rg Z1.f (tq (rt ?_))))))
 cases h
 exact Zaq kr
theorem ZbD (N:Nat)(a0_:Int)(a1_:(List Za6))(r:Z3)(h:ZbK N a0_ a1_=some r):Zbc Try.prog 19 [iv a0_,Zby false a1_] (.agg [iv r.Stream,Zaf false r.Arms]):=by
 unfold ZbK at h
 have hH  := hp0
 refine ZaD ZyX rfl rfl (Zas _ _ _ ?_) rfl
 refine sq (rg Z1.f (tq (sq (rg Z1.f (tq (sq (sq (rg Z1.f (tq (bk ?_))))))))))
 obtain ⟨ab,a6,h⟩:=bs h
 refine ZaN ((ZaC (λ(x:Int×(List Zav)) s=>∃ (a1:AV) (H2:List HO),s=⟨[(1,Zby false a1_),(4,.loc 4 0),(5,.loc 5 0),(6,iv x.1)],[(4,[iv 0,Zaf true []]),(5,[iv a0_,a1])],H2⟩/\HP H2 [.arr a1 4 false (List.map Zae x.2)]) (λx:Int×(List Zav)=>Zdf N a1_ x.1 x.2) (λ(p:(List Zav)) e s=>e=.exit 0/\(∃ (a3:AV) (a4:List HO),s=⟨[(4,.loc 4 0),(5,.loc 5 0)],[(4,[iv 0,Zaf true []]),(5,[iv a0_,a3])],a4⟩/\HP a4 [.arr a3 4 false (List.map Zae p)])) ?_ N _ ab _ a6 ⟨(.p (.sl 4 true [])),[],kr,(HP.pick (HP.nilArr hH 4 false) [0] rfl)⟩).mono ?_)
 ·clear h a6
  rintro ⟨i3,l4⟩ o s h hR
  obtain ⟨a1,H2,rfl,hH⟩:=hR
  replace hH:HP _ [.arr a1 4 false (List.map Zae l4)]:=hH
  have hfa1:=Zbd (HP.get hH 0 rfl)
  replace h:Zdf N a1_ i3 l4=some o:=h
  unfold Zdf at h
  refine sq (sq (rgS ⟨[(1,Zby false a1_),(4,.loc 4 0),(5,.loc 5 0),(6,iv i3),(12,bv (decide (i3<((List.length a1_:Nat):Int))))],[(4,[iv 0,Zaf true []]),(5,[iv a0_,a1])],H2⟩ (Z1.u 2 (Zaa (ys:=[Zby false a1_]) (h:=Zal Zcp)) Z1.f) (by cases hfa1<;>kernel_rfl) (tq (it h (λaj h=>?_) (λaj h=>?_)))))
  ·refine sk (tq (kq (sq (bk ?_))))
   obtain ⟨af,aa,h⟩:=bs h
   obtain ⟨ae,a9,h⟩:=bs h
   obtain ⟨ad,a8,h⟩:=bs h
   obtain ⟨ac,a7,h⟩:=bs h
   obtain ⟨al,ai,h⟩:=bs h
   obtain ⟨a5,ag,ak,hH⟩:=HP.app (k:=0) (a:=a1) (sz:=4) (frz:=false) Zae hH rfl ai
   replace hH:HP _ [.arr a5 4 false (List.map Zae al)]:=hH
   have a0:=Zbd (HP.get hH 0 rfl)
   refine rqS ⟨[(1,Zby false a1_),(4,.loc 4 0),(5,.loc 5 0),(6,iv i3)],[(4,[iv 0,Zaf true []]),(5,[iv a0_,a5])],ag⟩ (Z1.u (hm:=(by cases hfa1<;>kernel_rfl)) 4 (Zaa (ys:=[Zby false a1_,iv i3]) (by cases hfa1<;>kernel_rfl) (Z7 Zcp aa)) (Z1.u (hm:=(by cases hfa1<;>kernel_rfl)) 1 (ZaK (Zam (sz:=4) (off:=0) (cs:=[.int .i64 af.x0]) (r:=iv af.x0) Zcp aa (by cases hfa1<;>kernel_rfl) (by cases hfa1<;>kernel_rfl) (by cases hfa1<;>kernel_rfl)) (by cases hfa1<;>kernel_rfl)) (Z1.u (hm:=(by cases hfa1<;>kernel_rfl)) 2 (Zaa (ys:=[Zby false a1_,iv i3]) (by cases hfa1<;>kernel_rfl) (Z7 Zcp a9)) (Z1.u (hm:=(by cases hfa1<;>kernel_rfl)) 1 (ZaK (Zam (sz:=4) (off:=1) (cs:=[.int .i64 ae.x1]) (r:=iv ae.x1) Zcp a9 (by cases hfa1<;>kernel_rfl) (by cases hfa1<;>kernel_rfl) (by cases hfa1<;>kernel_rfl)) (by cases hfa1<;>kernel_rfl)) (Z1.u (hm:=(by cases hfa1<;>kernel_rfl)) 2 (Zaa (ys:=[Zby false a1_,iv i3]) (by cases hfa1<;>kernel_rfl) (Z7 Zcp a8)) (Z1.u (hm:=(by cases hfa1<;>kernel_rfl)) 1 (ZaK (Zam (sz:=4) (off:=2) (cs:=[.int .i64 ad.x2]) (r:=iv ad.x2) Zcp a8 (by cases hfa1<;>kernel_rfl) (by cases hfa1<;>kernel_rfl) (by cases hfa1<;>kernel_rfl)) (by cases hfa1<;>kernel_rfl)) (Z1.u (hm:=(by cases hfa1<;>kernel_rfl)) 2 (Zaa (ys:=[Zby false a1_,iv i3]) (by cases hfa1<;>kernel_rfl) (Z7 Zcp a7)) (Z1.u (hm:=(by cases hfa1<;>kernel_rfl)) 1 (ZaK (Zam (sz:=4) (off:=3) (cs:=[.int .i64 ac.x3]) (r:=iv ac.x3) Zcp a7 (by cases hfa1<;>kernel_rfl) (by cases hfa1<;>kernel_rfl) (by cases hfa1<;>kernel_rfl)) (by cases hfa1<;>kernel_rfl)) (Z1.h (hm:=(by cases hfa1<;>kernel_rfl)) 2 (ZdQ (H:=H2) (a:=a1) (b:=Zaf true [(Zav.mk af.x0 ae.x1 ad.x2 ac.x3)]) (by cases hfa1<;>kernel_rfl) (by cases hfa1<;>kernel_rfl) (by cases hfa1<;>kernel_rfl) (by cases hfa1<;>kernel_rfl) ak) (Z1.f (h:=(by cases hfa1<;>cases a0<;>kernel_rfl)))))))))))) (by cases hfa1<;>cases a0<;>kernel_rfl) (bn (tq (rgS ⟨[(1,Zby false a1_),(4,.loc 4 0),(5,.loc 5 0),(6,iv (w64 (i3+1)))],[(4,[iv 0,Zaf true []]),(5,[iv a0_,a5])],ag⟩ Z1.f (by cases a0<;>kernel_rfl) ?_)))
   cases h
   exact ⟨_,rfl,⟨a5,ag,(by show _=_;cases a0<;>kernel_rfl),(HP.pick hH [0] rfl)⟩⟩
  refine kq (xq (tx ?_))
  cases h
  exact ⟨_,rfl,rfl,⟨a1,H2,(by show _=_;cases hfa1<;>kernel_rfl),(HP.pick hH [0] rfl)⟩⟩
 rintro e s hq
 obtain ⟨rfl,hR⟩:=hq
 obtain ⟨a3,a4,rfl,hH⟩:=hR
 replace hH:HP _ [.arr a3 4 false (List.map Zae ab)]:=hH
 have a2:=Zbd (HP.get hH 0 rfl)
 refine bx (tq (sq (rgS ⟨[(4,.loc 4 0)],[(4,[iv a0_,a3])],a4⟩ (Z1.f (h:=(by cases a2<;>kernel_rfl))) (by cases a2<;>kernel_rfl) (tq (rt ?_)))))
 obtain rfl:=Zaj h
 exact ZeK (H:=a4) (ys:=[.agg [iv a0_,a3]]) (xs:=[.agg [iv a0_,.p (.sl 4 false (List.map Zae ab))]]) (by cases a2<;>kernel_rfl) (by cases a2<;>kernel_rfl) (ZbM (Zkw (Zfn rfl (Zfn (HP.pure (k:=0) (frz:=false) Zae hH rfl).1 Zkx))) ZcE) kr
theorem Zg0 (N:Nat)(a0_:(List Z3))(r:(List Z3))(h:Zd8 N a0_=some r):Zbc Try.prog 22 [Z2 false a0_] (Z2 false r):=by
 unfold Zd8 at h
 have hH  := hp0
 refine ZaD ZyV rfl rfl (Zas _ _ _ ?_) rfl
 refine sq (rg Z1.f (tq (sq (rg Z1.f (tq (sq (sq (rg Z1.f (tq (bk ?_))))))))))
 obtain ⟨ad,a7,h⟩:=bs h
 refine ZaN ((ZaC (λ(x:Int×(List Z3)) s=>∃ (a1:AV) (H2:List HO),s=⟨[(0,Z2 false a0_),(3,a1),(4,iv x.1)],[],H2⟩/\HP H2 [.arr a1 2 false (List.map Z5 x.2)]) (λx:Int×(List Z3)=>ZcV N a0_ x.1 x.2) (λ(p:(List Z3)) e s=>e=.exit 0/\(∃ (a3:AV) (a5:List HO),s=⟨[(3,a3)],[],a5⟩/\HP a5 [.arr a3 2 false (List.map Z5 p)])) ?_ N _ ad _ a7 ⟨(.p (.sl 2 true [])),[],kr,(HP.pick (HP.nilArr hH 2 false) [0] rfl)⟩).mono ?_)
 ·clear h a7
  rintro ⟨i3,l4⟩ o s h hR
  obtain ⟨a1,H2,rfl,hH⟩:=hR
  replace hH:HP _ [.arr a1 2 false (List.map Z5 l4)]:=hH
  have hfa1:=Zbd (HP.get hH 0 rfl)
  replace h:ZcV N a0_ i3 l4=some o:=h
  unfold ZcV at h
  refine sq (sq (rgX ⟨[(0,Z2 false a0_),(3,a1),(4,iv i3),(12,bv ((decide (i3<((List.length a0_:Nat):Int)))&&(decide (i3<40))))],[],H2⟩ ?_ ?_))
  ·refine (EP.u 2 (Zaa (ys:=[Z2 false a0_]) (h:=Zal Z5)) ?_)
   rcases Bool.eq_false_or_eq_true (decide (i3<((List.length a0_:Nat):Int))) with ac|ab
   ·exact (EP.u 0 (Z8 (c:=(decide (i3<((List.length a0_:Nat):Int)))) (h:=ac)) (EP.f (by simp only [ac];cases hfa1<;>kernel_rfl)))
   exact (EP.u 0 (Z8 (c:=(decide (i3<((List.length a0_:Nat):Int)))) (h:=ab)) (EP.f (by simp only [ab];cases hfa1<;>kernel_rfl)))
  refine tq (it h (λak h=>?_) (λak h=>?_))
  ·refine sk (tq (kq (sq (bk ?_))))
   obtain ⟨af,aa,h⟩:=bs h
   obtain ⟨ae,a9,h⟩:=bs h
   obtain ⟨a4,a8,h⟩:=bs h
   obtain ⟨an,aj,h⟩:=bs h
   obtain ⟨am,ai,h⟩:=bs h
   obtain ⟨a6,ag,al,hH⟩:=HP.app (k:=0) (a:=a1) (sz:=2) (frz:=false) Z5 hH rfl ai
   replace hH:HP _ [.arr a6 2 false (List.map Z5 am)]:=hH
   have a0:=Zbd (HP.get hH 0 rfl)
   refine rqS ⟨[(0,Z2 false a0_),(3,a6),(4,iv i3)],[],ag⟩ (Z1.u 3 (Zaa (ys:=[Z2 false a0_,iv i3]) (h:=Z7 Z5 aa)) (Z1.u 1 (ZaK (Zam (sz:=2) (off:=0) (cs:=[.int .i64 af.Stream]) (r:=iv af.Stream) Z5 aa)) (Z1.u 2 (Zaa (ys:=[Z2 false a0_,iv i3]) (h:=Z7 Z5 a9)) (Z1.u 1 (ZaK (Zam (sz:=2) (off:=1) (cs:=[.sl 4 false (List.map Zae ae.Arms)]) (r:=Zaf false ae.Arms) Z5 a9)) (Z1.u 2 (Zaa (ys:=[Z2 false a0_,iv i3]) (h:=Z7 Z5 a8)) (Z1.u 1 (ZaK (Zam (sz:=2) (off:=1) (cs:=[.sl 4 false (List.map Zae a4.Arms)]) (r:=Zaf false a4.Arms) Z5 a8)) (Z1.u 0 (Zaa (ys:=[Zaf false a4.Arms]) (h:=Zal Zae)) (Z1.u 1 (Zaa (ys:=[Zaf false ae.Arms,iv (if 30<((List.length a4.Arms:Nat):Int) then 30 else ((List.length a4.Arms:Nat):Int))]) (h:=Zjr Zae aj)) (Z1.h 2 (ZdQ (H:=H2) (a:=a1) (b:=Z2 true [(Z3.mk af.Stream an)]) (by cases hfa1<;>kernel_rfl) (by cases hfa1<;>kernel_rfl) (by cases hfa1<;>kernel_rfl) (by cases hfa1<;>kernel_rfl) al) Z1.f))))))))) (by cases hfa1<;>cases a0<;>kernel_rfl) (bn (tq (rgS ⟨[(0,Z2 false a0_),(3,a6),(4,iv (w64 (i3+1)))],[],ag⟩ Z1.f (by cases a0<;>kernel_rfl) ?_)))
   cases h
   exact ⟨_,rfl,⟨a6,ag,(by show _=_;cases a0<;>kernel_rfl),(HP.pick hH [0] rfl)⟩⟩
  refine kq (xq (tx ?_))
  cases h
  exact ⟨_,rfl,rfl,⟨a1,H2,(by show _=_;cases hfa1<;>kernel_rfl),(HP.pick hH [0] rfl)⟩⟩
 rintro e s hq
 obtain ⟨rfl,hR⟩:=hq
 obtain ⟨a3,a5,rfl,hH⟩:=hR
 replace hH:HP _ [.arr a3 2 false (List.map Z5 ad)]:=hH
 have a2:=Zbd (HP.get hH 0 rfl)
 refine bx (tq (sq (rgS ⟨[(2,a3)],[],a5⟩ Z1.f (by cases a2<;>kernel_rfl) (tq (rt ?_)))))
 obtain rfl:=Zaj h
 exact ZeK (H:=a5) (ys:=[a3]) (xs:=[.p (.sl 2 false (List.map Z5 ad))]) (by cases a2<;>kernel_rfl) (by cases a2<;>kernel_rfl) (ZbM (HP.pure (k:=0) (frz:=false) Z5 hH rfl).2 ZcE) kr
theorem ZkA (N:Nat)(a0_:Z3)(a1_:Int)(r:Zav)(h:ZhX N a0_ a1_=some r):Zbc Try.prog 30 [.agg (ZdF a0_),iv a1_] (.agg [iv r.From,iv r.To,iv r.By,iv r.Next]):=by
 unfold ZhX at h
 have hH  := hp0
 refine ZaD ZyN rfl rfl (Zas _ _ _ ?_) rfl
 refine sq (rg Z1.f (tq (ZlR (EvI.scope (sq (rg Z1.f (tq (sq (ZlS (tq (sq (sq (rg (Z1.u 2 (Zaa (ys:=[Zaf false a0_.Arms]) (h:=Zal Zae)) Z1.f) (tq (bk ?_)))))))))))))))
 obtain ⟨a5,a1,h⟩:=bs h
 refine ZaN ((ZaC (λ(x:Int) s=>s=⟨[(1,iv a1_),(4,.loc 4 0),(5,.loc 5 0),(9,Zaf false a0_.Arms),(10,iv ((List.length a0_.Arms:Nat):Int)),(11,iv x)],[(4,[iv 0,iv 0,iv 0,iv 0]),(5,[iv 0,iv 0,iv 0,iv 0])],[]⟩) (λx:Int=>Zei N a0_ a1_ x) (λ(p:Int×Int×Int×Int) e s=>e=.exit 0/\(s=⟨[(4,.loc 4 0),(5,.loc 5 0)],[(4,[iv 0,iv 0,iv 0,iv 0]),(5,[iv p.1,iv p.2.1,iv p.2.2.1,iv p.2.2.2])],[]⟩)) ?_ N _ a5 _ a1 kr).mono ?_)
 ·clear h a1
  rintro i1 o s h hR
  obtain rfl:=hR
  replace h:Zei N a0_ a1_ i1=some o:=h
  unfold Zei at h
  refine sq (rg Z1.f (tq (sq (it h (λa4 h=>?_) (λa4 h=>?_)))))
  ·refine sk (tq (kq (sq (bk (sq ?_)))))
   obtain ⟨a0,a2,h⟩:=bs h
   refine rg (Z1.u 0 (Zaa (ys:=[Zaf false a0_.Arms,iv i1]) (h:=Z7 Zae a2)) (Z1.u 0 (Zam (sz:=4) (off:=0) (cs:=[.int .i64 a0.From,.int .i64 a0.To,.int .i64 a0.By,.int .i64 a0.Next]) (r:=.agg (ZaR a0)) Zae a2) Z1.f)) (tq (bk (sq (rg Z1.f (tq (it h (λa3 h=>?_) (λa3 h=>?_)))))))
   ·refine sq (rg Z1.f (tq (kq (xq (bo (bo (tx ?_)))))))
    cases h
    exact ⟨_,rfl,rfl,kr⟩
   refine sk (bn (bn (tq (kq (rg Z1.f ?_)))))
   cases h
   exact ⟨_,rfl,kr⟩
  refine kq (xq (tx ?_))
  cases h
  exact ⟨_,rfl,rfl,kr⟩
 rintro e s hq
 obtain ⟨rfl,hR⟩:=hq
 obtain rfl:=hR
 refine bx (tq (sq (rg Z1.f (tq (rt (nr ?_))))))
 cases h
 exact Zaq kr
theorem ZgT (N:Nat)(a0_:Int)(a1_:Int)(r:Int)(h:Zex N a0_ a1_=some r):Zbc Try.prog 31 [iv a0_,iv a1_] (iv r):=by
 unfold Zex at h
 have hH  := hp0
 refine ZaD ZyM rfl rfl (Zas _ _ _ ?_) rfl
 refine sq (rg Z1.f (tq (sq ?_)))
 obtain ⟨m1,hm1,h⟩:=bs h
 obtain ⟨m2,hm2,h⟩:=bs h
 refine rg (Z1.u 2 (Zaa (ys:=[iv a0_,iv a1_]) (h:=Zba hm1)) (Z1.u 3 (Zaa (ys:=[iv (w64 (m1+a1_)),iv a1_]) (h:=Zba hm2)) Z1.f)) (tq (rt ?_))
 cases h
 exact Zaq kr
theorem ZfH (N:Nat)(a0_:Z4)(a1_:Int)(a2_:Int)(r:Bool)(h:Zds N a0_ a1_ a2_=some r):Zbc Try.prog 35 [.agg (Z0 a0_),iv a1_,iv a2_] (bv r):=by
 unfold Zds at h
 have hH  := hp0
 refine ZaD ZyK rfl rfl (Zas _ _ _ ?_) rfl
 refine sq (rg Z1.f (tq (sq ?_)))
 obtain ⟨j4,hj,h⟩:=bs h
 refine rgR (λs=>s=⟨[(6,bv j4)],[],[]⟩) ?_ ?_
 ·clear h
  rcases ZaB hj with ⟨hc1,hj⟩|⟨hc3,hj⟩
  ·refine (EP.u 1 (Z8 (c:=(decide (a2_≥0))) (h:=hc1)) ?_)
   obtain ⟨e2,he2,hj⟩:=bs hj
   obtain rfl:=Zaj hj
   exact (EP.u 5 (Zaa (ys:=[Zag false a0_.Periods,iv a1_]) (h:=Z7 eI64 he2)) (EP.u 0 (Zam (sz:=1) (off:=0) (cs:=[.int .i64 e2]) (r:=iv e2) eI64 he2) (EP.f kr)))
  obtain rfl:=Zaj hj
  exact (EP.u 1 (Z8 (c:=(decide (a2_≥0))) (h:=hc3)) (EP.f kr))
 clear hj
 rintro s hR
 obtain rfl:=hR
 refine tq (rt ?_)
 cases h
 exact Zaq kr
theorem Zf6 (N:Nat)(a0_:Z4)(H:List HO)(r:Z4×(List (Zai×Bool)))(h:Zc9 N a0_=some r):∃ (id0_ id1_ m1_:Nat) (H':List HO),Zcs Try.prog 39 [.agg (Z0 a0_)] H (.fn 51 [] [.ptr id0_ 0,.ptr id1_ 0]) H'/\Fp H H' [] [.cel id0_ [Zag false r.1.Periods,Zac false r.1.Uses],.cel id1_ [.map m1_],mpT m1_ 3 (encE Z9 bv r.2)]:=by
 suffices hs:∃ r' H',Zcs Try.prog 39 [.agg (Z0 a0_)] H r' H'/\∃ (id0_ id1_ m1_:Nat),r'=.fn 51 [] [.ptr id0_ 0,.ptr id1_ 0]/\Fp H H' [] [.cel id0_ [Zag false r.1.Periods,Zac false r.1.Uses],.cel id1_ [.map m1_],mpT m1_ 3 (encE Z9 bv r.2)] by
  obtain ⟨_,H',h1,id0_,id1_,m1_,rfl,h2⟩:=hs
  exact ⟨id0_,id1_,m1_,H',h1,h2⟩
 unfold Zc9 at h
 have hH:Fp H H [] []:=Fp.refl trivial
 refine ZgJ ZyG (λr' H'=>∃ (id0_ id1_ m1_:Nat),r'=.fn 51 [] [.ptr id0_ 0,.ptr id1_ 0]/\Fp H H' [] [.cel id0_ [Zag false r.1.Periods,Zac false r.1.Uses],.cel id1_ [.map m1_],mpT m1_ 3 (encE Z9 bv r.2)]) (λr' H' ⟨_,_,_,e,_⟩=>by rw [e];rfl) rfl rfl (sq ?_)
 obtain ⟨id1,H2,hid1,hH2,hH⟩:=Fp.newCell hH (Z0 a0_)
 replace hH:Fp _ _ _ [.cel id1 (Z0 a0_)]:=hH
 refine rg (Z1.h 0 (ZfN (H:=H) (v:=.agg (Z0 a0_)) (hid:=hid1) (hH:=hH2)) Z1.f) (tq (sq ?_))
 obtain ⟨id3,H4,hid3,hH4,hH⟩:=Fp.newMp hH 3
 replace hH:Fp _ _ _ [mpT id3 3 (encE Z9 bv []),.cel id1 (Z0 a0_)]:=hH
 obtain ⟨id5,H6,hid5,hH6,hH⟩:=Fp.newCell hH [.nl .nilMap]
 replace hH:Fp _ _ _ [.cel id5 [.nl .nilMap],mpT id3 3 (encE Z9 bv []),.cel id1 (Z0 a0_)]:=hH
 obtain ⟨H7,hH7,hH⟩:=Fp.setCell (k:=0) (off:=0) (cs:=[.nl .nilMap]) (vs:=[.map id3]) (cs':=[.map id3]) hH rfl kr
 replace hH:Fp _ _ _ [.cel id5 [.map id3],mpT id3 3 (encE Z9 bv []),.cel id1 (Z0 a0_)]:=hH
 refine rg (Z1.h 0 (st_mkMap' (H:=H2) 3 kr hid3 hH4) (Z1.h 0 (Zlk (H:=H4) kr hid5 hH6) (Z1.o 0 (ZcN (H:=H6) (v:=.map id3) (hw:=hH7)) Z1.f))) (tq (sq (rg Z1.f (tq (rt ?_)))))
 cases h
 exact ⟨[.fn 51 [] [.ptr id1 0,.ptr id5 0]],kr,id1,id5,id3,rfl,Fp.pk hH [2,0,1] rfl⟩
theorem Zhl {σ:Type}(N:Nat)(y_:σ->Int->Int->Int->Int->Option (σ×Bool))(a1_:Int)(a2_:Z6)(a3_:Zav)(s_:σ)(y_f:Nat)(y_p y_c:List AV)(hy_n:(noLocL y_p&&noLocL y_c)=true)(T_:σ->List ZaM->Prop)(hy_:∀ (x0:Int) (x1:Int) (x2:Int) (x3:Int) (s:σ) (r:σ×Bool) (H:List HO) (its:List ZaM),T_ s its->HP H its->y_ s x0 x1 x2 x3=some r->∃ H' its',ZiU Try.prog (.fn y_f y_p y_c) [iv x0,iv x1,iv x2,iv x3] H (bv r.2) H'/\T_ r.1 its'/\Fp H H' its its')(H:List HO)(its:List ZaM)(hT:T_ s_ its)(hH:HP H (its))(r:σ×Bool)(h:Zc8 N y_ a1_ a2_ a3_ s_=some r):∃ H' its',Zcs Try.prog 41 [.fn y_f y_p y_c,iv a1_,.agg (Zak a2_),.agg (ZaR a3_)] H (bv r.2) H'/\T_ r.1 its'/\Fp H H' (its) (its'):=by
 suffices hs:∃ H',Zcs Try.prog 41 [.fn y_f y_p y_c,iv a1_,.agg (Zak a2_),.agg (ZaR a3_)] H (bv r.2) H'/\∃ its',T_ r.1 its'/\Fp H H' (its) (its') by
  obtain ⟨H',h1,its',h2,h3⟩:=hs
  exact ⟨H',its',h1,h2,h3⟩
 unfold Zc8 at h
 replace hH:Fp H H (its) (its):=Fp.refl hH
 refine Zfi ZyF (λH'=>∃ its',T_ r.1 its'/\Fp H H' (its) (its')) rfl (by simpa [noLocL,ZaF.noLocL,ZaF] using hy_n) rfl (sq (rg Z1.f (tq (sq (sq ?_)))))
 obtain ⟨j4,hj,h⟩:=bs h
 refine rgR (λs=>s=⟨[(0,.fn y_f y_p y_c),(1,iv a1_),(6,.loc 6 0),(7,.loc 7 0),(21,bv j4)],[(6,(Zak a2_)),(7,(ZaR a3_))],H⟩) ?_ ?_
 ·clear h
  rcases ZaB hj with ⟨hc1,hj⟩|⟨hc3,hj⟩
  ·refine (EP.u 3 (Z8 (c:=(a3_.By != a1_)) (h:=hc1)) ?_)
   obtain ⟨e2,he2,hj⟩:=bs hj
   obtain rfl:=Zaj hj
   exact (EP.u 3 (Zaa (ys:=[.loc 6 0,iv a3_.By]) (h:=ZbI (l:=a2_.l) he2 rfl)) (EP.o 0 (Ze1 (t:=6) (off:=0) (cs:=(Zak a2_)) (l:=a2_.l) (λx=>iv x) [] [] he2 kr kr rfl rfl) (EP.f kr)))
  obtain rfl:=Zaj hj
  exact (EP.u 3 (Z8 (c:=(a3_.By != a1_)) (h:=hc3)) (EP.f kr))
 clear hj
 rintro s hR
 obtain rfl:=hR
 refine tq (it h (λhc5 h=>?_) (λhc5 h=>?_))
 ·refine sq (rg Z1.f (tq (rt (tr ?_))))
  cases h
  exact ⟨[bv false],kr,kr,its,hT,Fp.at hH⟩
 refine sk (tq (kq (sq (sq (rg Z1.f (tq (bk ?_)))))))
 obtain ⟨a8,a3,h⟩:=bs h
 refine ZaN ((ZaC (λ(x:Int×σ) s=>∃ (its6:List ZaM) (H7:List HO),s=⟨[(0,.fn y_f y_p y_c),(1,iv a1_),(6,.loc 6 0),(7,.loc 7 0),(9,iv x.1)],[(6,(Zak a2_)),(7,(ZaR a3_))],H7⟩/\T_ x.2 its6/\Fp H H7 (its) (its6)) (λx:Int×σ=>ZbH N y_ a1_ a2_ a3_ x.1 x.2) (λ(p:(σ)⊕(σ×Bool)) e s=>match p with|(.inl p)=>e=.exit 0/\(∃ (a0:List ZaM) (a7:List HO),s=⟨[],[],a7⟩/\T_ p a0/\Fp H a7 (its) (a0))|(.inr p)=>e=.ret/\∃ xs,rawL s i41.res=some xs/\ZbF xs=bv p.2/\∃ its',T_ p.1 its'/\Fp H s.H (its) (its')) ?_ N _ a8 _ a3 ⟨its,H,kr,hT,Fp.at hH⟩).mono ?_)
 ·clear h a3
  rintro ⟨i8,g9⟩ o s h hR
  obtain ⟨its6,H7,rfl,hT,hH⟩:=hR
  replace hH:Fp H H7 (its) (its6):=hH
  replace h:ZbH N y_ a1_ a2_ a3_ i8 g9=some o:=h
  unfold ZbH at h
  refine sq (sq (rg Z1.f (tq (it h (λaf h=>?_) (λaf h=>?_)))))
  ·refine sk (tq (kq (sq (bk (sq ?_)))))
   obtain ⟨aj,a9,h⟩:=bs h
   refine rg (Z1.u 2 (Zaa (ys:=[.loc 6 0,iv a3_.By]) (h:=ZbI (l:=a2_.l) a9 rfl)) (Z1.o 0 (Ze1 (t:=6) (off:=0) (cs:=(Zak a2_)) (l:=a2_.l) (λx=>iv x) [] [] a9 kr kr rfl rfl) Z1.f)) (tq ?_)
   obtain ⟨a2,a4,h⟩:=bs h
   refine Zec [0,1,6,7,9,10] (λs=>s=⟨[(0,.fn y_f y_p y_c),(1,iv a1_),(6,.loc 6 0),(7,.loc 7 0),(9,iv i8),(10,iv a2)],[(6,(Zak a2_)),(7,(ZaR a3_))],H7⟩) ?_ ?_
   ·clear h
    have h:=a4
    refine sq (rg Z1.f (tq (it h (λad h=>?_) (λad h=>?_))))
    ·refine rg Z1.f ?_
     cases h
     exact ⟨rfl,kr⟩
    refine sk ?_
    cases h
    exact ⟨rfl,kr⟩
   clear a4
   rintro s hR
   obtain rfl:=hR
   refine sq ?_
   obtain ⟨ae,ab,h⟩:=bs h
   obtain ⟨aa,a1,a5,hT,a6⟩:=hy_ a1_ i8 a3_.By a2 g9 ae H7 its6 hT (Fp.tail (own:=[]) (its:=its6) hH) ab
   replace hH:Fp H aa (its) (a1):=Fp.callT (own:=[]) (its:=its6) hH a6
   refine rg (Z1.v 6 (ZjA (H:=H7) (ys:=[iv a1_,iv i8,iv a3_.By,iv a2]) (hc:=a5)) Z1.f) (tq (it h (λac h=>?_) (λac h=>?_)))
   ·refine sq (rg Z1.f (tq (rt (br (tr ?_)))))
    cases h
    exact ⟨_,rfl,rfl,⟨[bv false],kr,kr,a1,hT,Fp.at hH⟩⟩
   refine sk (bn (tq (kq (rg Z1.f ?_))))
   cases h
   exact ⟨_,rfl,⟨a1,aa,kr,hT,Fp.at hH⟩⟩
  refine kq (xq (tx ?_))
  cases h
  exact ⟨_,rfl,rfl,⟨its6,H7,kr,hT,Fp.at hH⟩⟩
 rintro e s hq
 rcases a8 with ai|ag
 ·dsimp only at h hq
  obtain ⟨rfl,hR⟩:=hq
  obtain ⟨a0,a7,rfl,hT,hH⟩:=hR
  replace hH:Fp H a7 (its) (a0):=hH
  refine bx (tq (sq (rg Z1.f (tq (rt ?_)))))
  cases h
  exact ⟨[bv true],kr,kr,a0,hT,Fp.at hH⟩
 dsimp only at h hq
 obtain ⟨rfl,hq⟩:=hq
 refine br (tr ?_)
 cases h
 exact hq
theorem Zkq (N:Nat)(a0_:(List Int))(r:Int)(h:Ze4 N a0_=some r):Zbc Try.prog 42 [Zag false a0_] (iv r):=by
 unfold Ze4 at h
 have hH  := hp0
 refine ZaD ZyE rfl rfl (Zas _ _ _ ?_) rfl
 refine sq (rg Z1.f (tq (sq (sq (rg Z1.f (tq (bk ?_)))))))
 obtain ⟨a4,a0,h⟩:=bs h
 refine ZaN ((ZaC (λ(x:Int) s=>s=⟨[(0,Zag false a0_),(3,iv x)],[],[]⟩) (λx:Int=>ZbZ N a0_ x) (λ(p:(Unit)⊕(Int)) e s=>match p with|(.inl p)=>e=.exit 0/\(s=⟨[],[],[]⟩)|(.inr p)=>e=.ret/\∃ xs,resL s i42.res=some xs/\ZbF xs=iv p) ?_ N _ a4 _ a0 kr).mono ?_)
 ·clear h a0
  rintro i1 o s h hR
  obtain rfl:=hR
  replace h:ZbZ N a0_ i1=some o:=h
  unfold ZbZ at h
  refine sq (sq (rg Z1.f (tq (it h (λai h=>?_) (λai h=>?_)))))
  ·refine sk (tq (kq (sq (bk (sq (rg Z1.f (tq (sq (sq (rg Z1.f (tq (bk ?_))))))))))))
   obtain ⟨af,a1,h⟩:=bs h
   refine ZaN ((ZaC (λ(x:Bool×Int) s=>s=⟨[(0,Zag false a0_),(3,iv i1),(4,bv x.1),(5,iv x.2)],[],[]⟩) (λx:Bool×Int=>Zcw N a0_ i1 x.1 x.2) (λ(p:Bool) e s=>e=.exit 2/\(s=⟨[(0,Zag false a0_),(3,iv i1),(4,bv p)],[],[]⟩)) ?_ N _ af _ a1 kr).mono ?_)
   ·clear h a1
    rintro ⟨ae,a6⟩ o s h hR
    obtain rfl:=hR
    replace h:Zcw N a0_ i1 ae a6=some o:=h
    unfold Zcw at h
    refine sq (sq (rg (Z1.u 2 (Zaa (ys:=[Zag false a0_]) (h:=Zal eI64)) Z1.f) (tq (it h (λad h=>?_) (λad h=>?_)))))
    ·refine sk (tq (kq (sq (bk ?_))))
     obtain ⟨ag,hj,h⟩:=bs h
     refine rgR (λs=>s=⟨[(0,Zag false a0_),(3,iv i1),(4,bv ag),(5,iv a6)],[],[]⟩) ?_ ?_
     ·clear h
      rcases ZaB hj with ⟨ac,hj⟩|⟨a9,hj⟩
      ·refine (EP.u 0 (Z8 (c:=ae) (h:=ac)) ?_)
       obtain ⟨a3,a2,hj⟩:=bs hj
       refine (EP.u 4 (Zaa (ys:=[Zag false a0_,iv a6]) (h:=Z7 eI64 a2)) (EP.u 0 (Zam (sz:=1) (off:=0) (cs:=[.int .i64 a3]) (r:=iv a3) eI64 a2) ?_))
       obtain ⟨a5,a7,hj⟩:=bs hj
       refine (EP.u 0 (Zaa (ys:=[iv i1,iv a3]) (h:=Zba a7)) ?_)
       rcases ZaB hj with ⟨ab,hj⟩|⟨aa,hj⟩
       ·obtain rfl:=Zaj hj
        exact (EP.u 2 (Z8 (c:=(a5==0)) (h:=ab)) (EP.f kr))
       obtain rfl:=Zaj hj
       exact (EP.u 2 (Z8 (c:=(a5==0)) (h:=aa)) (EP.f kr))
      obtain rfl:=Zaj hj
      exact (EP.u 0 (Z8 (c:=ae) (h:=a9)) (EP.f kr))
     clear hj
     rintro s hR
     obtain rfl:=hR
     refine bn (tq (rg Z1.f ?_))
     cases h
     exact ⟨_,rfl,kr⟩
    refine kq (xq (tx ?_))
    cases h
    exact ⟨_,rfl,rfl,kr⟩
   rintro e s hq
   obtain ⟨rfl,hR⟩:=hq
   obtain rfl:=hR
   refine bx (tq (sq (rg Z1.f (tq (it h (λa8 h=>?_) (λa8 h=>?_))))))
   ·refine sq (rg Z1.f (tq (rt (br (tr ?_)))))
    cases h
    exact ⟨_,rfl,rfl,Zaq kr⟩
   refine sk (bn (tq (kq (rg Z1.f ?_))))
   cases h
   exact ⟨_,rfl,kr⟩
  refine kq (xq (tx ?_))
  cases h
  exact ⟨_,rfl,rfl,kr⟩
 rintro e s hq
 rcases a4 with ak|aj
 ·dsimp only at h hq
  obtain ⟨rfl,hR⟩:=hq
  obtain rfl:=hR
  refine bx (tq (sq (rg Z1.f (tq (rt ?_)))))
  cases h
  exact Zaq kr
 dsimp only at h hq
 obtain ⟨rfl,hq⟩:=hq
 refine br (tr ?_)
 cases h
 exact hq
theorem ZjI (N:Nat)(a0_:Z4)(a1_:(List Z3))(a2_:Int)(r:Bool)(h:Zeu N a0_ a1_ a2_=some r):Zbc Try.prog 43 [.agg (Z0 a0_),Z2 false a1_,iv a2_] (bv r):=by
 unfold Zeu at h
 have hH  := hp0
 refine ZaD ZyD rfl rfl (Zas _ _ _ ?_) rfl
 refine sq (rg Z1.f (tq (sq ?_)))
 obtain ⟨e1,he1,h⟩:=bs h
 refine rg (Z1.u 2 (Zaa (ys:=[Z2 false a1_,iv a2_]) (h:=Z7 Z5 he1)) (Z1.u 1 (Zam (sz:=2) (off:=1) (cs:=[.sl 4 false (List.map Zae e1.Arms)]) (r:=Zaf false e1.Arms) Z5 he1) Z1.f)) (tq (sq (rg Z1.f (tq (sq (sq (rg Z1.f (tq (bk ?_)))))))))
 obtain ⟨aj,a4,h⟩:=bs h
 refine ZaN ((ZaC (λ(x:Int×Int) s=>s=⟨[(1,Z2 false a1_),(2,iv a2_),(3,.loc 3 0),(7,Zaf false e1.Arms),(8,iv x.1),(9,iv x.2)],[(3,(Z0 a0_))],[]⟩) (λx:Int×Int=>ZcC N a0_ a1_ a2_ e1 x.1 x.2) (λ(p:(Int)⊕(Bool)) e s=>match p with|(.inl p)=>e=.exit 0/\(s=⟨[(1,Z2 false a1_),(2,iv a2_),(3,.loc 3 0),(7,Zaf false e1.Arms),(8,iv p)],[(3,(Z0 a0_))],[]⟩)|(.inr p)=>e=.ret/\∃ xs,resL s i43.res=some xs/\ZbF xs=bv p) ?_ N _ aj _ a4 kr).mono ?_)
 ·clear h a4
  rintro ⟨i2,i3⟩ o s h hR
  obtain rfl:=hR
  replace h:ZcC N a0_ a1_ a2_ e1 i2 i3=some o:=h
  unfold ZcC at h
  refine sq (sq (rg (Z1.u 2 (Zaa (ys:=[Zaf false e1.Arms]) (h:=Zal Zae)) Z1.f) (tq (it h (λaC h=>?_) (λaC h=>?_)))))
  ·refine sk (tq (kq (sq (bk (sq ?_)))))
   obtain ⟨a0,a9,h⟩:=bs h
   refine rg (Z1.u 2 (Zaa (ys:=[Zaf false e1.Arms,iv i3]) (h:=Z7 Zae a9)) (Z1.u 0 (Zam (sz:=4) (off:=0) (cs:=[.int .i64 a0.From,.int .i64 a0.To,.int .i64 a0.By,.int .i64 a0.Next]) (r:=.agg (ZaR a0)) Zae a9) Z1.f)) (tq (sq (sq ?_)))
   obtain ⟨aG,hj,h⟩:=bs h
   refine rqR (λs=>s=⟨[(1,Z2 false a1_),(2,iv a2_),(3,.loc 3 0),(7,Zaf false e1.Arms),(9,iv i3),(10,.loc 10 0),(63,bv aG)],[(3,(Z0 a0_)),(10,(ZaR a0))],[]⟩) ?_ ?_
   ·clear h
    rcases ZaB hj with ⟨aB,hj⟩|⟨aA,hj⟩
    ·obtain rfl:=Zaj hj
     exact (EP.u 3 (Z8 (c:=(a0.From != i2)) (h:=aB)) (EP.f kr))
    refine (EP.u 3 (Z8 (c:=(a0.From != i2)) (h:=aA)) ?_)
    rcases ZaB hj with ⟨az,hj⟩|⟨ay,hj⟩
    ·obtain rfl:=Zaj hj
     exact (EP.u 5 (Z8 (c:=(decide (a0.To<=a0.From))) (h:=az)) (EP.f kr))
    refine (EP.u 5 (Z8 (c:=(decide (a0.To<=a0.From))) (h:=ay)) ?_)
    obtain ⟨ai,a8,hj⟩:=bs hj
    refine (EP.u 8 (Zaa (ys:=[Z2 false a1_,iv a2_]) (h:=Z7 Z5 a8)) (EP.u 1 (ZaK (Zam (sz:=2) (off:=0) (cs:=[.int .i64 ai.Stream]) (r:=iv ai.Stream) Z5 a8)) ?_))
    obtain ⟨a3,a7,hj⟩:=bs hj
    refine (EP.u 0 (Zaa (ys:=[Zag false a0_.Periods,iv ai.Stream]) (h:=Z7 eI64 a7)) (EP.u 0 (ZaK (Zam (sz:=1) (off:=0) (cs:=[.int .i64 a3]) (r:=iv a3) eI64 a7)) ?_))
    rcases ZaB hj with ⟨ax,hj⟩|⟨aw,hj⟩
    ·obtain rfl:=Zaj hj
     exact (EP.u 0 (Z8 (c:=(decide (a0.To>a3))) (h:=ax)) (EP.f kr))
    refine (EP.u 0 (Z8 (c:=(decide (a0.To>a3))) (h:=aw)) ?_)
    rcases ZaB hj with ⟨av,hj⟩|⟨au,hj⟩
    ·obtain rfl:=Zaj hj
     exact (EP.u 4 (Z8 (c:=(decide (a0.By<(-2)))) (h:=av)) (EP.f kr))
    obtain rfl:=Zaj hj
    exact (EP.u 4 (Z8 (c:=(decide (a0.By<(-2)))) (h:=au)) (EP.u 6 (Zaa (ys:=[Zag false a0_.Periods]) (h:=Zal eI64)) (EP.f kr)))
   clear hj
   rintro s hR
   obtain rfl:=hR
   refine tq (it h (λar h=>?_) (λar h=>?_))
   ·refine sq (rg Z1.f (tq (rt (tr (br (tr ?_))))))
    cases h
    exact ⟨_,rfl,rfl,Zaq kr⟩
   refine sk (tq (kq (sq (sq (rg Z1.f (tq (bk (sq (rg Z1.f (tq (it h (λaq h=>?_) (λaq h=>?_))))))))))))
   ·refine sq (rgX ⟨[(1,Z2 false a1_),(2,iv a2_),(3,.loc 3 0),(7,Zaf false e1.Arms),(9,iv i3),(10,.loc 10 0),(89,bv ((a0.To != (w64 (a0.From+1)))||((decide (a0.Next<=a2_))||(decide (a0.Next≥((List.length a1_:Nat):Int))))))],[(3,(Z0 a0_)),(10,(ZaR a0))],[]⟩ ?_ ?_)
    ·rcases Bool.eq_false_or_eq_true (a0.To != (w64 (a0.From+1))) with af|a2
     ·exact (EP.u 5 (Z8 (c:=(a0.To != (w64 (a0.From+1)))) (h:=af)) (EP.f (by simp only [af];kernel_rfl)))
     refine (EP.u 5 (Z8 (c:=(a0.To != (w64 (a0.From+1)))) (h:=a2)) ?_)
     rcases Bool.eq_false_or_eq_true (decide (a0.Next<=a2_)) with ae|ad
     ·exact (EP.u 4 (Z8 (c:=(decide (a0.Next<=a2_))) (h:=ae)) (EP.f (by simp only [a2,ae];kernel_rfl)))
     exact (EP.u 4 (Z8 (c:=(decide (a0.Next<=a2_))) (h:=ad)) (EP.u 5 (Zaa (ys:=[Z2 false a1_]) (h:=Zal Z5)) (EP.f (by simp only [a2,ad];kernel_rfl))))
    refine tq (it h (λap h=>?_) (λap h=>?_))
    ·refine sq (rg Z1.f (tq (rt (br (tr (br (tr ?_)))))))
     cases h
     exact ⟨_,rfl,rfl,Zaq kr⟩
    refine sk (bn (tq (kq (rg Z1.f (bn (tq (kq (rg Z1.f ?_))))))))
    cases h
    exact ⟨_,rfl,kr⟩
   refine sq (rg Z1.f (tq (it h (λao h=>?_) (λao h=>?_))))
   ·refine sq (rgX ⟨[(1,Z2 false a1_),(2,iv a2_),(3,.loc 3 0),(7,Zaf false e1.Arms),(9,iv i3),(10,.loc 10 0),(103,bv ((a2_ != 0)||((a0.From==0)||(a0.Next != 0))))],[(3,(Z0 a0_)),(10,(ZaR a0))],[]⟩ ?_ ?_)
    ·rcases Bool.eq_false_or_eq_true (a2_ != 0) with ac|a1
     ·exact (EP.u 1 (Z8 (c:=(a2_ != 0)) (h:=ac)) (EP.f (by simp only [ac];kernel_rfl)))
     refine (EP.u 1 (Z8 (c:=(a2_ != 0)) (h:=a1)) ?_)
     rcases Bool.eq_false_or_eq_true (a0.From==0) with ab|aa
     ·exact (EP.u 3 (Z8 (c:=(a0.From==0)) (h:=ab)) (EP.f (by simp only [a1,ab];kernel_rfl)))
     exact (EP.u 3 (Z8 (c:=(a0.From==0)) (h:=aa)) (EP.f (by simp only [a1,aa];kernel_rfl)))
    refine tq (it h (λan h=>?_) (λan h=>?_))
    ·refine sq (rg Z1.f (tq (rt (br (tr (br (tr ?_)))))))
     cases h
     exact ⟨_,rfl,rfl,Zaq kr⟩
    refine sk (bn (tq (kq (rg Z1.f (bn (tq (kq (rg Z1.f ?_))))))))
    cases h
    exact ⟨_,rfl,kr⟩
   refine sq (rg Z1.f (tq (it h (λam h=>?_) (λam h=>?_))))
   ·refine sq (rg Z1.f (tq (rt (br (tr (br (tr ?_)))))))
    cases h
    exact ⟨_,rfl,rfl,Zaq kr⟩
   refine sk (bn (tq (kq (rg Z1.f (bn (tq (kq (rg Z1.f ?_))))))))
   cases h
   exact ⟨_,rfl,kr⟩
  refine kq (xq (tx ?_))
  cases h
  exact ⟨_,rfl,rfl,kr⟩
 rintro e s hq
 rcases aj with aJ|aI
 ·dsimp only at h hq
  obtain ⟨rfl,hR⟩:=hq
  obtain rfl:=hR
  refine bx (tq (sq ?_))
  obtain ⟨aE,hj,h⟩:=bs h
  refine rqR (λs=>s=⟨[(6,bv aE)],[],[]⟩) ?_ ?_
  ·clear h
   refine (EP.u 1 (Zaa (ys:=[Zaf false e1.Arms]) (h:=Zal Zae)) ?_)
   rcases ZaB hj with ⟨al,hj⟩|⟨ak,hj⟩
   ·refine (EP.u 0 (Z8 (c:=(decide (((List.length e1.Arms:Nat):Int)>0))) (h:=al)) ?_)
    obtain ⟨ag,a6,hj⟩:=bs hj
    refine (EP.u 6 (Zaa (ys:=[Z2 false a1_,iv a2_]) (h:=Z7 Z5 a6)) (EP.u 1 (ZaK (Zam (sz:=2) (off:=0) (cs:=[.int .i64 ag.Stream]) (r:=iv ag.Stream) Z5 a6)) ?_))
    obtain ⟨aD,a5,hj⟩:=bs hj
    obtain rfl:=Zaj hj
    exact (EP.u 0 (Zaa (ys:=[Zag false a0_.Periods,iv ag.Stream]) (h:=Z7 eI64 a5)) (EP.u 0 (ZaK (Zam (sz:=1) (off:=0) (cs:=[.int .i64 aD]) (r:=iv aD) eI64 a5)) (EP.f kr)))
   obtain rfl:=Zaj hj
   exact (EP.u 0 (Z8 (c:=(decide (((List.length e1.Arms:Nat):Int)>0))) (h:=ak)) (EP.f kr))
  clear hj
  rintro s hR
  obtain rfl:=hR
  refine tq (rt ?_)
  cases h
  exact Zaq kr
 dsimp only at h hq
 obtain ⟨rfl,hq⟩:=hq
 refine br (tr ?_)
 cases h
 exact hq
theorem ZjP (N:Nat)(a0_:Z4)(a1_:Int)(a2_:Int)(H:List HO)(r:Z4×Int×Int)(h:Zfo N a0_ a1_ a2_=some r):∃ (id0_ id1_ id2_:Nat) (H':List HO),Zcs Try.prog 46 [.agg (Z0 a0_),iv a1_,iv a2_] H (.fn 54 [] [.ptr id0_ 0,.ptr id1_ 0,.ptr id2_ 0]) H'/\Fp H H' [] [.cel id0_ [Zag false r.1.Periods,Zac false r.1.Uses],.cel id1_ [iv r.2.1],.cel id2_ [iv r.2.2]]:=by
 suffices hs:∃ r' H',Zcs Try.prog 46 [.agg (Z0 a0_),iv a1_,iv a2_] H r' H'/\∃ (id0_ id1_ id2_:Nat),r'=.fn 54 [] [.ptr id0_ 0,.ptr id1_ 0,.ptr id2_ 0]/\Fp H H' [] [.cel id0_ [Zag false r.1.Periods,Zac false r.1.Uses],.cel id1_ [iv r.2.1],.cel id2_ [iv r.2.2]] by
  obtain ⟨_,H',h1,id0_,id1_,id2_,rfl,h2⟩:=hs
  exact ⟨id0_,id1_,id2_,H',h1,h2⟩
 unfold Zfo at h
 have hH:Fp H H [] []:=Fp.refl trivial
 refine ZgJ ZyB (λr' H'=>∃ (id0_ id1_ id2_:Nat),r'=.fn 54 [] [.ptr id0_ 0,.ptr id1_ 0,.ptr id2_ 0]/\Fp H H' [] [.cel id0_ [Zag false r.1.Periods,Zac false r.1.Uses],.cel id1_ [iv r.2.1],.cel id2_ [iv r.2.2]]) (λr' H' ⟨_,_,_,e,_⟩=>by rw [e];rfl) rfl rfl (sq ?_)
 obtain ⟨id1,H2,hid1,hH2,hH⟩:=Fp.newCell hH (Z0 a0_)
 replace hH:Fp _ _ _ [.cel id1 (Z0 a0_)]:=hH
 obtain ⟨id3,H4,hid3,hH4,hH⟩:=Fp.newCell hH [iv a1_]
 replace hH:Fp _ _ _ [.cel id3 [iv a1_],.cel id1 (Z0 a0_)]:=hH
 obtain ⟨id5,H6,hid5,hH6,hH⟩:=Fp.newCell hH [iv a2_]
 replace hH:Fp _ _ _ [.cel id5 [iv a2_],.cel id3 [iv a1_],.cel id1 (Z0 a0_)]:=hH
 refine rg (Z1.h 0 (ZfN (H:=H) (v:=.agg (Z0 a0_)) (hid:=hid1) (hH:=hH2)) (Z1.h 0 (ZfN (H:=H2) (v:=iv a1_) (hid:=hid3) (hH:=hH4)) (Z1.h 0 (ZfN (H:=H4) (v:=iv a2_) (hid:=hid5) (hH:=hH6)) Z1.f))) (tq (sq (rg Z1.f (tq (rt ?_)))))
 cases h
 exact ⟨[.fn 54 [] [.ptr id1 0,.ptr id3 0,.ptr id5 0]],kr,id1,id3,id5,rfl,Fp.pk hH [2,1,0] rfl⟩
theorem ZeT (N:Nat)(a0_:Z4)(a1_:ZaE)(a2_:Int)(r:Zad)(h:ZcF N a0_ a1_ a2_=some r):Zbc Try.prog 48 [.agg (Z0 a0_),.agg (ZaP a1_),iv a2_] (.agg [iv r.Period,iv r.From,iv r.Long]):=by
 unfold ZcF at h
 have hH  := hp0
 refine ZaD Zyz rfl rfl (Zas _ _ _ ?_) rfl
 refine sq (rg Z1.f (tq (sq ?_)))
 obtain ⟨e1,he1,h⟩:=bs h
 refine rg (Z1.u 4 (Zaa (ys:=[Zag false a0_.Periods,iv a1_.Stream]) (h:=Z7 eI64 he1)) (Z1.u 0 (Zam (sz:=1) (off:=0) (cs:=[.int .i64 e1]) (r:=iv e1) eI64 he1) Z1.f)) (tq (sq ?_))
 obtain ⟨m2,hm2,h⟩:=bs h
 refine rq (Z1.u 6 (Zaa (ys:=[iv (w64 (a1_.From+a2_)),iv e1]) (h:=Zba hm2)) Z1.f) (tq (rt ?_))
 cases h
 exact Zaq kr
theorem Zgw (N:Nat)(a0_:Z4)(a1_:(List Z3))(a2_:Int)(a3_:Zav)(r:Bool)(h:ZcR N a0_ a1_ a2_ a3_=some r):Zbc Try.prog 50 [.agg (Z0 a0_),Z2 false a1_,iv a2_,.agg (ZaR a3_)] (bv r):=by
 unfold ZcR at h
 have hH  := hp0
 refine ZaD Zyx rfl rfl (Zas _ _ _ ?_) rfl
 refine sq (rg Z1.f (tq (sq (bk (sq (rg Z1.f (tq (it h (λhc1 h=>?_) (λhc1 h=>?_)))))))))
 ·refine sq (rgX ⟨[(8,bv ((a3_.To==(w64 (a3_.From+1)))&&((decide (a3_.Next>a2_))&&(decide (a3_.Next<((List.length a1_:Nat):Int))))))],[],[]⟩ ?_ ?_)
  ·rcases Bool.eq_false_or_eq_true (a3_.To==(w64 (a3_.From+1))) with hc2|hc5
   ·refine (EP.u 5 (Z8 (c:=(a3_.To==(w64 (a3_.From+1)))) (h:=hc2)) ?_)
    rcases Bool.eq_false_or_eq_true (decide (a3_.Next>a2_)) with hc3|hc4
    ·exact (EP.u 4 (Z8 (c:=(decide (a3_.Next>a2_))) (h:=hc3)) (EP.u 5 (Zaa (ys:=[Z2 false a1_]) (h:=Zal Z5)) (EP.f (by simp only [hc2,hc3];kernel_rfl))))
    exact (EP.u 4 (Z8 (c:=(decide (a3_.Next>a2_))) (h:=hc4)) (EP.f (by simp only [hc2,hc4];kernel_rfl)))
   exact (EP.u 5 (Z8 (c:=(a3_.To==(w64 (a3_.From+1)))) (h:=hc5)) (EP.f (by simp only [hc5];kernel_rfl)))
  refine tq (rt (br (tr ?_)))
  cases h
  exact Zaq kr
 refine sq (rg Z1.f (tq (it h (λhc6 h=>?_) (λhc6 h=>?_))))
 ·refine sq (rg Z1.f (tq (rt (br (tr ?_)))))
  cases h
  exact Zaq kr
 refine sq (rg Z1.f (tq (it h (λhc7 h=>?_) (λhc7 h=>?_))))
 ·refine sq (rgX ⟨[(8,bv ((a2_==0)&&(a3_.From != 0)))],[],[]⟩ ?_ ?_)
  ·rcases Bool.eq_false_or_eq_true (a2_==0) with hc8|hc9
   ·exact (EP.u 1 (Z8 (c:=(a2_==0)) (h:=hc8)) (EP.f (by simp only [hc8];kernel_rfl)))
   exact (EP.u 1 (Z8 (c:=(a2_==0)) (h:=hc9)) (EP.f (by simp only [hc9];kernel_rfl)))
  refine tq (rt (br (tr ?_)))
  cases h
  exact Zaq kr
 refine sk (bn (tq (kq (sq (rgX ⟨[(8,bv ((decide (a3_.By≥0))&&(decide (a3_.By<((List.length a0_.Periods:Nat):Int)))))],[],[]⟩ ?_ ?_)))))
 ·rcases Bool.eq_false_or_eq_true (decide (a3_.By≥0)) with a1|a0
  ·exact (EP.u 2 (Z8 (c:=(decide (a3_.By≥0))) (h:=a1)) (EP.u 5 (Zaa (ys:=[Zag false a0_.Periods]) (h:=Zal eI64)) (EP.f (by simp only [a1];kernel_rfl))))
  exact (EP.u 2 (Z8 (c:=(decide (a3_.By≥0))) (h:=a0)) (EP.f (by simp only [a0];kernel_rfl)))
 refine tq (rt ?_)
 cases h
 exact Zaq kr
theorem ZhQ (N:Nat)(a0_:Z4)(a1_:Int)(a2_:Int)(r:Zad)(h:Zfm N a0_ a1_ a2_=some r):Zbc Try.prog 53 [.agg (Z0 a0_),iv a1_,iv a2_] (.agg [iv r.Period,iv r.From,iv r.Long]):=by
 unfold Zfm at h
 have hH  := hp0
 refine ZaD Zyu rfl rfl (Zas _ _ _ ?_) rfl
 refine sq (rg Z1.f (tq (sq ?_)))
 obtain ⟨e1,he1,h⟩:=bs h
 obtain ⟨e2,he2,h⟩:=bs h
 refine rq (Z1.u 5 (Zaa (ys:=[Zac false a0_.Uses,iv a1_]) (h:=Z7 Zaz he1)) (Z1.u 1 (ZaK (Zam (sz:=4) (off:=0) (cs:=[.int .i64 e1.Stream]) (r:=iv e1.Stream) Zaz he1)) (Z1.u 0 (Zaa (ys:=[Zag false a0_.Periods,iv e1.Stream]) (h:=Z7 eI64 he2)) (Z1.u 0 (ZaK (Zam (sz:=1) (off:=0) (cs:=[.int .i64 e2]) (r:=iv e2) eI64 he2)) Z1.f)))) (tq (sq ?_))
 obtain ⟨e3,he3,h⟩:=bs h
 obtain ⟨m4,hm4,h⟩:=bs h
 obtain ⟨e5,he5,h⟩:=bs h
 refine rq (Z1.u 4 (Zaa (ys:=[Zac false a0_.Uses,iv a1_]) (h:=Z7 Zaz he3)) (Z1.u 1 (ZaK (Zam (sz:=4) (off:=2) (cs:=[.int .i64 e3.From]) (r:=iv e3.From) Zaz he3)) (Z1.u 3 (Zaa (ys:=[iv (w64 (e3.From+a2_)),iv e2]) (h:=Zba hm4)) (Z1.u 3 (Zaa (ys:=[Zac false a0_.Uses,iv a1_]) (h:=Z7 Zaz he5)) (Z1.u 1 (ZaK (Zam (sz:=4) (off:=3) (cs:=[.int .i64 e5.Long]) (r:=iv e5.Long) Zaz he5)) Z1.f))))) (tq (rt ?_))
 cases h
 exact Zaq kr
theorem ZhZ {σ:Type}(N:Nat)(y_:σ->ZaE->ZaE->Option (σ×Bool))(c0_:Z4)(c1_:Int)(c2_:Int)(s_:σ)(k0_:Nat)(k1_:Nat)(k2_:Nat)(yid_:Nat)(T_:σ->List ZaM->Prop)(hy_:∀ (x0:ZaE) (x1:ZaE) (s:σ) (r:σ×Bool) (H:List HO) (its:List ZaM),T_ s its->HP H its->y_ s x0 x1=some r->∃ H' its',ZlN Try.prog yid_ [.agg [iv x0.Stream,iv x0.Port,iv x0.From,iv x0.Long],.agg [iv x1.Stream,iv x1.Port,iv x1.From,iv x1.Long]] H r.2 H'/\T_ r.1 its'/\Fp H H' its its')(H:List HO)(its:List ZaM)(hT:T_ s_ its)(hH:HP H (.cel k0_ (Z0 c0_)::.cel k1_ [iv c1_]::.cel k2_ [iv c2_]::its))(r:σ)(h:ZdD N y_ c0_ c1_ c2_ s_=some r):∃ H' its',Zcs Try.prog 54 [.yl yid_,.ptr k0_ 0,.ptr k1_ 0,.ptr k2_ 0] H (.tup []) H'/\T_ r its'/\Fp H H' (.cel k0_ (Z0 c0_)::.cel k1_ [iv c1_]::.cel k2_ [iv c2_]::its) (.cel k0_ (Z0 c0_)::.cel k1_ [iv c1_]::.cel k2_ [iv c2_]::its'):=by
 suffices hs:∃ H',Zcs Try.prog 54 [.yl yid_,.ptr k0_ 0,.ptr k1_ 0,.ptr k2_ 0] H (.tup []) H'/\∃ its',T_ r its'/\Fp H H' (.cel k0_ (Z0 c0_)::.cel k1_ [iv c1_]::.cel k2_ [iv c2_]::its) (.cel k0_ (Z0 c0_)::.cel k1_ [iv c1_]::.cel k2_ [iv c2_]::its') by
  obtain ⟨H',h1,its',h2,h3⟩:=hs
  exact ⟨H',its',h1,h2,h3⟩
 unfold ZdD at h
 replace hH:Fp H H (.cel k0_ (Z0 c0_)::.cel k1_ [iv c1_]::.cel k2_ [iv c2_]::its) (.cel k0_ (Z0 c0_)::.cel k1_ [iv c1_]::.cel k2_ [iv c2_]::its):=Fp.refl hH
 refine Zfi Zyt (λH'=>∃ its',T_ r its'/\Fp H H' (.cel k0_ (Z0 c0_)::.cel k1_ [iv c1_]::.cel k2_ [iv c2_]::its) (.cel k0_ (Z0 c0_)::.cel k1_ [iv c1_]::.cel k2_ [iv c2_]::its')) rfl rfl rfl (sq ?_)
 have hlc1:=Fp.get hH 0 rfl
 refine rg (Z1.u 1 (Zbr (H:=H) (id:=k0_) (off:=1) (cs:=(Z0 c0_)) (c:=[Zac false c0_.Uses]) (r:=Zac false c0_.Uses) (hl:=hlc1)) (Z1.u 0 (Zaa (ys:=[Zac false c0_.Uses]) (h:=Zal Zaz)) Z1.f)) (tq (bk ?_))
 obtain ⟨ag,a9,h⟩:=bs h
 refine ZaN ((ZaC (λ(x:Int×σ) s=>∃ (its2:List ZaM) (H3:List HO),s=⟨[(0,.yl yid_),(1,.ptr k0_ 0),(2,.ptr k1_ 0),(3,.ptr k2_ 0),(10,Zac false c0_.Uses),(11,iv ((List.length c0_.Uses:Nat):Int)),(12,iv x.1)],[],H3⟩/\T_ x.2 its2/\Fp H H3 (.cel k0_ (Z0 c0_)::.cel k1_ [iv c1_]::.cel k2_ [iv c2_]::its) (.cel k0_ (Z0 c0_)::.cel k1_ [iv c1_]::.cel k2_ [iv c2_]::its2)) (λx:Int×σ=>ZbW N y_ c0_ c1_ c2_ x.1 x.2) (λ(p:(σ)⊕(σ)) e s=>match p with|(.inl p)=>e=.exit 0/\(∃ (a3:List ZaM) (af:List HO),s=⟨[],[],af⟩/\T_ p a3/\Fp H af (.cel k0_ (Z0 c0_)::.cel k1_ [iv c1_]::.cel k2_ [iv c2_]::its) (.cel k0_ (Z0 c0_)::.cel k1_ [iv c1_]::.cel k2_ [iv c2_]::a3))|(.inr p)=>e=.ret/\∃ xs,rawL s i54.res=some xs/\ZbF xs=.tup []/\∃ its',T_ p its'/\Fp H s.H (.cel k0_ (Z0 c0_)::.cel k1_ [iv c1_]::.cel k2_ [iv c2_]::its) (.cel k0_ (Z0 c0_)::.cel k1_ [iv c1_]::.cel k2_ [iv c2_]::its')) ?_ N _ ag _ a9 ⟨its,H,kr,hT,Fp.at hH⟩).mono ?_)
 ·clear h a9
  rintro ⟨i4,g5⟩ o s h hR
  obtain ⟨its2,H3,rfl,hT,hH⟩:=hR
  replace hH:Fp H H3 (.cel k0_ (Z0 c0_)::.cel k1_ [iv c1_]::.cel k2_ [iv c2_]::its) (.cel k0_ (Z0 c0_)::.cel k1_ [iv c1_]::.cel k2_ [iv c2_]::its2):=hH
  replace h:ZbW N y_ c0_ c1_ c2_ i4 g5=some o:=h
  unfold ZbW at h
  refine sq (rg Z1.f (tq (sq (it h (λaA h=>?_) (λaA h=>?_)))))
  ·refine sk (tq (kq (sq (bk (sq ?_)))))
   obtain ⟨a4,aj,h⟩:=bs h
   refine rg (Z1.u 1 (Zaa (ys:=[Zac false c0_.Uses,iv i4]) (h:=Z7 Zaz aj)) (Z1.u 0 (Zam (sz:=4) (off:=0) (cs:=[.int .i64 a4.Stream,.int .i64 a4.Port,.int .i64 a4.From,.int .i64 a4.Long]) (r:=.agg (ZaP a4)) Zaz aj) Z1.f)) (tq (sq (sq ?_)))
   have an:=Fp.get hH 1 rfl
   refine rg (Z1.u 2 (Zbr (H:=H3) (id:=k1_) (off:=0) (cs:=[iv c1_]) (c:=[iv c1_]) (r:=iv c1_) (hl:=an)) Z1.f) (tq (it h (λaz h=>?_) (λaz h=>?_)))
   ·refine kq (xq (tx (bx (tq (kq (rg Z1.f ?_))))))
    cases h
    exact ⟨_,rfl,⟨its2,H3,kr,hT,Fp.at hH⟩⟩
   refine sk (tq (kq (sq ?_)))
   have am:=Fp.get hH 0 rfl
   refine rg (Z1.u 1 (Zbr (H:=H3) (id:=k0_) (off:=1) (cs:=(Z0 c0_)) (c:=[Zac false c0_.Uses]) (r:=Zac false c0_.Uses) (hl:=am)) (Z1.u 0 (Zaa (ys:=[Zac false c0_.Uses]) (h:=Zal Zaz)) Z1.f)) (tq (bk ?_))
   obtain ⟨ai,aa,h⟩:=bs h
   refine ZaN ((ZaC (λ(x:Int×σ) s=>∃ (a0:List ZaM) (a5:List HO),s=⟨[(0,.yl yid_),(1,.ptr k0_ 0),(2,.ptr k1_ 0),(3,.ptr k2_ 0),(5,iv i4),(6,.loc 6 0),(10,Zac false c0_.Uses),(11,iv ((List.length c0_.Uses:Nat):Int)),(12,iv i4),(22,Zac false c0_.Uses),(23,iv ((List.length c0_.Uses:Nat):Int)),(24,iv x.1)],[(6,(ZaP a4))],a5⟩/\T_ x.2 a0/\Fp H a5 (.cel k0_ (Z0 c0_)::.cel k1_ [iv c1_]::.cel k2_ [iv c2_]::its) (.cel k0_ (Z0 c0_)::.cel k1_ [iv c1_]::.cel k2_ [iv c2_]::a0)) (λx:Int×σ=>ZbV N y_ c0_ c2_ i4 a4 x.1 x.2) (λ(p:(σ)⊕(σ)) e s=>match p with|(.inl p)=>e=.exit 2/\(∃ (a2:List ZaM) (a7:List HO),s=⟨[(0,.yl yid_),(1,.ptr k0_ 0),(2,.ptr k1_ 0),(3,.ptr k2_ 0),(10,Zac false c0_.Uses),(11,iv ((List.length c0_.Uses:Nat):Int)),(12,iv i4)],[],a7⟩/\T_ p a2/\Fp H a7 (.cel k0_ (Z0 c0_)::.cel k1_ [iv c1_]::.cel k2_ [iv c2_]::its) (.cel k0_ (Z0 c0_)::.cel k1_ [iv c1_]::.cel k2_ [iv c2_]::a2))|(.inr p)=>e=.ret/\∃ xs,rawL s i54.res=some xs/\ZbF xs=.tup []/\∃ its',T_ p its'/\Fp H s.H (.cel k0_ (Z0 c0_)::.cel k1_ [iv c1_]::.cel k2_ [iv c2_]::its) (.cel k0_ (Z0 c0_)::.cel k1_ [iv c1_]::.cel k2_ [iv c2_]::its')) ?_ N _ ai _ aa ⟨its2,H3,kr,hT,Fp.at hH⟩).mono ?_)
   ·clear h aa
    rintro ⟨a8,aB⟩ o s h hR
    obtain ⟨a0,a5,rfl,hT,hH⟩:=hR
    replace hH:Fp H a5 (.cel k0_ (Z0 c0_)::.cel k1_ [iv c1_]::.cel k2_ [iv c2_]::its) (.cel k0_ (Z0 c0_)::.cel k1_ [iv c1_]::.cel k2_ [iv c2_]::a0):=hH
    replace h:ZbV N y_ c0_ c2_ i4 a4 a8 aB=some o:=h
    unfold ZbV at h
    refine sq (rg Z1.f (tq (sq (it h (λaw h=>?_) (λaw h=>?_)))))
    ·refine sk (tq (kq (sq (bk (sq ?_)))))
     obtain ⟨a1,ab,h⟩:=bs h
     refine rg (Z1.u 1 (Zaa (ys:=[Zac false c0_.Uses,iv a8]) (h:=Z7 Zaz ab)) (Z1.u 0 (Zam (sz:=4) (off:=0) (cs:=[.int .i64 a1.Stream,.int .i64 a1.Port,.int .i64 a1.From,.int .i64 a1.Long]) (r:=.agg (ZaP a1)) Zaz ab) Z1.f)) (tq (sq (sq ?_)))
     obtain ⟨ay,hj,h⟩:=bs h
     refine rgR (λs=>s=⟨[(0,.yl yid_),(1,.ptr k0_ 0),(2,.ptr k1_ 0),(3,.ptr k2_ 0),(5,iv i4),(6,.loc 6 0),(8,.loc 8 0),(10,Zac false c0_.Uses),(11,iv ((List.length c0_.Uses:Nat):Int)),(12,iv i4),(22,Zac false c0_.Uses),(23,iv ((List.length c0_.Uses:Nat):Int)),(24,iv a8),(44,bv ay)],[(6,(ZaP a4)),(8,(ZaP a1))],a5⟩) ?_ ?_
     ·clear h
      rcases ZaB hj with ⟨av,hj⟩|⟨au,hj⟩
      ·obtain rfl:=Zaj hj
       exact (EP.u 2 (Z8 (c:=(a8==i4)) (h:=av)) (EP.f kr))
      refine (EP.u 2 (Z8 (c:=(a8==i4)) (h:=au)) ?_)
      have ad:=Fp.get hH 2 rfl
      refine (EP.u 3 (Zbr (H:=a5) (id:=k2_) (off:=0) (cs:=[iv c2_]) (c:=[iv c2_]) (r:=iv c2_) (hl:=ad)) ?_)
      rcases ZaB hj with ⟨ar,hj⟩|⟨aq,hj⟩
      ·obtain rfl:=Zaj hj
       exact (EP.u 0 (Z8 (c:=(a1.Stream != c2_)) (h:=ar)) (EP.f kr))
      obtain rfl:=Zaj hj
      exact (EP.u 0 (Z8 (c:=(a1.Stream != c2_)) (h:=aq)) (EP.f kr))
     clear hj
     rintro s hR
     obtain rfl:=hR
     refine tq (it h (λap h=>?_) (λap h=>?_))
     ·refine kq (xq (tx (bx (tq (kq (rg Z1.f ?_))))))
      cases h
      exact ⟨_,rfl,⟨a0,a5,kr,hT,Fp.at hH⟩⟩
     refine sk (tq (kq (sq ?_)))
     obtain ⟨ax,al,h⟩:=bs h
     obtain ⟨ak,a6,ac,hT,ae⟩:=hy_ a4 a1 aB ax a5 a0 hT (Fp.tail (own:=[.cel k0_ (Z0 c0_),.cel k1_ [iv c1_],.cel k2_ [iv c2_]]) (its:=a0) hH) al
     replace hH:Fp H ak (.cel k0_ (Z0 c0_)::.cel k1_ [iv c1_]::.cel k2_ [iv c2_]::its) (.cel k0_ (Z0 c0_)::.cel k1_ [iv c1_]::.cel k2_ [iv c2_]::a6):=Fp.callT (own:=[.cel k0_ (Z0 c0_),.cel k1_ [iv c1_],.cel k2_ [iv c2_]]) (its:=a0) hH ae
     refine rg (Z1.v 3 (Zn5 (H:=a5) (id:=yid_) (ys:=[.agg (ZaP a4),.agg (ZaP a1)]) kr kr kr kr ac) Z1.f) (tq (it h (λao h=>?_) (λao h=>?_)))
     ·refine rt (br (tr ?_))
      cases h
      exact ⟨_,rfl,rfl,⟨[],kr,kr,a6,hT,Fp.at hH⟩⟩
     refine sk (bn (tq (kq (rg Z1.f ?_))))
     cases h
     exact ⟨_,rfl,⟨a6,ak,kr,hT,Fp.at hH⟩⟩
    refine kq (xq (tx ?_))
    cases h
    exact ⟨_,rfl,rfl,⟨a0,a5,kr,hT,Fp.at hH⟩⟩
   rintro e s hq
   rcases ai with aG|aE
   ·dsimp only at h hq
    obtain ⟨rfl,hR⟩:=hq
    obtain ⟨a2,a7,rfl,hT,hH⟩:=hR
    replace hH:Fp H a7 (.cel k0_ (Z0 c0_)::.cel k1_ [iv c1_]::.cel k2_ [iv c2_]::its) (.cel k0_ (Z0 c0_)::.cel k1_ [iv c1_]::.cel k2_ [iv c2_]::a2):=hH
    refine bx (bn (tq (kq (rg Z1.f ?_))))
    cases h
    exact ⟨_,rfl,⟨a2,a7,kr,hT,Fp.at hH⟩⟩
   dsimp only at h hq
   obtain ⟨rfl,hq⟩:=hq
   refine br (br (tr ?_))
   cases h
   exact ⟨_,rfl,rfl,hq⟩
  refine kq (xq (tx ?_))
  cases h
  exact ⟨_,rfl,rfl,⟨its2,H3,kr,hT,Fp.at hH⟩⟩
 rintro e s hq
 rcases ag with aD|aC
 ·dsimp only at h hq
  obtain ⟨rfl,hR⟩:=hq
  obtain ⟨a3,af,rfl,hT,hH⟩:=hR
  replace hH:Fp H af (.cel k0_ (Z0 c0_)::.cel k1_ [iv c1_]::.cel k2_ [iv c2_]::its) (.cel k0_ (Z0 c0_)::.cel k1_ [iv c1_]::.cel k2_ [iv c2_]::a3):=hH
  refine bx ?_
  cases h
  exact ⟨[],kr,kr,a3,hT,Fp.at hH⟩
 dsimp only at h hq
 obtain ⟨rfl,hq⟩:=hq
 refine br ?_
 cases h
 exact hq
theorem ZdL (N:Nat)(a0_:Zad)(r:Int)(h:Zb2 N a0_=some r):Zbc Try.prog 55 [.agg (Zbl a0_)] (iv r):=by
 unfold Zb2 at h
 have hH  := hp0
 refine ZaD Zys rfl rfl (Zas _ _ _ ?_) rfl
 refine sq (rg Z1.f (tq (sq (sq (rgX ⟨[(1,.loc 1 0),(22,bv ((decide (a0_.Period<1))||((decide (a0_.Period>960))||((decide (a0_.From<0))||(decide (a0_.From≥a0_.Period))))))],[(1,(Zbl a0_))],[]⟩ ?_ ?_)))))
 ·rcases Bool.eq_false_or_eq_true (decide (a0_.Period<1)) with hc1|hc2
  ·exact (EP.u 2 (Z8 (c:=(decide (a0_.Period<1))) (h:=hc1)) (EP.f (by simp only [hc1];kernel_rfl)))
  refine (EP.u 2 (Z8 (c:=(decide (a0_.Period<1))) (h:=hc2)) ?_)
  rcases Bool.eq_false_or_eq_true (decide (a0_.Period>960)) with hc3|hc4
  ·exact (EP.u 3 (Z8 (c:=(decide (a0_.Period>960))) (h:=hc3)) (EP.f (by simp only [hc2,hc3];kernel_rfl)))
  refine (EP.u 3 (Z8 (c:=(decide (a0_.Period>960))) (h:=hc4)) ?_)
  rcases Bool.eq_false_or_eq_true (decide (a0_.From<0)) with hc5|hc6
  ·exact (EP.u 4 (Z8 (c:=(decide (a0_.From<0))) (h:=hc5)) (EP.f (by simp only [hc2,hc4,hc5];kernel_rfl)))
  exact (EP.u 4 (Z8 (c:=(decide (a0_.From<0))) (h:=hc6)) (EP.f (by simp only [hc2,hc4,hc6];kernel_rfl)))
 refine tq (it h (λhc7 h=>?_) (λhc7 h=>?_))
 ·refine sq (rg Z1.f (tq (rt (tr ?_))))
  cases h
  exact Zaq kr
 refine sk (tq (kq (sq (sq (rgX ⟨[(32,bv ((decide (a0_.Long<1))||(decide (a0_.Long>a0_.Period))))],[],[]⟩ ?_ ?_)))))
 ·rcases Bool.eq_false_or_eq_true (decide (a0_.Long<1)) with hc8|hc9
  ·exact (EP.u 2 (Z8 (c:=(decide (a0_.Long<1))) (h:=hc8)) (EP.f (by simp only [hc8];kernel_rfl)))
  exact (EP.u 2 (Z8 (c:=(decide (a0_.Long<1))) (h:=hc9)) (EP.f (by simp only [hc9];kernel_rfl)))
 refine tq (it h (λa0 h=>?_) (λa0 h=>?_))
 ·refine sq (rg Z1.f (tq (rt (tr ?_))))
  cases h
  exact Zaq kr
 refine sk (tq (kq (sq (rg Z1.f (tq (rt ?_))))))
 cases h
 exact Zaq kr
theorem ZfP (N:Nat)(a0_:(List Zad))(r:Int)(h:Zcb N a0_=some r):Zbc Try.prog 57 [ZaU false a0_] (iv r):=by
 unfold Zcb at h
 have hH  := hp0
 refine ZaD Zyq rfl rfl (Zas _ _ _ ?_) rfl
 refine sq (rg Z1.f (tq (sq (sq (rg (Z1.u 1 (Zaa (ys:=[ZaU false a0_]) (h:=Zal ZaW)) Z1.f) (tq (it h (λhc1 h=>?_) (λhc1 h=>?_))))))))
 ·refine sq (rg Z1.f (tq (rt (tr ?_))))
  cases h
  exact Zaq kr
 refine sk (tq (kq (sq (sq (rg (Z1.u 1 (Zaa (ys:=[ZaU false a0_]) (h:=Zal ZaW)) Z1.f) (tq (bk ?_)))))))
 obtain ⟨a3,a1,h⟩:=bs h
 refine ZaN ((ZaC (λ(x:Int) s=>s=⟨[(9,ZaU false a0_),(10,iv ((List.length a0_:Nat):Int)),(11,iv x)],[],[]⟩) (λx:Int=>Za7 N a0_ x) (λ(p:(Unit)⊕(Int)) e s=>match p with|(.inl p)=>e=.exit 0/\(s=⟨[],[],[]⟩)|(.inr p)=>e=.ret/\∃ xs,resL s i57.res=some xs/\ZbF xs=iv p) ?_ N _ a3 _ a1 kr).mono ?_)
 ·clear h a1
  rintro i2 o s h hR
  obtain rfl:=hR
  replace h:Za7 N a0_ i2=some o:=h
  unfold Za7 at h
  refine sq (rg Z1.f (tq (sq (it h (λa6 h=>?_) (λa6 h=>?_)))))
  ·refine sk (tq (kq (sq (bk (sq ?_)))))
   obtain ⟨a0,a2,h⟩:=bs h
   refine rg (Z1.u 0 (Zaa (ys:=[ZaU false a0_,iv i2]) (h:=Z7 ZaW a2)) (Z1.u 0 (Zam (sz:=3) (off:=0) (cs:=[.int .i64 a0.Period,.int .i64 a0.From,.int .i64 a0.Long]) (r:=.agg (Zbl a0)) ZaW a2) Z1.f)) (tq (sq ?_))
   obtain ⟨a7,a4,h⟩:=bs h
   refine rg (Z1.v 1 (Zaw (hc:=ZdL N a0 a7 a4)) Z1.f) (tq (sq (rg Z1.f (tq (it h (λa5 h=>?_) (λa5 h=>?_))))))
   ·refine sq (rg Z1.f (tq (rt (br (tr ?_)))))
    cases h
    exact ⟨_,rfl,rfl,Zaq kr⟩
   refine sk (bn (tq (kq (rg Z1.f ?_))))
   cases h
   exact ⟨_,rfl,kr⟩
  refine kq (xq (tx ?_))
  cases h
  exact ⟨_,rfl,rfl,kr⟩
 rintro e s hq
 rcases a3 with a9|a8
 ·dsimp only at h hq
  obtain ⟨rfl,hR⟩:=hq
  obtain rfl:=hR
  refine bx (tq (sq (rg Z1.f (tq (rt ?_)))))
  cases h
  exact Zaq kr
 dsimp only at h hq
 obtain ⟨rfl,hq⟩:=hq
 refine br (tr ?_)
 cases h
 exact hq
theorem Zku (N:Nat)(a0_:Int)(a1_:Int)(r:Int)(h:Ze6 N a0_ a1_=some r):Zbc Try.prog 59 [iv a0_,iv a1_] (iv r):=by
 unfold Ze6 at h
 have hH  := hp0
 refine ZaD Zyo rfl rfl (Zas _ _ _ ?_) rfl
 refine sq (rg Z1.f (tq (sq (sq (rg Z1.f (tq (bk ?_)))))))
 obtain ⟨a1,a0,h⟩:=bs h
 refine ZaN ((ZaC (λ(x:Int) s=>s=⟨[(0,iv a0_),(1,iv a1_),(5,iv x)],[],[]⟩) (λx:Int=>Zb0 N a0_ a1_ x) (λ(p:(Unit)⊕(Int)) e s=>match p with|(.inl p)=>e=.exit 0/\(s=⟨[],[],[]⟩)|(.inr p)=>e=.ret/\∃ xs,resL s i59.res=some xs/\ZbF xs=iv p) ?_ N _ a1 _ a0 kr).mono ?_)
 ·clear h a0
  rintro i1 o s h hR
  obtain rfl:=hR
  replace h:Zb0 N a0_ a1_ i1=some o:=h
  unfold Zb0 at h
  refine sq (sq (rg Z1.f (tq (it h (λa8 h=>?_) (λa8 h=>?_)))))
  ·refine sk (tq (kq (sq (bk (sq ?_)))))
   obtain ⟨a9,hj,h⟩:=bs h
   refine rgR (λs=>s=⟨[(0,iv a0_),(1,iv a1_),(5,iv i1),(20,bv a9)],[],[]⟩) ?_ ?_
   ·clear h
    obtain ⟨a2,a4,hj⟩:=bs hj
    refine (EP.u 2 (Zaa (ys:=[iv a0_,iv i1]) (h:=Zba a4)) ?_)
    rcases ZaB hj with ⟨a7,hj⟩|⟨a6,hj⟩
    ·refine (EP.u 0 (Z8 (c:=(a2==0)) (h:=a7)) ?_)
     obtain ⟨ac,a3,hj⟩:=bs hj
     obtain rfl:=Zaj hj
     exact (EP.u 3 (Zaa (ys:=[iv a1_,iv i1]) (h:=Zba a3)) (EP.f kr))
    obtain rfl:=Zaj hj
    exact (EP.u 0 (Z8 (c:=(a2==0)) (h:=a6)) (EP.f kr))
   clear hj
   rintro s hR
   obtain rfl:=hR
   refine tq (it h (λa5 h=>?_) (λa5 h=>?_))
   ·refine sq (rg Z1.f (tq (rt (br (tr ?_)))))
    cases h
    exact ⟨_,rfl,rfl,Zaq kr⟩
   refine sk (bn (tq (kq (rg Z1.f ?_))))
   cases h
   exact ⟨_,rfl,kr⟩
  refine kq (xq (tx ?_))
  cases h
  exact ⟨_,rfl,rfl,kr⟩
 rintro e s hq
 rcases a1 with ab|aa
 ·dsimp only at h hq
  obtain ⟨rfl,hR⟩:=hq
  obtain rfl:=hR
  refine bx (tq (sq (rg Z1.f (tq (rt ?_)))))
  cases h
  exact Zaq kr
 dsimp only at h hq
 obtain ⟨rfl,hq⟩:=hq
 refine br (tr ?_)
 cases h
 exact hq
theorem Zks (N:Nat)(a0_:Int)(a1_:Int)(r:Int)(h:Ze5 N a0_ a1_=some r):Zbc Try.prog 60 [iv a0_,iv a1_] (iv r):=by
 unfold Ze5 at h
 have hH  := hp0
 refine ZaD Zyn rfl rfl (Zas _ _ _ ?_) rfl
 refine sq (rg Z1.f (tq (sq ?_)))
 obtain ⟨m1,hm1,h⟩:=bs h
 refine rg (Z1.u 2 (Zaa (ys:=[iv a0_,iv a1_]) (h:=Zba hm1)) Z1.f) (tq ?_)
 obtain ⟨a2,a0,h⟩:=bs h
 refine Zec [5] (λs=>s=⟨[(5,iv a2)],[],[]⟩) ?_ ?_
 ·clear h
  have h:=a0
  refine sq (rg Z1.f (tq (it h (λa1 h=>?_) (λa1 h=>?_))))
  ·refine rg Z1.f ?_
   cases h
   exact ⟨rfl,kr⟩
  refine sk ?_
  cases h
  exact ⟨rfl,kr⟩
 clear a0
 rintro s hR
 obtain rfl:=hR
 refine sq (rg Z1.f (tq (rt ?_)))
 cases h
 exact Zaq kr
theorem ZiD (N:Nat)(a0_:Int)(a1_:Int)(r:Int)(h:Zd2 N a0_ a1_=some r):Zbc Try.prog 62 [iv a0_,iv a1_] (iv r):=by
 unfold Zd2 at h
 have hH  := hp0
 refine ZaD Zyl rfl rfl (Zas _ _ _ ?_) rfl
 refine sq (rg Z1.f (tq (sq ?_)))
 obtain ⟨m1,hm1,h⟩:=bs h
 obtain ⟨m2,hm2,h⟩:=bs h
 refine rg (Z1.u 2 (Zaa (ys:=[iv a0_,iv a1_]) (h:=Zba hm1)) (Z1.u 3 (Zaa (ys:=[iv (w64 (m1+a1_)),iv a1_]) (h:=Zba hm2)) Z1.f)) (tq (rt ?_))
 cases h
 exact Zaq kr
theorem ZfC (N:Nat)(a0_:Int)(a1_:Int)(r:Int)(h:Zdo N a0_ a1_=some r):Zbc Try.prog 63 [iv a0_,iv a1_] (iv r):=by
 unfold Zdo at h
 have hH  := hp0
 refine ZaD Zyk rfl rfl (Zas _ _ _ ?_) rfl
 refine sq (rg Z1.f (tq (sq (bk ?_))))
 obtain ⟨a3,a0,h⟩:=bs h
 refine ZaN ((ZaC (λ(x:Int×Int) s=>s=⟨[(0,iv x.1),(1,iv x.2)],[],[]⟩) (λx:Int×Int=>ZbL N x.1 x.2) (λ(p:Int) e s=>e=.exit 0/\(s=⟨[(0,iv p)],[],[]⟩)) ?_ N _ a3 _ a0 kr).mono ?_)
 ·clear h a0
  rintro ⟨i1,i2⟩ o s h hR
  obtain rfl:=hR
  replace h:ZbL N i1 i2=some o:=h
  unfold ZbL at h
  refine sq (sq (rg Z1.f (tq (it h (λa2 h=>?_) (λa2 h=>?_)))))
  ·refine sk (tq (kq (bk ?_)))
   obtain ⟨a4,a1,h⟩:=bs h
   refine rq (Z1.u 3 (Zaa (ys:=[iv i1,iv i2]) (h:=Zba a1)) Z1.f) (bn ?_)
   cases h
   exact ⟨_,rfl,kr⟩
  refine kq (xq (tx ?_))
  cases h
  exact ⟨_,rfl,rfl,kr⟩
 rintro e s hq
 obtain ⟨rfl,hR⟩:=hq
 obtain rfl:=hR
 refine bx (tq (sq (rg Z1.f (tq (rt ?_)))))
 cases h
 exact Zaq kr
theorem ZiH (N:Nat)(a0_:Z4)(r:Bool)(h:Zd3 N a0_=some r):Zbc Try.prog 26 [.agg (Z0 a0_)] (bv r):=by
 unfold Zd3 at h
 have hH  := hp0
 refine ZaD ZyR rfl rfl (Zas _ _ _ ?_) rfl
 refine sq (rg Z1.f (tq (sq (sq (rgX ⟨[(1,.loc 1 0),(15,bv ((decide (((List.length a0_.Periods:Nat):Int)>12))||(decide (((List.length a0_.Uses:Nat):Int)>192))))],[(1,(Z0 a0_))],[]⟩ ?_ ?_)))))
 ·refine (EP.u 2 (Zaa (ys:=[Zag false a0_.Periods]) (h:=Zal eI64)) ?_)
  rcases Bool.eq_false_or_eq_true (decide (((List.length a0_.Periods:Nat):Int)>12)) with hc1|hc2
  ·exact (EP.u 0 (Z8 (c:=(decide (((List.length a0_.Periods:Nat):Int)>12))) (h:=hc1)) (EP.f (by simp only [hc1];kernel_rfl)))
  exact (EP.u 0 (Z8 (c:=(decide (((List.length a0_.Periods:Nat):Int)>12))) (h:=hc2)) (EP.u 3 (Zaa (ys:=[Zac false a0_.Uses]) (h:=Zal Zaz)) (EP.f (by simp only [hc2];kernel_rfl))))
 refine tq (it h (λhc3 h=>?_) (λhc3 h=>?_))
 ·refine sq (rg Z1.f (tq (rt (tr ?_))))
  cases h
  exact Zaq kr
 refine sk (tq (kq (sq (sq (rg Z1.f (tq (bk ?_)))))))
 obtain ⟨ax,af,h⟩:=bs h
 refine ZaN ((ZaC (λ(x:Int) s=>s=⟨[(1,.loc 1 0),(3,iv x)],[(1,(Z0 a0_))],[]⟩) (λx:Int=>Zcj N a0_ x) (λ(p:(Unit)⊕(Bool)) e s=>match p with|(.inl p)=>e=.exit 0/\(s=⟨[(1,.loc 1 0)],[(1,(Z0 a0_))],[]⟩)|(.inr p)=>e=.ret/\∃ xs,resL s i26.res=some xs/\ZbF xs=bv p) ?_ N _ ax _ af kr).mono ?_)
 ·clear h af
  rintro i4 o s h hR
  obtain rfl:=hR
  replace h:Zcj N a0_ i4=some o:=h
  unfold Zcj at h
  refine sq (sq (rg (Z1.u 3 (Zaa (ys:=[Zag false a0_.Periods]) (h:=Zal eI64)) Z1.f) (tq (it h (λaC h=>?_) (λaC h=>?_)))))
  ·refine sk (tq (kq (sq (bk (sq ?_)))))
   obtain ⟨aE,hj,h⟩:=bs h
   refine rgR (λs=>s=⟨[(1,.loc 1 0),(3,iv i4),(36,bv aE)],[(1,(Z0 a0_))],[]⟩) ?_ ?_
   ·clear h
    obtain ⟨ad,ai,hj⟩:=bs hj
    refine (EP.u 3 (Zaa (ys:=[Zag false a0_.Periods,iv i4]) (h:=Z7 eI64 ai)) (EP.u 0 (Zam (sz:=1) (off:=0) (cs:=[.int .i64 ad]) (r:=iv ad) eI64 ai) ?_))
    rcases ZaB hj with ⟨aB,hj⟩|⟨aA,hj⟩
    ·obtain rfl:=Zaj hj
     exact (EP.u 0 (Z8 (c:=(decide (ad<1))) (h:=aB)) (EP.f kr))
    refine (EP.u 0 (Z8 (c:=(decide (ad<1))) (h:=aA)) ?_)
    obtain ⟨aD,ag,hj⟩:=bs hj
    obtain rfl:=Zaj hj
    exact (EP.u 4 (Zaa (ys:=[Zag false a0_.Periods,iv i4]) (h:=Z7 eI64 ag)) (EP.u 0 (Zam (sz:=1) (off:=0) (cs:=[.int .i64 aD]) (r:=iv aD) eI64 ag) (EP.f kr)))
   clear hj
   rintro s hR
   obtain rfl:=hR
   refine tq (it h (λaz h=>?_) (λaz h=>?_))
   ·refine sq (rg Z1.f (tq (rt (br (tr ?_)))))
    cases h
    exact ⟨_,rfl,rfl,Zaq kr⟩
   refine sk (bn (tq (kq (rg Z1.f ?_))))
   cases h
   exact ⟨_,rfl,kr⟩
  refine kq (xq (tx ?_))
  cases h
  exact ⟨_,rfl,rfl,kr⟩
 rintro e s hq
 rcases ax with aK|aG
 ·dsimp only at h hq
  obtain ⟨rfl,hR⟩:=hq
  obtain rfl:=hR
  refine bx (tq (sq (sq (rg Z1.f (tq (bk ?_))))))
  obtain ⟨ae,a4,h⟩:=bs h
  refine ZaN ((ZaC (λ(x:Int) s=>s=⟨[(1,.loc 1 0),(4,iv x)],[(1,(Z0 a0_))],[]⟩) (λx:Int=>Zci N a0_ x) (λ(p:(Unit)⊕(Bool)) e s=>match p with|(.inl p)=>e=.exit 2/\(s=⟨[(1,.loc 1 0)],[(1,(Z0 a0_))],[]⟩)|(.inr p)=>e=.ret/\∃ xs,resL s i26.res=some xs/\ZbF xs=bv p) ?_ N _ ae _ a4 kr).mono ?_)
  ·clear h a4
   rintro ac o s h hR
   obtain rfl:=hR
   replace h:Zci N a0_ ac=some o:=h
   unfold Zci at h
   refine sq (sq (rg (Z1.u 3 (Zaa (ys:=[Zac false a0_.Uses]) (h:=Zal Zaz)) Z1.f) (tq (it h (λav h=>?_) (λav h=>?_)))))
   ·refine sk (tq (kq (sq (bk (sq ?_)))))
    obtain ⟨a0,a7,h⟩:=bs h
    refine rg (Z1.u 3 (Zaa (ys:=[Zac false a0_.Uses,iv ac]) (h:=Z7 Zaz a7)) (Z1.u 0 (Zam (sz:=4) (off:=0) (cs:=[.int .i64 a0.Stream,.int .i64 a0.Port,.int .i64 a0.From,.int .i64 a0.Long]) (r:=.agg (ZaP a0)) Zaz a7) Z1.f)) (tq (sq (sq (rgX ⟨[(1,.loc 1 0),(4,iv ac),(5,.loc 5 0),(69,bv ((decide (a0.Stream<0))||((decide (a0.Stream≥((List.length a0_.Periods:Nat):Int)))||((decide (a0.Port<0))||(decide (a0.Port≥48))))))],[(1,(Z0 a0_)),(5,(ZaP a0))],[]⟩ ?_ ?_))))
    ·rcases Bool.eq_false_or_eq_true (decide (a0.Stream<0)) with ab|a1
     ·exact (EP.u 2 (Z8 (c:=(decide (a0.Stream<0))) (h:=ab)) (EP.f (by simp only [ab];kernel_rfl)))
     refine (EP.u 2 (Z8 (c:=(decide (a0.Stream<0))) (h:=a1)) (EP.u 5 (Zaa (ys:=[Zag false a0_.Periods]) (h:=Zal eI64)) ?_))
     rcases Bool.eq_false_or_eq_true (decide (a0.Stream≥((List.length a0_.Periods:Nat):Int))) with aa|a2
     ·exact (EP.u 0 (Z8 (c:=(decide (a0.Stream≥((List.length a0_.Periods:Nat):Int)))) (h:=aa)) (EP.f (by simp only [a1,aa];kernel_rfl)))
     refine (EP.u 0 (Z8 (c:=(decide (a0.Stream≥((List.length a0_.Periods:Nat):Int)))) (h:=a2)) ?_)
     rcases Bool.eq_false_or_eq_true (decide (a0.Port<0)) with a9|a8
     ·exact (EP.u 4 (Z8 (c:=(decide (a0.Port<0))) (h:=a9)) (EP.f (by simp only [a1,a2,a9];kernel_rfl)))
     exact (EP.u 4 (Z8 (c:=(decide (a0.Port<0))) (h:=a8)) (EP.f (by simp only [a1,a2,a8];kernel_rfl)))
    refine tq (it h (λau h=>?_) (λau h=>?_))
    ·refine sq (rg Z1.f (tq (rt (tr (br (tr ?_))))))
     cases h
     exact ⟨_,rfl,rfl,Zaq kr⟩
    refine sk (tq (kq (sq ?_)))
    obtain ⟨ay,hj,h⟩:=bs h
    refine rqR (λs=>s=⟨[(1,.loc 1 0),(4,iv ac),(99,bv ay)],[(1,(Z0 a0_))],[]⟩) ?_ ?_
    ·clear h
     rcases ZaB hj with ⟨ar,hj⟩|⟨aq,hj⟩
     ·obtain rfl:=Zaj hj
      exact (EP.u 2 (Z8 (c:=(decide (a0.From<0))) (h:=ar)) (EP.f kr))
     refine (EP.u 2 (Z8 (c:=(decide (a0.From<0))) (h:=aq)) ?_)
     obtain ⟨a3,a6,hj⟩:=bs hj
     refine (EP.u 7 (Zaa (ys:=[Zag false a0_.Periods,iv a0.Stream]) (h:=Z7 eI64 a6)) (EP.u 0 (ZaK (Zam (sz:=1) (off:=0) (cs:=[.int .i64 a3]) (r:=iv a3) eI64 a6)) ?_))
     rcases ZaB hj with ⟨ap,hj⟩|⟨ao,hj⟩
     ·obtain rfl:=Zaj hj
      exact (EP.u 0 (Z8 (c:=(decide (a0.From≥a3))) (h:=ap)) (EP.f kr))
     refine (EP.u 0 (Z8 (c:=(decide (a0.From≥a3))) (h:=ao)) ?_)
     rcases ZaB hj with ⟨an,hj⟩|⟨am,hj⟩
     ·obtain rfl:=Zaj hj
      exact (EP.u 4 (Z8 (c:=(decide (a0.Long<1))) (h:=an)) (EP.f kr))
     refine (EP.u 4 (Z8 (c:=(decide (a0.Long<1))) (h:=am)) ?_)
     obtain ⟨aj,a5,hj⟩:=bs hj
     obtain rfl:=Zaj hj
     exact (EP.u 8 (Zaa (ys:=[Zag false a0_.Periods,iv a0.Stream]) (h:=Z7 eI64 a5)) (EP.u 0 (ZaK (Zam (sz:=1) (off:=0) (cs:=[.int .i64 aj]) (r:=iv aj) eI64 a5)) (EP.f kr)))
    clear hj
    rintro s hR
    obtain rfl:=hR
    refine tq (it h (λal h=>?_) (λal h=>?_))
    ·refine sq (rg Z1.f (tq (rt (br (tr ?_)))))
     cases h
     exact ⟨_,rfl,rfl,Zaq kr⟩
    refine sk (bn (tq (kq (rg Z1.f ?_))))
    cases h
    exact ⟨_,rfl,kr⟩
   refine kq (xq (tx ?_))
   cases h
   exact ⟨_,rfl,rfl,kr⟩
  rintro e s hq
  rcases ae with aJ|aI
  ·dsimp only at h hq
   obtain ⟨rfl,hR⟩:=hq
   obtain rfl:=hR
   refine bx (tq (sq ?_))
   obtain ⟨aw,ak,h⟩:=bs h
   refine rg (Z1.v 2 (Zaw (hc:=Zkq N a0_.Periods aw ak)) Z1.f) (tq (rt ?_))
   cases h
   exact Zaq kr
  dsimp only at h hq
  obtain ⟨rfl,hq⟩:=hq
  refine br (tr ?_)
  cases h
  exact hq
 dsimp only at h hq
 obtain ⟨rfl,hq⟩:=hq
 refine br (tr ?_)
 cases h
 exact hq
theorem ZjM (N:Nat)(a0_:Z4)(a1_:(List Z3))(r:Bool)(h:Zew N a0_ a1_=some r):Zbc Try.prog 27 [.agg (Z0 a0_),Z2 false a1_] (bv r):=by
 unfold Zew at h
 have hH  := hp0
 refine ZaD ZyQ rfl rfl (Zas _ _ _ ?_) rfl
 refine sq (rg Z1.f (tq (sq (sq (rgX ⟨[(1,Z2 false a1_),(2,.loc 2 0),(17,bv ((decide (((List.length a1_:Nat):Int)<1))||(decide (((List.length a1_:Nat):Int)>2000))))],[(2,(Z0 a0_))],[]⟩ ?_ ?_)))))
 ·refine (EP.u 1 (Zaa (ys:=[Z2 false a1_]) (h:=Zal Z5)) ?_)
  rcases Bool.eq_false_or_eq_true (decide (((List.length a1_:Nat):Int)<1)) with hc1|hc2
  ·exact (EP.u 0 (Z8 (c:=(decide (((List.length a1_:Nat):Int)<1))) (h:=hc1)) (EP.f (by simp only [hc1];kernel_rfl)))
  exact (EP.u 0 (Z8 (c:=(decide (((List.length a1_:Nat):Int)<1))) (h:=hc2)) (EP.u 2 (Zaa (ys:=[Z2 false a1_]) (h:=Zal Z5)) (EP.f (by simp only [hc2];kernel_rfl))))
 refine tq (it h (λhc3 h=>?_) (λhc3 h=>?_))
 ·refine sq (rg Z1.f (tq (rt (tr ?_))))
  cases h
  exact Zaq kr
 refine sk (tq (kq (sq (sq (rg Z1.f (tq (bk ?_)))))))
 obtain ⟨bm,b0,h⟩:=bs h
 refine ZaN ((ZaC (λ(x:Int) s=>s=⟨[(1,Z2 false a1_),(2,.loc 2 0),(5,iv x)],[(2,(Z0 a0_))],[]⟩) (λx:Int=>ZcD N a0_ a1_ x) (λ(p:(Unit)⊕(Bool)) e s=>match p with|(.inl p)=>e=.exit 0/\(s=⟨[(1,Z2 false a1_)],[],[]⟩)|(.inr p)=>e=.ret/\∃ xs,resL s i27.res=some xs/\ZbF xs=bv p) ?_ N _ bm _ b0 kr).mono ?_)
 ·clear h b0
  rintro i4 o s h hR
  obtain rfl:=hR
  replace h:ZcD N a0_ a1_ i4=some o:=h
  unfold ZcD at h
  refine sq (sq (rg (Z1.u 2 (Zaa (ys:=[Z2 false a1_]) (h:=Zal Z5)) Z1.f) (tq (it h (λbI h=>?_) (λbI h=>?_)))))
  ·refine sk (tq (kq (sq (bk (sq ?_)))))
   obtain ⟨bU,hj,h⟩:=bs h
   refine rqR (λs=>s=⟨[(1,Z2 false a1_),(2,.loc 2 0),(5,iv i4),(47,bv bU)],[(2,(Z0 a0_))],[]⟩) ?_ ?_
   ·clear h
    obtain ⟨aV,b2,hj⟩:=bs hj
    refine (EP.u 2 (Zaa (ys:=[Z2 false a1_,iv i4]) (h:=Z7 Z5 b2)) (EP.u 1 (ZaK (Zam (sz:=2) (off:=0) (cs:=[.int .i64 aV.Stream]) (r:=iv aV.Stream) Z5 b2)) ?_))
    rcases ZaB hj with ⟨bG,hj⟩|⟨bE,hj⟩
    ·obtain rfl:=Zaj hj
     exact (EP.u 0 (Z8 (c:=(decide (aV.Stream<0))) (h:=bG)) (EP.f kr))
    refine (EP.u 0 (Z8 (c:=(decide (aV.Stream<0))) (h:=bE)) ?_)
    obtain ⟨aU,b1,hj⟩:=bs hj
    refine (EP.u 3 (Zaa (ys:=[Z2 false a1_,iv i4]) (h:=Z7 Z5 b1)) (EP.u 1 (ZaK (Zam (sz:=2) (off:=0) (cs:=[.int .i64 aU.Stream]) (r:=iv aU.Stream) Z5 b1)) (EP.u 2 (Zaa (ys:=[Zag false a0_.Periods]) (h:=Zal eI64)) ?_)))
    rcases ZaB hj with ⟨bD,hj⟩|⟨bC,hj⟩
    ·obtain rfl:=Zaj hj
     exact (EP.u 0 (Z8 (c:=(decide (aU.Stream≥((List.length a0_.Periods:Nat):Int)))) (h:=bD)) (EP.f kr))
    refine (EP.u 0 (Z8 (c:=(decide (aU.Stream≥((List.length a0_.Periods:Nat):Int)))) (h:=bC)) ?_)
    obtain ⟨bR,bq,hj⟩:=bs hj
    obtain rfl:=Zaj hj
    exact (EP.u 5 (Za2 (hc:=ZjI N a0_ a1_ i4 bR bq)) (EP.f kr))
   clear hj
   rintro s hR
   obtain rfl:=hR
   refine tq (it h (λbB h=>?_) (λbB h=>?_))
   ·refine sq (rg Z1.f (tq (rt (br (tr ?_)))))
    cases h
    exact ⟨_,rfl,rfl,Zaq kr⟩
   refine sk (bn (tq (kq (rg Z1.f ?_))))
   cases h
   exact ⟨_,rfl,kr⟩
  refine kq (xq (tx ?_))
  cases h
  exact ⟨_,rfl,rfl,kr⟩
 rintro e s hq
 rcases bm with c2|bY
 ·dsimp only at h hq
  obtain ⟨rfl,hR⟩:=hq
  obtain rfl:=hR
  refine bx (tq (sq ?_))
  obtain ⟨bT,bt,h⟩:=bs h
  obtain ⟨aW,bl,bJ,bK,bi,hH⟩:=HP.make eI64 hH bt
  replace hH:HP _ [.arr aW 1 false (List.map eI64 bT)]:=hH
  have ai:=Zbd (HP.get hH 0 rfl)
  refine rgS ⟨[(1,Z2 false a1_),(6,aW)],[],bl⟩ (Z1.u 1 (Zaa (ys:=[Z2 false a1_]) (h:=Zal Z5)) (Z1.h 0 (Zjz (H:=[]) (zero:=[.int .i64 0]) (bytes:=8) kr kr kr bJ bK bi) Z1.f)) (by cases ai<;>kernel_rfl) (tq (sq (sq (rgS ⟨[(1,Z2 false a1_),(6,aW),(7,iv 0)],[],bl⟩ Z1.f (by cases ai<;>kernel_rfl) (tq (bk ?_))))))
  obtain ⟨ak,aq,h⟩:=bs h
  refine ZaN ((ZaC (λ(x:Int×(List Int)) s=>∃ (ae:AV) (aj:List HO),s=⟨[(1,Z2 false a1_),(6,ae),(7,iv x.1)],[],aj⟩/\HP aj [.arr ae 1 false (List.map eI64 x.2)]) (λx:Int×(List Int)=>Zb7 N a1_ x.1 x.2) (λ(p:(List Int)) e s=>e=.exit 2/\(∃ (a4:AV) (a5:List HO),s=⟨[(1,Z2 false a1_),(6,a4)],[],a5⟩/\HP a5 [.arr a4 1 false (List.map eI64 p)])) ?_ N _ ak _ aq ⟨aW,bl,(by show _=_;cases ai<;>kernel_rfl),(HP.pick hH [0] rfl)⟩).mono ?_)
  ·clear h aq
   rintro ⟨a3,bp⟩ o s h hR
   obtain ⟨ae,aj,rfl,hH⟩:=hR
   replace hH:HP _ [.arr ae 1 false (List.map eI64 bp)]:=hH
   have ac:=Zbd (HP.get hH 0 rfl)
   replace h:Zb7 N a1_ a3 bp=some o:=h
   unfold Zb7 at h
   refine sq (sq (rgS ⟨[(1,Z2 false a1_),(6,ae),(7,iv a3),(54,bv (decide (a3<((List.length a1_:Nat):Int))))],[],aj⟩ (Z1.u 2 (Zaa (ys:=[Z2 false a1_]) (h:=Zal Z5)) Z1.f) (by cases ac<;>kernel_rfl) (tq (it h (λbf h=>?_) (λbf h=>?_)))))
   ·refine sk (tq (kq (sq (bk (sq (rgS ⟨[(1,Z2 false a1_),(6,ae),(7,iv a3),(8,iv 0)],[],aj⟩ Z1.f (by cases ac<;>kernel_rfl) (tq (bk ?_))))))))
    obtain ⟨aY,ar,h⟩:=bs h
    refine ZaN ((ZaC (λ(x:Int×(List Int)) s=>∃ (a0:AV) (a7:List HO),s=⟨[(1,Z2 false a1_),(6,a0),(7,iv a3),(8,iv x.1)],[],a7⟩/\HP a7 [.arr a0 1 false (List.map eI64 x.2)]) (λx:Int×(List Int)=>Zb6 N a1_ a3 x.1 x.2) (λ(p:(List Int)) e s=>e=.exit 4/\(∃ (ab:AV) (ag:List HO),s=⟨[(1,Z2 false a1_),(6,ab),(7,iv a3)],[],ag⟩/\HP ag [.arr ab 1 false (List.map eI64 p)])) ?_ N _ aY _ ar ⟨ae,aj,(by show _=_;cases ac<;>kernel_rfl),(HP.pick hH [0] rfl)⟩).mono ?_)
    ·clear h ar
     rintro ⟨a6,ao⟩ o s h hR
     obtain ⟨a0,a7,rfl,hH⟩:=hR
     replace hH:HP _ [.arr a0 1 false (List.map eI64 ao)]:=hH
     have a1:=Zbd (HP.get hH 0 rfl)
     replace h:Zb6 N a1_ a3 a6 ao=some o:=h
     unfold Zb6 at h
     refine sq (sq ?_)
     obtain ⟨an,aJ,h⟩:=bs h
     refine rgS ⟨[(1,Z2 false a1_),(6,a0),(7,iv a3),(8,iv a6),(64,bv (decide (a6<((List.length an.Arms:Nat):Int))))],[],a7⟩ (Z1.u 3 (Zaa (ys:=[Z2 false a1_,iv a3]) (h:=Z7 Z5 aJ)) (Z1.u 1 (Zam (sz:=2) (off:=1) (cs:=[.sl 4 false (List.map Zae an.Arms)]) (r:=Zaf false an.Arms) Z5 aJ) (Z1.u 0 (Zaa (ys:=[Zaf false an.Arms]) (h:=Zal Zae)) Z1.f))) (by cases a1<;>kernel_rfl) (tq (it h (λbe h=>?_) (λbe h=>?_)))
     ·refine sk (tq (kq ?_))
      obtain ⟨aZ,au,h⟩:=bs h
      refine Zec [1,6,7,8] (λs=>∃ (aa:AV) (af:List HO),s=⟨[(1,Z2 false a1_),(6,aa),(7,iv a3),(8,iv a6)],[],af⟩/\HP af [.arr aa 1 false (List.map eI64 aZ)]) ?_ ?_
      ·clear h
       have h:=au
       refine bk (sq ?_)
       obtain ⟨aQ,aI,h⟩:=bs h
       obtain ⟨aM,aG,h⟩:=bs h
       refine rgS ⟨[(1,Z2 false a1_),(6,a0),(7,iv a3),(8,iv a6),(76,bv (aM.By==(-1)))],[],a7⟩ (Z1.u 2 (Zaa (ys:=[Z2 false a1_,iv a3]) (h:=Z7 Z5 aI)) (Z1.u 1 (Zam (sz:=2) (off:=1) (cs:=[.sl 4 false (List.map Zae aQ.Arms)]) (r:=Zaf false aQ.Arms) Z5 aI) (Z1.u 1 (Zaa (ys:=[Zaf false aQ.Arms,iv a6]) (h:=Z7 Zae aG)) (Z1.u 1 (Zam (sz:=4) (off:=2) (cs:=[.int .i64 aM.By]) (r:=iv aM.By) Zae aG) Z1.f)))) (by cases a1<;>kernel_rfl) (tq (it h (λbd h=>?_) (λbd h=>?_)))
       ·obtain ⟨aL,aE,h⟩:=bs h
        obtain ⟨ad,aD,h⟩:=bs h
        obtain ⟨a8,aC,h⟩:=bs h
        obtain ⟨bX,bQ,_,bz,aT,bA,az⟩:=HP.elem (k:=0) (a:=a0) (sz:=1) (frz:=false) eI64 hH rfl aC
        obtain ⟨c1,aB,h⟩:=bs h
        obtain ⟨bW,bM,_,ax,aS,ay,aw⟩:=HP.elem (k:=0) (a:=a0) (sz:=1) (frz:=false) eI64 hH rfl aB
        obtain ⟨ba,bj,hH⟩:=HP.setRow (k:=0) (off:=0) (cs:=[iv (w64 (a8+1))]) (ps:=[.int .i64 (w64 (a8+1))]) (e':=(w64 (a8+1))) eI64 hH rfl ay aS (ax rfl) aB kr kr
        replace hH:HP _ [.arr a0 1 false (List.map eI64 (List.set ao (Int.toNat ad.Next) (w64 (a8+1))))]:=hH
        refine rgS ⟨[(1,Z2 false a1_),(6,a0),(7,iv a3),(8,iv a6)],[],ba⟩ (Z1.u 3 (Zaa (ys:=[Z2 false a1_,iv a3]) (h:=Z7 Z5 aE)) (Z1.u 1 (Zam (sz:=2) (off:=1) (cs:=[.sl 4 false (List.map Zae aL.Arms)]) (r:=Zaf false aL.Arms) Z5 aE) (Z1.u 1 (Zaa (ys:=[Zaf false aL.Arms,iv a6]) (h:=Z7 Zae aD)) (Z1.u 1 (Zam (sz:=4) (off:=3) (cs:=[.int .i64 ad.Next]) (r:=iv ad.Next) Zae aD) (Z1.u 0 (Zaa (ys:=[a0,iv ad.Next]) (by cases a1<;>kernel_rfl) (az .i64)) (Z1.u 0 (ZdS (H:=a7) (off:=0) (cs:=[.int .i64 a8]) (r:=iv a8) eI64 aC aT) (Z1.u 1 (Zaa (ys:=[a0,iv ad.Next]) (by cases a1<;>kernel_rfl) (aw .i64)) (Z1.o 0 (ZcN (H:=a7) (v:=iv (w64 (a8+1))) (hw:=bj)) Z1.f)))))))) (by cases a1<;>kernel_rfl) (bn ?_)
        cases h
        exact ⟨rfl,⟨a0,ba,(by show _=_;cases a1<;>kernel_rfl),(HP.pick hH [0] rfl)⟩⟩
       refine sk (bn ?_)
       cases h
       exact ⟨rfl,⟨a0,a7,(by show _=_;cases a1<;>kernel_rfl),(HP.pick hH [0] rfl)⟩⟩
      clear au
      rintro s hR
      obtain ⟨aa,af,rfl,hH⟩:=hR
      replace hH:HP _ [.arr aa 1 false (List.map eI64 aZ)]:=hH
      have al:=Zbd (HP.get hH 0 rfl)
      refine rgS ⟨[(1,Z2 false a1_),(6,aa),(7,iv a3),(8,iv (w64 (a6+1)))],[],af⟩ Z1.f (by cases al<;>kernel_rfl) ?_
      cases h
      exact ⟨_,rfl,⟨aa,af,(by show _=_;cases al<;>kernel_rfl),(HP.pick hH [0] rfl)⟩⟩
     refine kq (xq (tx ?_))
     cases h
     exact ⟨_,rfl,rfl,⟨a0,a7,(by show _=_;cases a1<;>kernel_rfl),(HP.pick hH [0] rfl)⟩⟩
    rintro e s hq
    obtain ⟨rfl,hR⟩:=hq
    obtain ⟨ab,ag,rfl,hH⟩:=hR
    replace hH:HP _ [.arr ab 1 false (List.map eI64 aY)]:=hH
    have am:=Zbd (HP.get hH 0 rfl)
    refine bx (bn (tq (rgS ⟨[(1,Z2 false a1_),(6,ab),(7,iv (w64 (a3+1)))],[],ag⟩ Z1.f (by cases am<;>kernel_rfl) ?_)))
    cases h
    exact ⟨_,rfl,⟨ab,ag,(by show _=_;cases am<;>kernel_rfl),(HP.pick hH [0] rfl)⟩⟩
   refine kq (xq (tx ?_))
   cases h
   exact ⟨_,rfl,rfl,⟨ae,aj,(by show _=_;cases ac<;>kernel_rfl),(HP.pick hH [0] rfl)⟩⟩
  rintro e s hq
  obtain ⟨rfl,hR⟩:=hq
  obtain ⟨a4,a5,rfl,hH⟩:=hR
  replace hH:HP _ [.arr a4 1 false (List.map eI64 ak)]:=hH
  have a2:=Zbd (HP.get hH 0 rfl)
  refine bx (tq (sq (sq (rgS ⟨[(1,Z2 false a1_),(6,a4),(9,iv 1)],[],a5⟩ Z1.f (by cases a2<;>kernel_rfl) (tq (bk ?_))))))
  obtain ⟨aX,ap,h⟩:=bs h
  refine ZaN ((ZaC (λ(x:Int) s=>s=⟨[(1,Z2 false a1_),(6,a4),(9,iv x)],[],a5⟩) (λx:Int=>Zb5 N a1_ ak x) (λ(p:(Unit)⊕(Bool)) e s=>match p with|(.inl p)=>e=.exit 6/\(s=⟨[],[],a5⟩)|(.inr p)=>e=.ret/\∃ xs,resL s i27.res=some xs/\ZbF xs=bv p) ?_ N _ aX _ ap (by show _=_;cases a2<;>kernel_rfl)).mono ?_)
  ·clear h ap
   rintro a9 o s h hR
   obtain rfl:=hR
   replace h:Zb5 N a1_ ak a9=some o:=h
   unfold Zb5 at h
   refine sq (sq (rgS ⟨[(1,Z2 false a1_),(6,a4),(9,iv a9),(94,bv (decide (a9<((List.length a1_:Nat):Int))))],[],a5⟩ (Z1.u 2 (Zaa (ys:=[Z2 false a1_]) (h:=Zal Z5)) Z1.f) (by cases a2<;>kernel_rfl) (tq (it h (λbc h=>?_) (λbc h=>?_)))))
   ·refine sk (tq (kq (sq (bk (sq ?_)))))
    obtain ⟨aK,aA,h⟩:=bs h
    obtain ⟨bV,bL,_,bu,aR,bw,av⟩:=HP.elem (k:=0) (a:=a4) (sz:=1) (frz:=false) eI64 hH rfl aA
    refine rgS ⟨[(1,Z2 false a1_),(6,a4),(9,iv a9),(101,bv (aK != 1))],[],a5⟩ (Z1.u 2 (Zaa (ys:=[a4,iv a9]) (by cases a2<;>kernel_rfl) (av .i64)) (Z1.u 0 (ZdS (H:=a5) (off:=0) (cs:=[.int .i64 aK]) (r:=iv aK) eI64 aA aR) Z1.f)) (by cases a2<;>kernel_rfl) (tq (it h (λbb h=>?_) (λbb h=>?_)))
    ·refine sq (rgS ⟨[(4,bv false)],[],a5⟩ Z1.f kr ?_)
     replace hH:HP _ []:=HP.pick hH [] rfl
     refine tq (rt (br (tr ?_)))
     cases h
     exact ⟨_,rfl,rfl,Zaq kr⟩
    refine sk (bn (tq (kq (rgS ⟨[(1,Z2 false a1_),(6,a4),(9,iv (w64 (a9+1)))],[],a5⟩ Z1.f (by cases a2<;>kernel_rfl) ?_))))
    cases h
    exact ⟨_,rfl,(by show _=_;cases a2<;>kernel_rfl)⟩
   refine kq ?_
   replace hH:HP _ []:=HP.pick hH [] rfl
   refine xq (tx ?_)
   cases h
   exact ⟨_,rfl,rfl,kr⟩
  rintro e s hq
  rcases aX with c0|bZ
  ·dsimp only at h hq
   obtain ⟨rfl,hR⟩:=hq
   obtain rfl:=hR
   replace hH:HP _ []:=HP.pick hH [] rfl
   refine bx (tq (sq (rg Z1.f (tq (rt ?_)))))
   cases h
   exact Zaq kr
  dsimp only at h hq
  obtain ⟨rfl,hq⟩:=hq
  refine br (tr ?_)
  cases h
  exact hq
 dsimp only at h hq
 obtain ⟨rfl,hq⟩:=hq
 refine br (tr ?_)
 cases h
 exact hq
theorem ZiM (N:Nat)(a0_:Z4)(a1_:(List Z3))(a2_:Int)(r:Bool)(h:Zd5 N a0_ a1_ a2_=some r):Zbc Try.prog 38 [.agg (Z0 a0_),Z2 false a1_,iv a2_] (bv r):=by
 unfold Zd5 at h
 have hH  := hp0
 refine ZaD ZyH rfl rfl (Zas _ _ _ ?_) rfl
 refine sq (rg Z1.f (tq (sq ?_)))
 obtain ⟨e1,he1,h⟩:=bs h
 obtain ⟨e2,he2,h⟩:=bs h
 refine rq (Z1.u 4 (Zaa (ys:=[Z2 false a1_,iv a2_]) (h:=Z7 Z5 he1)) (Z1.u 1 (ZaK (Zam (sz:=2) (off:=0) (cs:=[.int .i64 e1.Stream]) (r:=iv e1.Stream) Z5 he1)) (Z1.u 0 (Zaa (ys:=[Zag false a0_.Periods,iv e1.Stream]) (h:=Z7 eI64 he2)) (Z1.u 0 (ZaK (Zam (sz:=1) (off:=0) (cs:=[.int .i64 e2]) (r:=iv e2) eI64 he2)) Z1.f)))) (tq (sq (sq ?_)))
 obtain ⟨e3,he3,h⟩:=bs h
 refine rg (Z1.u 2 (Zaa (ys:=[Z2 false a1_,iv a2_]) (h:=Z7 Z5 he3)) (Z1.u 1 (Zam (sz:=2) (off:=1) (cs:=[.sl 4 false (List.map Zae e3.Arms)]) (r:=Zaf false e3.Arms) Z5 he3) (Z1.u 0 (Zaa (ys:=[Zaf false e3.Arms]) (h:=Zal Zae)) Z1.f))) (tq (bk ?_))
 obtain ⟨a3,a1,h⟩:=bs h
 refine ZaN ((ZaC (λ(x:Int×Int) s=>s=⟨[(1,Z2 false a1_),(2,iv a2_),(3,.loc 3 0),(7,iv e2),(8,iv x.1),(24,Zaf false e3.Arms),(25,iv ((List.length e3.Arms:Nat):Int)),(26,iv x.2)],[(3,(Z0 a0_))],[]⟩) (λx:Int×Int=>Zcn N a0_ a1_ a2_ e2 e3 x.1 x.2) (λ(p:(Int)⊕(Bool)) e s=>match p with|(.inl p)=>e=.exit 0/\(s=⟨[(7,iv e2),(8,iv p)],[],[]⟩)|(.inr p)=>e=.ret/\∃ xs,resL s i38.res=some xs/\ZbF xs=bv p) ?_ N _ a3 _ a1 kr).mono ?_)
 ·clear h a1
  rintro ⟨i4,i5⟩ o s h hR
  obtain rfl:=hR
  replace h:Zcn N a0_ a1_ a2_ e2 e3 i4 i5=some o:=h
  unfold Zcn at h
  refine sq (rg Z1.f (tq (sq (it h (λac h=>?_) (λac h=>?_)))))
  ·refine sk (tq (kq (sq (bk (sq ?_)))))
   obtain ⟨a0,a2,h⟩:=bs h
   refine rg (Z1.u 0 (Zaa (ys:=[Zaf false e3.Arms,iv i5]) (h:=Z7 Zae a2)) (Z1.u 0 (Zam (sz:=4) (off:=0) (cs:=[.int .i64 a0.From,.int .i64 a0.To,.int .i64 a0.By,.int .i64 a0.Next]) (r:=.agg (ZaR a0)) Zae a2) Z1.f)) (tq (sq (sq ?_)))
   obtain ⟨ae,hj,h⟩:=bs h
   refine rgR (λs=>s=⟨[(1,Z2 false a1_),(2,iv a2_),(3,.loc 3 0),(7,iv e2),(10,.loc 10 0),(24,Zaf false e3.Arms),(25,iv ((List.length e3.Arms:Nat):Int)),(26,iv i5),(54,bv ae)],[(3,(Z0 a0_)),(10,(ZaR a0))],[]⟩) ?_ ?_
   ·clear h
    rcases ZaB hj with ⟨ab,hj⟩|⟨aa,hj⟩
    ·obtain rfl:=Zaj hj
     exact (EP.u 3 (Z8 (c:=(a0.From != i4)) (h:=ab)) (EP.f kr))
    refine (EP.u 3 (Z8 (c:=(a0.From != i4)) (h:=aa)) ?_)
    rcases ZaB hj with ⟨a9,hj⟩|⟨a8,hj⟩
    ·obtain rfl:=Zaj hj
     exact (EP.u 5 (Z8 (c:=(decide (a0.To<=a0.From))) (h:=a9)) (EP.f kr))
    refine (EP.u 5 (Z8 (c:=(decide (a0.To<=a0.From))) (h:=a8)) ?_)
    rcases ZaB hj with ⟨a7,hj⟩|⟨a6,hj⟩
    ·obtain rfl:=Zaj hj
     exact (EP.u 5 (Z8 (c:=(decide (a0.To>e2))) (h:=a7)) (EP.f kr))
    refine (EP.u 5 (Z8 (c:=(decide (a0.To>e2))) (h:=a6)) ?_)
    obtain ⟨ad,a4,hj⟩:=bs hj
    obtain rfl:=Zaj hj
    exact (EP.v 6 (Zaw (hc:=Zgw N a0_ a1_ a2_ a0 ad a4)) (EP.f kr))
   clear hj
   rintro s hR
   obtain rfl:=hR
   refine tq (it h (λa5 h=>?_) (λa5 h=>?_))
   ·refine sq (rg Z1.f (tq (rt (tr (br (tr ?_))))))
    cases h
    exact ⟨_,rfl,rfl,Zaq kr⟩
   refine sk (tq (kq (rg Z1.f (bn (tq (kq (rg Z1.f ?_)))))))
   cases h
   exact ⟨_,rfl,kr⟩
  refine kq (xq (tx ?_))
  cases h
  exact ⟨_,rfl,rfl,kr⟩
 rintro e s hq
 rcases a3 with ag|af
 ·dsimp only at h hq
  obtain ⟨rfl,hR⟩:=hq
  obtain rfl:=hR
  refine bx (tq (sq (rg Z1.f (tq (rt ?_)))))
  cases h
  exact Zaq kr
 dsimp only at h hq
 obtain ⟨rfl,hq⟩:=hq
 refine br (tr ?_)
 cases h
 exact hq
theorem Zgt (N:Nat)(a0_:Zad)(a1_:Zad)(r:Bool)(h:Zcm N a0_ a1_=some r):Zbc Try.prog 52 [.agg (Zbl a0_),.agg (Zbl a1_)] (bv r):=by
 unfold Zcm at h
 have hH  := hp0
 refine ZaD Zyv rfl rfl (Zas _ _ _ ?_) rfl
 refine sq (rg Z1.f (tq (sq ?_)))
 obtain ⟨r1,hr1,h⟩:=bs h
 refine rg (Z1.v 4 (Zaw (hc:=Zku N a0_.Period a1_.Period r1 hr1)) Z1.f) (tq (sq (sq (rg Z1.f (tq (bk ?_))))))
 obtain ⟨a1,a0,h⟩:=bs h
 refine ZaN ((ZaC (λ(x:Int) s=>s=⟨[(2,.loc 2 0),(3,.loc 3 0),(5,iv r1),(6,iv x)],[(2,(Zbl a0_)),(3,(Zbl a1_))],[]⟩) (λx:Int=>Za1 N a0_ a1_ r1 x) (λ(p:(Unit)⊕(Bool)) e s=>match p with|(.inl p)=>e=.exit 0/\(s=⟨[],[],[]⟩)|(.inr p)=>e=.ret/\∃ xs,resL s i52.res=some xs/\ZbF xs=bv p) ?_ N _ a1 _ a0 kr).mono ?_)
 ·clear h a0
  rintro i2 o s h hR
  obtain rfl:=hR
  replace h:Za1 N a0_ a1_ r1 i2=some o:=h
  unfold Za1 at h
  refine sq (sq (rg Z1.f (tq (it h (λa4 h=>?_) (λa4 h=>?_)))))
  ·refine sk (tq (kq (sq (bk (sq ?_)))))
   obtain ⟨a5,a2,h⟩:=bs h
   refine rg (Z1.v 8 (Zaw (hc:=Zks N (w64 ((w64 (a1_.From-a0_.From))-i2)) r1 a5 a2)) Z1.f) (tq (it h (λa3 h=>?_) (λa3 h=>?_)))
   ·refine sq (rg Z1.f (tq (rt (br (tr ?_)))))
    cases h
    exact ⟨_,rfl,rfl,Zaq kr⟩
   refine sk (bn (tq (kq (rg Z1.f ?_))))
   cases h
   exact ⟨_,rfl,kr⟩
  refine kq (xq (tx ?_))
  cases h
  exact ⟨_,rfl,rfl,kr⟩
 rintro e s hq
 rcases a1 with a7|a6
 ·dsimp only at h hq
  obtain ⟨rfl,hR⟩:=hq
  obtain rfl:=hR
  refine bx (tq (sq (rg Z1.f (tq (rt ?_)))))
  cases h
  exact Zaq kr
 dsimp only at h hq
 obtain ⟨rfl,hq⟩:=hq
 refine br (tr ?_)
 cases h
 exact hq
theorem ZhO (N:Nat)(a0_:Int)(a1_:(List Int))(r:Int)(h:ZdB N a0_ a1_=some r):Zbc Try.prog 58 [iv a0_,Zag false a1_] (iv r):=by
 unfold ZdB at h
 have hH  := hp0
 refine ZaD Zyp rfl rfl (Zas _ _ _ ?_) rfl
 refine sq (rg Z1.f (tq (sq (rg Z1.f (tq (sq (sq (rg (Z1.u 1 (Zaa (ys:=[Zag false a1_]) (h:=Zal eI64)) Z1.f) (tq (bk ?_))))))))))
 obtain ⟨a8,a0,h⟩:=bs h
 refine ZaN ((ZaC (λ(x:Int×Int) s=>s=⟨[(0,iv a0_),(5,iv x.1),(8,Zag false a1_),(9,iv ((List.length a1_:Nat):Int)),(10,iv x.2)],[],[]⟩) (λx:Int×Int=>Zbb N a0_ a1_ x.1 x.2) (λ(p:Int) e s=>e=.exit 0/\(s=⟨[(5,iv p)],[],[]⟩)) ?_ N _ a8 _ a0 kr).mono ?_)
 ·clear h a0
  rintro ⟨i1,i2⟩ o s h hR
  obtain rfl:=hR
  replace h:Zbb N a0_ a1_ i1 i2=some o:=h
  unfold Zbb at h
  refine sq (rg Z1.f (tq (sq (it h (λa7 h=>?_) (λa7 h=>?_)))))
  ·refine sk (tq (kq (sq (bk (sq ?_)))))
   obtain ⟨a2,a1,h⟩:=bs h
   refine rg (Z1.u 0 (Zaa (ys:=[Zag false a1_,iv i2]) (h:=Z7 eI64 a1)) (Z1.u 0 (Zam (sz:=1) (off:=0) (cs:=[.int .i64 a2]) (r:=iv a2) eI64 a1) Z1.f)) (tq (sq ?_))
   obtain ⟨a3,a4,h⟩:=bs h
   obtain ⟨a9,a5,h⟩:=bs h
   refine rg (Z1.v 3 (Zaw (hc:=ZfC N i1 a2 a3 a4)) (Z1.u 0 (Zaa (ys:=[iv i1,iv a3]) (h:=ZmY a5)) Z1.f)) (tq (sq (rg Z1.f (tq (it h (λa6 h=>?_) (λa6 h=>?_))))))
   ·refine kq (xq (bo (tx ?_)))
    cases h
    exact ⟨_,rfl,rfl,kr⟩
   refine sk (bn (tq (kq (rg Z1.f ?_))))
   cases h
   exact ⟨_,rfl,kr⟩
  refine kq (xq (tx ?_))
  cases h
  exact ⟨_,rfl,rfl,kr⟩
 rintro e s hq
 obtain ⟨rfl,hR⟩:=hq
 obtain rfl:=hR
 refine bx (tq (sq (rg Z1.f (tq (rt ?_)))))
 cases h
 exact Zaq kr
theorem ZhM (N:Nat)(a0_:Zad)(a1_:Zad)(r:Int×Int×Int)(h:ZdA N a0_ a1_=some r):Zbc Try.prog 61 [.agg (Zbl a0_),.agg (Zbl a1_)] (.tup [iv r.1,iv r.2.1,iv r.2.2]):=by
 unfold ZdA at h
 have hH  := hp0
 refine ZaD Zym rfl rfl (Zas _ _ _ ?_) rfl
 refine sq (rg Z1.f (tq (sq ?_)))
 obtain ⟨r1,hr1,h⟩:=bs h
 refine rg (Z1.v 4 (Zaw (hc:=ZfC N a0_.Period a1_.Period r1 hr1)) Z1.f) (tq (sq (rq Z1.f (tq (rt ?_)))))
 cases h
 exact Zaq kr
theorem ZhV (N:Nat)(a0_:Z4)(a1_:(List Z3))(r:Bool)(h:ZdC N a0_ a1_=some r):Zbc Try.prog 24 [.agg (Z0 a0_),Z2 false a1_] (bv r):=by
 unfold ZdC at h
 have hH  := hp0
 refine ZaD ZyT rfl rfl (Zas _ _ _ ?_) rfl
 refine sq (rg Z1.f (tq (sq (sq (rgX ⟨[(1,Z2 false a1_),(2,.loc 2 0),(19,bv ((decide (((List.length a1_:Nat):Int)<1))||(decide (((List.length a1_:Nat):Int)>2000))))],[(2,(Z0 a0_))],[]⟩ ?_ ?_)))))
 ·refine (EP.u 1 (Zaa (ys:=[Z2 false a1_]) (h:=Zal Z5)) ?_)
  rcases Bool.eq_false_or_eq_true (decide (((List.length a1_:Nat):Int)<1)) with hc1|hc2
  ·exact (EP.u 0 (Z8 (c:=(decide (((List.length a1_:Nat):Int)<1))) (h:=hc1)) (EP.f (by simp only [hc1];kernel_rfl)))
  exact (EP.u 0 (Z8 (c:=(decide (((List.length a1_:Nat):Int)<1))) (h:=hc2)) (EP.u 2 (Zaa (ys:=[Z2 false a1_]) (h:=Zal Z5)) (EP.f (by simp only [hc2];kernel_rfl))))
 refine tq (it h (λhc3 h=>?_) (λhc3 h=>?_))
 ·refine sq (rg Z1.f (tq (rt (tr ?_))))
  cases h
  exact Zaq kr
 refine sk (tq (kq (sq ?_)))
 obtain ⟨l6,hl6,h⟩:=bs h
 obtain ⟨a4,H5,ha4,hH5,ha4b,hH⟩:=HP.make eI64 hH hl6
 replace hH:HP _ [.arr a4 1 false (List.map eI64 l6)]:=hH
 have hfa4:=Zbd (HP.get hH 0 rfl)
 refine rgS ⟨[(1,Z2 false a1_),(2,.loc 2 0),(5,a4)],[(2,(Z0 a0_))],H5⟩ (Z1.u 1 (Zaa (ys:=[Z2 false a1_]) (h:=Zal Z5)) (Z1.h 0 (Zjz (H:=[]) (zero:=[.int .i64 0]) (bytes:=8) kr kr kr ha4 hH5 ha4b) Z1.f)) (by cases hfa4<;>kernel_rfl) (tq (sq (sq (rgS ⟨[(1,Z2 false a1_),(2,.loc 2 0),(5,a4),(23,Z2 false a1_),(24,iv ((List.length a1_:Nat):Int)),(25,iv 0)],[(2,(Z0 a0_))],H5⟩ (Z1.u 1 (Zaa (ys:=[Z2 false a1_]) (h:=Zal Z5)) Z1.f) (by cases hfa4<;>kernel_rfl) (tq (Zpa (bk ?_)))))))
 obtain ⟨aD,ak,h⟩:=bs h
 refine ZaN ((ZaC (λ(x:Int×(List Int)) s=>∃ (a7:AV) (H8:List HO),s=⟨[(1,Z2 false a1_),(2,.loc 2 0),(5,a7),(23,Z2 false a1_),(24,iv ((List.length a1_:Nat):Int)),(25,iv x.1)],[(2,(Z0 a0_))],H8⟩/\HP H8 [.arr a7 1 false (List.map eI64 x.2)]) (λx:Int×(List Int)=>ZbC N a0_ a1_ x.1 x.2) (λ(p:((List Int))⊕(Bool)) e s=>match p with|(.inl p)=>e=.exit 0/\(∃ (ae:AV) (aB:List HO),s=⟨[(5,ae)],[],aB⟩/\HP aB [.arr ae 1 false (List.map eI64 p)])|(.inr p)=>e=.ret/\∃ xs,resL s i24.res=some xs/\ZbF xs=bv p) ?_ N _ aD _ ak ⟨a4,H5,(by show _=_;cases hfa4<;>kernel_rfl),(HP.pick hH [0] rfl)⟩).mono ?_)
 ·clear h ak
  rintro ⟨i9,bt⟩ o s h hR
  obtain ⟨a7,H8,rfl,hH⟩:=hR
  replace hH:HP _ [.arr a7 1 false (List.map eI64 bt)]:=hH
  have hfa7:=Zbd (HP.get hH 0 rfl)
  replace h:ZbC N a0_ a1_ i9 bt=some o:=h
  unfold ZbC at h
  refine sq (rgS ⟨[(1,Z2 false a1_),(2,.loc 2 0),(5,a7),(23,Z2 false a1_),(24,iv ((List.length a1_:Nat):Int)),(25,iv i9),(26,bv (decide (i9<((List.length a1_:Nat):Int))))],[(2,(Z0 a0_))],H8⟩ Z1.f (by cases hfa7<;>kernel_rfl) (tq (sq (it h (λbb h=>?_) (λbb h=>?_)))))
  ·refine sk (tq (kq (sq (bk (sq ?_)))))
   obtain ⟨a0,aJ,h⟩:=bs h
   refine rgS ⟨[(1,Z2 false a1_),(2,.loc 2 0),(5,a7),(6,iv i9),(7,.loc 7 0),(23,Z2 false a1_),(24,iv ((List.length a1_:Nat):Int)),(25,iv i9)],[(2,(Z0 a0_)),(7,(ZdF a0))],H8⟩ (Z1.u 1 (Zaa (ys:=[Z2 false a1_,iv i9]) (h:=Z7 Z5 aJ)) (Z1.u 0 (Zam (sz:=2) (off:=0) (cs:=[.int .i64 a0.Stream,.sl 4 false (List.map Zae a0.Arms)]) (r:=.agg (ZdF a0)) Z5 aJ) (Z1.f (h:=(by cases hfa7<;>kernel_rfl))))) (by cases hfa7<;>kernel_rfl) (tq (sq (sq ?_)))
   obtain ⟨bf,hj,h⟩:=bs h
   refine rgR (λs=>s=⟨[(1,Z2 false a1_),(2,.loc 2 0),(5,a7),(7,.loc 7 0),(23,Z2 false a1_),(24,iv ((List.length a1_:Nat):Int)),(25,iv i9),(47,bv bf)],[(2,(Z0 a0_)),(7,(ZdF a0))],H8⟩) ?_ ?_
   ·clear h
    rcases ZaB hj with ⟨ba,hj⟩|⟨b2,hj⟩
    ·obtain rfl:=Zaj hj
     exact (EP.u 2 (Z8 (c:=(decide (a0.Stream<0))) (h:=ba)) (EP.f (by show _=_;cases hfa7<;>kernel_rfl)))
    refine (EP.u 2 (Z8 (c:=(decide (a0.Stream<0))) (h:=b2)) (EP.u 5 (Zaa (ys:=[Zag false a0_.Periods]) (h:=Zal eI64)) ?_))
    rcases ZaB hj with ⟨b1,hj⟩|⟨b0,hj⟩
    ·obtain rfl:=Zaj hj
     exact (EP.u 0 (Z8 (c:=(decide (a0.Stream≥((List.length a0_.Periods:Nat):Int)))) (h:=b1)) (EP.f (by show _=_;cases hfa7<;>kernel_rfl)))
    refine (EP.u 0 (Z8 (c:=(decide (a0.Stream≥((List.length a0_.Periods:Nat):Int)))) (h:=b0)) ?_)
    obtain ⟨be,aW,hj⟩:=bs hj
    obtain rfl:=Zaj hj
    exact (EP.v 5 (Zaw (hc:=ZiM N a0_ a1_ i9 be aW)) (EP.f (by show _=_;cases hfa7<;>kernel_rfl)))
   clear hj
   rintro s hR
   obtain rfl:=hR
   refine tq (it h (λaZ h=>?_) (λaZ h=>?_))
   ·refine sq (rgS ⟨[(4,bv false)],[],H8⟩ Z1.f (by cases hfa7<;>kernel_rfl) ?_)
    replace hH:HP _ []:=HP.pick hH [] rfl
    refine tq (rt (tr (br (tr ?_))))
    cases h
    exact ⟨_,rfl,rfl,Zaq kr⟩
   refine sk (tq (kq (sq (rgS ⟨[(1,Z2 false a1_),(2,.loc 2 0),(5,a7),(23,Z2 false a1_),(24,iv ((List.length a1_:Nat):Int)),(25,iv i9),(49,Zaf false a0.Arms),(50,iv ((List.length a0.Arms:Nat):Int)),(51,iv 0)],[(2,(Z0 a0_))],H8⟩ (Z1.u 2 (Zaa (ys:=[Zaf false a0.Arms]) (h:=Zal Zae)) Z1.f) (by cases hfa7<;>kernel_rfl) (tq (bk ?_))))))
   obtain ⟨aE,al,h⟩:=bs h
   refine ZaN ((ZaC (λ(x:Int×(List Int)) s=>∃ (a3:AV) (a6:List HO),s=⟨[(1,Z2 false a1_),(2,.loc 2 0),(5,a3),(23,Z2 false a1_),(24,iv ((List.length a1_:Nat):Int)),(25,iv i9),(49,Zaf false a0.Arms),(50,iv ((List.length a0.Arms:Nat):Int)),(51,iv x.1)],[(2,(Z0 a0_))],a6⟩/\HP a6 [.arr a3 1 false (List.map eI64 x.2)]) (λx:Int×(List Int)=>ZbB N a0 x.1 x.2) (λ(p:(List Int)) e s=>e=.exit 2/\(∃ (aa:AV) (ad:List HO),s=⟨[(1,Z2 false a1_),(2,.loc 2 0),(5,aa),(23,Z2 false a1_),(24,iv ((List.length a1_:Nat):Int)),(25,iv i9)],[(2,(Z0 a0_))],ad⟩/\HP ad [.arr aa 1 false (List.map eI64 p)])) ?_ N _ aE _ al ⟨a7,H8,(by show _=_;cases hfa7<;>kernel_rfl),(HP.pick hH [0] rfl)⟩).mono ?_)
   ·clear h al
    rintro ⟨ab,aM⟩ o s h hR
    obtain ⟨a3,a6,rfl,hH⟩:=hR
    replace hH:HP _ [.arr a3 1 false (List.map eI64 aM)]:=hH
    have a1:=Zbd (HP.get hH 0 rfl)
    replace h:ZbB N a0 ab aM=some o:=h
    unfold ZbB at h
    refine sq (rgS ⟨[(1,Z2 false a1_),(2,.loc 2 0),(5,a3),(23,Z2 false a1_),(24,iv ((List.length a1_:Nat):Int)),(25,iv i9),(49,Zaf false a0.Arms),(50,iv ((List.length a0.Arms:Nat):Int)),(51,iv ab),(52,bv (decide (ab<((List.length a0.Arms:Nat):Int))))],[(2,(Z0 a0_))],a6⟩ Z1.f (by cases a1<;>kernel_rfl) (tq (sq (it h (λaU h=>?_) (λaU h=>?_)))))
    ·refine sk (tq (kq ?_))
     obtain ⟨aG,am,h⟩:=bs h
     refine Zec [1,2,5,23,24,25,49,50,51] (λs=>∃ (a9:AV) (ac:List HO),s=⟨[(1,Z2 false a1_),(2,.loc 2 0),(5,a9),(23,Z2 false a1_),(24,iv ((List.length a1_:Nat):Int)),(25,iv i9),(49,Zaf false a0.Arms),(50,iv ((List.length a0.Arms:Nat):Int)),(51,iv ab)],[(2,(Z0 a0_))],ac⟩/\HP ac [.arr a9 1 false (List.map eI64 aG)]) ?_ ?_
     ·clear h
      have h:=am
      refine bk (sq ?_)
      obtain ⟨a2,aw,h⟩:=bs h
      refine rgS ⟨[(1,Z2 false a1_),(2,.loc 2 0),(5,a3),(9,.loc 9 0),(23,Z2 false a1_),(24,iv ((List.length a1_:Nat):Int)),(25,iv i9),(49,Zaf false a0.Arms),(50,iv ((List.length a0.Arms:Nat):Int)),(51,iv ab)],[(2,(Z0 a0_)),(9,(ZaR a2))],a6⟩ (Z1.u 0 (Zaa (ys:=[Zaf false a0.Arms,iv ab]) (h:=Z7 Zae aw)) (Z1.u 0 (Zam (sz:=4) (off:=0) (cs:=[.int .i64 a2.From,.int .i64 a2.To,.int .i64 a2.By,.int .i64 a2.Next]) (r:=.agg (ZaR a2)) Zae aw) (Z1.f (h:=(by cases a1<;>kernel_rfl))))) (by cases a1<;>kernel_rfl) (tq (sq (rgS ⟨[(1,Z2 false a1_),(2,.loc 2 0),(5,a3),(9,.loc 9 0),(23,Z2 false a1_),(24,iv ((List.length a1_:Nat):Int)),(25,iv i9),(49,Zaf false a0.Arms),(50,iv ((List.length a0.Arms:Nat):Int)),(51,iv ab),(57,bv (a2.By==(-1)))],[(2,(Z0 a0_)),(9,(ZaR a2))],a6⟩ Z1.f (by cases a1<;>kernel_rfl) (tq (it h (λaT h=>?_) (λaT h=>?_))))))
      ·obtain ⟨a5,av,h⟩:=bs h
       obtain ⟨bj,bd,_,aX,aA,aY,aq⟩:=HP.elem (k:=0) (a:=a3) (sz:=1) (frz:=false) eI64 hH rfl av
       obtain ⟨bu,au,h⟩:=bs h
       obtain ⟨bi,bc,_,ao,az,ap,an⟩:=HP.elem (k:=0) (a:=a3) (sz:=1) (frz:=false) eI64 hH rfl au
       obtain ⟨aL,aV,hH⟩:=HP.setRow (k:=0) (off:=0) (cs:=[iv (w64 (a5+1))]) (ps:=[.int .i64 (w64 (a5+1))]) (e':=(w64 (a5+1))) eI64 hH rfl ap az (ao rfl) au kr kr
       replace hH:HP _ [.arr a3 1 false (List.map eI64 (List.set aM (Int.toNat a2.Next) (w64 (a5+1))))]:=hH
       refine rgS ⟨[(1,Z2 false a1_),(2,.loc 2 0),(5,a3),(23,Z2 false a1_),(24,iv ((List.length a1_:Nat):Int)),(25,iv i9),(49,Zaf false a0.Arms),(50,iv ((List.length a0.Arms:Nat):Int)),(51,iv ab)],[(2,(Z0 a0_))],aL⟩ (Z1.u 3 (Zaa (ys:=[a3,iv a2.Next]) (by cases a1<;>kernel_rfl) (aq .i64)) (Z1.u 0 (ZdS (H:=a6) (off:=0) (cs:=[.int .i64 a5]) (r:=iv a5) eI64 av aA) (Z1.u 1 (Zaa (ys:=[a3,iv a2.Next]) (by cases a1<;>kernel_rfl) (an .i64)) (Z1.o 0 (ZcN (H:=a6) (v:=iv (w64 (a5+1))) (hw:=aV)) Z1.f)))) (by cases a1<;>kernel_rfl) (bn ?_)
       cases h
       exact ⟨rfl,⟨a3,aL,(by show _=_;cases a1<;>kernel_rfl),(HP.pick hH [0] rfl)⟩⟩
      refine sk (bn ?_)
      cases h
      exact ⟨rfl,⟨a3,a6,(by show _=_;cases a1<;>kernel_rfl),(HP.pick hH [0] rfl)⟩⟩
     clear am
     rintro s hR
     obtain ⟨a9,ac,rfl,hH⟩:=hR
     replace hH:HP _ [.arr a9 1 false (List.map eI64 aG)]:=hH
     have ag:=Zbd (HP.get hH 0 rfl)
     refine rgS ⟨[(1,Z2 false a1_),(2,.loc 2 0),(5,a9),(23,Z2 false a1_),(24,iv ((List.length a1_:Nat):Int)),(25,iv i9),(49,Zaf false a0.Arms),(50,iv ((List.length a0.Arms:Nat):Int)),(51,iv (w64 (ab+1)))],[(2,(Z0 a0_))],ac⟩ Z1.f (by cases ag<;>kernel_rfl) ?_
     cases h
     exact ⟨_,rfl,⟨a9,ac,(by show _=_;cases ag<;>kernel_rfl),(HP.pick hH [0] rfl)⟩⟩
    refine kq (xq (tx ?_))
    cases h
    exact ⟨_,rfl,rfl,⟨a3,a6,(by show _=_;cases a1<;>kernel_rfl),(HP.pick hH [0] rfl)⟩⟩
   rintro e s hq
   obtain ⟨rfl,hR⟩:=hq
   obtain ⟨aa,ad,rfl,hH⟩:=hR
   replace hH:HP _ [.arr aa 1 false (List.map eI64 aE)]:=hH
   have ai:=Zbd (HP.get hH 0 rfl)
   refine bx (bn (tq (kq (rgS ⟨[(1,Z2 false a1_),(2,.loc 2 0),(5,aa),(23,Z2 false a1_),(24,iv ((List.length a1_:Nat):Int)),(25,iv (w64 (i9+1)))],[(2,(Z0 a0_))],ad⟩ Z1.f (by cases ai<;>kernel_rfl) ?_))))
   cases h
   exact ⟨_,rfl,⟨aa,ad,(by show _=_;cases ai<;>kernel_rfl),(HP.pick hH [0] rfl)⟩⟩
  refine kq (xq (tx ?_))
  cases h
  exact ⟨_,rfl,rfl,⟨a7,H8,(by show _=_;cases hfa7<;>kernel_rfl),(HP.pick hH [0] rfl)⟩⟩
 rintro e s hq
 rcases aD with af|bm
 ·dsimp only at h hq
  obtain ⟨rfl,hR⟩:=hq
  obtain ⟨ae,aB,rfl,hH⟩:=hR
  replace hH:HP _ [.arr ae 1 false (List.map eI64 af)]:=hH
  have bl:=Zbd (HP.get hH 0 rfl)
  refine bx ?_
  obtain ⟨ax,_,ay,hH⟩:=HP.frz (k:=0) (a:=ae) (sz:=1) (frz:=false) eI64 hH rfl
  replace hH:HP _ [.arr ae 1 true (List.map eI64 af)]:=hH
  refine ⟨⟨[(5,Zag false af)],[],ax⟩,(Zmv 5 (H:=aB) (a:=ae) (by decide) kr kr ay kr),?_⟩
  replace hH:HP _ []:=HP.pick hH [] rfl
  refine tq (sq (sq ?_))
  obtain ⟨a8,aQ,h⟩:=bs h
  refine rg (Z1.u 1 (Zaa (ys:=[Zag false af,iv 1]) (h:=Zjq eI64 aQ)) (Z1.u 0 (Zaa (ys:=[Zag false a8]) (h:=Zal eI64)) Z1.f)) (tq (bk ?_))
  obtain ⟨aC,aj,h⟩:=bs h
  refine ZaN ((ZaC (λ(x:Int) s=>s=⟨[(68,Zag false a8),(69,iv ((List.length a8:Nat):Int)),(70,iv x)],[],ax⟩) (λx:Int=>ZbU N a8 x) (λ(p:(Unit)⊕(Bool)) e s=>match p with|(.inl p)=>e=.exit 4/\(s=⟨[],[],ax⟩)|(.inr p)=>e=.ret/\∃ xs,resL s i24.res=some xs/\ZbF xs=bv p) ?_ N _ aC _ aj kr).mono ?_)
  ·clear h aj
   rintro aI o s h hR
   obtain rfl:=hR
   replace h:ZbU N a8 aI=some o:=h
   unfold ZbU at h
   refine sq (rg Z1.f (tq (sq (it h (λaS h=>?_) (λaS h=>?_)))))
   ·refine sk (tq (kq (sq (bk (sq ?_)))))
    obtain ⟨aK,ar,h⟩:=bs h
    refine rg (Z1.u 0 (Zaa (ys:=[Zag false a8,iv aI]) (h:=Z7 eI64 ar)) (Z1.u 0 (Zam (sz:=1) (off:=0) (cs:=[.int .i64 aK]) (r:=iv aK) eI64 ar) Z1.f)) (tq (sq (rg Z1.f (tq (it h (λaR h=>?_) (λaR h=>?_))))))
    ·refine sq (rg Z1.f (tq (rt (br (tr ?_)))))
     cases h
     exact ⟨_,rfl,rfl,Zaq kr⟩
    refine sk (bn (tq (kq (rg Z1.f ?_))))
    cases h
    exact ⟨_,rfl,kr⟩
   refine kq (xq (tx ?_))
   cases h
   exact ⟨_,rfl,rfl,kr⟩
  rintro e s hq
  rcases aC with bq|bp
  ·dsimp only at h hq
   obtain ⟨rfl,hR⟩:=hq
   obtain rfl:=hR
   refine bx (tq (sq (rg Z1.f (tq (rt ?_)))))
   cases h
   exact Zaq kr
  dsimp only at h hq
  obtain ⟨rfl,hq⟩:=hq
  refine br (tr ?_)
  cases h
  exact hq
 dsimp only at h hq
 obtain ⟨rfl,hq⟩:=hq
 refine br (pur (tr ?_))
 cases h
 exact hq
theorem ZfF (N:Nat)(a0_:Z4)(a1_:Int)(a2_:Int)(a3_:Int)(a4_:Int)(r:Bool)(h:Zdr N a0_ a1_ a2_ a3_ a4_=some r):Zbc Try.prog 44 [.agg (Z0 a0_),iv a1_,iv a2_,iv a3_,iv a4_] (bv r):=by
 unfold Zdr at h
 have hH  := hp0
 refine ZaD ZyC rfl rfl (Zas _ _ _ ?_) rfl
 refine sq (rg Z1.f (tq (sq (sq (rg Z1.f (tq (bk ?_)))))))
 obtain ⟨ad,a5,h⟩:=bs h
 refine ZaN ((ZaC (λ(x:Int) s=>s=⟨[(1,iv a1_),(2,iv a2_),(3,iv a3_),(4,iv a4_),(5,.loc 5 0),(11,iv x)],[(5,(Z0 a0_))],[]⟩) (λx:Int=>Zcl N a0_ a1_ a2_ a3_ a4_ x) (λ(p:(Unit)⊕(Bool)) e s=>match p with|(.inl p)=>e=.exit 0/\(s=⟨[],[],[]⟩)|(.inr p)=>e=.ret/\∃ xs,resL s i44.res=some xs/\ZbF xs=bv p) ?_ N _ ad _ a5 kr).mono ?_)
 ·clear h a5
  rintro i1 o s h hR
  obtain rfl:=hR
  replace h:Zcl N a0_ a1_ a2_ a3_ a4_ i1=some o:=h
  unfold Zcl at h
  refine sq (sq (rg (Z1.u 3 (Zaa (ys:=[Zac false a0_.Uses]) (h:=Zal Zaz)) Z1.f) (tq (it h (λax h=>?_) (λax h=>?_)))))
  ·refine sk (tq (kq (sq (bk (sq (rg Z1.f (tq (bk ?_))))))))
   obtain ⟨ae,a6,h⟩:=bs h
   refine ZaN ((ZaC (λ(x:Int) s=>s=⟨[(1,iv a1_),(2,iv a2_),(3,iv a3_),(4,iv a4_),(5,.loc 5 0),(11,iv i1),(12,iv x)],[(5,(Z0 a0_))],[]⟩) (λx:Int=>Zck N a0_ a1_ a2_ a3_ a4_ i1 x) (λ(p:(Unit)⊕(Bool)) e s=>match p with|(.inl p)=>e=.exit 2/\(s=⟨[(1,iv a1_),(2,iv a2_),(3,iv a3_),(4,iv a4_),(5,.loc 5 0),(11,iv i1)],[(5,(Z0 a0_))],[]⟩)|(.inr p)=>e=.ret/\∃ xs,resL s i44.res=some xs/\ZbF xs=bv p) ?_ N _ ae _ a6 kr).mono ?_)
   ·clear h a6
    rintro a0 o s h hR
    obtain rfl:=hR
    replace h:Zck N a0_ a1_ a2_ a3_ a4_ i1 a0=some o:=h
    unfold Zck at h
    refine sq (sq (rg (Z1.u 3 (Zaa (ys:=[Zac false a0_.Uses]) (h:=Zal Zaz)) Z1.f) (tq (it h (λau h=>?_) (λau h=>?_)))))
    ·refine sk (tq (kq (sq (bk (sq ?_)))))
     obtain ⟨aw,hj,h⟩:=bs h
     refine rqR (λs=>s=⟨[(1,iv a1_),(2,iv a2_),(3,iv a3_),(4,iv a4_),(5,.loc 5 0),(11,iv i1),(12,iv a0),(76,bv aw)],[(5,(Z0 a0_))],[]⟩) ?_ ?_
     ·clear h
      rcases ZaB hj with ⟨ar,hj⟩|⟨ak,hj⟩
      ·refine (EP.u 2 (Z8 (c:=(i1 != a0)) (h:=ar)) ?_)
       obtain ⟨a4,aa,hj⟩:=bs hj
       refine (EP.u 4 (Zaa (ys:=[Zac false a0_.Uses,iv i1]) (h:=Z7 Zaz aa)) (EP.u 1 (ZaK (Zam (sz:=4) (off:=0) (cs:=[.int .i64 a4.Stream]) (r:=iv a4.Stream) Zaz aa)) ?_))
       rcases ZaB hj with ⟨aq,hj⟩|⟨al,hj⟩
       ·refine (EP.u 1 (Z8 (c:=(a4.Stream==a1_)) (h:=aq)) ?_)
        obtain ⟨a3,a9,hj⟩:=bs hj
        refine (EP.u 5 (Zaa (ys:=[Zac false a0_.Uses,iv a0]) (h:=Z7 Zaz a9)) (EP.u 1 (ZaK (Zam (sz:=4) (off:=0) (cs:=[.int .i64 a3.Stream]) (r:=iv a3.Stream) Zaz a9)) ?_))
        rcases ZaB hj with ⟨ap,hj⟩|⟨am,hj⟩
        ·refine (EP.u 1 (Z8 (c:=(a3.Stream==a3_)) (h:=ap)) ?_)
         obtain ⟨a2,a8,hj⟩:=bs hj
         refine (EP.u 5 (Zaa (ys:=[Zac false a0_.Uses,iv i1]) (h:=Z7 Zaz a8)) (EP.u 1 (ZaK (Zam (sz:=4) (off:=1) (cs:=[.int .i64 a2.Port]) (r:=iv a2.Port) Zaz a8)) ?_))
         obtain ⟨a1,a7,hj⟩:=bs hj
         refine (EP.u 3 (Zaa (ys:=[Zac false a0_.Uses,iv a0]) (h:=Z7 Zaz a7)) (EP.u 1 (ZaK (Zam (sz:=4) (off:=1) (cs:=[.int .i64 a1.Port]) (r:=iv a1.Port) Zaz a7)) ?_))
         rcases ZaB hj with ⟨ao,hj⟩|⟨an,hj⟩
         ·refine (EP.u 0 (Z8 (c:=(a2.Port==a1.Port)) (h:=ao)) ?_)
          obtain ⟨ac,ai,hj⟩:=bs hj
          refine (EP.u 5 (Za2 (hc:=ZhQ N a0_ i1 a2_ ac ai)) ?_)
          obtain ⟨ab,ag,hj⟩:=bs hj
          refine (EP.u 3 (Za2 (hc:=ZhQ N a0_ a0 a4_ ab ag)) ?_)
          obtain ⟨av,af,hj⟩:=bs hj
          obtain rfl:=Zaj hj
          exact (EP.u 0 (Za2 (hc:=Zgt N ac ab av af)) (EP.f kr))
         obtain rfl:=Zaj hj
         exact (EP.u 0 (Z8 (c:=(a2.Port==a1.Port)) (h:=an)) (EP.f kr))
        obtain rfl:=Zaj hj
        exact (EP.u 1 (Z8 (c:=(a3.Stream==a3_)) (h:=am)) (EP.f kr))
       obtain rfl:=Zaj hj
       exact (EP.u 1 (Z8 (c:=(a4.Stream==a1_)) (h:=al)) (EP.f kr))
      obtain rfl:=Zaj hj
      exact (EP.u 2 (Z8 (c:=(i1 != a0)) (h:=ak)) (EP.f kr))
     clear hj
     rintro s hR
     obtain rfl:=hR
     refine tq (it h (λaj h=>?_) (λaj h=>?_))
     ·refine sq (rg Z1.f (tq (rt (br (tr ?_)))))
      cases h
      exact ⟨_,rfl,rfl,Zaq kr⟩
     refine sk (bn (tq (kq (rg Z1.f ?_))))
     cases h
     exact ⟨_,rfl,kr⟩
    refine kq (xq (tx ?_))
    cases h
    exact ⟨_,rfl,rfl,kr⟩
   rintro e s hq
   rcases ae with aB|aA
   ·dsimp only at h hq
    obtain ⟨rfl,hR⟩:=hq
    obtain rfl:=hR
    refine bx (bn (tq (rg Z1.f ?_)))
    cases h
    exact ⟨_,rfl,kr⟩
   dsimp only at h hq
   obtain ⟨rfl,hq⟩:=hq
   refine br (br (tr ?_))
   cases h
   exact ⟨_,rfl,rfl,hq⟩
  refine kq (xq (tx ?_))
  cases h
  exact ⟨_,rfl,rfl,kr⟩
 rintro e s hq
 rcases ad with az|ay
 ·dsimp only at h hq
  obtain ⟨rfl,hR⟩:=hq
  obtain rfl:=hR
  refine bx (tq (sq (rg Z1.f (tq (rt ?_)))))
  cases h
  exact Zaq kr
 dsimp only at h hq
 obtain ⟨rfl,hq⟩:=hq
 refine br (tr ?_)
 cases h
 exact hq
theorem Zhe (N:Nat)(a0_:(List Zad))(r:Int×Int)(h:Zc4 N a0_=some r):Zbc Try.prog 49 [ZaU false a0_] (.tup [iv r.1,iv r.2]):=by
 unfold Zc4 at h
 have hH  := hp0
 refine ZaD Zyy rfl rfl (Zas _ _ _ ?_) rfl
 refine sq (rg Z1.f (tq (sq (sq ?_))))
 obtain ⟨r1,hr1,h⟩:=bs h
 refine rg (Z1.v 1 (Zaw (hc:=ZfP N a0_ r1 hr1)) Z1.f) (tq (sq (rg Z1.f (tq (it h (λhc2 h=>?_) (λhc2 h=>?_))))))
 ·refine sq (rg Z1.f (tq (rt (tr ?_))))
  cases h
  exact Zaq kr
 refine sk (tq (kq (sq ?_)))
 obtain ⟨l5,hl5,h⟩:=bs h
 obtain ⟨a3,H4,ha3,hH4,ha3b,hH⟩:=HP.make eI64 hH hl5
 replace hH:HP _ [.arr a3 1 false (List.map eI64 l5)]:=hH
 have hfa3:=Zbd (HP.get hH 0 rfl)
 refine rgS ⟨[(0,ZaU false a0_),(5,a3)],[],H4⟩ (Z1.u 1 (Zaa (ys:=[ZaU false a0_]) (h:=Zal ZaW)) (Z1.h 0 (Zjz (H:=[]) (zero:=[.int .i64 0]) (bytes:=8) kr kr kr ha3 hH4 ha3b) Z1.f)) (by cases hfa3<;>kernel_rfl) (tq (sq (sq (rgS ⟨[(5,a3),(17,ZaU false a0_),(18,iv ((List.length a0_:Nat):Int)),(19,iv 0)],[],H4⟩ (Z1.u 1 (Zaa (ys:=[ZaU false a0_]) (h:=Zal ZaW)) Z1.f) (by cases hfa3<;>kernel_rfl) (tq (bk ?_))))))
 obtain ⟨a4,ab,h⟩:=bs h
 refine ZaN ((ZaC (λ(x:Int×(List Int)) s=>∃ (a6:AV) (H7:List HO),s=⟨[(5,a6),(17,ZaU false a0_),(18,iv ((List.length a0_:Nat):Int)),(19,iv x.1)],[],H7⟩/\HP H7 [.arr a6 1 false (List.map eI64 x.2)]) (λx:Int×(List Int)=>Zbs N a0_ x.1 x.2) (λ(p:(List Int)) e s=>e=.exit 0/\(∃ (a1:AV) (aa:List HO),s=⟨[(5,a1)],[],aa⟩/\HP aa [.arr a1 1 false (List.map eI64 p)])) ?_ N _ a4 _ ab ⟨a3,H4,(by show _=_;cases hfa3<;>kernel_rfl),(HP.pick hH [0] rfl)⟩).mono ?_)
 ·clear h ab
  rintro ⟨i8,l9⟩ o s h hR
  obtain ⟨a6,H7,rfl,hH⟩:=hR
  replace hH:HP _ [.arr a6 1 false (List.map eI64 l9)]:=hH
  have hfa6:=Zbd (HP.get hH 0 rfl)
  replace h:Zbs N a0_ i8 l9=some o:=h
  unfold Zbs at h
  refine sq (rgS ⟨[(5,a6),(17,ZaU false a0_),(18,iv ((List.length a0_:Nat):Int)),(19,iv i8),(20,bv (decide (i8<((List.length a0_:Nat):Int))))],[],H7⟩ Z1.f (by cases hfa6<;>kernel_rfl) (tq (sq (it h (λak h=>?_) (λak h=>?_)))))
  ·refine sk (tq (kq (sq (bk (sq ?_)))))
   obtain ⟨a0,ad,h⟩:=bs h
   refine rgS ⟨[(5,a6),(6,iv i8),(7,.loc 7 0),(17,ZaU false a0_),(18,iv ((List.length a0_:Nat):Int)),(19,iv i8)],[(7,(Zbl a0))],H7⟩ (Z1.u 1 (Zaa (ys:=[ZaU false a0_,iv i8]) (h:=Z7 ZaW ad)) (Z1.u 0 (Zam (sz:=3) (off:=0) (cs:=[.int .i64 a0.Period,.int .i64 a0.From,.int .i64 a0.Long]) (r:=.agg (Zbl a0)) ZaW ad) (Z1.f (h:=(by cases hfa6<;>kernel_rfl))))) (by cases hfa6<;>kernel_rfl) (tq ?_)
   obtain ⟨aq,ac,h⟩:=bs h
   obtain ⟨ap,am,_,a8,ae,a9,a7⟩:=HP.elem (k:=0) (a:=a6) (sz:=1) (frz:=false) eI64 hH rfl ac
   obtain ⟨af,al,hH⟩:=HP.setRow (k:=0) (off:=0) (cs:=[iv a0.Period]) (ps:=[.int .i64 a0.Period]) (e':=a0.Period) eI64 hH rfl a9 ae (a8 rfl) ac kr kr
   replace hH:HP _ [.arr a6 1 false (List.map eI64 (List.set l9 (Int.toNat i8) a0.Period))]:=hH
   refine rgS ⟨[(5,a6),(17,ZaU false a0_),(18,iv ((List.length a0_:Nat):Int)),(19,iv i8)],[],af⟩ (Z1.u 4 (Zaa (ys:=[a6,iv i8]) (by cases hfa6<;>kernel_rfl) (a7 .i64)) (Z1.o 0 (ZcN (H:=H7) (v:=iv a0.Period) (hw:=al)) Z1.f)) (by cases hfa6<;>kernel_rfl) (bn (tq (rgS ⟨[(5,a6),(17,ZaU false a0_),(18,iv ((List.length a0_:Nat):Int)),(19,iv (w64 (i8+1)))],[],af⟩ Z1.f (by cases hfa6<;>kernel_rfl) ?_)))
   cases h
   exact ⟨_,rfl,⟨a6,af,(by show _=_;cases hfa6<;>kernel_rfl),(HP.pick hH [0] rfl)⟩⟩
  refine kq (xq (tx ?_))
  cases h
  exact ⟨_,rfl,rfl,⟨a6,H7,(by show _=_;cases hfa6<;>kernel_rfl),(HP.pick hH [0] rfl)⟩⟩
 rintro e s hq
 obtain ⟨rfl,hR⟩:=hq
 obtain ⟨a1,aa,rfl,hH⟩:=hR
 replace hH:HP _ [.arr a1 1 false (List.map eI64 a4)]:=hH
 have a2:=Zbd (HP.get hH 0 rfl)
 refine bx (tq (sq ?_))
 obtain ⟨ag,ai,h⟩:=bs h
 obtain ⟨ao,an,a5,hH⟩:=HP.frz (k:=0) (a:=a1) (sz:=1) (frz:=false) eI64 hH rfl
 replace hH:HP _ [.arr a1 1 true (List.map eI64 a4)]:=hH
 refine rgS ⟨[(8,iv ag)],[],ao⟩ (Z1.v 1 (ZlW (H:=aa) (ys:=[iv 960,a1]) (by cases a2<;>kernel_rfl) (by cases a2<;>kernel_rfl) (Zij rfl (Zij a5 Zma)) (ZhO N 960 a4 ag ai)) Z1.f) kr ?_
 replace hH:HP _ []:=HP.pick hH [] rfl
 refine tq (sq (sq (rg Z1.f (tq (it h (λaj h=>?_) (λaj h=>?_))))))
 ·refine sq (rg Z1.f (tq (rt (tr ?_))))
  cases h
  exact Zaq kr
 refine sk (tq (kq (sq (rg Z1.f (tq (rt ?_))))))
 cases h
 exact Zaq kr
theorem Zhc (N:Nat)(a0_:Zad)(a1_:Zad)(r:Bool)(h:Zc3 N a0_ a1_=some r):Zbc Try.prog 56 [.agg (Zbl a0_),.agg (Zbl a1_)] (bv r):=by
 unfold Zc3 at h
 have hH  := hp0
 refine ZaD Zyr rfl rfl (Zas _ _ _ ?_) rfl
 refine sq (rg Z1.f (tq (sq (sq (rg Z1.f (tq (it h (λhc1 h=>?_) (λhc1 h=>?_))))))))
 ·refine sq (rg Z1.f (tq (rt (tr ?_))))
  cases h
  exact Zaq kr
 refine sk (tq (kq (sq ?_)))
 obtain ⟨r2,hr2,h⟩:=bs h
 refine rg (Z1.v 2 (Zaw (hc:=ZhM N a0_ a1_ r2 hr2)) Z1.f) (tq (sq ?_))
 obtain ⟨r3,hr3,h⟩:=bs h
 refine rg (Z1.v 6 (Zaw (hc:=ZiD N (w64 (a1_.From-a0_.From)) r2.2.2 r3 hr3)) Z1.f) (tq (sq (rgX ⟨[(4,bv ((decide (r2.1<=r3))&&(decide (r3<=r2.2.1))))],[],[]⟩ ?_ ?_)))
 ·rcases Bool.eq_false_or_eq_true (decide (r2.1<=r3)) with hc4|hc5
  ·exact (EP.u 2 (Z8 (c:=(decide (r2.1<=r3))) (h:=hc4)) (EP.f (by simp only [hc4];kernel_rfl)))
  exact (EP.u 2 (Z8 (c:=(decide (r2.1<=r3))) (h:=hc5)) (EP.f (by simp only [hc5];kernel_rfl)))
 refine tq (rt ?_)
 cases h
 exact Zaq kr
def dpC (c:Z3):Int×List (List PC):=(c.Stream,c.Arms.map Zae)
theorem Zfg {H:List HO}{a:AV}{sz:Nat}{u:Bool}{cs:List PC}{f:List Z3}(h:Lies H (.deep a sz u cs (f.map dpC))):ZaA .len [a]=some (iv ((List.length f:Nat):Int)):=by
 have:=Zop h
 rwa [ZE] at this
theorem Zfh {α:Type}{bytes:Nat}{l m r:List α}(h:appI bytes l m=some r):r=l++m/\(l.length+m.length)*bytes<=140737488355328/\l.length+m.length<=140737488355328:=by
 unfold appI at h
 split at h
 ·rename_i hc
  cases h
  exact ⟨rfl,hc.1,hc.2⟩
 cases h
theorem ZbP {α β:Type}(g:α->β){l:List α}{i:Int}{e:α}(h:idx l i=some e):idx (l.map g) i=some (g e):=by
 unfold idx at h ⊢
 split at h
 ·rename_i h0
  rw [ZY h0,Zy,h]
  rfl
 cases h
abbrev Zo3 (P:Program) (rec_:Z4->List Z3->List Int->Option (List Z3×Bool)):Prop :=
 ∀ (p:Z4) (f:List Z3) (given:List Int) (r:List Z3×Bool) (a:AV) (cs:List PC) (H:List HO),HP H [.deep a 4 true cs (f.map dpC)]->rec_ p f given=some r →
  ∃ (a':AV) (cs':List PC) (H':List HO),Zcs P 34 [.agg (Z0 p),a,Zag false given] H (.tup [a',bv r.2]) H'/\Fp H H' [.deep a 4 true cs (f.map dpC)] [.deep a' 4 true cs' (r.1.map dpC)]/\(r.2=true->cs <+: cs')
theorem hp1 {H:List HO}{i:ZaM}(h:Lies H i):HP H [i]:=HP.cons (HP.any H) h (λ_ _ j hj=>by cases hj)
theorem Zni {α:Type}{l m:List α}{i:Nat}(x:α)(h:l <+: m)(hi:l.length<=i):l <+: m.set i x:=by
 obtain ⟨t,rfl⟩:=h
 rw [List.set_append_right _ _ hi]
 exact ⟨_,rfl⟩
theorem ZoT {α:Type}{l m:List α}{i:Nat}{x:α}(h:l <+: m)(hi:l[i]?=some x):m[i]?=some x:=by
 obtain ⟨t,rfl⟩:=h
 rw [Zr (List.getElem?_eq_some_iff.1 hi).1]
 exact hi
theorem ZkT {H H1:List HO}{f0:List ZaM}{a1 bb:AV}{cs1:List PC}{f1:List Z3}{given:List Int}{p:Z4}{i c x y b nx:Int}{fd:Z3}{cc:PC}{l:List Zav}{Q:Exit->St->Prop}
  (hF:Fp H H1 f0 [.deep a1 4 true cs1 (f1.map dpC)]) (hfd:idx f1 c=some fd) (hcc:cs1[c.toNat]?=some cc) (hbb:up cc=bb) (hl:appI 32 fd.Arms [⟨x,y,b,nx⟩]=some l)
  (hQ:∀ H2 cx,Fp H H2 f0 [.deep a1 4 true (cs1.set c.toNat cx) ((f1.set c.toNat ⟨fd.Stream,l⟩).map dpC)]->Q .normal ⟨[(1,a1),(2,Zag false given),(3,.loc 3 0),(8,iv i),(9,iv c),(10,iv x)],[(3,Z0 p)],H2⟩) :
  vc Try.prog i34.nt (Ro ZoB [1,2,3,8,9,10]) Q ⟨[(1,a1),(2,Zag false given),(3,.loc 3 0),(8,iv i),(9,iv c),(10,iv x),(14,bb),(15,.loc 15 0)],[(3,Z0 p),(15,[iv x,iv y,iv b,iv nx])],H1⟩:=by
 obtain ⟨rfl,hb1,hb2⟩:=Zfh hl
 obtain ⟨id9,ver9,cc9,bb9,hid9a,hcc9,hbb9,hid9v,hfbb9,_⟩:=ZeC (Fp.get hF 0 rfl) (ZbP dpC hfd)
 rw [hcc] at hcc9
 cases hcc9
 rw [hbb] at hbb9
 cases hbb9
 obtain ⟨q9,v9,H9,a5,a4,a6,hap9,a0,a2,a3⟩:=Fp.deepIn (k:=0) (bytes:=32) (m:=[Zae ⟨x,y,b,nx⟩]) hF rfl (ZbP dpC hfd) hcc hbb (by simp) (by simpa [dpC] using hb1) (by simpa [dpC] using hb2)
 rw [hid9a] at a0
 cases a0
 subst hid9a
 refine rgS ⟨[(1,.osl 2 id9 ver9 0 (f1.map dpC).length),(2,Zag false given),(3,.loc 3 0),(8,iv i),(9,iv c),(10,iv x)],[(3,Z0 p)],a6⟩
  (Z1.h (hm:=by cases hfbb9<;>kernel_rfl) 5 (ZdQ (H:=H1) (a:=bb) (b:=Zaf true [⟨x,y,b,nx⟩]) (by cases hfbb9<;>kernel_rfl) (by cases hfbb9<;>kernel_rfl) (by cases hfbb9<;>kernel_rfl) kr hap9)
  (Z1.u (hm:=by cases hfbb9<;>kernel_rfl) 0 (Zaa (ys:=[.osl 2 id9 ver9 0 (f1.map dpC).length,iv c]) (by cases hfbb9<;>kernel_rfl) (hid9v .i64))
  (Z1.o (hm:=by cases hfbb9<;>kernel_rfl) 1 (ZbS (H:=H9) (v:=.osl 4 q9 v9 0 ((dpC fd).2++[Zae ⟨x,y,b,nx⟩]).length) (p:=.optr 2 id9 ver9 (0+c.toNat) 1) rfl (by cases hfbb9<;>kernel_rfl) (by cases hfbb9<;>kernel_rfl) (by cases hfbb9<;>kernel_rfl) rfl a2)
  (Z1.f (h:=by cases hfbb9<;>kernel_rfl))))) (by cases hfbb9<;>kernel_rfl) ?_
 refine hQ _ (.ow 4 q9 v9 ((dpC fd).2++[Zae ⟨x,y,b,nx⟩]).length) ?_
 rw [ZL]
 have e:dpC ⟨fd.Stream,fd.Arms++[⟨x,y,b,nx⟩]⟩=((dpC fd).1,(dpC fd).2++[Zae ⟨x,y,b,nx⟩]):=by simp [dpC]
 rw [e]
 exact a3
theorem ZhP (N:Nat)(rec_:Z4->List Z3->List Int->Option (List Z3×Bool))(hrec_:Zo3 Try.prog rec_):Zo3 Try.prog (Zcv N rec_):=by
 intro a0_ a1_ a2_ r a cs H hH h
 suffices hs:∃ r' H',Zcs Try.prog 34 [.agg (Z0 a0_),a,Zag false a2_] H r' H'/\∃ (a':AV) (cs':List PC),r'=.tup [a',bv r.2]/\Fp H H' [.deep a 4 true cs (a1_.map dpC)] [.deep a' 4 true cs' (r.1.map dpC)]/\(r.2=true->cs <+: cs') by
  obtain ⟨_,H',h1,a',cs',he,h2⟩:=hs
  exact ⟨a',cs',H',he ▸ h1,h2⟩
 unfold Zcv at h
 replace hH:=Fp.refl hH
 have hfa:=Zd9 (Fp.get hH 0 rfl)
 have hlen:=(Fp.get hH 0 rfl).1
 rw [ZE] at hlen
 refine ZgJ ZyL (λr' H'=>∃ (a':AV) (cs':List PC),r'=.tup [a',bv r.2]/\Fp H H' [.deep a 4 true cs (a1_.map dpC)] [.deep a' 4 true cs' (r.1.map dpC)]/\(r.2=true->cs <+: cs')) (λr' H' q=>by obtain ⟨a',cs',e,hp,_⟩:=q;subst e;have hf:=Zd9 (Fp.get hp 0 rfl);show ZaF _=true;cases hf<;>rfl) rfl (by cases hfa<;>kernel_rfl) (sq (rgS ⟨[(1,a),(2,Zag false a2_),(3,.loc 3 0)],[(3,Z0 a0_)],H⟩ (Z1.f (h:=by cases hfa<;>kernel_rfl)) (by cases hfa<;>kernel_rfl) (tq (sq (rgS ⟨[(1,a),(2,Zag false a2_),(3,.loc 3 0),(8,iv ((List.length a2_:Nat):Int))],[(3,Z0 a0_)],H⟩ (Z1.u (hm:=by cases hfa<;>kernel_rfl) 1 (Zaa (ys:=[Zag false a2_]) (by cases hfa<;>kernel_rfl) (Zal eI64)) (Z1.f (h:=by cases hfa<;>kernel_rfl))) (by cases hfa<;>kernel_rfl) (tq (sq (sq (rgX ⟨[(1,a),(2,Zag false a2_),(3,.loc 3 0),(8,iv ((List.length a2_:Nat):Int)),(29,bv ((((List.length a2_:Nat):Int)==((List.length a0_.Periods:Nat):Int))||(decide (((List.length a1_:Nat):Int)≥2000))))],[(3,Z0 a0_)],H⟩ ?_ ?_)))))))))
 ·refine (EP.u (hm:=by cases hfa<;>kernel_rfl) 3 (Zaa (ys:=[Zag false a0_.Periods]) (by cases hfa<;>kernel_rfl) (Zal eI64)) ?_)
  rcases Bool.eq_false_or_eq_true (((List.length a2_:Nat):Int)==((List.length a0_.Periods:Nat):Int)) with hc|hc
  ·exact (EP.u (hm:=by cases hfa<;>kernel_rfl) 0 (Z8 (c:=(((List.length a2_:Nat):Int)==((List.length a0_.Periods:Nat):Int))) (by cases hfa<;>kernel_rfl) hc) (EP.f (h:=by cases hfa<;>kernel_rfl) (by simp only [hc];cases hfa<;>kernel_rfl)))
  exact (EP.u (hm:=by cases hfa<;>kernel_rfl) 0 (Z8 (c:=(((List.length a2_:Nat):Int)==((List.length a0_.Periods:Nat):Int))) (by cases hfa<;>kernel_rfl) hc) (EP.u (hm:=by cases hfa<;>kernel_rfl) 2 (Zaa (ys:=[a]) (by cases hfa<;>kernel_rfl) (Zfg (Fp.get hH 0 rfl))) (EP.f (h:=by cases hfa<;>kernel_rfl) (by simp only [hc];cases hfa<;>kernel_rfl))))
 refine tq (it h (λa4 h=>?_) (λa4 h=>?_) (hx:=by cases hfa<;>kernel_rfl))
 ·refine sq (rgS ⟨[(6,.p (.sl 2 true [])),(7,bv false)],[],H⟩ (Z1.f (h:=by cases hfa<;>kernel_rfl)) (by cases hfa<;>kernel_rfl) (tq (rt (tr ?_))))
  cases h
  exact ⟨[.p (.sl 2 true []),bv false],kr,.p (.sl 2 true []),[],rfl,Fp.pk (Fp.deepNil hH 4) [0] rfl,λe=>by cases e⟩
 refine sk (tq (kq (sq (rgS ⟨[(1,a),(2,Zag false a2_),(3,.loc 3 0),(8,iv ((List.length a2_:Nat):Int)),(9,iv ((List.length a1_:Nat):Int))],[(3,Z0 a0_)],H⟩ (Z1.u (hm:=by cases hfa<;>kernel_rfl) 1 (Zaa (ys:=[a]) (by cases hfa<;>kernel_rfl) (Zfg (Fp.get hH 0 rfl))) (Z1.f (h:=by cases hfa<;>kernel_rfl))) (by cases hfa<;>kernel_rfl) (tq (sq ?_))))))
 obtain ⟨f1,hf1,h⟩:=bs h
 obtain ⟨rfl,hb1,hb2⟩:=Zfh hf1
 obtain ⟨c1,a1,H1,hrw,hap,hF1⟩:=Fp.deepApp (k:=1) (j:=0) (bytes:=32) (Fp.nilArr hH 4 false) rfl rfl (by decide) ((List.length a2_:Nat):Int) (by simpa using hb1) (by simpa using hb2)
 replace hF1:Fp H H1 [.deep a 4 true cs (a1_.map dpC)] [.deep a1 4 true (cs++[c1]) ((a1_++[Z3.mk ((List.length a2_:Nat):Int) []]).map dpC)]:=by
  have:=Fp.pick hF1 [1] rfl
  rw [ZI]
  exact this
 have hfa1:=Zd9 (Fp.get hF1 0 rfl)
 refine rgS ⟨[(1,a1),(2,Zag false a2_),(3,.loc 3 0),(8,iv ((List.length a2_:Nat):Int)),(9,iv ((List.length a1_:Nat):Int))],[(3,Z0 a0_)],H1⟩ (Z1.h (hm:=by cases hfa<;>kernel_rfl) 3 (Zll (H:=H) (ys:=[.agg [iv ((List.length a2_:Nat):Int),.p (.sl 4 true [])]]) (by cases hfa<;>kernel_rfl) (by cases hfa<;>kernel_rfl) hrw rfl rfl) (Z1.h (hm:=by cases hfa<;>kernel_rfl) 0 (ZdQ (H:=H++[.arr 2 0 false [[.int .i64 ((List.length a2_:Nat):Int),c1]]]) (a:=a) (b:=.osl 2 H.length 0 0 1) (by cases hfa<;>kernel_rfl) (by cases hfa<;>kernel_rfl) (by cases hfa<;>kernel_rfl) (Zic _ _) hap) (Z1.f (h:=by cases hfa<;>cases hfa1<;>kernel_rfl)))) (by cases hfa<;>cases hfa1<;>kernel_rfl) (tq (sq (sq (rgS ⟨[(1,a1),(2,Zag false a2_),(3,.loc 3 0),(8,iv ((List.length a2_:Nat):Int)),(9,iv ((List.length a1_:Nat):Int)),(10,iv 0)],[(3,Z0 a0_)],H1⟩ (Z1.f (h:=by cases hfa1<;>kernel_rfl)) (by cases hfa1<;>kernel_rfl) (tq (bk ?_))))))
 obtain ⟨o1,ho1,h⟩:=bs h
 clear hrw hap hf1 hb1 hb2
 refine ZaN ((ZaC (λ(x:Int×List Z3) s=>∃ (b:AV) (ds:List PC) (H2:List HO),s=⟨[(1,b),(2,Zag false a2_),(3,.loc 3 0),(8,iv ((List.length a2_:Nat):Int)),(9,iv ((List.length a1_:Nat):Int)),(10,iv x.1)],[(3,Z0 a0_)],H2⟩/\Fp H H2 [.deep a 4 true cs (a1_.map dpC)] [.deep b 4 true ds (x.2.map dpC)]/\cs <+: ds)
  (λx:Int×List Z3=>Zb4 N rec_ a0_ a2_ ((List.length a2_:Nat):Int) ((List.length a1_:Nat):Int) x.1 x.2)
  (λ(p:List Z3⊕(List Z3×Bool)) e s=>match p with
   | .inl f2=>e=.exit 0/\∃ (b:AV) (ds:List PC) (H2:List HO),s=⟨[(1,b)],[],H2⟩/\Fp H H2 [.deep a 4 true cs (a1_.map dpC)] [.deep b 4 true ds (f2.map dpC)]/\cs <+: ds
   | .inr q=>e=.ret/\∃ (b:AV) (ds:List PC) (H2:List HO),s=⟨[(6,b),(7,bv q.2)],[],H2⟩/\Fp H H2 [.deep a 4 true cs (a1_.map dpC)] [.deep b 4 true ds (q.1.map dpC)]/\(q.2=true->cs <+: ds)) ?_ N _ o1 _ ho1 ⟨a1,cs++[c1],H1,by show _=_;cases hfa1<;>kernel_rfl,hF1,List.prefix_append _ _⟩).mono ?_)
 ·clear h ho1 hF1 hfa1 H1 a1 c1
  rintro ⟨i1,f1⟩ o s h hR
  obtain ⟨a1,cs1,H1,rfl,hF1,hpre⟩:=hR
  have hfa1:=Zd9 (Fp.get hF1 0 rfl)
  replace h:Zb4 N rec_ a0_ a2_ ((List.length a2_:Nat):Int) ((List.length a1_:Nat):Int) i1 f1=some o:=h
  unfold Zb4 at h
  refine sq (sq ?_)
  obtain ⟨e1,he1,h⟩:=bs h
  refine rgS ⟨[(1,a1),(2,Zag false a2_),(3,.loc 3 0),(8,iv ((List.length a2_:Nat):Int)),(9,iv ((List.length a1_:Nat):Int)),(10,iv i1),(43,bv (decide (i1<e1)))],[(3,Z0 a0_)],H1⟩ (Z1.u (hm:=by cases hfa1<;>kernel_rfl) 4 (Zaa (ys:=[Zag false a0_.Periods,iv ((List.length a2_:Nat):Int)]) (by cases hfa1<;>kernel_rfl) (Z7 eI64 he1)) (Z1.u (hm:=by cases hfa1<;>kernel_rfl) 0 (Zam (sz:=1) (off:=0) (cs:=[.int .i64 e1]) (r:=iv e1) eI64 he1 (by cases hfa1<;>kernel_rfl) kr kr) (Z1.f (h:=by cases hfa1<;>kernel_rfl)))) (by cases hfa1<;>kernel_rfl) (tq (it h (λhc1 h=>?_) (λhc1 h=>?_) (hx:=by cases hfa1<;>kernel_rfl)))
  ·refine sk (tq (kq (sq (bk (sq ?_)))))
   obtain ⟨g,hg,h⟩:=bs h
   obtain ⟨all,hall,h⟩:=bs h
   obtain ⟨a2,H2,ha2,hF2⟩:=Zj9 (sz:=1) eI64 hF1 hg
   have hfa2:=Zbd (Fp.get hF2 0 rfl)
   obtain ⟨a3,H3,ha3,hF3⟩:=Fp.app (k:=0) (a:=a2) (sz:=1) (frz:=false) eI64 hF2 rfl hall
   replace hF3:Fp H H3 [.deep a 4 true cs (a1_.map dpC)] [.arr a3 1 false (all.map eI64),.deep a1 4 true cs1 (f1.map dpC)]:=hF3
   have hfa3:=Zbd (Fp.get hF3 0 rfl)
   refine rgS ⟨[(1,a1),(2,Zag false a2_),(3,.loc 3 0),(8,iv ((List.length a2_:Nat):Int)),(9,iv ((List.length a1_:Nat):Int)),(10,iv i1),(11,a3)],[(3,Z0 a0_)],H3⟩ (Z1.h (hm:=by cases hfa1<;>kernel_rfl) 2 (ZdQ (H:=H1) (a:=Zag true []) (b:=Zag false a2_) (by cases hfa1<;>kernel_rfl) (by cases hfa1<;>kernel_rfl) (by cases hfa1<;>kernel_rfl) kr ha2) (Z1.h (hm:=by cases hfa1<;>kernel_rfl) 2 (ZdQ (H:=H2) (a:=a2) (b:=Zag true [i1]) (by cases hfa1<;>kernel_rfl) (by cases hfa1<;>kernel_rfl) (by cases hfa1<;>kernel_rfl) kr ha3) (Z1.f (h:=by cases hfa1<;>kernel_rfl)))) (by cases hfa1<;>cases hfa3<;>kernel_rfl) (tq (sq (rgS ⟨[(1,a1),(2,Zag false a2_),(3,.loc 3 0),(8,iv ((List.length a2_:Nat):Int)),(9,iv ((List.length a1_:Nat):Int)),(10,iv i1),(11,a3),(12,iv (-1))],[(3,Z0 a0_)],H3⟩ (Z1.f (h:=by cases hfa1<;>cases hfa3<;>kernel_rfl)) (by cases hfa1<;>cases hfa3<;>kernel_rfl) (tq (sq (sq (rgS ⟨[(1,a1),(2,Zag false a2_),(3,.loc 3 0),(8,iv ((List.length a2_:Nat):Int)),(9,iv ((List.length a1_:Nat):Int)),(10,iv i1),(11,a3),(12,iv (-1)),(13,iv 0)],[(3,Z0 a0_)],H3⟩ (Z1.f (h:=by cases hfa1<;>cases hfa3<;>kernel_rfl)) (by cases hfa1<;>cases hfa3<;>kernel_rfl) (tq (bk ?_)))))))))
   obtain ⟨b0,hb0,h⟩:=bs h
   clear ha2 ha3 hF2 hfa2 hF1 hg
   refine ZaN ((ZaC (λ(y:Int×Int) s=>s=⟨[(1,a1),(2,Zag false a2_),(3,.loc 3 0),(8,iv ((List.length a2_:Nat):Int)),(9,iv ((List.length a1_:Nat):Int)),(10,iv i1),(11,a3),(12,iv y.2),(13,iv y.1)],[(3,Z0 a0_)],H3⟩)
    (λy:Int×Int=>Zb3 N a0_ ((List.length a2_:Nat):Int) i1 all y.1 y.2)
    (λ(b:Int) e s=>e=.exit 2/\s=⟨[(1,a1),(2,Zag false a2_),(3,.loc 3 0),(8,iv ((List.length a2_:Nat):Int)),(9,iv ((List.length a1_:Nat):Int)),(10,iv i1),(11,a3),(12,iv b)],[(3,Z0 a0_)],H3⟩) ?_ N _ b0 _ hb0 (by show _=_;cases hfa1<;>cases hfa3<;>kernel_rfl)).mono ?_)
   ·clear h hb0
    rintro ⟨j,b⟩ o s h hR
    obtain rfl:=hR
    replace h:Zb3 N a0_ ((List.length a2_:Nat):Int) i1 all j b=some o:=h
    unfold Zb3 at h
    refine sq (sq (rgX ⟨[(1,a1),(2,Zag false a2_),(3,.loc 3 0),(8,iv ((List.length a2_:Nat):Int)),(9,iv ((List.length a1_:Nat):Int)),(10,iv i1),(11,a3),(12,iv b),(13,iv j),(58,bv ((decide (j<=((List.length a2_:Nat):Int)))&&(b == -1)))],[(3,Z0 a0_)],H3⟩ ?_ ?_))
    ·rcases Bool.eq_false_or_eq_true (decide (j<=((List.length a2_:Nat):Int))) with hc|hc
     ·exact (EP.u (hm:=by cases hfa1<;>cases hfa3<;>kernel_rfl) 2 (Z8 (c:=(decide (j<=((List.length a2_:Nat):Int)))) (by cases hfa1<;>cases hfa3<;>kernel_rfl) hc) (EP.f (h:=by cases hfa1<;>cases hfa3<;>kernel_rfl) (by simp only [hc];cases hfa1<;>cases hfa3<;>kernel_rfl)))
     exact (EP.u (hm:=by cases hfa1<;>cases hfa3<;>kernel_rfl) 2 (Z8 (c:=(decide (j<=((List.length a2_:Nat):Int)))) (by cases hfa1<;>cases hfa3<;>kernel_rfl) hc) (EP.f (h:=by cases hfa1<;>cases hfa3<;>kernel_rfl) (by simp only [hc];cases hfa1<;>cases hfa3<;>kernel_rfl)))
    refine tq (it h (λhc2 h=>?_) (λhc2 h=>?_) (hx:=by cases hfa1<;>cases hfa3<;>kernel_rfl))
    ·refine sk (tq (kq (sq (bk (sq ?_)))))
     obtain ⟨e2,he2,h⟩:=bs h
     obtain ⟨m2,hm2,h⟩:=bs h
     obtain ⟨id2,ver2,_,hid2f,hid2,hid2a,hid2v⟩:=Fp.elem (k:=0) (a:=a3) (sz:=1) (frz:=false) eI64 hF3 rfl he2
     refine rqS (hs:=(by cases hfa1<;>cases hfa3<;>kernel_rfl)) ⟨[(1,a1),(2,Zag false a2_),(3,.loc 3 0),(8,iv ((List.length a2_:Nat):Int)),(9,iv ((List.length a1_:Nat):Int)),(10,iv i1),(11,a3),(12,iv b),(13,iv j),(69,bv m2)],[(3,Z0 a0_)],H3⟩ (Z1.u (hm:=by cases hfa1<;>cases hfa3<;>kernel_rfl) 6 (Zaa (ys:=[a3,iv j]) (by cases hfa1<;>cases hfa3<;>kernel_rfl) (hid2v .i64)) (Z1.u (hm:=by cases hfa1<;>cases hfa3<;>kernel_rfl) 0 (ZaK (ZdS (H:=H3) (off:=0) (cs:=[.int .i64 e2]) (r:=iv e2) eI64 he2 hid2 (by cases hfa1<;>cases hfa3<;>kernel_rfl) (by cases hfa1<;>cases hfa3<;>kernel_rfl) kr kr) (by cases hfa1<;>cases hfa3<;>kernel_rfl)) (Z1.v (hm:=by cases hfa1<;>cases hfa3<;>kernel_rfl) 0 (Zaw (by cases hfa1<;>cases hfa3<;>kernel_rfl) (ZfF N a0_ ((List.length a2_:Nat):Int) i1 j e2 m2 hm2)) (Z1.f (h:=by cases hfa1<;>cases hfa3<;>kernel_rfl))))) (by cases hfa1<;>cases hfa3<;>kernel_rfl) (tq ?_)
     obtain ⟨b',hb',h⟩:=bs h
     refine it hb' (λhc3 hb'=>?_) (λhc3 hb'=>?_) (hx:=by cases hfa1<;>cases hfa3<;>kernel_rfl)
     ·obtain rfl:=Zaj hb'
      refine rgS ⟨[(1,a1),(2,Zag false a2_),(3,.loc 3 0),(8,iv ((List.length a2_:Nat):Int)),(9,iv ((List.length a1_:Nat):Int)),(10,iv i1),(11,a3),(12,iv j),(13,iv j)],[(3,Z0 a0_)],H3⟩ (Z1.f (h:=by cases hfa1<;>cases hfa3<;>kernel_rfl)) (by cases hfa1<;>cases hfa3<;>kernel_rfl) (bn (tq (kq (rgS ⟨[(1,a1),(2,Zag false a2_),(3,.loc 3 0),(8,iv ((List.length a2_:Nat):Int)),(9,iv ((List.length a1_:Nat):Int)),(10,iv i1),(11,a3),(12,iv j),(13,iv (w64 (j+1)))],[(3,Z0 a0_)],H3⟩ (Z1.f (h:=by cases hfa1<;>cases hfa3<;>kernel_rfl)) (by cases hfa1<;>cases hfa3<;>kernel_rfl) ?_))))
      cases h
      exact ⟨_,rfl,(by show _=_;cases hfa1<;>cases hfa3<;>kernel_rfl)⟩
     obtain rfl:=Zaj hb'
     refine sk (bn (tq (kq (rgS ⟨[(1,a1),(2,Zag false a2_),(3,.loc 3 0),(8,iv ((List.length a2_:Nat):Int)),(9,iv ((List.length a1_:Nat):Int)),(10,iv i1),(11,a3),(12,iv b),(13,iv (w64 (j+1)))],[(3,Z0 a0_)],H3⟩ (Z1.f (h:=by cases hfa1<;>cases hfa3<;>kernel_rfl)) (by cases hfa1<;>cases hfa3<;>kernel_rfl) ?_))))
     cases h
     exact ⟨_,rfl,(by show _=_;cases hfa1<;>cases hfa3<;>kernel_rfl)⟩
    refine kq (xq (tx ?_))
    cases h
    exact ⟨_,rfl,rfl,(by show _=_;cases hfa1<;>cases hfa3<;>kernel_rfl)⟩
   rintro e s hq
   obtain ⟨rfl,rfl⟩:=hq
   refine bx (tq ?_)
   clear hb0
   obtain ⟨b,hb,h⟩:=bs h
   refine Zec [1,2,3,8,9,10,11,12] (λs=>s=⟨[(1,a1),(2,Zag false a2_),(3,.loc 3 0),(8,iv ((List.length a2_:Nat):Int)),(9,iv ((List.length a1_:Nat):Int)),(10,iv i1),(11,a3),(12,iv b)],[(3,Z0 a0_)],H3⟩) ?_ ?_
   ·clear h
    refine sq (rgX ⟨[(1,a1),(2,Zag false a2_),(3,.loc 3 0),(8,iv ((List.length a2_:Nat):Int)),(9,iv ((List.length a1_:Nat):Int)),(10,iv i1),(11,a3),(12,iv b0),(76,bv ((((List.length a1_:Nat):Int)==0)&&(decide (i1>0))))],[(3,Z0 a0_)],H3⟩ ?_ ?_)
    ·rcases Bool.eq_false_or_eq_true (((List.length a1_:Nat):Int)==0) with hc|hc
     ·exact (EP.u (hm:=by cases hfa1<;>cases hfa3<;>kernel_rfl) 1 (Z8 (c:=(((List.length a1_:Nat):Int)==0)) (by cases hfa1<;>cases hfa3<;>kernel_rfl) hc) (EP.f (h:=by cases hfa1<;>cases hfa3<;>kernel_rfl) (by simp only [hc];cases hfa1<;>cases hfa3<;>kernel_rfl)))
     exact (EP.u (hm:=by cases hfa1<;>cases hfa3<;>kernel_rfl) 1 (Z8 (c:=(((List.length a1_:Nat):Int)==0)) (by cases hfa1<;>cases hfa3<;>kernel_rfl) hc) (EP.f (h:=by cases hfa1<;>cases hfa3<;>kernel_rfl) (by simp only [hc];cases hfa1<;>cases hfa3<;>kernel_rfl)))
    refine tq (it hb (λhc hb=>?_) (λhc hb=>?_) (hx:=by cases hfa1<;>cases hfa3<;>kernel_rfl))
    ·obtain rfl:=Zaj hb
     exact rgS ⟨[(1,a1),(2,Zag false a2_),(3,.loc 3 0),(8,iv ((List.length a2_:Nat):Int)),(9,iv ((List.length a1_:Nat):Int)),(10,iv i1),(11,a3),(12,iv (-2))],[(3,Z0 a0_)],H3⟩ (Z1.f (h:=by cases hfa1<;>cases hfa3<;>kernel_rfl)) (by cases hfa1<;>cases hfa3<;>kernel_rfl) (⟨rfl,(by show _=_;cases hfa1<;>cases hfa3<;>kernel_rfl)⟩)
    obtain rfl:=Zaj hb
    exact sk (⟨rfl,(by show _=_;cases hfa1<;>cases hfa3<;>kernel_rfl)⟩)
   rintro s hR
   obtain rfl:=hR
   clear hb
   obtain ⟨fc,hfc,h⟩:=bs h
   obtain ⟨la,hla,h⟩:=bs h
   obtain ⟨id4,ver4,cc,bb,hid4a,hcc,hbb,hid4v,hfbb,hlbb,hr0,hr1,hr2⟩:=ZeC (Fp.get hF3 1 rfl) (ZbP dpC hfc)
   refine sq (rgS ⟨[(1,a1),(2,Zag false a2_),(3,.loc 3 0),(8,iv ((List.length a2_:Nat):Int)),(9,iv ((List.length a1_:Nat):Int)),(10,iv i1),(11,a3),(12,iv b),(14,bb)],[(3,Z0 a0_)],H3⟩ (Z1.u (hm:=by cases hfa1<;>cases hfa3<;>kernel_rfl) 2 (Zaa (ys:=[a1,iv ((List.length a1_:Nat):Int)]) (by cases hfa1<;>cases hfa3<;>kernel_rfl) (hid4v .i64)) (Z1.u (hm:=by cases hfa1<;>cases hfa3<;>kernel_rfl) 1 (ZcB (H:=H3) (r:=bb) (p:=.optr 2 id4 ver4 (0+(((List.length a1_:Nat):Int)).toNat) 1) (by cases hfa1<;>cases hfa3<;>kernel_rfl) (by cases hfa1<;>cases hfa3<;>kernel_rfl) hr1 (by cases hfbb<;>kernel_rfl) (by cases hfbb<;>kernel_rfl)) (Z1.f (h:=by cases hfa1<;>cases hfa3<;>kernel_rfl)))) (by cases hfbb<;>cases hfa1<;>cases hfa3<;>kernel_rfl) (tq (sq ?_)))
   have hpb:HP H3 [.arr bb 4 false (fc.Arms.map Zae)]:=hp1 hlbb
   refine sq (rgX ⟨[(1,a1),(2,Zag false a2_),(3,.loc 3 0),(8,iv ((List.length a2_:Nat):Int)),(9,iv ((List.length a1_:Nat):Int)),(10,iv i1),(11,a3),(12,iv b),(14,bb),(99,bv la)],[(3,Z0 a0_)],H3⟩ ?_ ?_)
   ·clear h
    unfold Zc7 at hla
    rcases ZaB hla with ⟨hc,hla⟩|⟨hc,hla⟩
    ·refine EP.u (hm:=by cases hfa1<;>cases hfa3<;>cases hfbb<;>kernel_rfl) 1 (Z8 (c:=(b != -1)) (by cases hfa1<;>cases hfa3<;>cases hfbb<;>kernel_rfl) hc) (EP.u (hm:=by cases hfa1<;>cases hfa3<;>cases hfbb<;>kernel_rfl) 2 (Zaa (ys:=[bb]) (by cases hfa1<;>cases hfa3<;>cases hfbb<;>kernel_rfl) (HP.len (k:=0) (frz:=false) Zae hpb rfl)) ?_)
     rcases ZaB hla with ⟨hc',hla⟩|⟨hc',hla⟩
     ·refine EP.u (hm:=by cases hfa1<;>cases hfa3<;>cases hfbb<;>kernel_rfl) 0 (Z8 (c:=(decide (((List.length fc.Arms:Nat):Int)>0))) (by cases hfa1<;>cases hfa3<;>cases hfbb<;>kernel_rfl) hc') ?_
      obtain ⟨e5,he5,hla⟩:=bs hla
      obtain rfl:=Zaj hla
      obtain ⟨id5,ver5,_,hid5f,hid5,hid5a,hid5v⟩:=HP.elem (k:=0) (frz:=false) Zae hpb rfl he5
      exact EP.u (hm:=by cases hfa1<;>cases hfa3<;>cases hfbb<;>kernel_rfl) 4 (Zaa (ys:=[bb]) (by cases hfa1<;>cases hfa3<;>cases hfbb<;>kernel_rfl) (HP.len (k:=0) (frz:=false) Zae hpb rfl)) (EP.u (hm:=by cases hfa1<;>cases hfa3<;>cases hfbb<;>kernel_rfl) 1 (Zaa (ys:=[bb,iv (w64 (((List.length fc.Arms:Nat):Int)-1))]) (by cases hfa1<;>cases hfa3<;>cases hfbb<;>kernel_rfl) (hid5v .i64)) (EP.u (hm:=by cases hfa1<;>cases hfa3<;>cases hfbb<;>kernel_rfl) 1 (ZdS (H:=H3) (off:=2) (cs:=[.int .i64 e5.By]) (r:=iv e5.By) Zae he5 hid5 (by cases hfa1<;>cases hfa3<;>cases hfbb<;>kernel_rfl) (by cases hfa1<;>cases hfa3<;>cases hfbb<;>kernel_rfl) kr kr) (EP.f (h:=by cases hfa1<;>cases hfa3<;>cases hfbb<;>kernel_rfl) (by cases hfa1<;>cases hfa3<;>cases hfbb<;>kernel_rfl))))
     obtain rfl:=Zaj hla
     exact EP.u (hm:=by cases hfa1<;>cases hfa3<;>cases hfbb<;>kernel_rfl) 0 (Z8 (c:=(decide (((List.length fc.Arms:Nat):Int)>0))) (by cases hfa1<;>cases hfa3<;>cases hfbb<;>kernel_rfl) hc') (EP.f (h:=by cases hfa1<;>cases hfa3<;>cases hfbb<;>kernel_rfl) (by cases hfa1<;>cases hfa3<;>cases hfbb<;>kernel_rfl))
    obtain rfl:=Zaj hla
    exact EP.u (hm:=by cases hfa1<;>cases hfa3<;>cases hfbb<;>kernel_rfl) 1 (Z8 (c:=(b != -1)) (by cases hfa1<;>cases hfa3<;>cases hfbb<;>kernel_rfl) hc) (EP.f (h:=by cases hfa1<;>cases hfa3<;>cases hfbb<;>kernel_rfl) (by cases hfa1<;>cases hfa3<;>cases hfbb<;>kernel_rfl))
   refine tq (it h (λhc6 h=>?_) (λhc6 h=>?_) (hx:=by cases hfa1<;>cases hfa3<;>cases hfbb<;>kernel_rfl))
   ·obtain ⟨e7,he7,h⟩:=bs h
    obtain ⟨id7,ver7,H7,hid7a,hid7v,hw7,hF7⟩:=Fp.deepRow (k:=1) (vs:=[iv (w64 (i1+1))]) (off:=1) (e':=Zae { e7 with To:=w64 (i1+1) }) hF3 rfl (ZbP dpC hfc) hcc hbb (ZbP Zae he7) rfl rfl
    replace hF7:Fp H H7 [.deep a 4 true cs (a1_.map dpC)] [.deep a1 4 true cs1 ((f1.set ((List.length a1_:Nat):Int).toNat ⟨fc.Stream,fc.Arms.set (w64 (((List.length fc.Arms:Nat):Int)-1)).toNat { e7 with To:=w64 (i1+1) }⟩).map dpC)]:=by
     have:=Fp.pick hF7 [1] rfl
     rw [ZL]
     simp only [dpC,ZL]
     exact this
    refine sq (rgS ⟨[(1,a1),(2,Zag false a2_),(3,.loc 3 0),(8,iv ((List.length a2_:Nat):Int)),(9,iv ((List.length a1_:Nat):Int)),(10,iv i1)],[(3,Z0 a0_)],H7⟩ (Z1.u (hm:=by cases hfa1<;>cases hfa3<;>cases hfbb<;>kernel_rfl) 2 (Zaa (ys:=[bb]) (by cases hfa1<;>cases hfa3<;>cases hfbb<;>kernel_rfl) (HP.len (k:=0) (frz:=false) Zae hpb rfl)) (Z1.u (hm:=by cases hfa1<;>cases hfa3<;>cases hfbb<;>kernel_rfl) 3 (Zaa (ys:=[bb,iv (w64 (((List.length fc.Arms:Nat):Int)-1))]) (by cases hfa1<;>cases hfa3<;>cases hfbb<;>kernel_rfl) (hid7v .i64)) (Z1.o (hm:=by cases hfa1<;>cases hfa3<;>cases hfbb<;>kernel_rfl) 1 (ZbS (H:=H3) (v:=iv (w64 (i1+1))) (cs:=[iv (w64 (i1+1))]) (p:=.optr 4 id7 ver7 (0+(w64 (((List.length fc.Arms:Nat):Int)-1)).toNat) 1) rfl (by cases hfa1<;>cases hfa3<;>cases hfbb<;>kernel_rfl) (by cases hfa1<;>cases hfa3<;>cases hfbb<;>kernel_rfl) (by cases hfa1<;>cases hfa3<;>cases hfbb<;>kernel_rfl) rfl hw7) (Z1.f (h:=by cases hfa1<;>cases hfa3<;>cases hfbb<;>kernel_rfl))))) (by cases hfa1<;>cases hfa3<;>cases hfbb<;>kernel_rfl) (tq (kq (xq (tx (bx (tq (kq (rgS ⟨[(1,a1),(2,Zag false a2_),(3,.loc 3 0),(8,iv ((List.length a2_:Nat):Int)),(9,iv ((List.length a1_:Nat):Int)),(10,iv (w64 (i1+1)))],[(3,Z0 a0_)],H7⟩ (Z1.f (h:=by cases hfa1<;>kernel_rfl)) (by cases hfa1<;>kernel_rfl) ?_)))))))))
    cases h
    exact ⟨_,rfl,a1,cs1,H7,(by show _=_;cases hfa1<;>kernel_rfl),hF7,hpre⟩
   refine sk (tq (kq (sq (rgS ⟨[(1,a1),(2,Zag false a2_),(3,.loc 3 0),(8,iv ((List.length a2_:Nat):Int)),(9,iv ((List.length a1_:Nat):Int)),(10,iv i1),(11,a3),(12,iv b),(14,bb),(15,.loc 15 0)],[(3,Z0 a0_),(15,[iv i1,iv (w64 (i1+1)),iv b,iv 0])],H3⟩ (Z1.f (h:=by cases hfa1<;>cases hfa3<;>cases hfbb<;>kernel_rfl)) (by cases hfa1<;>cases hfa3<;>cases hfbb<;>kernel_rfl) (tq (sq ?_))))))
   obtain ⟨q,hq,h⟩:=bs h
   refine sq (rgS ⟨[(1,a1),(2,Zag false a2_),(3,.loc 3 0),(8,iv ((List.length a2_:Nat):Int)),(9,iv ((List.length a1_:Nat):Int)),(10,iv i1),(11,a3),(14,bb),(15,.loc 15 0),(114,bv (b == -1))],[(3,Z0 a0_),(15,[iv i1,iv (w64 (i1+1)),iv b,iv 0])],H3⟩ (Z1.f (h:=by cases hfa1<;>cases hfa3<;>cases hfbb<;>kernel_rfl)) (by cases hfa1<;>cases hfa3<;>cases hfbb<;>kernel_rfl) (tq (it hq (λhc8 hq=>?_) (λhc8 hq=>?_) (hx:=by cases hfa1<;>cases hfa3<;>cases hfbb<;>kernel_rfl))))
   ·refine sq (rgS ⟨[(1,a1),(2,Zag false a2_),(3,.loc 3 0),(8,iv ((List.length a2_:Nat):Int)),(9,iv ((List.length a1_:Nat):Int)),(10,iv i1),(11,a3),(14,bb),(15,.loc 15 0)],[(3,Z0 a0_),(15,[iv i1,iv (w64 (i1+1)),iv b,iv ((List.length f1:Nat):Int)])],H3⟩ (Z1.u (hm:=by cases hfa1<;>cases hfa3<;>cases hfbb<;>kernel_rfl) 1 (Zaa (ys:=[a1]) (by cases hfa1<;>cases hfa3<;>cases hfbb<;>kernel_rfl) (Zfg (Fp.get hF3 1 rfl))) (Z1.f (h:=by cases hfa1<;>cases hfa3<;>cases hfbb<;>kernel_rfl))) (by cases hfa1<;>cases hfa3<;>cases hfbb<;>kernel_rfl) (tq (sq ?_)))
    obtain ⟨r9,hr9,hq⟩:=bs hq
    obtain ⟨H4,hz1,hz2,hF4⟩:=Fp.frz (k:=0) eI64 hF3 rfl
    replace hF4:Fp H H4 [.deep a 4 true cs (a1_.map dpC)] ([.deep a1 4 true cs1 (f1.map dpC)]++[]):=Fp.pick hF4 [1] rfl
    obtain ⟨a9,cs9,H9,hc9,hF9,hp9⟩:=hrec_ a0_ f1 all r9 a1 cs1 H4 hF4.now hr9
    replace hF9:Fp H H9 [.deep a 4 true cs (a1_.map dpC)] [.deep a9 4 true cs9 (r9.1.map dpC)]:=Fp.callee hF4 hF9
    have hfa9:=Zd9 (Fp.get hF9 0 rfl)
    refine rgS ⟨[(2,Zag false a2_),(3,.loc 3 0),(8,iv ((List.length a2_:Nat):Int)),(9,iv ((List.length a1_:Nat):Int)),(10,iv i1),(14,bb),(15,.loc 15 0),(16,a9),(17,bv r9.2)],[(3,Z0 a0_),(15,[iv i1,iv (w64 (i1+1)),iv b,iv ((List.length f1:Nat):Int)])],H9⟩ (Z1.v (hm:=by cases hfa1<;>cases hfa3<;>cases hfbb<;>kernel_rfl) 3 (ZjB (H:=H3) (ys:=[.agg (Z0 a0_),a1,a3]) (args:=[.agg (Z0 a0_),a1,Zag false all]) (by cases hfa1<;>cases hfa3<;>cases hfbb<;>kernel_rfl) (by cases hfa1<;>cases hfa3<;>cases hfbb<;>kernel_rfl) [[],[true],[]] (Zfp (H1:=H3) kr (Zfp (by cases hfa1<;>kernel_rfl) (Zfp (ZkE hz2) passL_nil'))) hc9) (Z1.f (h:=by cases hfa1<;>cases hfa3<;>cases hfbb<;>cases hfa9<;>kernel_rfl))) (by cases hfa1<;>cases hfa3<;>cases hfbb<;>cases hfa9<;>kernel_rfl) (tq (sq (sq (rgS ⟨[(2,Zag false a2_),(3,.loc 3 0),(8,iv ((List.length a2_:Nat):Int)),(9,iv ((List.length a1_:Nat):Int)),(10,iv i1),(14,bb),(15,.loc 15 0),(16,a9),(126,bv (!r9.2))],[(3,Z0 a0_),(15,[iv i1,iv (w64 (i1+1)),iv b,iv ((List.length f1:Nat):Int)])],H9⟩ (Z1.f (h:=by cases hfa9<;>cases hfbb<;>kernel_rfl)) (by cases hfa9<;>cases hfbb<;>kernel_rfl) (tq (it hq (λhc9 hq=>?_) (λhc9 hq=>?_) (hx:=by cases hfa9<;>cases hfbb<;>kernel_rfl)))))))
    ·obtain rfl:=Zaj hq
     dsimp only at h
     cases h
     exact sq (rgS ⟨[(6,.p (.sl 2 true [])),(7,bv false)],[],H9⟩ (Z1.f (h:=by cases hfa9<;>cases hfbb<;>kernel_rfl)) (by cases hfa9<;>cases hfbb<;>kernel_rfl) (tq (rt (tr (tr (br (tr (⟨_,rfl,rfl,.p (.sl 2 true []),[],H9,rfl,Fp.pk (Fp.deepNil hF9 4) [0] rfl,λe=>by cases e⟩))))))))
    obtain rfl:=Zaj hq
    dsimp only at h
    obtain ⟨fd,hfd,h⟩:=bs h
    obtain ⟨l9,hl9,h⟩:=bs h
    refine sk (tq (kq (rgS ⟨[(1,a9),(2,Zag false a2_),(3,.loc 3 0),(8,iv ((List.length a2_:Nat):Int)),(9,iv ((List.length a1_:Nat):Int)),(10,iv i1),(14,bb),(15,.loc 15 0)],[(3,Z0 a0_),(15,[iv i1,iv (w64 (i1+1)),iv b,iv ((List.length f1:Nat):Int)])],H9⟩ (Z1.f (h:=by cases hfa9<;>cases hfbb<;>kernel_rfl)) (by cases hfa9<;>cases hfbb<;>kernel_rfl) (tq (kq ?_)))))
    have hpre9:cs1 <+: cs9:=hp9 (by simpa using hc9)
    have hcc9:cs9[((List.length a1_:Nat):Int).toNat]?=some cc:=ZoT hpre9 hcc
    refine Eq.mp (congrArg _ (show ⟨[(1,a9),(2,Zag false a2_),(3,.loc 3 0),(8,iv ((List.length a2_:Nat):Int)),(9,iv ((List.length a1_:Nat):Int)),(10,iv i1),(14,bb),(15,.loc 15 0)],[(3,Z0 a0_),(15,[iv i1,iv (w64 (i1+1)),iv b,iv ((List.length f1:Nat):Int)])],H9⟩=_ by cases hfa9<;>cases hfbb<;>kernel_rfl)) (ZkT hF9 hfd hcc9 hbb hl9 λa5 cx a0=>(bn (tq (kq (rgS ⟨[(1,a9),(2,Zag false a2_),(3,.loc 3 0),(8,iv ((List.length a2_:Nat):Int)),(9,iv ((List.length a1_:Nat):Int)),(10,iv (w64 (i1+1)))],[(3,Z0 a0_)],a5⟩ (Z1.f (h:=by cases hfa9<;>kernel_rfl)) (by cases hfa9<;>kernel_rfl) ?_)))))
    cases h
    exact ⟨_,rfl,a9,_,a5,(by show _=_;cases hfa9<;>kernel_rfl),a0,Zni _ (List.IsPrefix.trans hpre hpre9) (by simp [hlen])⟩
   obtain rfl:=Zaj hq
   dsimp only at h
   obtain ⟨fd,hfd,h⟩:=bs h
   obtain ⟨l9,hl9,h⟩:=bs h
   rw [hfc] at hfd
   cases hfd
   refine sk (tq (kq (Eq.mp (congrArg _ (show ⟨[(1,a1),(2,Zag false a2_),(3,.loc 3 0),(8,iv ((List.length a2_:Nat):Int)),(9,iv ((List.length a1_:Nat):Int)),(10,iv i1),(14,bb),(15,.loc 15 0)],[(3,Z0 a0_),(15,[iv i1,iv (w64 (i1+1)),iv b,iv 0])],H3⟩=_ by cases hfa1<;>cases hfa3<;>cases hfbb<;>kernel_rfl)) (ZkT (Fp.pick hF3 [1] rfl) hfc hcc hbb hl9 λa5 cx a0=>(bn (tq (kq (rgS ⟨[(1,a1),(2,Zag false a2_),(3,.loc 3 0),(8,iv ((List.length a2_:Nat):Int)),(9,iv ((List.length a1_:Nat):Int)),(10,iv (w64 (i1+1)))],[(3,Z0 a0_)],a5⟩ (Z1.f (h:=by cases hfa1<;>kernel_rfl)) (by cases hfa1<;>kernel_rfl) ?_))))))))
   cases h
   exact ⟨_,rfl,a1,_,a5,(by show _=_;cases hfa1<;>kernel_rfl),a0,Zni _ hpre (by simp [hlen])⟩
  refine kq (xq (tx ?_))
  cases h
  exact ⟨_,rfl,rfl,a1,cs1,H1,(by show _=_;cases hfa1<;>kernel_rfl),hF1,hpre⟩
 rintro e s hq
 rcases o1 with f2|q
 ·dsimp only at h hq
  obtain ⟨rfl,a2,cs2,H2,rfl,hF2,hpre⟩:=hq
  have hfa2:=Zd9 (Fp.get hF2 0 rfl)
  refine bx (tq (sq (rgS ⟨[(6,a2),(7,bv true)],[],H2⟩ (Z1.f (h:=by cases hfa2<;>kernel_rfl)) (by cases hfa2<;>kernel_rfl) (tq (rt ?_)))))
  cases h
  exact ⟨[a2,bv true],(by cases hfa2<;>kernel_rfl),a2,cs2,rfl,hF2,λ_=>hpre⟩
 dsimp only at h hq
 obtain ⟨rfl,a2,cs2,H2,rfl,hF2,hpre⟩:=hq
 have hfa2:=Zd9 (Fp.get hF2 0 rfl)
 refine br (tr ?_)
 have hqr:=Zaj h
 subst hqr
 exact ⟨[a2,bv q.2],(by cases hfa2<;>kernel_rfl),a2,cs2,rfl,hF2,hpre⟩
theorem Zf4:∀ N:Nat,Zo3 Try.prog (Zdq N)
 | 0=>λ_ _ _ _ _ _ _ _ h=>by cases h
 | N+1=>ZhP N (Zdq N) (Zf4 N)
theorem ZnH (l:List Z3):(l.map dpC).map (λr=>[PC.int .i64 r.1,.sl 4 false r.2])=l.map Z5:=by
 rw [List.map_map];rfl
theorem ZjK (N:Nat)(a0_:Z4)(r:List Z3×Bool)(h:Zev N a0_=some r):Zbc Try.prog 16 [.agg (Z0 a0_)] (.tup [Z2 false r.1,bv r.2]):=by
 unfold Zev at h
 have hH  := hp0
 refine ZaD Zy0 rfl rfl (Zas _ _ _ ?_) rfl
 refine sq (rg Z1.f (tq (sq (sq (rgS ⟨[(1,.loc 1 0),(7,bv (((List.length a0_.Periods:Nat):Int)==0))],[(1,Z0 a0_)],[]⟩ (Z1.u 2 (Zaa (ys:=[Zag false a0_.Periods]) (h:=Zal eI64)) Z1.f) kr (tq (it h (λhc h=>?_) (λhc h=>?_))))))))
 ·refine sq (rg Z1.f (tq (rt (tr ?_))))
  cases h
  exact Zaq kr
 refine sk (tq (kq (sq ?_)))
 obtain ⟨r1,hr1,h⟩:=bs h
 cases h
 have hF:=Fp.deepNil (Fp.refl hH) 4
 obtain ⟨a,cs,H1,hc1,hF1,_⟩:=Zf4 N a0_ [] [] r1 _ _ _ hF.now hr1
 have hfa:=Zd9 (Fp.get hF1 0 rfl)
 obtain ⟨H2,hs2,hF2⟩:=Fp.deepSeal (k:=0) hF1 rfl
 replace hF2:HP H2 [.arr a 2 false (r1.1.map Z5)]:=by
  have:=hF2.now
  rw [ZnH] at this
  exact this
 refine rgS ⟨[(2,a),(3,bv r1.2)],[],H2⟩ (Z1.v 1 (ZjB (H:=[]) (ys:=[.agg (Z0 a0_),.p (.sl 2 true []),.p (.sl 1 true [])]) (args:=[.agg (Z0 a0_),.p (.sl 2 true []),Zag false []]) kr kr [[],[true],[]] kr hc1)
  (Z1.h (hm:=by cases hfa<;>kernel_rfl) 2 (Zjy (H:=H1) (b:=a) (by cases hfa<;>kernel_rfl) (by cases hfa<;>kernel_rfl) (by cases hfa<;>rfl) hs2) (Z1.f (h:=by cases hfa<;>kernel_rfl)))) (by cases hfa<;>kernel_rfl) ?_
 exact tq (rt (ZeK (H:=H2) (ys:=[a,bv r1.2]) (xs:=[Z2 false r1.1,bv r1.2]) (by cases hfa<;>kernel_rfl) (by cases hfa<;>kernel_rfl) (ZbM (HP.pure (k:=0) (frz:=false) Z5 hF2 rfl).2 (ZbM kr ZcE)) kr))
end Go.Sh

