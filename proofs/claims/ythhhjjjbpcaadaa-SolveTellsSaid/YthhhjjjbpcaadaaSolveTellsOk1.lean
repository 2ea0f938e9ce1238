/- Part of the proof. -/
import Derived.Test.YthhhjjjbpcaadaaSolveTellsSh
import Derived.Test.YthhhjjjbpcaadaaSolveTellsChk
set_option linter.all false
namespace Go.Sh
open Go Go.Eng Go.Proofs
set_option maxRecDepth 100000
set_option maxHeartbeats 4000000
attribute [local irreducible] vc ev ZcU opsD opsF Zf8 upd updH updO
theorem ZeL (N:Nat)(a0_:Zbu)(r:Z6)(h:Zbt N a0_=some r):Zbs Try.prog 8 [.agg (ZaP a0_)] (.agg [Zak false r.Periods,Zaj false r.Uses]):=by
 unfold Zbt at h
 have hH  := hp0
 refine ZaO chk8 rfl rfl (Zaw _ _ _ ?_) rfl
 refine sq (rg Z7.f (tq (sq (rg Z7.f (tq (sq (sq (rg Z7.f (tq (bk ?_))))))))))
 obtain ⟨a5,az,h⟩:=bs h
 refine Zbc ((ZaV (λ(x:Int×(List Int)) s=>∃ (a1:AV) (H2:List HO),s=⟨[(1,.loc 1 0),(2,.loc 2 0),(3,.loc 3 0),(4,iv x.1)],[(1,(ZaP a0_)),(2,[Zak true [],Zaj true []]),(3,[a1,Zaj true []])],H2⟩/\HP H2 [.arr a1 1 false (List.map eI64 x.2)]) (λx:Int×(List Int)=>ZaZ N a0_ x.1 x.2) (λ(p:(List Int)) e s=>e=.exit 0/\(∃ (ak:AV) (ar:List HO),s=⟨[(1,.loc 1 0),(2,.loc 2 0),(3,.loc 3 0)],[(1,(ZaP a0_)),(2,[Zak true [],Zaj true []]),(3,[ak,Zaj true []])],ar⟩/\HP ar [.arr ak 1 false (List.map eI64 p)])) ?_ N _ a5 _ az ⟨(.p (.sl 1 true [])),[],kr,(HP.pick (HP.nilArr hH 1 false) [0] rfl)⟩).mono ?_)
 ·clear h az
  rintro ⟨i3,l4⟩ o s h hR
  obtain ⟨a1,H2,rfl,hH⟩:=hR
  replace hH:HP _ [.arr a1 1 false (List.map eI64 l4)]:=hH
  have hfa1:=ZbH (HP.get hH 0 rfl)
  replace h:ZaZ N a0_ i3 l4=some o:=h
  unfold ZaZ at h
  refine sq (sq (rgX ⟨[(1,.loc 1 0),(2,.loc 2 0),(3,.loc 3 0),(4,iv i3),(17,bv ((decide (i3<((List.length a0_.Periods:Nat):Int)))&&(decide (i3<5))))],[(1,(ZaP a0_)),(2,[Zak true [],Zaj true []]),(3,[a1,Zaj true []])],H2⟩ ?_ ?_))
  ·refine (EP.u 3 (Zaf (ys:=[Zcz false a0_.Periods]) (h:=Zao (eI .u8))) ?_)
   rcases Bool.eq_false_or_eq_true (decide (i3<((List.length a0_.Periods:Nat):Int))) with aD|aC
   ·exact (EP.u 0 (Zad (c:=(decide (i3<((List.length a0_.Periods:Nat):Int)))) (h:=aD)) (EP.f (by simp only [aD];cases hfa1<;>kernel_rfl)))
   exact (EP.u 0 (Zad (c:=(decide (i3<((List.length a0_.Periods:Nat):Int)))) (h:=aC)) (EP.f (by simp only [aC];cases hfa1<;>kernel_rfl)))
  refine tq (it h (λbc h=>?_) (λbc h=>?_))
  ·refine sk (tq (kq (sq (bk ?_))))
   obtain ⟨aV,aB,h⟩:=bs h
   obtain ⟨aU,aA,h⟩:=bs h
   obtain ⟨bf,b9,h⟩:=bs h
   obtain ⟨ay,aW,bd,hH⟩:=HP.app (k:=0) (a:=a1) (sz:=1) (frz:=false) eI64 hH rfl b9
   replace hH:HP _ [.arr ay 1 false (List.map eI64 bf)]:=hH
   have af:=ZbH (HP.get hH 0 rfl)
   refine rqS ⟨[(1,.loc 1 0),(2,.loc 2 0),(3,.loc 3 0),(4,iv i3)],[(1,(ZaP a0_)),(2,[Zak true [],Zaj true []]),(3,[ay,Zaj true []])],aW⟩ (Z7.u (hm:=(by cases hfa1<;>kernel_rfl)) 6 (Zaf (ys:=[Zcz false a0_.Periods,iv i3]) (by cases hfa1<;>kernel_rfl) (Zai (eI .u8) aB)) (Z7.u (hm:=(by cases hfa1<;>kernel_rfl)) 0 (Zbp (Zay (sz:=1) (off:=0) (cs:=[.int .u8 aV]) (r:=.p (.int .u8 aV)) (eI .u8) aB (by cases hfa1<;>kernel_rfl) (by cases hfa1<;>kernel_rfl) (by cases hfa1<;>kernel_rfl)) (by cases hfa1<;>kernel_rfl)) (Z7.u (hm:=(by cases hfa1<;>kernel_rfl)) 1 (Zaf (ys:=[Zak true [4,6,8,12,3,5,10,24],.p (.int .u8 (Int.tmod aV 8))]) (by cases hfa1<;>kernel_rfl) (Zai eI64 aA)) (Z7.u (hm:=(by cases hfa1<;>kernel_rfl)) 0 (Zbp (Zay (sz:=1) (off:=0) (cs:=[.int .i64 aU]) (r:=iv aU) eI64 aA (by cases hfa1<;>kernel_rfl) (by cases hfa1<;>kernel_rfl) (by cases hfa1<;>kernel_rfl)) (by cases hfa1<;>kernel_rfl)) (Z7.h (hm:=(by cases hfa1<;>kernel_rfl)) 1 (ZgE (H:=H2) (a:=a1) (b:=Zak true [aU]) (by cases hfa1<;>kernel_rfl) (by cases hfa1<;>kernel_rfl) (by cases hfa1<;>kernel_rfl) (by cases hfa1<;>kernel_rfl) bd) (Z7.f (h:=(by cases hfa1<;>cases af<;>kernel_rfl)))))))) (by cases hfa1<;>cases af<;>kernel_rfl) (bn (tq (rgS ⟨[(1,.loc 1 0),(2,.loc 2 0),(3,.loc 3 0),(4,iv (w64 (i3+1)))],[(1,(ZaP a0_)),(2,[Zak true [],Zaj true []]),(3,[ay,Zaj true []])],aW⟩ Z7.f (by cases af<;>kernel_rfl) ?_)))
   cases h
   exact ⟨_,rfl,⟨ay,aW,(by show _=_;cases af<;>kernel_rfl),(HP.pick hH [0] rfl)⟩⟩
  refine kq (xq (tx ?_))
  cases h
  exact ⟨_,rfl,rfl,⟨a1,H2,(by show _=_;cases hfa1<;>kernel_rfl),(HP.pick hH [0] rfl)⟩⟩
 rintro e s hq
 obtain ⟨rfl,hR⟩:=hq
 obtain ⟨ak,ar,rfl,hH⟩:=hR
 replace hH:HP _ [.arr ak 1 false (List.map eI64 a5)]:=hH
 have ao:=ZbH (HP.get hH 0 rfl)
 refine bx (tq (sq (sq (rgS ⟨[(1,.loc 1 0),(2,.loc 2 0),(3,.loc 3 0),(5,iv 0)],[(1,(ZaP a0_)),(2,[Zak true [],Zaj true []]),(3,[ak,Zaj true []])],ar⟩ Z7.f (by cases ao<;>kernel_rfl) (tq (bk ?_))))))
 obtain ⟨al,am,h⟩:=bs h
 refine Zbc ((ZaV (λ(x:Int×(List ZaD)) s=>∃ (a3:AV) (aa:AV) (ab:List HO),s=⟨[(1,.loc 1 0),(2,.loc 2 0),(3,.loc 3 0),(5,iv x.1)],[(1,(ZaP a0_)),(2,[Zak true [],Zaj true []]),(3,[a3,aa])],ab⟩/\HP ab [.arr a3 1 false (List.map eI64 a5),.arr aa 4 false (List.map Za8 x.2)]) (λx:Int×(List ZaD)=>ZaY N a0_ a5 x.1 x.2) (λ(p:(List ZaD)) e s=>e=.exit 2/\(∃ (ae:AV) (ad:AV) (ag:List HO),s=⟨[(2,.loc 2 0),(3,.loc 3 0)],[(2,[Zak true [],Zaj true []]),(3,[ae,ad])],ag⟩/\HP ag [.arr ae 1 false (List.map eI64 a5),.arr ad 4 false (List.map Za8 p)])) ?_ N _ al _ am ⟨ak,(.p (.sl 4 true [])),ar,(by show _=_;cases ao<;>kernel_rfl),(HP.pick (HP.nilArr hH 4 false) [1,0] rfl)⟩).mono ?_)
 ·clear h am
  rintro ⟨a6,b0⟩ o s h hR
  obtain ⟨a3,aa,ab,rfl,hH⟩:=hR
  replace hH:HP _ [.arr a3 1 false (List.map eI64 a5),.arr aa 4 false (List.map Za8 b0)]:=hH
  have a0:=ZbH (HP.get hH 0 rfl)
  have a2:=ZbH (HP.get hH 1 rfl)
  replace h:ZaY N a0_ a5 a6 b0=some o:=h
  unfold ZaY at h
  refine sq (sq ?_)
  obtain ⟨b2,hj,h⟩:=bs h
  refine rgR (λs=>s=⟨[(1,.loc 1 0),(2,.loc 2 0),(3,.loc 3 0),(5,iv a6),(48,bv b2)],[(1,(ZaP a0_)),(2,[Zak true [],Zaj true []]),(3,[a3,aa])],ab⟩) ?_ ?_
  ·clear h
   refine (EP.u 3 (Zaf (ys:=[ZfG false a0_.Uses]) (h:=Zao Zej)) ?_)
   rcases ZaJ hj with ⟨aS,hj⟩|⟨aM,hj⟩
   ·refine (EP.u 0 (Zad (c:=(decide (a6<((List.length a0_.Uses:Nat):Int)))) (h:=aS)) ?_)
    rcases ZaJ hj with ⟨aR,hj⟩|⟨aQ,hj⟩
    ·refine (EP.u 2 (Zad (c:=(decide (a6<12))) (h:=aR)) ?_)
     have aw:=HP.len (k:=0) (a:=a3) (sz:=1) (frz:=false) (l:=a5) eI64 hH rfl
     obtain rfl:=Zar hj
     exact (EP.u (hm:=(by cases a0<;>cases a2<;>kernel_rfl)) 4 (Zaf (ys:=[a3]) (by cases a0<;>cases a2<;>kernel_rfl) aw) (EP.f (by show _=_;cases a0<;>cases a2<;>kernel_rfl) (h:=(by cases a0<;>cases a2<;>kernel_rfl))))
    obtain rfl:=Zar hj
    exact (EP.u 2 (Zad (c:=(decide (a6<12))) (h:=aQ)) (EP.f (by show _=_;cases a0<;>cases a2<;>kernel_rfl)))
   obtain rfl:=Zar hj
   exact (EP.u 0 (Zad (c:=(decide (a6<((List.length a0_.Uses:Nat):Int)))) (h:=aM)) (EP.f (by show _=_;cases a0<;>cases a2<;>kernel_rfl)))
  clear hj
  rintro s hR
  obtain rfl:=hR
  refine tq (it h (λaL h=>?_) (λaL h=>?_))
  ·refine sk (tq (kq (sq (bk (sq ?_)))))
   obtain ⟨a4,aq,h⟩:=bs h
   refine rgS ⟨[(1,.loc 1 0),(2,.loc 2 0),(3,.loc 3 0),(5,iv a6),(6,.loc 6 0)],[(1,(ZaP a0_)),(2,[Zak true [],Zaj true []]),(3,[a3,aa]),(6,(Zgd a4))],ab⟩ (Z7.u 3 (Zaf (ys:=[ZfG false a0_.Uses,iv a6]) (h:=Zai Zej aq)) (Z7.u 0 (Zay (sz:=4) (off:=0) (cs:=[.int .u8 a4.x0,.int .u8 a4.x1,.int .u8 a4.x2,.int .u8 a4.x3]) (r:=.agg (Zgd a4)) Zej aq) Z7.f)) (by cases a0<;>cases a2<;>kernel_rfl) (tq (sq ?_))
   have av:=HP.len (k:=0) (a:=a3) (sz:=1) (frz:=false) (l:=a5) eI64 hH rfl
   obtain ⟨ai,aJ,h⟩:=bs h
   refine rgS ⟨[(1,.loc 1 0),(2,.loc 2 0),(3,.loc 3 0),(5,iv a6),(6,.loc 6 0),(7,iv ai)],[(1,(ZaP a0_)),(2,[Zak true [],Zaj true []]),(3,[a3,aa]),(6,(Zgd a4))],ab⟩ (Z7.u (hm:=(by cases a0<;>cases a2<;>kernel_rfl)) 5 (Zaf (ys:=[a3]) (by cases a0<;>cases a2<;>kernel_rfl) av) (Z7.u (hm:=(by cases a0<;>cases a2<;>kernel_rfl)) 0 (Zaf (ys:=[iv (w64 (a4.x0)),iv ((List.length a5:Nat):Int)]) (by cases a0<;>cases a2<;>kernel_rfl) (ZbK aJ)) (Z7.f (h:=(by cases a0<;>cases a2<;>kernel_rfl))))) (by cases a0<;>cases a2<;>kernel_rfl) (tq (sq ?_))
   obtain ⟨ac,ap,h⟩:=bs h
   obtain ⟨bi,be,_,ba,ax,bb,an⟩:=HP.elem (k:=0) (a:=a3) (sz:=1) (frz:=false) eI64 hH rfl ap
   refine rgS ⟨[(1,.loc 1 0),(2,.loc 2 0),(3,.loc 3 0),(5,iv a6),(6,.loc 6 0),(7,iv ai),(8,iv ac)],[(1,(ZaP a0_)),(2,[Zak true [],Zaj true []]),(3,[a3,aa]),(6,(Zgd a4))],ab⟩ (Z7.u (hm:=(by cases a0<;>cases a2<;>kernel_rfl)) 3 (Zaf (ys:=[a3,iv ai]) (by cases a0<;>cases a2<;>kernel_rfl) (an .i64)) (Z7.u (hm:=(by cases a0<;>cases a2<;>kernel_rfl)) 0 (ZfX (H:=ab) (off:=0) (cs:=[.int .i64 ac]) (r:=iv ac) eI64 ap ax (by cases a0<;>cases a2<;>kernel_rfl) (by cases a0<;>cases a2<;>kernel_rfl) (by cases a0<;>cases a2<;>kernel_rfl) (by cases a0<;>cases a2<;>kernel_rfl)) (Z7.f (h:=(by cases a0<;>cases a2<;>kernel_rfl))))) (by cases a0<;>cases a2<;>kernel_rfl) (tq ?_)
   obtain ⟨aZ,aI,h⟩:=bs h
   obtain ⟨aY,aG,h⟩:=bs h
   obtain ⟨aX,aE,h⟩:=bs h
   obtain ⟨b1,aK,h⟩:=bs h
   obtain ⟨aj,au,aT,hH⟩:=HP.app (k:=1) (a:=aa) (sz:=4) (frz:=false) Za8 hH rfl aK
   replace hH:HP _ [.arr a3 1 false (List.map eI64 a5),.arr aj 4 false (List.map Za8 b1)]:=hH
   have a7:=ZbH (HP.get hH 1 rfl)
   refine rqS ⟨[(1,.loc 1 0),(2,.loc 2 0),(3,.loc 3 0),(5,iv a6)],[(1,(ZaP a0_)),(2,[Zak true [],Zaj true []]),(3,[a3,aj])],au⟩ (Z7.u (hm:=(by cases a0<;>cases a2<;>kernel_rfl)) 11 (Zaf (ys:=[iv (w64 (a4.x2)),iv ac]) (by cases a0<;>cases a2<;>kernel_rfl) (ZbK aI)) (Z7.u (hm:=(by cases a0<;>cases a2<;>kernel_rfl)) 4 (Zaf (ys:=[iv (w64 (a4.x3)),iv ac]) (by cases a0<;>cases a2<;>kernel_rfl) (ZbK aG)) (Z7.u (hm:=(by cases a0<;>cases a2<;>kernel_rfl)) 2 (Zaf (ys:=[iv (Int.tmod aY 4),iv ac]) (by cases a0<;>cases a2<;>kernel_rfl) (ZbK aE)) (Z7.h (hm:=(by cases a0<;>cases a2<;>kernel_rfl)) 3 (ZgE (H:=ab) (a:=aa) (b:=Zaj true [(ZaD.mk ai (w64 ((Int.tmod a4.x1 4))) aZ (w64 (1+aX)))]) (by cases a0<;>cases a2<;>kernel_rfl) (by cases a0<;>cases a2<;>kernel_rfl) (by cases a0<;>cases a2<;>kernel_rfl) (by cases a0<;>cases a2<;>kernel_rfl) aT) (Z7.f (h:=(by cases a7<;>cases a0<;>cases a2<;>kernel_rfl))))))) (by cases a7<;>cases a0<;>cases a2<;>kernel_rfl) (bn (tq (rgS ⟨[(1,.loc 1 0),(2,.loc 2 0),(3,.loc 3 0),(5,iv (w64 (a6+1)))],[(1,(ZaP a0_)),(2,[Zak true [],Zaj true []]),(3,[a3,aj])],au⟩ Z7.f (by cases a7<;>cases a0<;>kernel_rfl) ?_)))
   cases h
   exact ⟨_,rfl,⟨a3,aj,au,(by show _=_;cases a7<;>cases a0<;>kernel_rfl),(HP.pick hH [0,1] rfl)⟩⟩
  refine kq (xq (tx ?_))
  cases h
  exact ⟨_,rfl,rfl,⟨a3,aa,ab,(by show _=_;cases a0<;>cases a2<;>kernel_rfl),(HP.pick hH [0,1] rfl)⟩⟩
 rintro e s hq
 obtain ⟨rfl,hR⟩:=hq
 obtain ⟨ae,ad,ag,rfl,hH⟩:=hR
 replace hH:HP _ [.arr ae 1 false (List.map eI64 a5),.arr ad 4 false (List.map Za8 al)]:=hH
 have a9:=ZbH (HP.get hH 0 rfl)
 have a8:=ZbH (HP.get hH 1 rfl)
 refine bx (tq (sq (rgS ⟨[(2,.loc 2 0)],[(2,[ae,ad])],ag⟩ (Z7.f (h:=(by cases a9<;>cases a8<;>kernel_rfl))) (by cases a9<;>cases a8<;>kernel_rfl) (tq (rt ?_)))))
 obtain rfl:=Zar h
 exact ZjC (H:=ag) (ys:=[.agg [ae,ad]]) (xs:=[.agg [.p (.sl 1 false (List.map eI64 a5)),.p (.sl 4 false (List.map Za8 al))]]) (by cases a9<;>cases a8<;>kernel_rfl) (by cases a9<;>cases a8<;>kernel_rfl) (Zet (Znz (ZiS (HP.pure (k:=0) (frz:=false) eI64 hH rfl).1 (ZiS (HP.pure (k:=1) (frz:=false) Za8 hH rfl).1 ZnA))) Zfe) kr
theorem Zec (N:Nat)(a0_:(List Int))(a1_:(List Int))(r:Bool)(h:Zb6 N a0_ a1_=some r):Zbs Try.prog 11 [Zak false a0_,Zak false a1_] (bv r):=by
 unfold Zb6 at h
 have hH  := hp0
 refine ZaO Zw0 rfl rfl (Zaw _ _ _ ?_) rfl
 refine sq (rg Z7.f (tq (sq (sq (rg (Z7.u 1 (Zaf (ys:=[Zak false a0_]) (h:=Zao eI64)) (Z7.u 1 (Zaf (ys:=[Zak false a1_]) (h:=Zao eI64)) Z7.f)) (tq (it h (λhc1 h=>?_) (λhc1 h=>?_))))))))
 ·refine sq (rg Z7.f (tq (rt (tr ?_))))
  cases h
  exact ZaF kr
 refine sk (tq (kq (sq (sq (rg (Z7.u 1 (Zaf (ys:=[Zak false a0_]) (h:=Zao eI64)) Z7.f) (tq (bk ?_)))))))
 obtain ⟨a3,a0,h⟩:=bs h
 refine Zbc ((ZaV (λ(x:Int) s=>s=⟨[(0,Zak false a0_),(1,Zak false a1_),(12,iv ((List.length a0_:Nat):Int)),(13,iv x)],[],[]⟩) (λx:Int=>Zbk N a0_ a1_ x) (λ(p:(Unit)⊕(Bool)) e s=>match p with|(.inl p)=>e=.exit 0/\(s=⟨[],[],[]⟩)|(.inr p)=>e=.ret/\∃ xs,resL s i11.res=some xs/\ZbL xs=bv p) ?_ N _ a3 _ a0 kr).mono ?_)
 ·clear h a0
  rintro i2 o s h hR
  obtain rfl:=hR
  replace h:Zbk N a0_ a1_ i2=some o:=h
  unfold Zbk at h
  refine sq (rg Z7.f (tq (sq (it h (λa5 h=>?_) (λa5 h=>?_)))))
  ·refine sk (tq (kq (sq (bk (sq (rg Z7.f (tq (sq ?_))))))))
   obtain ⟨a7,a2,h⟩:=bs h
   obtain ⟨a6,a1,h⟩:=bs h
   refine rq (Z7.u 2 (Zaf (ys:=[Zak false a0_,iv i2]) (h:=Zai eI64 a2)) (Z7.u 0 (Zbp (Zay (sz:=1) (off:=0) (cs:=[.int .i64 a7]) (r:=iv a7) eI64 a2)) (Z7.u 2 (Zaf (ys:=[Zak false a1_,iv i2]) (h:=Zai eI64 a1)) (Z7.u 0 (Zbp (Zay (sz:=1) (off:=0) (cs:=[.int .i64 a6]) (r:=iv a6) eI64 a1)) Z7.f)))) (tq (it h (λa4 h=>?_) (λa4 h=>?_)))
   ·refine sq (rg Z7.f (tq (rt (br (tr ?_)))))
    cases h
    exact ⟨_,rfl,rfl,ZaF kr⟩
   refine sk (bn (tq (kq (rg Z7.f ?_))))
   cases h
   exact ⟨_,rfl,kr⟩
  refine kq (xq (tx ?_))
  cases h
  exact ⟨_,rfl,rfl,kr⟩
 rintro e s hq
 rcases a3 with a9|a8
 ·dsimp only at h hq
  obtain ⟨rfl,hR⟩:=hq
  obtain rfl:=hR
  refine bx (tq (sq (rg Z7.f (tq (rt ?_)))))
  cases h
  exact ZaF kr
 dsimp only at h hq
 obtain ⟨rfl,hq⟩:=hq
 refine br (tr ?_)
 cases h
 exact hq
theorem Zf2 (N:Nat)(a0_:(List Z8))(a1_:(List Z8))(r:Bool)(h:Zgo N a0_ a1_=some r):Zbs Try.prog 12 [Z9 false a0_,Z9 false a1_] (bv r):=by
 unfold Zgo at h
 have hH  := hp0
 refine ZaO ZwZ rfl rfl (Zaw _ _ _ ?_) rfl
 refine sq (rg Z7.f (tq (sq (sq (rg (Z7.u 1 (Zaf (ys:=[Z9 false a0_]) (h:=Zao Zal)) (Z7.u 1 (Zaf (ys:=[Z9 false a1_]) (h:=Zao Zal)) Z7.f)) (tq (it h (λhc1 h=>?_) (λhc1 h=>?_))))))))
 ·refine sq (rg Z7.f (tq (rt (tr ?_))))
  cases h
  exact ZaF kr
 refine sk (tq (kq (sq (sq (rg Z7.f (tq (bk ?_)))))))
 obtain ⟨ae,a2,h⟩:=bs h
 refine Zbc ((ZaV (λ(x:Int) s=>s=⟨[(0,Z9 false a0_),(1,Z9 false a1_),(5,iv x)],[],[]⟩) (λx:Int=>Zdu N a0_ a1_ x) (λ(p:(Unit)⊕(Bool)) e s=>match p with|(.inl p)=>e=.exit 0/\(s=⟨[],[],[]⟩)|(.inr p)=>e=.ret/\∃ xs,resL s i12.res=some xs/\ZbL xs=bv p) ?_ N _ ae _ a2 kr).mono ?_)
 ·clear h a2
  rintro i2 o s h hR
  obtain rfl:=hR
  replace h:Zdu N a0_ a1_ i2=some o:=h
  unfold Zdu at h
  refine sq (sq (rg (Z7.u 2 (Zaf (ys:=[Z9 false a0_]) (h:=Zao Zal)) Z7.f) (tq (it h (λav h=>?_) (λav h=>?_)))))
  ·refine sk (tq (kq (sq (bk (sq (sq ?_))))))
   obtain ⟨aw,hj,h⟩:=bs h
   refine rqR (λs=>s=⟨[(0,Z9 false a0_),(1,Z9 false a1_),(5,iv i2),(43,bv aw)],[],[]⟩) ?_ ?_
   ·clear h
    obtain ⟨ad,ak,hj⟩:=bs hj
    refine (EP.u 2 (Zaf (ys:=[Z9 false a0_,iv i2]) (h:=Zai Zal ak)) (EP.u 1 (Zbp (Zay (sz:=2) (off:=0) (cs:=[.int .i64 ad.Stream]) (r:=iv ad.Stream) Zal ak)) ?_))
    obtain ⟨ac,aj,hj⟩:=bs hj
    refine (EP.u 2 (Zaf (ys:=[Z9 false a1_,iv i2]) (h:=Zai Zal aj)) (EP.u 1 (Zbp (Zay (sz:=2) (off:=0) (cs:=[.int .i64 ac.Stream]) (r:=iv ac.Stream) Zal aj)) ?_))
    rcases ZaJ hj with ⟨au,hj⟩|⟨ar,hj⟩
    ·obtain rfl:=Zar hj
     exact (EP.u 0 (Zad (c:=(ad.Stream != ac.Stream)) (h:=au)) (EP.f kr))
    refine (EP.u 0 (Zad (c:=(ad.Stream != ac.Stream)) (h:=ar)) ?_)
    obtain ⟨ap,ai,hj⟩:=bs hj
    refine (EP.u 3 (Zaf (ys:=[Z9 false a0_,iv i2]) (h:=Zai Zal ai)) (EP.u 1 (Zbp (Zay (sz:=2) (off:=1) (cs:=[.sl 4 false (List.map ZaB ap.Arms)]) (r:=Zau false ap.Arms) Zal ai)) (EP.u 0 (Zaf (ys:=[Zau false ap.Arms]) (h:=Zao ZaB)) ?_)))
    obtain ⟨ao,ag,hj⟩:=bs hj
    obtain rfl:=Zar hj
    exact (EP.u 2 (Zaf (ys:=[Z9 false a1_,iv i2]) (h:=Zai Zal ag)) (EP.u 1 (Zbp (Zay (sz:=2) (off:=1) (cs:=[.sl 4 false (List.map ZaB ao.Arms)]) (r:=Zau false ao.Arms) Zal ag)) (EP.u 0 (Zaf (ys:=[Zau false ao.Arms]) (h:=Zao ZaB)) (EP.f kr))))
   clear hj
   rintro s hR
   obtain rfl:=hR
   refine tq (it h (λaq h=>?_) (λaq h=>?_))
   ·refine sq (rg Z7.f (tq (rt (tr (br (tr ?_))))))
    cases h
    exact ⟨_,rfl,rfl,ZaF kr⟩
   refine sk (tq (kq (sq (rg Z7.f (tq (bk ?_))))))
   obtain ⟨af,a3,h⟩:=bs h
   refine Zbc ((ZaV (λ(x:Int) s=>s=⟨[(0,Z9 false a0_),(1,Z9 false a1_),(5,iv i2),(6,iv x)],[],[]⟩) (λx:Int=>Zdt N a0_ a1_ i2 x) (λ(p:(Unit)⊕(Bool)) e s=>match p with|(.inl p)=>e=.exit 2/\(s=⟨[(0,Z9 false a0_),(1,Z9 false a1_),(5,iv i2)],[],[]⟩)|(.inr p)=>e=.ret/\∃ xs,resL s i12.res=some xs/\ZbL xs=bv p) ?_ N _ af _ a3 kr).mono ?_)
   ·clear h a3
    rintro al o s h hR
    obtain rfl:=hR
    replace h:Zdt N a0_ a1_ i2 al=some o:=h
    unfold Zdt at h
    refine sq (sq ?_)
    obtain ⟨ab,a8,h⟩:=bs h
    refine rg (Z7.u 3 (Zaf (ys:=[Z9 false a0_,iv i2]) (h:=Zai Zal a8)) (Z7.u 1 (Zay (sz:=2) (off:=1) (cs:=[.sl 4 false (List.map ZaB ab.Arms)]) (r:=Zau false ab.Arms) Zal a8) (Z7.u 0 (Zaf (ys:=[Zau false ab.Arms]) (h:=Zao ZaB)) Z7.f))) (tq (it h (λan h=>?_) (λan h=>?_)))
    ·refine sk (tq (kq (sq (bk (sq ?_)))))
     obtain ⟨aa,a7,h⟩:=bs h
     obtain ⟨a1,a6,h⟩:=bs h
     obtain ⟨a9,a5,h⟩:=bs h
     obtain ⟨a0,a4,h⟩:=bs h
     refine rq (Z7.u 2 (Zaf (ys:=[Z9 false a0_,iv i2]) (h:=Zai Zal a7)) (Z7.u 1 (Zbp (Zay (sz:=2) (off:=1) (cs:=[.sl 4 false (List.map ZaB aa.Arms)]) (r:=Zau false aa.Arms) Zal a7)) (Z7.u 1 (Zaf (ys:=[Zau false aa.Arms,iv al]) (h:=Zai ZaB a6)) (Z7.u 0 (Zbp (Zay (sz:=4) (off:=0) (cs:=[.int .i64 a1.From,.int .i64 a1.To,.int .i64 a1.By,.int .i64 a1.Next]) (r:=.agg (ZaQ a1)) ZaB a6)) (Z7.u 2 (Zaf (ys:=[Z9 false a1_,iv i2]) (h:=Zai Zal a5)) (Z7.u 1 (Zbp (Zay (sz:=2) (off:=1) (cs:=[.sl 4 false (List.map ZaB a9.Arms)]) (r:=Zau false a9.Arms) Zal a5)) (Z7.u 1 (Zaf (ys:=[Zau false a9.Arms,iv al]) (h:=Zai ZaB a4)) (Z7.u 0 (Zbp (Zay (sz:=4) (off:=0) (cs:=[.int .i64 a0.From,.int .i64 a0.To,.int .i64 a0.By,.int .i64 a0.Next]) (r:=.agg (ZaQ a0)) ZaB a4)) Z7.f)))))))) (tq (it h (λam h=>?_) (λam h=>?_)))
     ·refine sq (rg Z7.f (tq (rt (br (tr ?_)))))
      cases h
      exact ⟨_,rfl,rfl,ZaF kr⟩
     refine sk (bn (tq (kq (rg Z7.f ?_))))
     cases h
     exact ⟨_,rfl,kr⟩
    refine kq (xq (tx ?_))
    cases h
    exact ⟨_,rfl,rfl,kr⟩
   rintro e s hq
   rcases af with aA|az
   ·dsimp only at h hq
    obtain ⟨rfl,hR⟩:=hq
    obtain rfl:=hR
    refine bx (bn (tq (kq (rg Z7.f ?_))))
    cases h
    exact ⟨_,rfl,kr⟩
   dsimp only at h hq
   obtain ⟨rfl,hq⟩:=hq
   refine br (br (tr ?_))
   cases h
   exact ⟨_,rfl,rfl,hq⟩
  refine kq (xq (tx ?_))
  cases h
  exact ⟨_,rfl,rfl,kr⟩
 rintro e s hq
 rcases ae with ay|ax
 ·dsimp only at h hq
  obtain ⟨rfl,hR⟩:=hq
  obtain rfl:=hR
  refine bx (tq (sq (rg Z7.f (tq (rt ?_)))))
  cases h
  exact ZaF kr
 dsimp only at h hq
 obtain ⟨rfl,hq⟩:=hq
 refine br (tr ?_)
 cases h
 exact hq
theorem ZfB (N:Nat)(a0_:Int)(a1_:Int)(a2_:Int)(r:Z6)(h:Zev N a0_ a1_ a2_=some r):Zbs Try.prog 16 [iv a0_,iv a1_,iv a2_] (.agg [Zak false r.Periods,Zaj false r.Uses]):=by
 unfold Zev at h
 have hH  := hp0
 refine ZaO ZwV rfl rfl (Zaw _ _ _ ?_) rfl
 refine sq (rg Z7.f (tq (sq (rg Z7.f (tq (rt ?_))))))
 cases h
 exact ZaF kr
theorem ZjD (N:Nat)(a0_:Z6)(a1_:(List Int))(r:(List Int))(h:Zed N a0_ a1_=some r):Zbs Try.prog 17 [.agg (Z5 a0_),Zcz false a1_] (Zak false r):=by
 unfold Zed at h
 have hH  := hp0
 refine ZaO ZwU rfl rfl (Zaw _ _ _ ?_) rfl
 refine sq (rg Z7.f (tq (sq (rg Z7.f (tq (sq (sq (rg Z7.f (tq (bk ?_))))))))))
 obtain ⟨a5,a6,h⟩:=bs h
 refine Zbc ((ZaV (λ(x:Int×(List Int)) s=>∃ (a1:AV) (H2:List HO),s=⟨[(1,Zcz false a1_),(2,.loc 2 0),(5,a1),(6,iv x.1)],[(2,(Z5 a0_))],H2⟩/\HP H2 [.arr a1 1 false (List.map eI64 x.2)]) (λx:Int×(List Int)=>Zce N a0_ a1_ x.1 x.2) (λ(p:(List Int)) e s=>e=.exit 0/\(∃ (a4:AV) (ac:List HO),s=⟨[(5,a4)],[],ac⟩/\HP ac [.arr a4 1 false (List.map eI64 p)])) ?_ N _ a5 _ a6 ⟨(.p (.sl 1 true [])),[],kr,(HP.pick (HP.nilArr hH 1 false) [0] rfl)⟩).mono ?_)
 ·clear h a6
  rintro ⟨i3,l4⟩ o s h hR
  obtain ⟨a1,H2,rfl,hH⟩:=hR
  replace hH:HP _ [.arr a1 1 false (List.map eI64 l4)]:=hH
  have hfa1:=ZbH (HP.get hH 0 rfl)
  replace h:Zce N a0_ a1_ i3 l4=some o:=h
  unfold Zce at h
  refine sq (sq (rgS ⟨[(1,Zcz false a1_),(2,.loc 2 0),(5,a1),(6,iv i3),(12,bv (decide (i3<((List.length a0_.Periods:Nat):Int))))],[(2,(Z5 a0_))],H2⟩ (Z7.u 3 (Zaf (ys:=[Zak false a0_.Periods]) (h:=Zao eI64)) Z7.f) (by cases hfa1<;>kernel_rfl) (tq (it h (λam h=>?_) (λam h=>?_)))))
  ·refine sk (tq (kq (sq (bk (sq (rgS ⟨[(1,Zcz false a1_),(2,.loc 2 0),(5,a1),(6,iv i3),(7,iv 0)],[(2,(Z5 a0_))],H2⟩ Z7.f (by cases hfa1<;>kernel_rfl) (tq ?_)))))))
   obtain ⟨ae,a7,h⟩:=bs h
   refine Zen [1,2,5,6,7] (λs=>s=⟨[(1,Zcz false a1_),(2,.loc 2 0),(5,a1),(6,iv i3),(7,iv ae)],[(2,(Z5 a0_))],H2⟩) ?_ ?_
   ·clear h
    have h:=a7
    refine sq (rgS ⟨[(1,Zcz false a1_),(2,.loc 2 0),(5,a1),(6,iv i3),(7,iv 0),(18,bv (decide (i3<((List.length a1_:Nat):Int))))],[(2,(Z5 a0_))],H2⟩ (Z7.u 2 (Zaf (ys:=[Zcz false a1_]) (h:=Zao (eI .u8))) Z7.f) (by cases hfa1<;>kernel_rfl) (tq (it h (λai h=>?_) (λai h=>?_))))
    ·obtain ⟨ab,a9,h⟩:=bs h
     obtain ⟨aa,a8,h⟩:=bs h
     obtain ⟨ak,af,h⟩:=bs h
     refine rqS ⟨[(1,Zcz false a1_),(2,.loc 2 0),(5,a1),(6,iv i3),(7,iv ak)],[(2,(Z5 a0_))],H2⟩ (Z7.u 2 (Zaf (ys:=[Zcz false a1_,iv i3]) (h:=Zai (eI .u8) a9)) (Z7.u 0 (Zbp (Zay (sz:=1) (off:=0) (cs:=[.int .u8 ab]) (r:=.p (.int .u8 ab)) (eI .u8) a9)) (Z7.u 4 (Zaf (ys:=[Zak false a0_.Periods,iv i3]) (h:=Zai eI64 a8)) (Z7.u 0 (Zbp (Zay (sz:=1) (off:=0) (cs:=[.int .i64 aa]) (r:=iv aa) eI64 a8)) (Z7.u 0 (Zaf (ys:=[iv (w64 (ab)),iv aa]) (h:=ZbK af)) Z7.f))))) (by cases hfa1<;>kernel_rfl) ?_
     cases h
     exact ⟨rfl,(by show _=_;cases hfa1<;>kernel_rfl)⟩
    refine sk ?_
    cases h
    exact ⟨rfl,(by show _=_;cases hfa1<;>kernel_rfl)⟩
   clear a7
   rintro s hR
   obtain rfl:=hR
   obtain ⟨al,ag,h⟩:=bs h
   obtain ⟨a3,ad,aj,hH⟩:=HP.app (k:=0) (a:=a1) (sz:=1) (frz:=false) eI64 hH rfl ag
   replace hH:HP _ [.arr a3 1 false (List.map eI64 al)]:=hH
   have a0:=ZbH (HP.get hH 0 rfl)
   refine rgS ⟨[(1,Zcz false a1_),(2,.loc 2 0),(5,a3),(6,iv i3)],[(2,(Z5 a0_))],ad⟩ (Z7.h 3 (ZgE (H:=H2) (a:=a1) (b:=Zak true [ae]) (by cases hfa1<;>kernel_rfl) (by cases hfa1<;>kernel_rfl) (by cases hfa1<;>kernel_rfl) (by cases hfa1<;>kernel_rfl) aj) Z7.f) (by cases hfa1<;>cases a0<;>kernel_rfl) (bn (tq (kq (rgS ⟨[(1,Zcz false a1_),(2,.loc 2 0),(5,a3),(6,iv (w64 (i3+1)))],[(2,(Z5 a0_))],ad⟩ Z7.f (by cases a0<;>kernel_rfl) ?_))))
   cases h
   exact ⟨_,rfl,⟨a3,ad,(by show _=_;cases a0<;>kernel_rfl),(HP.pick hH [0] rfl)⟩⟩
  refine kq (xq (tx ?_))
  cases h
  exact ⟨_,rfl,rfl,⟨a1,H2,(by show _=_;cases hfa1<;>kernel_rfl),(HP.pick hH [0] rfl)⟩⟩
 rintro e s hq
 obtain ⟨rfl,hR⟩:=hq
 obtain ⟨a4,ac,rfl,hH⟩:=hR
 replace hH:HP _ [.arr a4 1 false (List.map eI64 a5)]:=hH
 have a2:=ZbH (HP.get hH 0 rfl)
 refine bx (tq (sq (rgS ⟨[(4,a4)],[],ac⟩ Z7.f (by cases a2<;>kernel_rfl) (tq (rt ?_)))))
 obtain rfl:=Zar h
 exact ZjC (H:=ac) (ys:=[a4]) (xs:=[.p (.sl 1 false (List.map eI64 a5))]) (by cases a2<;>kernel_rfl) (by cases a2<;>kernel_rfl) (Zet (HP.pure (k:=0) (frz:=false) eI64 hH rfl).2 Zfe) kr
theorem Zd6 (N:Nat)(a0_:Z6)(a1_:Int)(a2_:Int)(r:Bool)(h:ZcA N a0_ a1_ a2_=some r):Zbs Try.prog 26 [.agg (Z5 a0_),iv a1_,iv a2_] (bv r):=by
 unfold ZcA at h
 have hH  := hp0
 refine ZaO ZwP rfl rfl (Zaw _ _ _ ?_) rfl
 refine sq (rg Z7.f (tq (sq ?_)))
 obtain ⟨j4,hj,h⟩:=bs h
 refine rgR (λs=>s=⟨[(6,bv j4)],[],[]⟩) ?_ ?_
 ·clear h
  rcases ZaJ hj with ⟨hc1,hj⟩|⟨hc3,hj⟩
  ·refine (EP.u 1 (Zad (c:=(decide (a2_≥0))) (h:=hc1)) ?_)
   obtain ⟨e2,he2,hj⟩:=bs hj
   obtain rfl:=Zar hj
   exact (EP.u 5 (Zaf (ys:=[Zak false a0_.Periods,iv a1_]) (h:=Zai eI64 he2)) (EP.u 0 (Zay (sz:=1) (off:=0) (cs:=[.int .i64 e2]) (r:=iv e2) eI64 he2) (EP.f kr)))
  obtain rfl:=Zar hj
  exact (EP.u 1 (Zad (c:=(decide (a2_≥0))) (h:=hc3)) (EP.f kr))
 clear hj
 rintro s hR
 obtain rfl:=hR
 refine tq (rt ?_)
 cases h
 exact ZaF kr
theorem ZjG (N:Nat)(a0_:Z6)(a1_:Int)(a2_:Int)(H:List HO)(r:Z6×Int×Int)(h:Zff N a0_ a1_ a2_=some r):∃ (id0_ id1_ id2_:Nat) (H':List HO),ZbQ Try.prog 36 [.agg (Z5 a0_),iv a1_,iv a2_] H (.fn 47 [] [.ptr id0_ 0,.ptr id1_ 0,.ptr id2_ 0]) H'/\Fp H H' [] [.cel id0_ [Zak false r.1.Periods,Zaj false r.1.Uses],.cel id1_ [iv r.2.1],.cel id2_ [iv r.2.2]]:=by
 suffices hs:∃ r' H',ZbQ Try.prog 36 [.agg (Z5 a0_),iv a1_,iv a2_] H r' H'/\∃ (id0_ id1_ id2_:Nat),r'=.fn 47 [] [.ptr id0_ 0,.ptr id1_ 0,.ptr id2_ 0]/\Fp H H' [] [.cel id0_ [Zak false r.1.Periods,Zaj false r.1.Uses],.cel id1_ [iv r.2.1],.cel id2_ [iv r.2.2]] by
  obtain ⟨_,H',h1,id0_,id1_,id2_,rfl,h2⟩:=hs
  exact ⟨id0_,id1_,id2_,H',h1,h2⟩
 unfold Zff at h
 have hH:Fp H H [] []:=Fp.refl trivial
 refine Zjc ZwI (λr' H'=>∃ (id0_ id1_ id2_:Nat),r'=.fn 47 [] [.ptr id0_ 0,.ptr id1_ 0,.ptr id2_ 0]/\Fp H H' [] [.cel id0_ [Zak false r.1.Periods,Zaj false r.1.Uses],.cel id1_ [iv r.2.1],.cel id2_ [iv r.2.2]]) (λr' H' ⟨_,_,_,e,_⟩=>by rw [e];rfl) rfl rfl (sq ?_)
 obtain ⟨id1,H2,hid1,hH2,hH⟩:=Fp.newCell hH (Z5 a0_)
 replace hH:Fp _ _ _ [.cel id1 (Z5 a0_)]:=hH
 obtain ⟨id3,H4,hid3,hH4,hH⟩:=Fp.newCell hH [iv a1_]
 replace hH:Fp _ _ _ [.cel id3 [iv a1_],.cel id1 (Z5 a0_)]:=hH
 obtain ⟨id5,H6,hid5,hH6,hH⟩:=Fp.newCell hH [iv a2_]
 replace hH:Fp _ _ _ [.cel id5 [iv a2_],.cel id3 [iv a1_],.cel id1 (Z5 a0_)]:=hH
 refine rg (Z7.h 0 (ZeQ (H:=H) (v:=.agg (Z5 a0_)) (hid:=hid1) (hH:=hH2)) (Z7.h 0 (ZeQ (H:=H2) (v:=iv a1_) (hid:=hid3) (hH:=hH4)) (Z7.h 0 (ZeQ (H:=H4) (v:=iv a2_) (hid:=hid5) (hH:=hH6)) Z7.f))) (tq (sq (rg Z7.f (tq (rt ?_)))))
 cases h
 exact ⟨[.fn 47 [] [.ptr id1 0,.ptr id3 0,.ptr id5 0]],kr,id1,id3,id5,rfl,Fp.pk hH [2,1,0] rfl⟩
theorem ZeE (N:Nat)(a0_:Z6)(a1_:ZaD)(a2_:Int)(r:Zae)(h:Zcf N a0_ a1_ a2_=some r):Zbs Try.prog 38 [.agg (Z5 a0_),.agg (ZaN a1_),iv a2_] (.agg [iv r.Period,iv r.From,iv r.Long]):=by
 unfold Zcf at h
 have hH  := hp0
 refine ZaO ZwG rfl rfl (Zaw _ _ _ ?_) rfl
 refine sq (rg Z7.f (tq (sq ?_)))
 obtain ⟨e1,he1,h⟩:=bs h
 refine rg (Z7.u 4 (Zaf (ys:=[Zak false a0_.Periods,iv a1_.Stream]) (h:=Zai eI64 he1)) (Z7.u 0 (Zay (sz:=1) (off:=0) (cs:=[.int .i64 e1]) (r:=iv e1) eI64 he1) Z7.f)) (tq (sq ?_))
 obtain ⟨m2,hm2,h⟩:=bs h
 refine rq (Z7.u 6 (Zaf (ys:=[iv (w64 (a1_.From+a2_)),iv e1]) (h:=ZbK hm2)) Z7.f) (tq (rt ?_))
 cases h
 exact ZaF kr
theorem Zf4 (N:Nat)(a0_:Z6)(H:List HO)(r:Z6×(List (Zah×Bool)))(h:ZcO N a0_=some r):∃ (id0_ id1_ m1_:Nat) (H':List HO),ZbQ Try.prog 41 [.agg (Z5 a0_)] H (.fn 51 [] [.ptr id0_ 0,.ptr id1_ 0]) H'/\Fp H H' [] [.cel id0_ [Zak false r.1.Periods,Zaj false r.1.Uses],.cel id1_ [.map m1_],mpT m1_ 3 (encE Zaa bv r.2)]:=by
 suffices hs:∃ r' H',ZbQ Try.prog 41 [.agg (Z5 a0_)] H r' H'/\∃ (id0_ id1_ m1_:Nat),r'=.fn 51 [] [.ptr id0_ 0,.ptr id1_ 0]/\Fp H H' [] [.cel id0_ [Zak false r.1.Periods,Zaj false r.1.Uses],.cel id1_ [.map m1_],mpT m1_ 3 (encE Zaa bv r.2)] by
  obtain ⟨_,H',h1,id0_,id1_,m1_,rfl,h2⟩:=hs
  exact ⟨id0_,id1_,m1_,H',h1,h2⟩
 unfold ZcO at h
 have hH:Fp H H [] []:=Fp.refl trivial
 refine Zjc ZwE (λr' H'=>∃ (id0_ id1_ m1_:Nat),r'=.fn 51 [] [.ptr id0_ 0,.ptr id1_ 0]/\Fp H H' [] [.cel id0_ [Zak false r.1.Periods,Zaj false r.1.Uses],.cel id1_ [.map m1_],mpT m1_ 3 (encE Zaa bv r.2)]) (λr' H' ⟨_,_,_,e,_⟩=>by rw [e];rfl) rfl rfl (sq ?_)
 obtain ⟨id1,H2,hid1,hH2,hH⟩:=Fp.newCell hH (Z5 a0_)
 replace hH:Fp _ _ _ [.cel id1 (Z5 a0_)]:=hH
 refine rg (Z7.h 0 (ZeQ (H:=H) (v:=.agg (Z5 a0_)) (hid:=hid1) (hH:=hH2)) Z7.f) (tq (sq ?_))
 obtain ⟨id3,H4,hid3,hH4,hH⟩:=Fp.newMp hH 3
 replace hH:Fp _ _ _ [mpT id3 3 (encE Zaa bv []),.cel id1 (Z5 a0_)]:=hH
 obtain ⟨id5,H6,hid5,hH6,hH⟩:=Fp.newCell hH [.nl .nilMap]
 replace hH:Fp _ _ _ [.cel id5 [.nl .nilMap],mpT id3 3 (encE Zaa bv []),.cel id1 (Z5 a0_)]:=hH
 obtain ⟨H7,hH7,hH⟩:=Fp.setCell (k:=0) (off:=0) (cs:=[.nl .nilMap]) (vs:=[.map id3]) (cs':=[.map id3]) hH rfl kr
 replace hH:Fp _ _ _ [.cel id5 [.map id3],mpT id3 3 (encE Zaa bv []),.cel id1 (Z5 a0_)]:=hH
 refine rg (Z7.h 0 (st_mkMap' (H:=H2) 3 kr hid3 hH4) (Z7.h 0 (Zlg (H:=H4) kr hid5 hH6) (Z7.o 0 (Zda (H:=H6) (v:=.map id3) (hw:=hH7)) Z7.f))) (tq (sq (rg Z7.f (tq (rt ?_)))))
 cases h
 exact ⟨[.fn 51 [] [.ptr id1 0,.ptr id5 0]],kr,id1,id5,id3,rfl,Fp.pk hH [2,0,1] rfl⟩
theorem Zha {σ:Type}(N:Nat)(y_:σ->Int->Int->Int->Int->Option (σ×Bool))(a1_:Int)(a2_:Zac)(a3_:Zam)(s_:σ)(y_f:Nat)(y_p y_c:List AV)(hy_n:(noLocL y_p&&noLocL y_c)=true)(T_:σ->List ZaL->Prop)(hy_:∀ (x0:Int) (x1:Int) (x2:Int) (x3:Int) (s:σ) (r:σ×Bool) (H:List HO) (its:List ZaL),T_ s its->HP H its->y_ s x0 x1 x2 x3=some r->∃ H' its',ZiI Try.prog (.fn y_f y_p y_c) [iv x0,iv x1,iv x2,iv x3] H (bv r.2) H'/\T_ r.1 its'/\Fp H H' its its')(H:List HO)(its:List ZaL)(hT:T_ s_ its)(hH:HP H (its))(r:σ×Bool)(h:ZcN N y_ a1_ a2_ a3_ s_=some r):∃ H' its',ZbQ Try.prog 43 [.fn y_f y_p y_c,iv a1_,.agg (Zaz a2_),.agg (ZaQ a3_)] H (bv r.2) H'/\T_ r.1 its'/\Fp H H' (its) (its'):=by
 suffices hs:∃ H',ZbQ Try.prog 43 [.fn y_f y_p y_c,iv a1_,.agg (Zaz a2_),.agg (ZaQ a3_)] H (bv r.2) H'/\∃ its',T_ r.1 its'/\Fp H H' (its) (its') by
  obtain ⟨H',h1,its',h2,h3⟩:=hs
  exact ⟨H',its',h1,h2,h3⟩
 unfold ZcN at h
 replace hH:Fp H H (its) (its):=Fp.refl hH
 refine Zdj ZwD (λH'=>∃ its',T_ r.1 its'/\Fp H H' (its) (its')) rfl (by simpa [noLocL,ZaA.noLocL,ZaA] using hy_n) rfl (sq (rg Z7.f (tq (sq (sq ?_)))))
 obtain ⟨j4,hj,h⟩:=bs h
 refine rgR (λs=>s=⟨[(0,.fn y_f y_p y_c),(1,iv a1_),(6,.loc 6 0),(7,.loc 7 0),(21,bv j4)],[(6,(Zaz a2_)),(7,(ZaQ a3_))],H⟩) ?_ ?_
 ·clear h
  rcases ZaJ hj with ⟨hc1,hj⟩|⟨hc3,hj⟩
  ·refine (EP.u 3 (Zad (c:=(a3_.By != a1_)) (h:=hc1)) ?_)
   obtain ⟨e2,he2,hj⟩:=bs hj
   obtain rfl:=Zar hj
   exact (EP.u 3 (Zaf (ys:=[.loc 6 0,iv a3_.By]) (h:=Zc9 (l:=a2_.l) he2 rfl)) (EP.o 0 (Zhx (t:=6) (off:=0) (cs:=(Zaz a2_)) (l:=a2_.l) (λx=>iv x) [] [] he2 kr kr rfl rfl) (EP.f kr)))
  obtain rfl:=Zar hj
  exact (EP.u 3 (Zad (c:=(a3_.By != a1_)) (h:=hc3)) (EP.f kr))
 clear hj
 rintro s hR
 obtain rfl:=hR
 refine tq (it h (λhc5 h=>?_) (λhc5 h=>?_))
 ·refine sq (rg Z7.f (tq (rt (tr ?_))))
  cases h
  exact ⟨[bv false],kr,kr,its,hT,Fp.at hH⟩
 refine sk (tq (kq (sq (sq (rg Z7.f (tq (bk ?_)))))))
 obtain ⟨a8,a3,h⟩:=bs h
 refine Zbc ((ZaV (λ(x:Int×σ) s=>∃ (its6:List ZaL) (H7:List HO),s=⟨[(0,.fn y_f y_p y_c),(1,iv a1_),(6,.loc 6 0),(7,.loc 7 0),(9,iv x.1)],[(6,(Zaz a2_)),(7,(ZaQ a3_))],H7⟩/\T_ x.2 its6/\Fp H H7 (its) (its6)) (λx:Int×σ=>Zbz N y_ a1_ a2_ a3_ x.1 x.2) (λ(p:(σ)⊕(σ×Bool)) e s=>match p with|(.inl p)=>e=.exit 0/\(∃ (a0:List ZaL) (a7:List HO),s=⟨[],[],a7⟩/\T_ p a0/\Fp H a7 (its) (a0))|(.inr p)=>e=.ret/\∃ xs,rawL s i43.res=some xs/\ZbL xs=bv p.2/\∃ its',T_ p.1 its'/\Fp H s.H (its) (its')) ?_ N _ a8 _ a3 ⟨its,H,kr,hT,Fp.at hH⟩).mono ?_)
 ·clear h a3
  rintro ⟨i8,g9⟩ o s h hR
  obtain ⟨its6,H7,rfl,hT,hH⟩:=hR
  replace hH:Fp H H7 (its) (its6):=hH
  replace h:Zbz N y_ a1_ a2_ a3_ i8 g9=some o:=h
  unfold Zbz at h
  refine sq (sq (rg Z7.f (tq (it h (λaf h=>?_) (λaf h=>?_)))))
  ·refine sk (tq (kq (sq (bk (sq ?_)))))
   obtain ⟨aj,a9,h⟩:=bs h
   refine rg (Z7.u 2 (Zaf (ys:=[.loc 6 0,iv a3_.By]) (h:=Zc9 (l:=a2_.l) a9 rfl)) (Z7.o 0 (Zhx (t:=6) (off:=0) (cs:=(Zaz a2_)) (l:=a2_.l) (λx=>iv x) [] [] a9 kr kr rfl rfl) Z7.f)) (tq ?_)
   obtain ⟨a2,a4,h⟩:=bs h
   refine Zen [0,1,6,7,9,10] (λs=>s=⟨[(0,.fn y_f y_p y_c),(1,iv a1_),(6,.loc 6 0),(7,.loc 7 0),(9,iv i8),(10,iv a2)],[(6,(Zaz a2_)),(7,(ZaQ a3_))],H7⟩) ?_ ?_
   ·clear h
    have h:=a4
    refine sq (rg Z7.f (tq (it h (λad h=>?_) (λad h=>?_))))
    ·refine rg Z7.f ?_
     cases h
     exact ⟨rfl,kr⟩
    refine sk ?_
    cases h
    exact ⟨rfl,kr⟩
   clear a4
   rintro s hR
   obtain rfl:=hR
   refine sq ?_
   obtain ⟨ae,ab,h⟩:=bs h
   obtain ⟨aa,a1,a5,hT,a6⟩:=hy_ a1_ i8 a3_.By a2 g9 ae H7 its6 hT (Fp.tail (own:=[]) (its:=its6) hH) ab
   replace hH:Fp H aa (its) (a1):=Fp.callT (own:=[]) (its:=its6) hH a6
   refine rg (Z7.v 6 (Zjv (H:=H7) (ys:=[iv a1_,iv i8,iv a3_.By,iv a2]) (hc:=a5)) Z7.f) (tq (it h (λac h=>?_) (λac h=>?_)))
   ·refine sq (rg Z7.f (tq (rt (br (tr ?_)))))
    cases h
    exact ⟨_,rfl,rfl,⟨[bv false],kr,kr,a1,hT,Fp.at hH⟩⟩
   refine sk (bn (tq (kq (rg Z7.f ?_))))
   cases h
   exact ⟨_,rfl,⟨a1,aa,kr,hT,Fp.at hH⟩⟩
  refine kq (xq (tx ?_))
  cases h
  exact ⟨_,rfl,rfl,⟨its6,H7,kr,hT,Fp.at hH⟩⟩
 rintro e s hq
 rcases a8 with ai|ag
 ·dsimp only at h hq
  obtain ⟨rfl,hR⟩:=hq
  obtain ⟨a0,a7,rfl,hT,hH⟩:=hR
  replace hH:Fp H a7 (its) (a0):=hH
  refine bx (tq (sq (rg Z7.f (tq (rt ?_)))))
  cases h
  exact ⟨[bv true],kr,kr,a0,hT,Fp.at hH⟩
 dsimp only at h hq
 obtain ⟨rfl,hq⟩:=hq
 refine br (tr ?_)
 cases h
 exact hq
theorem ZhR {σ:Type}(N:Nat)(y_:σ->ZaD->ZaD->Option (σ×Bool))(c0_:Z6)(c1_:Int)(c2_:Int)(s_:σ)(k0_:Nat)(k1_:Nat)(k2_:Nat)(yid_:Nat)(T_:σ->List ZaL->Prop)(hy_:∀ (x0:ZaD) (x1:ZaD) (s:σ) (r:σ×Bool) (H:List HO) (its:List ZaL),T_ s its->HP H its->y_ s x0 x1=some r->∃ H' its',ZlJ Try.prog yid_ [.agg [iv x0.Stream,iv x0.Port,iv x0.From,iv x0.Long],.agg [iv x1.Stream,iv x1.Port,iv x1.From,iv x1.Long]] H r.2 H'/\T_ r.1 its'/\Fp H H' its its')(H:List HO)(its:List ZaL)(hT:T_ s_ its)(hH:HP H (.cel k0_ (Z5 c0_)::.cel k1_ [iv c1_]::.cel k2_ [iv c2_]::its))(r:σ)(h:Zdf N y_ c0_ c1_ c2_ s_=some r):∃ H' its',ZbQ Try.prog 47 [.yl yid_,.ptr k0_ 0,.ptr k1_ 0,.ptr k2_ 0] H (.tup []) H'/\T_ r its'/\Fp H H' (.cel k0_ (Z5 c0_)::.cel k1_ [iv c1_]::.cel k2_ [iv c2_]::its) (.cel k0_ (Z5 c0_)::.cel k1_ [iv c1_]::.cel k2_ [iv c2_]::its'):=by
 suffices hs:∃ H',ZbQ Try.prog 47 [.yl yid_,.ptr k0_ 0,.ptr k1_ 0,.ptr k2_ 0] H (.tup []) H'/\∃ its',T_ r its'/\Fp H H' (.cel k0_ (Z5 c0_)::.cel k1_ [iv c1_]::.cel k2_ [iv c2_]::its) (.cel k0_ (Z5 c0_)::.cel k1_ [iv c1_]::.cel k2_ [iv c2_]::its') by
  obtain ⟨H',h1,its',h2,h3⟩:=hs
  exact ⟨H',its',h1,h2,h3⟩
 unfold Zdf at h
 replace hH:Fp H H (.cel k0_ (Z5 c0_)::.cel k1_ [iv c1_]::.cel k2_ [iv c2_]::its) (.cel k0_ (Z5 c0_)::.cel k1_ [iv c1_]::.cel k2_ [iv c2_]::its):=Fp.refl hH
 refine Zdj ZwA (λH'=>∃ its',T_ r its'/\Fp H H' (.cel k0_ (Z5 c0_)::.cel k1_ [iv c1_]::.cel k2_ [iv c2_]::its) (.cel k0_ (Z5 c0_)::.cel k1_ [iv c1_]::.cel k2_ [iv c2_]::its')) rfl rfl rfl (sq ?_)
 have hlc1:=Fp.get hH 0 rfl
 refine rg (Z7.u 1 (ZaH (H:=H) (id:=k0_) (off:=1) (cs:=(Z5 c0_)) (c:=[Zaj false c0_.Uses]) (r:=Zaj false c0_.Uses) (hl:=hlc1)) (Z7.u 0 (Zaf (ys:=[Zaj false c0_.Uses]) (h:=Zao Za8)) Z7.f)) (tq (bk ?_))
 obtain ⟨ag,a9,h⟩:=bs h
 refine Zbc ((ZaV (λ(x:Int×σ) s=>∃ (its2:List ZaL) (H3:List HO),s=⟨[(0,.yl yid_),(1,.ptr k0_ 0),(2,.ptr k1_ 0),(3,.ptr k2_ 0),(10,Zaj false c0_.Uses),(11,iv ((List.length c0_.Uses:Nat):Int)),(12,iv x.1)],[],H3⟩/\T_ x.2 its2/\Fp H H3 (.cel k0_ (Z5 c0_)::.cel k1_ [iv c1_]::.cel k2_ [iv c2_]::its) (.cel k0_ (Z5 c0_)::.cel k1_ [iv c1_]::.cel k2_ [iv c2_]::its2)) (λx:Int×σ=>ZbO N y_ c0_ c1_ c2_ x.1 x.2) (λ(p:(σ)⊕(σ)) e s=>match p with|(.inl p)=>e=.exit 0/\(∃ (a3:List ZaL) (af:List HO),s=⟨[],[],af⟩/\T_ p a3/\Fp H af (.cel k0_ (Z5 c0_)::.cel k1_ [iv c1_]::.cel k2_ [iv c2_]::its) (.cel k0_ (Z5 c0_)::.cel k1_ [iv c1_]::.cel k2_ [iv c2_]::a3))|(.inr p)=>e=.ret/\∃ xs,rawL s i47.res=some xs/\ZbL xs=.tup []/\∃ its',T_ p its'/\Fp H s.H (.cel k0_ (Z5 c0_)::.cel k1_ [iv c1_]::.cel k2_ [iv c2_]::its) (.cel k0_ (Z5 c0_)::.cel k1_ [iv c1_]::.cel k2_ [iv c2_]::its')) ?_ N _ ag _ a9 ⟨its,H,kr,hT,Fp.at hH⟩).mono ?_)
 ·clear h a9
  rintro ⟨i4,g5⟩ o s h hR
  obtain ⟨its2,H3,rfl,hT,hH⟩:=hR
  replace hH:Fp H H3 (.cel k0_ (Z5 c0_)::.cel k1_ [iv c1_]::.cel k2_ [iv c2_]::its) (.cel k0_ (Z5 c0_)::.cel k1_ [iv c1_]::.cel k2_ [iv c2_]::its2):=hH
  replace h:ZbO N y_ c0_ c1_ c2_ i4 g5=some o:=h
  unfold ZbO at h
  refine sq (rg Z7.f (tq (sq (it h (λaA h=>?_) (λaA h=>?_)))))
  ·refine sk (tq (kq (sq (bk (sq ?_)))))
   obtain ⟨a4,aj,h⟩:=bs h
   refine rg (Z7.u 1 (Zaf (ys:=[Zaj false c0_.Uses,iv i4]) (h:=Zai Za8 aj)) (Z7.u 0 (Zay (sz:=4) (off:=0) (cs:=[.int .i64 a4.Stream,.int .i64 a4.Port,.int .i64 a4.From,.int .i64 a4.Long]) (r:=.agg (ZaN a4)) Za8 aj) Z7.f)) (tq (sq (sq ?_)))
   have an:=Fp.get hH 1 rfl
   refine rg (Z7.u 2 (ZaH (H:=H3) (id:=k1_) (off:=0) (cs:=[iv c1_]) (c:=[iv c1_]) (r:=iv c1_) (hl:=an)) Z7.f) (tq (it h (λaz h=>?_) (λaz h=>?_)))
   ·refine kq (xq (tx (bx (tq (kq (rg Z7.f ?_))))))
    cases h
    exact ⟨_,rfl,⟨its2,H3,kr,hT,Fp.at hH⟩⟩
   refine sk (tq (kq (sq ?_)))
   have am:=Fp.get hH 0 rfl
   refine rg (Z7.u 1 (ZaH (H:=H3) (id:=k0_) (off:=1) (cs:=(Z5 c0_)) (c:=[Zaj false c0_.Uses]) (r:=Zaj false c0_.Uses) (hl:=am)) (Z7.u 0 (Zaf (ys:=[Zaj false c0_.Uses]) (h:=Zao Za8)) Z7.f)) (tq (bk ?_))
   obtain ⟨ai,aa,h⟩:=bs h
   refine Zbc ((ZaV (λ(x:Int×σ) s=>∃ (a0:List ZaL) (a5:List HO),s=⟨[(0,.yl yid_),(1,.ptr k0_ 0),(2,.ptr k1_ 0),(3,.ptr k2_ 0),(5,iv i4),(6,.loc 6 0),(10,Zaj false c0_.Uses),(11,iv ((List.length c0_.Uses:Nat):Int)),(12,iv i4),(22,Zaj false c0_.Uses),(23,iv ((List.length c0_.Uses:Nat):Int)),(24,iv x.1)],[(6,(ZaN a4))],a5⟩/\T_ x.2 a0/\Fp H a5 (.cel k0_ (Z5 c0_)::.cel k1_ [iv c1_]::.cel k2_ [iv c2_]::its) (.cel k0_ (Z5 c0_)::.cel k1_ [iv c1_]::.cel k2_ [iv c2_]::a0)) (λx:Int×σ=>ZbN N y_ c0_ c2_ i4 a4 x.1 x.2) (λ(p:(σ)⊕(σ)) e s=>match p with|(.inl p)=>e=.exit 2/\(∃ (a2:List ZaL) (a7:List HO),s=⟨[(0,.yl yid_),(1,.ptr k0_ 0),(2,.ptr k1_ 0),(3,.ptr k2_ 0),(10,Zaj false c0_.Uses),(11,iv ((List.length c0_.Uses:Nat):Int)),(12,iv i4)],[],a7⟩/\T_ p a2/\Fp H a7 (.cel k0_ (Z5 c0_)::.cel k1_ [iv c1_]::.cel k2_ [iv c2_]::its) (.cel k0_ (Z5 c0_)::.cel k1_ [iv c1_]::.cel k2_ [iv c2_]::a2))|(.inr p)=>e=.ret/\∃ xs,rawL s i47.res=some xs/\ZbL xs=.tup []/\∃ its',T_ p its'/\Fp H s.H (.cel k0_ (Z5 c0_)::.cel k1_ [iv c1_]::.cel k2_ [iv c2_]::its) (.cel k0_ (Z5 c0_)::.cel k1_ [iv c1_]::.cel k2_ [iv c2_]::its')) ?_ N _ ai _ aa ⟨its2,H3,kr,hT,Fp.at hH⟩).mono ?_)
   ·clear h aa
    rintro ⟨a8,aB⟩ o s h hR
    obtain ⟨a0,a5,rfl,hT,hH⟩:=hR
    replace hH:Fp H a5 (.cel k0_ (Z5 c0_)::.cel k1_ [iv c1_]::.cel k2_ [iv c2_]::its) (.cel k0_ (Z5 c0_)::.cel k1_ [iv c1_]::.cel k2_ [iv c2_]::a0):=hH
    replace h:ZbN N y_ c0_ c2_ i4 a4 a8 aB=some o:=h
    unfold ZbN at h
    refine sq (rg Z7.f (tq (sq (it h (λaw h=>?_) (λaw h=>?_)))))
    ·refine sk (tq (kq (sq (bk (sq ?_)))))
     obtain ⟨a1,ab,h⟩:=bs h
     refine rg (Z7.u 1 (Zaf (ys:=[Zaj false c0_.Uses,iv a8]) (h:=Zai Za8 ab)) (Z7.u 0 (Zay (sz:=4) (off:=0) (cs:=[.int .i64 a1.Stream,.int .i64 a1.Port,.int .i64 a1.From,.int .i64 a1.Long]) (r:=.agg (ZaN a1)) Za8 ab) Z7.f)) (tq (sq (sq ?_)))
     obtain ⟨ay,hj,h⟩:=bs h
     refine rgR (λs=>s=⟨[(0,.yl yid_),(1,.ptr k0_ 0),(2,.ptr k1_ 0),(3,.ptr k2_ 0),(5,iv i4),(6,.loc 6 0),(8,.loc 8 0),(10,Zaj false c0_.Uses),(11,iv ((List.length c0_.Uses:Nat):Int)),(12,iv i4),(22,Zaj false c0_.Uses),(23,iv ((List.length c0_.Uses:Nat):Int)),(24,iv a8),(44,bv ay)],[(6,(ZaN a4)),(8,(ZaN a1))],a5⟩) ?_ ?_
     ·clear h
      rcases ZaJ hj with ⟨av,hj⟩|⟨au,hj⟩
      ·obtain rfl:=Zar hj
       exact (EP.u 2 (Zad (c:=(a8==i4)) (h:=av)) (EP.f kr))
      refine (EP.u 2 (Zad (c:=(a8==i4)) (h:=au)) ?_)
      have ad:=Fp.get hH 2 rfl
      refine (EP.u 3 (ZaH (H:=a5) (id:=k2_) (off:=0) (cs:=[iv c2_]) (c:=[iv c2_]) (r:=iv c2_) (hl:=ad)) ?_)
      rcases ZaJ hj with ⟨ar,hj⟩|⟨aq,hj⟩
      ·obtain rfl:=Zar hj
       exact (EP.u 0 (Zad (c:=(a1.Stream != c2_)) (h:=ar)) (EP.f kr))
      obtain rfl:=Zar hj
      exact (EP.u 0 (Zad (c:=(a1.Stream != c2_)) (h:=aq)) (EP.f kr))
     clear hj
     rintro s hR
     obtain rfl:=hR
     refine tq (it h (λap h=>?_) (λap h=>?_))
     ·refine kq (xq (tx (bx (tq (kq (rg Z7.f ?_))))))
      cases h
      exact ⟨_,rfl,⟨a0,a5,kr,hT,Fp.at hH⟩⟩
     refine sk (tq (kq (sq ?_)))
     obtain ⟨ax,al,h⟩:=bs h
     obtain ⟨ak,a6,ac,hT,ae⟩:=hy_ a4 a1 aB ax a5 a0 hT (Fp.tail (own:=[.cel k0_ (Z5 c0_),.cel k1_ [iv c1_],.cel k2_ [iv c2_]]) (its:=a0) hH) al
     replace hH:Fp H ak (.cel k0_ (Z5 c0_)::.cel k1_ [iv c1_]::.cel k2_ [iv c2_]::its) (.cel k0_ (Z5 c0_)::.cel k1_ [iv c1_]::.cel k2_ [iv c2_]::a6):=Fp.callT (own:=[.cel k0_ (Z5 c0_),.cel k1_ [iv c1_],.cel k2_ [iv c2_]]) (its:=a0) hH ae
     refine rg (Z7.v 3 (ZoD (H:=a5) (id:=yid_) (ys:=[.agg (ZaN a4),.agg (ZaN a1)]) kr kr kr kr ac) Z7.f) (tq (it h (λao h=>?_) (λao h=>?_)))
     ·refine rt (br (tr ?_))
      cases h
      exact ⟨_,rfl,rfl,⟨[],kr,kr,a6,hT,Fp.at hH⟩⟩
     refine sk (bn (tq (kq (rg Z7.f ?_))))
     cases h
     exact ⟨_,rfl,⟨a6,ak,kr,hT,Fp.at hH⟩⟩
    refine kq (xq (tx ?_))
    cases h
    exact ⟨_,rfl,rfl,⟨a0,a5,kr,hT,Fp.at hH⟩⟩
   rintro e s hq
   rcases ai with aG|aE
   ·dsimp only at h hq
    obtain ⟨rfl,hR⟩:=hq
    obtain ⟨a2,a7,rfl,hT,hH⟩:=hR
    replace hH:Fp H a7 (.cel k0_ (Z5 c0_)::.cel k1_ [iv c1_]::.cel k2_ [iv c2_]::its) (.cel k0_ (Z5 c0_)::.cel k1_ [iv c1_]::.cel k2_ [iv c2_]::a2):=hH
    refine bx (bn (tq (kq (rg Z7.f ?_))))
    cases h
    exact ⟨_,rfl,⟨a2,a7,kr,hT,Fp.at hH⟩⟩
   dsimp only at h hq
   obtain ⟨rfl,hq⟩:=hq
   refine br (br (tr ?_))
   cases h
   exact ⟨_,rfl,rfl,hq⟩
  refine kq (xq (tx ?_))
  cases h
  exact ⟨_,rfl,rfl,⟨its2,H3,kr,hT,Fp.at hH⟩⟩
 rintro e s hq
 rcases ag with aD|aC
 ·dsimp only at h hq
  obtain ⟨rfl,hR⟩:=hq
  obtain ⟨a3,af,rfl,hT,hH⟩:=hR
  replace hH:Fp H af (.cel k0_ (Z5 c0_)::.cel k1_ [iv c1_]::.cel k2_ [iv c2_]::its) (.cel k0_ (Z5 c0_)::.cel k1_ [iv c1_]::.cel k2_ [iv c2_]::a3):=hH
  refine bx ?_
  cases h
  exact ⟨[],kr,kr,a3,hT,Fp.at hH⟩
 dsimp only at h hq
 obtain ⟨rfl,hq⟩:=hq
 refine br ?_
 cases h
 exact hq
theorem Zdm (N:Nat)(a0_:Zae)(r:Int)(h:ZbT N a0_=some r):Zbs Try.prog 48 [.agg (ZbP a0_)] (iv r):=by
 unfold ZbT at h
 have hH  := hp0
 refine ZaO Zwz rfl rfl (Zaw _ _ _ ?_) rfl
 refine sq (rg Z7.f (tq (sq (sq (rgX ⟨[(1,.loc 1 0),(22,bv ((decide (a0_.Period<1))||((decide (a0_.Period>960))||((decide (a0_.From<0))||(decide (a0_.From≥a0_.Period))))))],[(1,(ZbP a0_))],[]⟩ ?_ ?_)))))
 ·rcases Bool.eq_false_or_eq_true (decide (a0_.Period<1)) with hc1|hc2
  ·exact (EP.u 2 (Zad (c:=(decide (a0_.Period<1))) (h:=hc1)) (EP.f (by simp only [hc1];kernel_rfl)))
  refine (EP.u 2 (Zad (c:=(decide (a0_.Period<1))) (h:=hc2)) ?_)
  rcases Bool.eq_false_or_eq_true (decide (a0_.Period>960)) with hc3|hc4
  ·exact (EP.u 3 (Zad (c:=(decide (a0_.Period>960))) (h:=hc3)) (EP.f (by simp only [hc2,hc3];kernel_rfl)))
  refine (EP.u 3 (Zad (c:=(decide (a0_.Period>960))) (h:=hc4)) ?_)
  rcases Bool.eq_false_or_eq_true (decide (a0_.From<0)) with hc5|hc6
  ·exact (EP.u 4 (Zad (c:=(decide (a0_.From<0))) (h:=hc5)) (EP.f (by simp only [hc2,hc4,hc5];kernel_rfl)))
  exact (EP.u 4 (Zad (c:=(decide (a0_.From<0))) (h:=hc6)) (EP.f (by simp only [hc2,hc4,hc6];kernel_rfl)))
 refine tq (it h (λhc7 h=>?_) (λhc7 h=>?_))
 ·refine sq (rg Z7.f (tq (rt (tr ?_))))
  cases h
  exact ZaF kr
 refine sk (tq (kq (sq (sq (rgX ⟨[(32,bv ((decide (a0_.Long<1))||(decide (a0_.Long>a0_.Period))))],[],[]⟩ ?_ ?_)))))
 ·rcases Bool.eq_false_or_eq_true (decide (a0_.Long<1)) with hc8|hc9
  ·exact (EP.u 2 (Zad (c:=(decide (a0_.Long<1))) (h:=hc8)) (EP.f (by simp only [hc8];kernel_rfl)))
  exact (EP.u 2 (Zad (c:=(decide (a0_.Long<1))) (h:=hc9)) (EP.f (by simp only [hc9];kernel_rfl)))
 refine tq (it h (λa0 h=>?_) (λa0 h=>?_))
 ·refine sq (rg Z7.f (tq (rt (tr ?_))))
  cases h
  exact ZaF kr
 refine sk (tq (kq (sq (rg Z7.f (tq (rt ?_))))))
 cases h
 exact ZaF kr
theorem Zgp (N:Nat)(a0_:Z6)(a1_:(List Z8))(a2_:Int)(a3_:Zam)(r:Bool)(h:Zcs N a0_ a1_ a2_ a3_=some r):Zbs Try.prog 50 [.agg (Z5 a0_),Z9 false a1_,iv a2_,.agg (ZaQ a3_)] (bv r):=by
 unfold Zcs at h
 have hH  := hp0
 refine ZaO Zwx rfl rfl (Zaw _ _ _ ?_) rfl
 refine sq (rg Z7.f (tq (sq (bk (sq (rg Z7.f (tq (it h (λhc1 h=>?_) (λhc1 h=>?_)))))))))
 ·refine sq (rgX ⟨[(8,bv ((a3_.To==(w64 (a3_.From+1)))&&((decide (a3_.Next>a2_))&&(decide (a3_.Next<((List.length a1_:Nat):Int))))))],[],[]⟩ ?_ ?_)
  ·rcases Bool.eq_false_or_eq_true (a3_.To==(w64 (a3_.From+1))) with hc2|hc5
   ·refine (EP.u 5 (Zad (c:=(a3_.To==(w64 (a3_.From+1)))) (h:=hc2)) ?_)
    rcases Bool.eq_false_or_eq_true (decide (a3_.Next>a2_)) with hc3|hc4
    ·exact (EP.u 4 (Zad (c:=(decide (a3_.Next>a2_))) (h:=hc3)) (EP.u 5 (Zaf (ys:=[Z9 false a1_]) (h:=Zao Zal)) (EP.f (by simp only [hc2,hc3];kernel_rfl))))
    exact (EP.u 4 (Zad (c:=(decide (a3_.Next>a2_))) (h:=hc4)) (EP.f (by simp only [hc2,hc4];kernel_rfl)))
   exact (EP.u 5 (Zad (c:=(a3_.To==(w64 (a3_.From+1)))) (h:=hc5)) (EP.f (by simp only [hc5];kernel_rfl)))
  refine tq (rt (br (tr ?_)))
  cases h
  exact ZaF kr
 refine sq (rg Z7.f (tq (it h (λhc6 h=>?_) (λhc6 h=>?_))))
 ·refine sq (rg Z7.f (tq (rt (br (tr ?_)))))
  cases h
  exact ZaF kr
 refine sq (rg Z7.f (tq (it h (λhc7 h=>?_) (λhc7 h=>?_))))
 ·refine sq (rgX ⟨[(8,bv ((a2_==0)&&(a3_.From != 0)))],[],[]⟩ ?_ ?_)
  ·rcases Bool.eq_false_or_eq_true (a2_==0) with hc8|hc9
   ·exact (EP.u 1 (Zad (c:=(a2_==0)) (h:=hc8)) (EP.f (by simp only [hc8];kernel_rfl)))
   exact (EP.u 1 (Zad (c:=(a2_==0)) (h:=hc9)) (EP.f (by simp only [hc9];kernel_rfl)))
  refine tq (rt (br (tr ?_)))
  cases h
  exact ZaF kr
 refine sk (bn (tq (kq (sq (rgX ⟨[(8,bv ((decide (a3_.By≥0))&&(decide (a3_.By<((List.length a0_.Periods:Nat):Int)))))],[],[]⟩ ?_ ?_)))))
 ·rcases Bool.eq_false_or_eq_true (decide (a3_.By≥0)) with a1|a0
  ·exact (EP.u 2 (Zad (c:=(decide (a3_.By≥0))) (h:=a1)) (EP.u 5 (Zaf (ys:=[Zak false a0_.Periods]) (h:=Zao eI64)) (EP.f (by simp only [a1];kernel_rfl))))
  exact (EP.u 2 (Zad (c:=(decide (a3_.By≥0))) (h:=a0)) (EP.f (by simp only [a0];kernel_rfl)))
 refine tq (rt ?_)
 cases h
 exact ZaF kr
theorem Zks (N:Nat)(a0_:Int)(a1_:Int)(r:Int)(h:ZeV N a0_ a1_=some r):Zbs Try.prog 52 [iv a0_,iv a1_] (iv r):=by
 unfold ZeV at h
 have hH  := hp0
 refine ZaO Zwv rfl rfl (Zaw _ _ _ ?_) rfl
 refine sq (rg Z7.f (tq (sq ?_)))
 obtain ⟨m1,hm1,h⟩:=bs h
 obtain ⟨m2,hm2,h⟩:=bs h
 refine rg (Z7.u 2 (Zaf (ys:=[iv a0_,iv a1_]) (h:=ZbK hm1)) (Z7.u 3 (Zaf (ys:=[iv (w64 (m1+a1_)),iv a1_]) (h:=ZbK hm2)) Z7.f)) (tq (rt ?_))
 cases h
 exact ZaF kr
theorem ZfI (N:Nat)(a0_:(List Zae))(r:Int)(h:ZbW N a0_=some r):Zbs Try.prog 54 [ZaR false a0_] (iv r):=by
 unfold ZbW at h
 have hH  := hp0
 refine ZaO Zwt rfl rfl (Zaw _ _ _ ?_) rfl
 refine sq (rg Z7.f (tq (sq (sq (rg (Z7.u 1 (Zaf (ys:=[ZaR false a0_]) (h:=Zao ZaU)) Z7.f) (tq (it h (λhc1 h=>?_) (λhc1 h=>?_))))))))
 ·refine sq (rg Z7.f (tq (rt (tr ?_))))
  cases h
  exact ZaF kr
 refine sk (tq (kq (sq (sq (rg (Z7.u 1 (Zaf (ys:=[ZaR false a0_]) (h:=Zao ZaU)) Z7.f) (tq (bk ?_)))))))
 obtain ⟨a3,a1,h⟩:=bs h
 refine Zbc ((ZaV (λ(x:Int) s=>s=⟨[(9,ZaR false a0_),(10,iv ((List.length a0_:Nat):Int)),(11,iv x)],[],[]⟩) (λx:Int=>Za2 N a0_ x) (λ(p:(Unit)⊕(Int)) e s=>match p with|(.inl p)=>e=.exit 0/\(s=⟨[],[],[]⟩)|(.inr p)=>e=.ret/\∃ xs,resL s i54.res=some xs/\ZbL xs=iv p) ?_ N _ a3 _ a1 kr).mono ?_)
 ·clear h a1
  rintro i2 o s h hR
  obtain rfl:=hR
  replace h:Za2 N a0_ i2=some o:=h
  unfold Za2 at h
  refine sq (rg Z7.f (tq (sq (it h (λa6 h=>?_) (λa6 h=>?_)))))
  ·refine sk (tq (kq (sq (bk (sq ?_)))))
   obtain ⟨a0,a2,h⟩:=bs h
   refine rg (Z7.u 0 (Zaf (ys:=[ZaR false a0_,iv i2]) (h:=Zai ZaU a2)) (Z7.u 0 (Zay (sz:=3) (off:=0) (cs:=[.int .i64 a0.Period,.int .i64 a0.From,.int .i64 a0.Long]) (r:=.agg (ZbP a0)) ZaU a2) Z7.f)) (tq (sq ?_))
   obtain ⟨a7,a4,h⟩:=bs h
   refine rg (Z7.v 1 (ZaM (hc:=Zdm N a0 a7 a4)) Z7.f) (tq (sq (rg Z7.f (tq (it h (λa5 h=>?_) (λa5 h=>?_))))))
   ·refine sq (rg Z7.f (tq (rt (br (tr ?_)))))
    cases h
    exact ⟨_,rfl,rfl,ZaF kr⟩
   refine sk (bn (tq (kq (rg Z7.f ?_))))
   cases h
   exact ⟨_,rfl,kr⟩
  refine kq (xq (tx ?_))
  cases h
  exact ⟨_,rfl,rfl,kr⟩
 rintro e s hq
 rcases a3 with a9|a8
 ·dsimp only at h hq
  obtain ⟨rfl,hR⟩:=hq
  obtain rfl:=hR
  refine bx (tq (sq (rg Z7.f (tq (rt ?_)))))
  cases h
  exact ZaF kr
 dsimp only at h hq
 obtain ⟨rfl,hq⟩:=hq
 refine br (tr ?_)
 cases h
 exact hq
theorem Ziu (N:Nat)(a0_:Int)(a1_:Int)(r:Int)(h:ZdL N a0_ a1_=some r):Zbs Try.prog 59 [iv a0_,iv a1_] (iv r):=by
 unfold ZdL at h
 have hH  := hp0
 refine ZaO Zwq rfl rfl (Zaw _ _ _ ?_) rfl
 refine sq (rg Z7.f (tq (sq ?_)))
 obtain ⟨m1,hm1,h⟩:=bs h
 obtain ⟨m2,hm2,h⟩:=bs h
 refine rg (Z7.u 2 (Zaf (ys:=[iv a0_,iv a1_]) (h:=ZbK hm1)) (Z7.u 3 (Zaf (ys:=[iv (w64 (m1+a1_)),iv a1_]) (h:=ZbK hm2)) Z7.f)) (tq (rt ?_))
 cases h
 exact ZaF kr
theorem Zfy (N:Nat)(a0_:Int)(a1_:Int)(r:Int)(h:ZcX N a0_ a1_=some r):Zbs Try.prog 60 [iv a0_,iv a1_] (iv r):=by
 unfold ZcX at h
 have hH  := hp0
 refine ZaO Zwp rfl rfl (Zaw _ _ _ ?_) rfl
 refine sq (rg Z7.f (tq (sq (bk ?_))))
 obtain ⟨a3,a0,h⟩:=bs h
 refine Zbc ((ZaV (λ(x:Int×Int) s=>s=⟨[(0,iv x.1),(1,iv x.2)],[],[]⟩) (λx:Int×Int=>ZbE N x.1 x.2) (λ(p:Int) e s=>e=.exit 0/\(s=⟨[(0,iv p)],[],[]⟩)) ?_ N _ a3 _ a0 kr).mono ?_)
 ·clear h a0
  rintro ⟨i1,i2⟩ o s h hR
  obtain rfl:=hR
  replace h:ZbE N i1 i2=some o:=h
  unfold ZbE at h
  refine sq (sq (rg Z7.f (tq (it h (λa2 h=>?_) (λa2 h=>?_)))))
  ·refine sk (tq (kq (bk ?_)))
   obtain ⟨a4,a1,h⟩:=bs h
   refine rq (Z7.u 3 (Zaf (ys:=[iv i1,iv i2]) (h:=ZbK a1)) Z7.f) (bn ?_)
   cases h
   exact ⟨_,rfl,kr⟩
  refine kq (xq (tx ?_))
  cases h
  exact ⟨_,rfl,rfl,kr⟩
 rintro e s hq
 obtain ⟨rfl,hR⟩:=hq
 obtain rfl:=hR
 refine bx (tq (sq (rg Z7.f (tq (rt ?_)))))
 cases h
 exact ZaF kr
theorem Ziy (N:Nat)(a0_:Z6)(a1_:(List Z8))(a2_:Int)(r:Bool)(h:ZdN N a0_ a1_ a2_=some r):Zbs Try.prog 40 [.agg (Z5 a0_),Z9 false a1_,iv a2_] (bv r):=by
 unfold ZdN at h
 have hH  := hp0
 refine ZaO ZwF rfl rfl (Zaw _ _ _ ?_) rfl
 refine sq (rg Z7.f (tq (sq ?_)))
 obtain ⟨e1,he1,h⟩:=bs h
 obtain ⟨e2,he2,h⟩:=bs h
 refine rq (Z7.u 4 (Zaf (ys:=[Z9 false a1_,iv a2_]) (h:=Zai Zal he1)) (Z7.u 1 (Zbp (Zay (sz:=2) (off:=0) (cs:=[.int .i64 e1.Stream]) (r:=iv e1.Stream) Zal he1)) (Z7.u 0 (Zaf (ys:=[Zak false a0_.Periods,iv e1.Stream]) (h:=Zai eI64 he2)) (Z7.u 0 (Zbp (Zay (sz:=1) (off:=0) (cs:=[.int .i64 e2]) (r:=iv e2) eI64 he2)) Z7.f)))) (tq (sq (sq ?_)))
 obtain ⟨e3,he3,h⟩:=bs h
 refine rg (Z7.u 2 (Zaf (ys:=[Z9 false a1_,iv a2_]) (h:=Zai Zal he3)) (Z7.u 1 (Zay (sz:=2) (off:=1) (cs:=[.sl 4 false (List.map ZaB e3.Arms)]) (r:=Zau false e3.Arms) Zal he3) (Z7.u 0 (Zaf (ys:=[Zau false e3.Arms]) (h:=Zao ZaB)) Z7.f))) (tq (bk ?_))
 obtain ⟨a3,a1,h⟩:=bs h
 refine Zbc ((ZaV (λ(x:Int×Int) s=>s=⟨[(1,Z9 false a1_),(2,iv a2_),(3,.loc 3 0),(7,iv e2),(8,iv x.1),(24,Zau false e3.Arms),(25,iv ((List.length e3.Arms:Nat):Int)),(26,iv x.2)],[(3,(Z5 a0_))],[]⟩) (λx:Int×Int=>Zb1 N a0_ a1_ a2_ e2 e3 x.1 x.2) (λ(p:(Int)⊕(Bool)) e s=>match p with|(.inl p)=>e=.exit 0/\(s=⟨[(7,iv e2),(8,iv p)],[],[]⟩)|(.inr p)=>e=.ret/\∃ xs,resL s i40.res=some xs/\ZbL xs=bv p) ?_ N _ a3 _ a1 kr).mono ?_)
 ·clear h a1
  rintro ⟨i4,i5⟩ o s h hR
  obtain rfl:=hR
  replace h:Zb1 N a0_ a1_ a2_ e2 e3 i4 i5=some o:=h
  unfold Zb1 at h
  refine sq (rg Z7.f (tq (sq (it h (λac h=>?_) (λac h=>?_)))))
  ·refine sk (tq (kq (sq (bk (sq ?_)))))
   obtain ⟨a0,a2,h⟩:=bs h
   refine rg (Z7.u 0 (Zaf (ys:=[Zau false e3.Arms,iv i5]) (h:=Zai ZaB a2)) (Z7.u 0 (Zay (sz:=4) (off:=0) (cs:=[.int .i64 a0.From,.int .i64 a0.To,.int .i64 a0.By,.int .i64 a0.Next]) (r:=.agg (ZaQ a0)) ZaB a2) Z7.f)) (tq (sq (sq ?_)))
   obtain ⟨ae,hj,h⟩:=bs h
   refine rgR (λs=>s=⟨[(1,Z9 false a1_),(2,iv a2_),(3,.loc 3 0),(7,iv e2),(10,.loc 10 0),(24,Zau false e3.Arms),(25,iv ((List.length e3.Arms:Nat):Int)),(26,iv i5),(54,bv ae)],[(3,(Z5 a0_)),(10,(ZaQ a0))],[]⟩) ?_ ?_
   ·clear h
    rcases ZaJ hj with ⟨ab,hj⟩|⟨aa,hj⟩
    ·obtain rfl:=Zar hj
     exact (EP.u 3 (Zad (c:=(a0.From != i4)) (h:=ab)) (EP.f kr))
    refine (EP.u 3 (Zad (c:=(a0.From != i4)) (h:=aa)) ?_)
    rcases ZaJ hj with ⟨a9,hj⟩|⟨a8,hj⟩
    ·obtain rfl:=Zar hj
     exact (EP.u 5 (Zad (c:=(decide (a0.To<=a0.From))) (h:=a9)) (EP.f kr))
    refine (EP.u 5 (Zad (c:=(decide (a0.To<=a0.From))) (h:=a8)) ?_)
    rcases ZaJ hj with ⟨a7,hj⟩|⟨a6,hj⟩
    ·obtain rfl:=Zar hj
     exact (EP.u 5 (Zad (c:=(decide (a0.To>e2))) (h:=a7)) (EP.f kr))
    refine (EP.u 5 (Zad (c:=(decide (a0.To>e2))) (h:=a6)) ?_)
    obtain ⟨ad,a4,hj⟩:=bs hj
    obtain rfl:=Zar hj
    exact (EP.v 6 (ZaM (hc:=Zgp N a0_ a1_ a2_ a0 ad a4)) (EP.f kr))
   clear hj
   rintro s hR
   obtain rfl:=hR
   refine tq (it h (λa5 h=>?_) (λa5 h=>?_))
   ·refine sq (rg Z7.f (tq (rt (tr (br (tr ?_))))))
    cases h
    exact ⟨_,rfl,rfl,ZaF kr⟩
   refine sk (tq (kq (rg Z7.f (bn (tq (kq (rg Z7.f ?_)))))))
   cases h
   exact ⟨_,rfl,kr⟩
  refine kq (xq (tx ?_))
  cases h
  exact ⟨_,rfl,rfl,kr⟩
 rintro e s hq
 rcases a3 with ag|af
 ·dsimp only at h hq
  obtain ⟨rfl,hR⟩:=hq
  obtain rfl:=hR
  refine bx (tq (sq (rg Z7.f (tq (rt ?_)))))
  cases h
  exact ZaF kr
 dsimp only at h hq
 obtain ⟨rfl,hq⟩:=hq
 refine br (tr ?_)
 cases h
 exact hq
theorem ZhJ (N:Nat)(a0_:Int)(a1_:(List Int))(r:Int)(h:Zdd N a0_ a1_=some r):Zbs Try.prog 55 [iv a0_,Zak false a1_] (iv r):=by
 unfold Zdd at h
 have hH  := hp0
 refine ZaO Zws rfl rfl (Zaw _ _ _ ?_) rfl
 refine sq (rg Z7.f (tq (sq (rg Z7.f (tq (sq (sq (rg (Z7.u 1 (Zaf (ys:=[Zak false a1_]) (h:=Zao eI64)) Z7.f) (tq (bk ?_))))))))))
 obtain ⟨a8,a0,h⟩:=bs h
 refine Zbc ((ZaV (λ(x:Int×Int) s=>s=⟨[(0,iv a0_),(5,iv x.1),(8,Zak false a1_),(9,iv ((List.length a1_:Nat):Int)),(10,iv x.2)],[],[]⟩) (λx:Int×Int=>Za7 N a0_ a1_ x.1 x.2) (λ(p:Int) e s=>e=.exit 0/\(s=⟨[(5,iv p)],[],[]⟩)) ?_ N _ a8 _ a0 kr).mono ?_)
 ·clear h a0
  rintro ⟨i1,i2⟩ o s h hR
  obtain rfl:=hR
  replace h:Za7 N a0_ a1_ i1 i2=some o:=h
  unfold Za7 at h
  refine sq (rg Z7.f (tq (sq (it h (λa7 h=>?_) (λa7 h=>?_)))))
  ·refine sk (tq (kq (sq (bk (sq ?_)))))
   obtain ⟨a2,a1,h⟩:=bs h
   refine rg (Z7.u 0 (Zaf (ys:=[Zak false a1_,iv i2]) (h:=Zai eI64 a1)) (Z7.u 0 (Zay (sz:=1) (off:=0) (cs:=[.int .i64 a2]) (r:=iv a2) eI64 a1) Z7.f)) (tq (sq ?_))
   obtain ⟨a3,a4,h⟩:=bs h
   obtain ⟨a9,a5,h⟩:=bs h
   refine rg (Z7.v 3 (ZaM (hc:=Zfy N i1 a2 a3 a4)) (Z7.u 0 (Zaf (ys:=[iv i1,iv a3]) (h:=Znd a5)) Z7.f)) (tq (sq (rg Z7.f (tq (it h (λa6 h=>?_) (λa6 h=>?_))))))
   ·refine kq (xq (bo (tx ?_)))
    cases h
    exact ⟨_,rfl,rfl,kr⟩
   refine sk (bn (tq (kq (rg Z7.f ?_))))
   cases h
   exact ⟨_,rfl,kr⟩
  refine kq (xq (tx ?_))
  cases h
  exact ⟨_,rfl,rfl,kr⟩
 rintro e s hq
 obtain ⟨rfl,hR⟩:=hq
 obtain rfl:=hR
 refine bx (tq (sq (rg Z7.f (tq (rt ?_)))))
 cases h
 exact ZaF kr
theorem ZhH (N:Nat)(a0_:Zae)(a1_:Zae)(r:Int×Int×Int)(h:Zdc N a0_ a1_=some r):Zbs Try.prog 58 [.agg (ZbP a0_),.agg (ZbP a1_)] (.tup [iv r.1,iv r.2.1,iv r.2.2]):=by
 unfold Zdc at h
 have hH  := hp0
 refine ZaO Zwr rfl rfl (Zaw _ _ _ ?_) rfl
 refine sq (rg Z7.f (tq (sq ?_)))
 obtain ⟨r1,hr1,h⟩:=bs h
 refine rg (Z7.v 4 (ZaM (hc:=Zfy N a0_.Period a1_.Period r1 hr1)) Z7.f) (tq (sq (rq Z7.f (tq (rt ?_)))))
 cases h
 exact ZaF kr
theorem ZhP (N:Nat)(a0_:Z6)(a1_:(List Z8))(r:Bool)(h:Zde N a0_ a1_=some r):Zbs Try.prog 29 [.agg (Z5 a0_),Z9 false a1_] (bv r):=by
 unfold Zde at h
 have hH  := hp0
 refine ZaO ZwN rfl rfl (Zaw _ _ _ ?_) rfl
 refine sq (rg Z7.f (tq (sq (sq (rgX ⟨[(1,Z9 false a1_),(2,.loc 2 0),(19,bv ((decide (((List.length a1_:Nat):Int)<1))||(decide (((List.length a1_:Nat):Int)>2000))))],[(2,(Z5 a0_))],[]⟩ ?_ ?_)))))
 ·refine (EP.u 1 (Zaf (ys:=[Z9 false a1_]) (h:=Zao Zal)) ?_)
  rcases Bool.eq_false_or_eq_true (decide (((List.length a1_:Nat):Int)<1)) with hc1|hc2
  ·exact (EP.u 0 (Zad (c:=(decide (((List.length a1_:Nat):Int)<1))) (h:=hc1)) (EP.f (by simp only [hc1];kernel_rfl)))
  exact (EP.u 0 (Zad (c:=(decide (((List.length a1_:Nat):Int)<1))) (h:=hc2)) (EP.u 2 (Zaf (ys:=[Z9 false a1_]) (h:=Zao Zal)) (EP.f (by simp only [hc2];kernel_rfl))))
 refine tq (it h (λhc3 h=>?_) (λhc3 h=>?_))
 ·refine sq (rg Z7.f (tq (rt (tr ?_))))
  cases h
  exact ZaF kr
 refine sk (tq (kq (sq ?_)))
 obtain ⟨l6,hl6,h⟩:=bs h
 obtain ⟨a4,H5,ha4,hH5,ha4b,hH⟩:=HP.make eI64 hH hl6
 replace hH:HP _ [.arr a4 1 false (List.map eI64 l6)]:=hH
 have hfa4:=ZbH (HP.get hH 0 rfl)
 refine rgS ⟨[(1,Z9 false a1_),(2,.loc 2 0),(5,a4)],[(2,(Z5 a0_))],H5⟩ (Z7.u 1 (Zaf (ys:=[Z9 false a1_]) (h:=Zao Zal)) (Z7.h 0 (Zlh (H:=[]) (zero:=[.int .i64 0]) (bytes:=8) kr kr kr ha4 hH5 ha4b) Z7.f)) (by cases hfa4<;>kernel_rfl) (tq (sq (sq (rgS ⟨[(1,Z9 false a1_),(2,.loc 2 0),(5,a4),(23,Z9 false a1_),(24,iv ((List.length a1_:Nat):Int)),(25,iv 0)],[(2,(Z5 a0_))],H5⟩ (Z7.u 1 (Zaf (ys:=[Z9 false a1_]) (h:=Zao Zal)) Z7.f) (by cases hfa4<;>kernel_rfl) (tq (Zrn (bk ?_)))))))
 obtain ⟨aD,ak,h⟩:=bs h
 refine Zbc ((ZaV (λ(x:Int×(List Int)) s=>∃ (a7:AV) (H8:List HO),s=⟨[(1,Z9 false a1_),(2,.loc 2 0),(5,a7),(23,Z9 false a1_),(24,iv ((List.length a1_:Nat):Int)),(25,iv x.1)],[(2,(Z5 a0_))],H8⟩/\HP H8 [.arr a7 1 false (List.map eI64 x.2)]) (λx:Int×(List Int)=>Zbw N a0_ a1_ x.1 x.2) (λ(p:((List Int))⊕(Bool)) e s=>match p with|(.inl p)=>e=.exit 0/\(∃ (ae:AV) (aB:List HO),s=⟨[(5,ae)],[],aB⟩/\HP aB [.arr ae 1 false (List.map eI64 p)])|(.inr p)=>e=.ret/\∃ xs,resL s i29.res=some xs/\ZbL xs=bv p) ?_ N _ aD _ ak ⟨a4,H5,(by show _=_;cases hfa4<;>kernel_rfl),(HP.pick hH [0] rfl)⟩).mono ?_)
 ·clear h ak
  rintro ⟨i9,bt⟩ o s h hR
  obtain ⟨a7,H8,rfl,hH⟩:=hR
  replace hH:HP _ [.arr a7 1 false (List.map eI64 bt)]:=hH
  have hfa7:=ZbH (HP.get hH 0 rfl)
  replace h:Zbw N a0_ a1_ i9 bt=some o:=h
  unfold Zbw at h
  refine sq (rgS ⟨[(1,Z9 false a1_),(2,.loc 2 0),(5,a7),(23,Z9 false a1_),(24,iv ((List.length a1_:Nat):Int)),(25,iv i9),(26,bv (decide (i9<((List.length a1_:Nat):Int))))],[(2,(Z5 a0_))],H8⟩ Z7.f (by cases hfa7<;>kernel_rfl) (tq (sq (it h (λba h=>?_) (λba h=>?_)))))
  ·refine sk (tq (kq (sq (bk (sq ?_)))))
   obtain ⟨a0,aJ,h⟩:=bs h
   refine rgS ⟨[(1,Z9 false a1_),(2,.loc 2 0),(5,a7),(6,iv i9),(7,.loc 7 0),(23,Z9 false a1_),(24,iv ((List.length a1_:Nat):Int)),(25,iv i9)],[(2,(Z5 a0_)),(7,(Ze9 a0))],H8⟩ (Z7.u 1 (Zaf (ys:=[Z9 false a1_,iv i9]) (h:=Zai Zal aJ)) (Z7.u 0 (Zay (sz:=2) (off:=0) (cs:=[.int .i64 a0.Stream,.sl 4 false (List.map ZaB a0.Arms)]) (r:=.agg (Ze9 a0)) Zal aJ) (Z7.f (h:=(by cases hfa7<;>kernel_rfl))))) (by cases hfa7<;>kernel_rfl) (tq (sq (sq ?_)))
   obtain ⟨be,hj,h⟩:=bs h
   refine rgR (λs=>s=⟨[(1,Z9 false a1_),(2,.loc 2 0),(5,a7),(7,.loc 7 0),(23,Z9 false a1_),(24,iv ((List.length a1_:Nat):Int)),(25,iv i9),(47,bv be)],[(2,(Z5 a0_)),(7,(Ze9 a0))],H8⟩) ?_ ?_
   ·clear h
    rcases ZaJ hj with ⟨b9,hj⟩|⟨b2,hj⟩
    ·obtain rfl:=Zar hj
     exact (EP.u 2 (Zad (c:=(decide (a0.Stream<0))) (h:=b9)) (EP.f (by show _=_;cases hfa7<;>kernel_rfl)))
    refine (EP.u 2 (Zad (c:=(decide (a0.Stream<0))) (h:=b2)) (EP.u 5 (Zaf (ys:=[Zak false a0_.Periods]) (h:=Zao eI64)) ?_))
    rcases ZaJ hj with ⟨b1,hj⟩|⟨b0,hj⟩
    ·obtain rfl:=Zar hj
     exact (EP.u 0 (Zad (c:=(decide (a0.Stream≥((List.length a0_.Periods:Nat):Int)))) (h:=b1)) (EP.f (by show _=_;cases hfa7<;>kernel_rfl)))
    refine (EP.u 0 (Zad (c:=(decide (a0.Stream≥((List.length a0_.Periods:Nat):Int)))) (h:=b0)) ?_)
    obtain ⟨bd,aW,hj⟩:=bs hj
    obtain rfl:=Zar hj
    exact (EP.v 5 (ZaM (hc:=Ziy N a0_ a1_ i9 bd aW)) (EP.f (by show _=_;cases hfa7<;>kernel_rfl)))
   clear hj
   rintro s hR
   obtain rfl:=hR
   refine tq (it h (λaZ h=>?_) (λaZ h=>?_))
   ·refine sq (rgS ⟨[(4,bv false)],[],H8⟩ Z7.f (by cases hfa7<;>kernel_rfl) ?_)
    replace hH:HP _ []:=HP.pick hH [] rfl
    refine tq (rt (tr (br (tr ?_))))
    cases h
    exact ⟨_,rfl,rfl,ZaF kr⟩
   refine sk (tq (kq (sq (rgS ⟨[(1,Z9 false a1_),(2,.loc 2 0),(5,a7),(23,Z9 false a1_),(24,iv ((List.length a1_:Nat):Int)),(25,iv i9),(49,Zau false a0.Arms),(50,iv ((List.length a0.Arms:Nat):Int)),(51,iv 0)],[(2,(Z5 a0_))],H8⟩ (Z7.u 2 (Zaf (ys:=[Zau false a0.Arms]) (h:=Zao ZaB)) Z7.f) (by cases hfa7<;>kernel_rfl) (tq (bk ?_))))))
   obtain ⟨aE,al,h⟩:=bs h
   refine Zbc ((ZaV (λ(x:Int×(List Int)) s=>∃ (a3:AV) (a6:List HO),s=⟨[(1,Z9 false a1_),(2,.loc 2 0),(5,a3),(23,Z9 false a1_),(24,iv ((List.length a1_:Nat):Int)),(25,iv i9),(49,Zau false a0.Arms),(50,iv ((List.length a0.Arms:Nat):Int)),(51,iv x.1)],[(2,(Z5 a0_))],a6⟩/\HP a6 [.arr a3 1 false (List.map eI64 x.2)]) (λx:Int×(List Int)=>Zbv N a0 x.1 x.2) (λ(p:(List Int)) e s=>e=.exit 2/\(∃ (aa:AV) (ad:List HO),s=⟨[(1,Z9 false a1_),(2,.loc 2 0),(5,aa),(23,Z9 false a1_),(24,iv ((List.length a1_:Nat):Int)),(25,iv i9)],[(2,(Z5 a0_))],ad⟩/\HP ad [.arr aa 1 false (List.map eI64 p)])) ?_ N _ aE _ al ⟨a7,H8,(by show _=_;cases hfa7<;>kernel_rfl),(HP.pick hH [0] rfl)⟩).mono ?_)
   ·clear h al
    rintro ⟨ab,aM⟩ o s h hR
    obtain ⟨a3,a6,rfl,hH⟩:=hR
    replace hH:HP _ [.arr a3 1 false (List.map eI64 aM)]:=hH
    have a1:=ZbH (HP.get hH 0 rfl)
    replace h:Zbv N a0 ab aM=some o:=h
    unfold Zbv at h
    refine sq (rgS ⟨[(1,Z9 false a1_),(2,.loc 2 0),(5,a3),(23,Z9 false a1_),(24,iv ((List.length a1_:Nat):Int)),(25,iv i9),(49,Zau false a0.Arms),(50,iv ((List.length a0.Arms:Nat):Int)),(51,iv ab),(52,bv (decide (ab<((List.length a0.Arms:Nat):Int))))],[(2,(Z5 a0_))],a6⟩ Z7.f (by cases a1<;>kernel_rfl) (tq (sq (it h (λaU h=>?_) (λaU h=>?_)))))
    ·refine sk (tq (kq ?_))
     obtain ⟨aG,am,h⟩:=bs h
     refine Zen [1,2,5,23,24,25,49,50,51] (λs=>∃ (a9:AV) (ac:List HO),s=⟨[(1,Z9 false a1_),(2,.loc 2 0),(5,a9),(23,Z9 false a1_),(24,iv ((List.length a1_:Nat):Int)),(25,iv i9),(49,Zau false a0.Arms),(50,iv ((List.length a0.Arms:Nat):Int)),(51,iv ab)],[(2,(Z5 a0_))],ac⟩/\HP ac [.arr a9 1 false (List.map eI64 aG)]) ?_ ?_
     ·clear h
      have h:=am
      refine bk (sq ?_)
      obtain ⟨a2,aw,h⟩:=bs h
      refine rgS ⟨[(1,Z9 false a1_),(2,.loc 2 0),(5,a3),(9,.loc 9 0),(23,Z9 false a1_),(24,iv ((List.length a1_:Nat):Int)),(25,iv i9),(49,Zau false a0.Arms),(50,iv ((List.length a0.Arms:Nat):Int)),(51,iv ab)],[(2,(Z5 a0_)),(9,(ZaQ a2))],a6⟩ (Z7.u 0 (Zaf (ys:=[Zau false a0.Arms,iv ab]) (h:=Zai ZaB aw)) (Z7.u 0 (Zay (sz:=4) (off:=0) (cs:=[.int .i64 a2.From,.int .i64 a2.To,.int .i64 a2.By,.int .i64 a2.Next]) (r:=.agg (ZaQ a2)) ZaB aw) (Z7.f (h:=(by cases a1<;>kernel_rfl))))) (by cases a1<;>kernel_rfl) (tq (sq (rgS ⟨[(1,Z9 false a1_),(2,.loc 2 0),(5,a3),(9,.loc 9 0),(23,Z9 false a1_),(24,iv ((List.length a1_:Nat):Int)),(25,iv i9),(49,Zau false a0.Arms),(50,iv ((List.length a0.Arms:Nat):Int)),(51,iv ab),(57,bv (a2.By==(-1)))],[(2,(Z5 a0_)),(9,(ZaQ a2))],a6⟩ Z7.f (by cases a1<;>kernel_rfl) (tq (it h (λaT h=>?_) (λaT h=>?_))))))
      ·obtain ⟨a5,av,h⟩:=bs h
       obtain ⟨bi,bc,_,aX,aA,aY,aq⟩:=HP.elem (k:=0) (a:=a3) (sz:=1) (frz:=false) eI64 hH rfl av
       obtain ⟨bu,au,h⟩:=bs h
       obtain ⟨bf,bb,_,ao,az,ap,an⟩:=HP.elem (k:=0) (a:=a3) (sz:=1) (frz:=false) eI64 hH rfl au
       obtain ⟨aL,aV,hH⟩:=HP.setRow (k:=0) (off:=0) (cs:=[iv (w64 (a5+1))]) (ps:=[.int .i64 (w64 (a5+1))]) (e':=(w64 (a5+1))) eI64 hH rfl ap az (ao rfl) au kr kr
       replace hH:HP _ [.arr a3 1 false (List.map eI64 (List.set aM (Int.toNat a2.Next) (w64 (a5+1))))]:=hH
       refine rgS ⟨[(1,Z9 false a1_),(2,.loc 2 0),(5,a3),(23,Z9 false a1_),(24,iv ((List.length a1_:Nat):Int)),(25,iv i9),(49,Zau false a0.Arms),(50,iv ((List.length a0.Arms:Nat):Int)),(51,iv ab)],[(2,(Z5 a0_))],aL⟩ (Z7.u 3 (Zaf (ys:=[a3,iv a2.Next]) (by cases a1<;>kernel_rfl) (aq .i64)) (Z7.u 0 (ZfX (H:=a6) (off:=0) (cs:=[.int .i64 a5]) (r:=iv a5) eI64 av aA) (Z7.u 1 (Zaf (ys:=[a3,iv a2.Next]) (by cases a1<;>kernel_rfl) (an .i64)) (Z7.o 0 (Zda (H:=a6) (v:=iv (w64 (a5+1))) (hw:=aV)) Z7.f)))) (by cases a1<;>kernel_rfl) (bn ?_)
       cases h
       exact ⟨rfl,⟨a3,aL,(by show _=_;cases a1<;>kernel_rfl),(HP.pick hH [0] rfl)⟩⟩
      refine sk (bn ?_)
      cases h
      exact ⟨rfl,⟨a3,a6,(by show _=_;cases a1<;>kernel_rfl),(HP.pick hH [0] rfl)⟩⟩
     clear am
     rintro s hR
     obtain ⟨a9,ac,rfl,hH⟩:=hR
     replace hH:HP _ [.arr a9 1 false (List.map eI64 aG)]:=hH
     have ag:=ZbH (HP.get hH 0 rfl)
     refine rgS ⟨[(1,Z9 false a1_),(2,.loc 2 0),(5,a9),(23,Z9 false a1_),(24,iv ((List.length a1_:Nat):Int)),(25,iv i9),(49,Zau false a0.Arms),(50,iv ((List.length a0.Arms:Nat):Int)),(51,iv (w64 (ab+1)))],[(2,(Z5 a0_))],ac⟩ Z7.f (by cases ag<;>kernel_rfl) ?_
     cases h
     exact ⟨_,rfl,⟨a9,ac,(by show _=_;cases ag<;>kernel_rfl),(HP.pick hH [0] rfl)⟩⟩
    refine kq (xq (tx ?_))
    cases h
    exact ⟨_,rfl,rfl,⟨a3,a6,(by show _=_;cases a1<;>kernel_rfl),(HP.pick hH [0] rfl)⟩⟩
   rintro e s hq
   obtain ⟨rfl,hR⟩:=hq
   obtain ⟨aa,ad,rfl,hH⟩:=hR
   replace hH:HP _ [.arr aa 1 false (List.map eI64 aE)]:=hH
   have ai:=ZbH (HP.get hH 0 rfl)
   refine bx (bn (tq (kq (rgS ⟨[(1,Z9 false a1_),(2,.loc 2 0),(5,aa),(23,Z9 false a1_),(24,iv ((List.length a1_:Nat):Int)),(25,iv (w64 (i9+1)))],[(2,(Z5 a0_))],ad⟩ Z7.f (by cases ai<;>kernel_rfl) ?_))))
   cases h
   exact ⟨_,rfl,⟨aa,ad,(by show _=_;cases ai<;>kernel_rfl),(HP.pick hH [0] rfl)⟩⟩
  refine kq (xq (tx ?_))
  cases h
  exact ⟨_,rfl,rfl,⟨a7,H8,(by show _=_;cases hfa7<;>kernel_rfl),(HP.pick hH [0] rfl)⟩⟩
 rintro e s hq
 rcases aD with af|bl
 ·dsimp only at h hq
  obtain ⟨rfl,hR⟩:=hq
  obtain ⟨ae,aB,rfl,hH⟩:=hR
  replace hH:HP _ [.arr ae 1 false (List.map eI64 af)]:=hH
  have bj:=ZbH (HP.get hH 0 rfl)
  refine bx ?_
  obtain ⟨ax,_,ay,hH⟩:=HP.frz (k:=0) (a:=ae) (sz:=1) (frz:=false) eI64 hH rfl
  replace hH:HP _ [.arr ae 1 true (List.map eI64 af)]:=hH
  refine ⟨⟨[(5,Zak false af)],[],ax⟩,(ZmD 5 (H:=aB) (a:=ae) (by decide) kr kr ay kr),?_⟩
  replace hH:HP _ []:=HP.pick hH [] rfl
  refine tq (sq (sq ?_))
  obtain ⟨a8,aQ,h⟩:=bs h
  refine rg (Z7.u 1 (Zaf (ys:=[Zak false af,iv 1]) (h:=Zjl eI64 aQ)) (Z7.u 0 (Zaf (ys:=[Zak false a8]) (h:=Zao eI64)) Z7.f)) (tq (bk ?_))
  obtain ⟨aC,aj,h⟩:=bs h
  refine Zbc ((ZaV (λ(x:Int) s=>s=⟨[(68,Zak false a8),(69,iv ((List.length a8:Nat):Int)),(70,iv x)],[],ax⟩) (λx:Int=>ZbM N a8 x) (λ(p:(Unit)⊕(Bool)) e s=>match p with|(.inl p)=>e=.exit 4/\(s=⟨[],[],ax⟩)|(.inr p)=>e=.ret/\∃ xs,resL s i29.res=some xs/\ZbL xs=bv p) ?_ N _ aC _ aj kr).mono ?_)
  ·clear h aj
   rintro aI o s h hR
   obtain rfl:=hR
   replace h:ZbM N a8 aI=some o:=h
   unfold ZbM at h
   refine sq (rg Z7.f (tq (sq (it h (λaS h=>?_) (λaS h=>?_)))))
   ·refine sk (tq (kq (sq (bk (sq ?_)))))
    obtain ⟨aK,ar,h⟩:=bs h
    refine rg (Z7.u 0 (Zaf (ys:=[Zak false a8,iv aI]) (h:=Zai eI64 ar)) (Z7.u 0 (Zay (sz:=1) (off:=0) (cs:=[.int .i64 aK]) (r:=iv aK) eI64 ar) Z7.f)) (tq (sq (rg Z7.f (tq (it h (λaR h=>?_) (λaR h=>?_))))))
    ·refine sq (rg Z7.f (tq (rt (br (tr ?_)))))
     cases h
     exact ⟨_,rfl,rfl,ZaF kr⟩
    refine sk (bn (tq (kq (rg Z7.f ?_))))
    cases h
    exact ⟨_,rfl,kr⟩
   refine kq (xq (tx ?_))
   cases h
   exact ⟨_,rfl,rfl,kr⟩
  rintro e s hq
  rcases aC with bq|bm
  ·dsimp only at h hq
   obtain ⟨rfl,hR⟩:=hq
   obtain rfl:=hR
   refine bx (tq (sq (rg Z7.f (tq (rt ?_)))))
   cases h
   exact ZaF kr
  dsimp only at h hq
  obtain ⟨rfl,hq⟩:=hq
  refine br (tr ?_)
  cases h
  exact hq
 dsimp only at h hq
 obtain ⟨rfl,hq⟩:=hq
 refine br (pur (tr ?_))
 cases h
 exact hq
theorem Zg5 (N:Nat)(a0_:(List Zae))(r:Int×Int)(h:ZcL N a0_=some r):Zbs Try.prog 44 [ZaR false a0_] (.tup [iv r.1,iv r.2]):=by
 unfold ZcL at h
 have hH  := hp0
 refine ZaO ZwC rfl rfl (Zaw _ _ _ ?_) rfl
 refine sq (rg Z7.f (tq (sq (sq ?_))))
 obtain ⟨r1,hr1,h⟩:=bs h
 refine rg (Z7.v 1 (ZaM (hc:=ZfI N a0_ r1 hr1)) Z7.f) (tq (sq (rg Z7.f (tq (it h (λhc2 h=>?_) (λhc2 h=>?_))))))
 ·refine sq (rg Z7.f (tq (rt (tr ?_))))
  cases h
  exact ZaF kr
 refine sk (tq (kq (sq ?_)))
 obtain ⟨l5,hl5,h⟩:=bs h
 obtain ⟨a3,H4,ha3,hH4,ha3b,hH⟩:=HP.make eI64 hH hl5
 replace hH:HP _ [.arr a3 1 false (List.map eI64 l5)]:=hH
 have hfa3:=ZbH (HP.get hH 0 rfl)
 refine rgS ⟨[(0,ZaR false a0_),(5,a3)],[],H4⟩ (Z7.u 1 (Zaf (ys:=[ZaR false a0_]) (h:=Zao ZaU)) (Z7.h 0 (Zlh (H:=[]) (zero:=[.int .i64 0]) (bytes:=8) kr kr kr ha3 hH4 ha3b) Z7.f)) (by cases hfa3<;>kernel_rfl) (tq (sq (sq (rgS ⟨[(5,a3),(17,ZaR false a0_),(18,iv ((List.length a0_:Nat):Int)),(19,iv 0)],[],H4⟩ (Z7.u 1 (Zaf (ys:=[ZaR false a0_]) (h:=Zao ZaU)) Z7.f) (by cases hfa3<;>kernel_rfl) (tq (bk ?_))))))
 obtain ⟨a4,ab,h⟩:=bs h
 refine Zbc ((ZaV (λ(x:Int×(List Int)) s=>∃ (a6:AV) (H7:List HO),s=⟨[(5,a6),(17,ZaR false a0_),(18,iv ((List.length a0_:Nat):Int)),(19,iv x.1)],[],H7⟩/\HP H7 [.arr a6 1 false (List.map eI64 x.2)]) (λx:Int×(List Int)=>Zbm N a0_ x.1 x.2) (λ(p:(List Int)) e s=>e=.exit 0/\(∃ (a1:AV) (aa:List HO),s=⟨[(5,a1)],[],aa⟩/\HP aa [.arr a1 1 false (List.map eI64 p)])) ?_ N _ a4 _ ab ⟨a3,H4,(by show _=_;cases hfa3<;>kernel_rfl),(HP.pick hH [0] rfl)⟩).mono ?_)
 ·clear h ab
  rintro ⟨i8,l9⟩ o s h hR
  obtain ⟨a6,H7,rfl,hH⟩:=hR
  replace hH:HP _ [.arr a6 1 false (List.map eI64 l9)]:=hH
  have hfa6:=ZbH (HP.get hH 0 rfl)
  replace h:Zbm N a0_ i8 l9=some o:=h
  unfold Zbm at h
  refine sq (rgS ⟨[(5,a6),(17,ZaR false a0_),(18,iv ((List.length a0_:Nat):Int)),(19,iv i8),(20,bv (decide (i8<((List.length a0_:Nat):Int))))],[],H7⟩ Z7.f (by cases hfa6<;>kernel_rfl) (tq (sq (it h (λak h=>?_) (λak h=>?_)))))
  ·refine sk (tq (kq (sq (bk (sq ?_)))))
   obtain ⟨a0,ad,h⟩:=bs h
   refine rgS ⟨[(5,a6),(6,iv i8),(7,.loc 7 0),(17,ZaR false a0_),(18,iv ((List.length a0_:Nat):Int)),(19,iv i8)],[(7,(ZbP a0))],H7⟩ (Z7.u 1 (Zaf (ys:=[ZaR false a0_,iv i8]) (h:=Zai ZaU ad)) (Z7.u 0 (Zay (sz:=3) (off:=0) (cs:=[.int .i64 a0.Period,.int .i64 a0.From,.int .i64 a0.Long]) (r:=.agg (ZbP a0)) ZaU ad) (Z7.f (h:=(by cases hfa6<;>kernel_rfl))))) (by cases hfa6<;>kernel_rfl) (tq ?_)
   obtain ⟨aq,ac,h⟩:=bs h
   obtain ⟨ap,am,_,a8,ae,a9,a7⟩:=HP.elem (k:=0) (a:=a6) (sz:=1) (frz:=false) eI64 hH rfl ac
   obtain ⟨af,al,hH⟩:=HP.setRow (k:=0) (off:=0) (cs:=[iv a0.Period]) (ps:=[.int .i64 a0.Period]) (e':=a0.Period) eI64 hH rfl a9 ae (a8 rfl) ac kr kr
   replace hH:HP _ [.arr a6 1 false (List.map eI64 (List.set l9 (Int.toNat i8) a0.Period))]:=hH
   refine rgS ⟨[(5,a6),(17,ZaR false a0_),(18,iv ((List.length a0_:Nat):Int)),(19,iv i8)],[],af⟩ (Z7.u 4 (Zaf (ys:=[a6,iv i8]) (by cases hfa6<;>kernel_rfl) (a7 .i64)) (Z7.o 0 (Zda (H:=H7) (v:=iv a0.Period) (hw:=al)) Z7.f)) (by cases hfa6<;>kernel_rfl) (bn (tq (rgS ⟨[(5,a6),(17,ZaR false a0_),(18,iv ((List.length a0_:Nat):Int)),(19,iv (w64 (i8+1)))],[],af⟩ Z7.f (by cases hfa6<;>kernel_rfl) ?_)))
   cases h
   exact ⟨_,rfl,⟨a6,af,(by show _=_;cases hfa6<;>kernel_rfl),(HP.pick hH [0] rfl)⟩⟩
  refine kq (xq (tx ?_))
  cases h
  exact ⟨_,rfl,rfl,⟨a6,H7,(by show _=_;cases hfa6<;>kernel_rfl),(HP.pick hH [0] rfl)⟩⟩
 rintro e s hq
 obtain ⟨rfl,hR⟩:=hq
 obtain ⟨a1,aa,rfl,hH⟩:=hR
 replace hH:HP _ [.arr a1 1 false (List.map eI64 a4)]:=hH
 have a2:=ZbH (HP.get hH 0 rfl)
 refine bx (tq (sq ?_))
 obtain ⟨ag,ai,h⟩:=bs h
 obtain ⟨ao,an,a5,hH⟩:=HP.frz (k:=0) (a:=a1) (sz:=1) (frz:=false) eI64 hH rfl
 replace hH:HP _ [.arr a1 1 true (List.map eI64 a4)]:=hH
 refine rgS ⟨[(8,iv ag)],[],ao⟩ (Z7.v 1 (ZlW (H:=aa) (ys:=[iv 960,a1]) (by cases a2<;>kernel_rfl) (by cases a2<;>kernel_rfl) (Zh9 rfl (Zh9 a5 Zmg)) (ZhJ N 960 a4 ag ai)) Z7.f) kr ?_
 replace hH:HP _ []:=HP.pick hH [] rfl
 refine tq (sq (sq (rg Z7.f (tq (it h (λaj h=>?_) (λaj h=>?_))))))
 ·refine sq (rg Z7.f (tq (rt (tr ?_))))
  cases h
  exact ZaF kr
 refine sk (tq (kq (sq (rg Z7.f (tq (rt ?_))))))
 cases h
 exact ZaF kr
theorem Zg3 (N:Nat)(a0_:Zae)(a1_:Zae)(r:Bool)(h:ZcK N a0_ a1_=some r):Zbs Try.prog 49 [.agg (ZbP a0_),.agg (ZbP a1_)] (bv r):=by
 unfold ZcK at h
 have hH  := hp0
 refine ZaO Zwy rfl rfl (Zaw _ _ _ ?_) rfl
 refine sq (rg Z7.f (tq (sq (sq (rg Z7.f (tq (it h (λhc1 h=>?_) (λhc1 h=>?_))))))))
 ·refine sq (rg Z7.f (tq (rt (tr ?_))))
  cases h
  exact ZaF kr
 refine sk (tq (kq (sq ?_)))
 obtain ⟨r2,hr2,h⟩:=bs h
 refine rg (Z7.v 2 (ZaM (hc:=ZhH N a0_ a1_ r2 hr2)) Z7.f) (tq (sq ?_))
 obtain ⟨r3,hr3,h⟩:=bs h
 refine rg (Z7.v 6 (ZaM (hc:=Ziu N (w64 (a1_.From-a0_.From)) r2.2.2 r3 hr3)) Z7.f) (tq (sq (rgX ⟨[(4,bv ((decide (r2.1<=r3))&&(decide (r3<=r2.2.1))))],[],[]⟩ ?_ ?_)))
 ·rcases Bool.eq_false_or_eq_true (decide (r2.1<=r3)) with hc4|hc5
  ·exact (EP.u 2 (Zad (c:=(decide (r2.1<=r3))) (h:=hc4)) (EP.f (by simp only [hc4];kernel_rfl)))
  exact (EP.u 2 (Zad (c:=(decide (r2.1<=r3))) (h:=hc5)) (EP.f (by simp only [hc5];kernel_rfl)))
 refine tq (rt ?_)
 cases h
 exact ZaF kr
theorem ZjH (N:Nat)(a0_:(List Int))(r:Int×Int)(h:Zdy N a0_=some r):Zbs Try.prog 31 [Zak false a0_] (.tup [iv r.1,iv r.2]):=by
 unfold Zdy at h
 have hH  := hp0
 refine ZaO ZwL rfl rfl (Zaw _ _ _ ?_) rfl
 refine sq (rg Z7.f (tq (sq ?_)))
 obtain ⟨l3,hl3,h⟩:=bs h
 obtain ⟨a1,H2,ha1,hH2,ha1b,hH⟩:=HP.make ZaU hH hl3
 replace hH:HP _ [.arr a1 3 false (List.map ZaU l3)]:=hH
 have hfa1:=ZbH (HP.get hH 0 rfl)
 refine rgS ⟨[(0,Zak false a0_),(4,a1)],[],H2⟩ (Z7.u 1 (Zaf (ys:=[Zak false a0_]) (h:=Zao eI64)) (Z7.h 0 (Zlh (H:=[]) (zero:=[.int .i64 0,.int .i64 0,.int .i64 0]) (bytes:=24) kr kr kr ha1 hH2 ha1b) Z7.f)) (by cases hfa1<;>kernel_rfl) (tq (sq (sq (rgS ⟨[(4,a1),(10,Zak false a0_),(11,iv ((List.length a0_:Nat):Int)),(12,iv 0)],[],H2⟩ (Z7.u 1 (Zaf (ys:=[Zak false a0_]) (h:=Zao eI64)) Z7.f) (by cases hfa1<;>kernel_rfl) (tq (bk ?_))))))
 obtain ⟨a5,ab,h⟩:=bs h
 refine Zbc ((ZaV (λ(x:Int×(List Zae)) s=>∃ (a4:AV) (H5:List HO),s=⟨[(4,a4),(10,Zak false a0_),(11,iv ((List.length a0_:Nat):Int)),(12,iv x.1)],[],H5⟩/\HP H5 [.arr a4 3 false (List.map ZaU x.2)]) (λx:Int×(List Zae)=>ZbU N a0_ x.1 x.2) (λ(p:(List Zae)) e s=>e=.exit 0/\(∃ (a2:AV) (aa:List HO),s=⟨[(4,a2)],[],aa⟩/\HP aa [.arr a2 3 false (List.map ZaU p)])) ?_ N _ a5 _ ab ⟨a1,H2,(by show _=_;cases hfa1<;>kernel_rfl),(HP.pick hH [0] rfl)⟩).mono ?_)
 ·clear h ab
  rintro ⟨i6,l7⟩ o s h hR
  obtain ⟨a4,H5,rfl,hH⟩:=hR
  replace hH:HP _ [.arr a4 3 false (List.map ZaU l7)]:=hH
  have hfa4:=ZbH (HP.get hH 0 rfl)
  replace h:ZbU N a0_ i6 l7=some o:=h
  unfold ZbU at h
  refine sq (rgS ⟨[(4,a4),(10,Zak false a0_),(11,iv ((List.length a0_:Nat):Int)),(12,iv i6),(13,bv (decide (i6<((List.length a0_:Nat):Int))))],[],H5⟩ Z7.f (by cases hfa4<;>kernel_rfl) (tq (sq (it h (λaj h=>?_) (λaj h=>?_)))))
  ·refine sk (tq (kq (sq (bk (sq ?_)))))
   obtain ⟨a0,ad,h⟩:=bs h
   refine rgS ⟨[(4,a4),(5,iv i6),(6,iv a0),(10,Zak false a0_),(11,iv ((List.length a0_:Nat):Int)),(12,iv i6)],[],H5⟩ (Z7.u 1 (Zaf (ys:=[Zak false a0_,iv i6]) (h:=Zai eI64 ad)) (Z7.u 0 (Zay (sz:=1) (off:=0) (cs:=[.int .i64 a0]) (r:=iv a0) eI64 ad) Z7.f)) (by cases hfa4<;>kernel_rfl) (tq ?_)
   obtain ⟨ap,ac,h⟩:=bs h
   obtain ⟨ao,al,_,a8,af,a9,a7⟩:=HP.elem (k:=0) (a:=a4) (sz:=3) (frz:=false) ZaU hH rfl ac
   obtain ⟨ag,ak,hH⟩:=HP.setRow (k:=0) (off:=0) (cs:=[iv a0,iv 0,iv 1]) (ps:=[.int .i64 a0,.int .i64 0,.int .i64 1]) (e':=(Zae.mk a0 0 1)) ZaU hH rfl a9 af (a8 rfl) ac kr kr
   replace hH:HP _ [.arr a4 3 false (List.map ZaU (List.set l7 (Int.toNat i6) (Zae.mk a0 0 1)))]:=hH
   refine rgS ⟨[(4,a4),(10,Zak false a0_),(11,iv ((List.length a0_:Nat):Int)),(12,iv i6)],[],ag⟩ (Z7.u 4 (Zaf (ys:=[a4,iv i6]) (by cases hfa4<;>kernel_rfl) (a7 .i64)) (Z7.o 0 (Zda (H:=H5) (v:=.agg [iv a0,iv 0,iv 1]) (hw:=ak)) Z7.f)) (by cases hfa4<;>kernel_rfl) (bn (tq (rgS ⟨[(4,a4),(10,Zak false a0_),(11,iv ((List.length a0_:Nat):Int)),(12,iv (w64 (i6+1)))],[],ag⟩ Z7.f (by cases hfa4<;>kernel_rfl) ?_)))
   cases h
   exact ⟨_,rfl,⟨a4,ag,(by show _=_;cases hfa4<;>kernel_rfl),(HP.pick hH [0] rfl)⟩⟩
  refine kq (xq (tx ?_))
  cases h
  exact ⟨_,rfl,rfl,⟨a4,H5,(by show _=_;cases hfa4<;>kernel_rfl),(HP.pick hH [0] rfl)⟩⟩
 rintro e s hq
 obtain ⟨rfl,hR⟩:=hq
 obtain ⟨a2,aa,rfl,hH⟩:=hR
 replace hH:HP _ [.arr a2 3 false (List.map ZaU a5)]:=hH
 have a3:=ZbH (HP.get hH 0 rfl)
 refine bx (tq (sq ?_))
 obtain ⟨ae,ai,h⟩:=bs h
 obtain ⟨an,am,a6,hH⟩:=HP.frz (k:=0) (a:=a2) (sz:=3) (frz:=false) ZaU hH rfl
 replace hH:HP _ [.arr a2 3 true (List.map ZaU a5)]:=hH
 refine rgS ⟨[(2,iv ae.1),(3,iv ae.2)],[],an⟩ (Z7.v 1 (ZlW (H:=aa) (ys:=[a2]) (by cases a3<;>kernel_rfl) (by cases a3<;>kernel_rfl) (Zh9 a6 Zmg) (Zg5 N a5 ae ai)) Z7.f) kr ?_
 replace hH:HP _ []:=HP.pick hH [] rfl
 refine tq (rt ?_)
 cases h
 exact ZaF kr
theorem Zg7 (N:Nat)(a0_:Zae)(a1_:Zae)(r:Bool×Int)(h:ZcM N a0_ a1_=some r):Zbs Try.prog 37 [.agg (ZbP a0_),.agg (ZbP a1_)] (.tup [bv r.1,iv r.2]):=by
 unfold ZcM at h
 have hH  := hp0
 refine ZaO ZwH rfl rfl (Zaw _ _ _ ?_) rfl
 refine sq (rg Z7.f (tq (sq (sq ?_))))
 obtain ⟨r1,hr1,h⟩:=bs h
 refine rg (Z7.v 1 (ZaM (hc:=Zdm N a0_ r1 hr1)) Z7.f) (tq (sq (rg Z7.f (tq (it h (λhc2 h=>?_) (λhc2 h=>?_))))))
 ·refine sq (rg Z7.f (tq (rt (tr ?_))))
  cases h
  exact ZaF kr
 refine sk (tq (kq (sq (sq ?_))))
 obtain ⟨r3,hr3,h⟩:=bs h
 refine rg (Z7.v 1 (ZaM (hc:=Zdm N a1_ r3 hr3)) Z7.f) (tq (sq (rg Z7.f (tq (it h (λhc4 h=>?_) (λhc4 h=>?_))))))
 ·refine sq (rg Z7.f (tq (rt (tr ?_))))
  cases h
  exact ZaF kr
 refine sk (tq (kq (sq ?_)))
 obtain ⟨r5,hr5,h⟩:=bs h
 refine rg (Z7.v 2 (ZaM (hc:=Zg3 N a0_ a1_ r5 hr5)) Z7.f) (tq (rt ?_))
 cases h
 exact ZaF kr
theorem Zdv (N:Nat)(a0_:Z6)(r:Int)(h:ZcF N a0_=some r):Zbs Try.prog 21 [.agg (Z5 a0_)] (iv r):=by
 unfold ZcF at h
 have hH  := hp0
 refine ZaO ZwR rfl rfl (Zaw _ _ _ ?_) rfl
 refine sq (rg Z7.f (tq (sq (sq (rgX ⟨[(1,.loc 1 0),(19,bv ((decide (((List.length a0_.Periods:Nat):Int)>12))||(decide (((List.length a0_.Uses:Nat):Int)>192))))],[(1,(Z5 a0_))],[]⟩ ?_ ?_)))))
 ·refine (EP.u 2 (Zaf (ys:=[Zak false a0_.Periods]) (h:=Zao eI64)) ?_)
  rcases Bool.eq_false_or_eq_true (decide (((List.length a0_.Periods:Nat):Int)>12)) with hc1|hc2
  ·exact (EP.u 0 (Zad (c:=(decide (((List.length a0_.Periods:Nat):Int)>12))) (h:=hc1)) (EP.f (by simp only [hc1];kernel_rfl)))
  exact (EP.u 0 (Zad (c:=(decide (((List.length a0_.Periods:Nat):Int)>12))) (h:=hc2)) (EP.u 3 (Zaf (ys:=[Zaj false a0_.Uses]) (h:=Zao Za8)) (EP.f (by simp only [hc2];kernel_rfl))))
 refine tq (it h (λhc3 h=>?_) (λhc3 h=>?_))
 ·refine sq (rg Z7.f (tq (rt (tr ?_))))
  cases h
  exact ZaF kr
 refine sk (tq (kq (sq (sq (rg (Z7.u 2 (Zaf (ys:=[Zak false a0_.Periods]) (h:=Zao eI64)) Z7.f) (tq (bk ?_)))))))
 obtain ⟨au,al,h⟩:=bs h
 refine Zbc ((ZaV (λ(x:Int) s=>s=⟨[(1,.loc 1 0),(21,Zak false a0_.Periods),(22,iv ((List.length a0_.Periods:Nat):Int)),(23,iv x)],[(1,(Z5 a0_))],[]⟩) (λx:Int=>Zcj N a0_ x) (λ(p:(Unit)⊕(Int)) e s=>match p with|(.inl p)=>e=.exit 0/\(s=⟨[(1,.loc 1 0)],[(1,(Z5 a0_))],[]⟩)|(.inr p)=>e=.ret/\∃ xs,resL s i21.res=some xs/\ZbL xs=iv p) ?_ N _ au _ al kr).mono ?_)
 ·clear h al
  rintro i4 o s h hR
  obtain rfl:=hR
  replace h:Zcj N a0_ i4=some o:=h
  unfold Zcj at h
  refine sq (rg Z7.f (tq (sq (it h (λay h=>?_) (λay h=>?_)))))
  ·refine sk (tq (kq (sq (bk (sq ?_)))))
   obtain ⟨a6,am,h⟩:=bs h
   refine rg (Z7.u 0 (Zaf (ys:=[Zak false a0_.Periods,iv i4]) (h:=Zai eI64 am)) (Z7.u 0 (Zay (sz:=1) (off:=0) (cs:=[.int .i64 a6]) (r:=iv a6) eI64 am) Z7.f)) (tq (sq (rgX ⟨[(1,.loc 1 0),(21,Zak false a0_.Periods),(22,iv ((List.length a0_.Periods:Nat):Int)),(23,iv i4),(32,bv ((decide (a6<1))||(decide (a6>240))))],[(1,(Z5 a0_))],[]⟩ ?_ ?_)))
   ·rcases Bool.eq_false_or_eq_true (decide (a6<1)) with ao|an
    ·exact (EP.u 1 (Zad (c:=(decide (a6<1))) (h:=ao)) (EP.f (by simp only [ao];kernel_rfl)))
    exact (EP.u 1 (Zad (c:=(decide (a6<1))) (h:=an)) (EP.f (by simp only [an];kernel_rfl)))
   refine tq (it h (λax h=>?_) (λax h=>?_))
   ·refine sq (rg Z7.f (tq (rt (br (tr ?_)))))
    cases h
    exact ⟨_,rfl,rfl,ZaF kr⟩
   refine sk (bn (tq (kq (rg Z7.f ?_))))
   cases h
   exact ⟨_,rfl,kr⟩
  refine kq (xq (tx ?_))
  cases h
  exact ⟨_,rfl,rfl,kr⟩
 rintro e s hq
 rcases au with aD|aA
 ·dsimp only at h hq
  obtain ⟨rfl,hR⟩:=hq
  obtain rfl:=hR
  refine bx (tq (sq (sq ?_)))
  obtain ⟨az,av,h⟩:=bs h
  refine rg (Z7.v 2 (ZaM (hc:=ZjH N a0_.Periods az av)) Z7.f) (tq (sq (rg Z7.f (tq (it h (λaw h=>?_) (λaw h=>?_))))))
  ·refine sq (rg Z7.f (tq (rt (tr ?_))))
   cases h
   exact ZaF kr
  refine sk (tq (kq (sq (sq (rg (Z7.u 2 (Zaf (ys:=[Zaj false a0_.Uses]) (h:=Zao Za8)) Z7.f) (tq (bk ?_)))))))
  obtain ⟨ak,a7,h⟩:=bs h
  refine Zbc ((ZaV (λ(x:Int) s=>s=⟨[(1,.loc 1 0),(43,Zaj false a0_.Uses),(44,iv ((List.length a0_.Uses:Nat):Int)),(45,iv x)],[(1,(Z5 a0_))],[]⟩) (λx:Int=>Zci N a0_ x) (λ(p:(Unit)⊕(Int)) e s=>match p with|(.inl p)=>e=.exit 2/\(s=⟨[],[],[]⟩)|(.inr p)=>e=.ret/\∃ xs,resL s i21.res=some xs/\ZbL xs=iv p) ?_ N _ ak _ a7 kr).mono ?_)
  ·clear h a7
   rintro aj o s h hR
   obtain rfl:=hR
   replace h:Zci N a0_ aj=some o:=h
   unfold Zci at h
   refine sq (rg Z7.f (tq (sq (it h (λar h=>?_) (λar h=>?_)))))
   ·refine sk (tq (kq (sq (bk (sq ?_)))))
    obtain ⟨a0,a9,h⟩:=bs h
    refine rg (Z7.u 0 (Zaf (ys:=[Zaj false a0_.Uses,iv aj]) (h:=Zai Za8 a9)) (Z7.u 0 (Zay (sz:=4) (off:=0) (cs:=[.int .i64 a0.Stream,.int .i64 a0.Port,.int .i64 a0.From,.int .i64 a0.Long]) (r:=.agg (ZaN a0)) Za8 a9) Z7.f)) (tq (sq (sq (rgX ⟨[(1,.loc 1 0),(8,.loc 8 0),(43,Zaj false a0_.Uses),(44,iv ((List.length a0_.Uses:Nat):Int)),(45,iv aj),(69,bv ((decide (a0.Stream<0))||((decide (a0.Stream≥((List.length a0_.Periods:Nat):Int)))||((decide (a0.Port<0))||(decide (a0.Port≥48))))))],[(1,(Z5 a0_)),(8,(ZaN a0))],[]⟩ ?_ ?_))))
    ·rcases Bool.eq_false_or_eq_true (decide (a0.Stream<0)) with ai|a3
     ·exact (EP.u 2 (Zad (c:=(decide (a0.Stream<0))) (h:=ai)) (EP.f (by simp only [ai];kernel_rfl)))
     refine (EP.u 2 (Zad (c:=(decide (a0.Stream<0))) (h:=a3)) (EP.u 5 (Zaf (ys:=[Zak false a0_.Periods]) (h:=Zao eI64)) ?_))
     rcases Bool.eq_false_or_eq_true (decide (a0.Stream≥((List.length a0_.Periods:Nat):Int))) with ag|a5
     ·exact (EP.u 0 (Zad (c:=(decide (a0.Stream≥((List.length a0_.Periods:Nat):Int)))) (h:=ag)) (EP.f (by simp only [a3,ag];kernel_rfl)))
     refine (EP.u 0 (Zad (c:=(decide (a0.Stream≥((List.length a0_.Periods:Nat):Int)))) (h:=a5)) ?_)
     rcases Bool.eq_false_or_eq_true (decide (a0.Port<0)) with af|ae
     ·exact (EP.u 4 (Zad (c:=(decide (a0.Port<0))) (h:=af)) (EP.f (by simp only [a3,a5,af];kernel_rfl)))
     exact (EP.u 4 (Zad (c:=(decide (a0.Port<0))) (h:=ae)) (EP.f (by simp only [a3,a5,ae];kernel_rfl)))
    refine tq (it h (λaq h=>?_) (λaq h=>?_))
    ·refine sq (rg Z7.f (tq (rt (tr (br (tr ?_))))))
     cases h
     exact ⟨_,rfl,rfl,ZaF kr⟩
    refine sk (tq (kq (sq ?_)))
    obtain ⟨a1,a8,h⟩:=bs h
    refine rg (Z7.u 4 (Zaf (ys:=[Zak false a0_.Periods,iv a0.Stream]) (h:=Zai eI64 a8)) (Z7.u 0 (Zay (sz:=1) (off:=0) (cs:=[.int .i64 a1]) (r:=iv a1) eI64 a8) Z7.f)) (tq (sq (rgX ⟨[(1,.loc 1 0),(43,Zaj false a0_.Uses),(44,iv ((List.length a0_.Uses:Nat):Int)),(45,iv aj),(95,bv ((decide (a0.From<0))||((decide (a0.From≥a1))||((decide (a0.Long<1))||(decide (a0.Long>a1))))))],[(1,(Z5 a0_))],[]⟩ ?_ ?_)))
    ·rcases Bool.eq_false_or_eq_true (decide (a0.From<0)) with ad|a2
     ·exact (EP.u 2 (Zad (c:=(decide (a0.From<0))) (h:=ad)) (EP.f (by simp only [ad];kernel_rfl)))
     refine (EP.u 2 (Zad (c:=(decide (a0.From<0))) (h:=a2)) ?_)
     rcases Bool.eq_false_or_eq_true (decide (a0.From≥a1)) with ac|a4
     ·exact (EP.u 4 (Zad (c:=(decide (a0.From≥a1))) (h:=ac)) (EP.f (by simp only [a2,ac];kernel_rfl)))
     refine (EP.u 4 (Zad (c:=(decide (a0.From≥a1))) (h:=a4)) ?_)
     rcases Bool.eq_false_or_eq_true (decide (a0.Long<1)) with ab|aa
     ·exact (EP.u 4 (Zad (c:=(decide (a0.Long<1))) (h:=ab)) (EP.f (by simp only [a2,a4,ab];kernel_rfl)))
     exact (EP.u 4 (Zad (c:=(decide (a0.Long<1))) (h:=aa)) (EP.f (by simp only [a2,a4,aa];kernel_rfl)))
    refine tq (it h (λap h=>?_) (λap h=>?_))
    ·refine sq (rg Z7.f (tq (rt (br (tr ?_)))))
     cases h
     exact ⟨_,rfl,rfl,ZaF kr⟩
    refine sk (bn (tq (kq (rg Z7.f ?_))))
    cases h
    exact ⟨_,rfl,kr⟩
   refine kq (xq (tx ?_))
   cases h
   exact ⟨_,rfl,rfl,kr⟩
  rintro e s hq
  rcases ak with aC|aB
  ·dsimp only at h hq
   obtain ⟨rfl,hR⟩:=hq
   obtain rfl:=hR
   refine bx (tq (sq (rg Z7.f (tq (rt ?_)))))
   cases h
   exact ZaF kr
  dsimp only at h hq
  obtain ⟨rfl,hq⟩:=hq
  refine br (tr ?_)
  cases h
  exact hq
 dsimp only at h hq
 obtain ⟨rfl,hq⟩:=hq
 refine br (tr ?_)
 cases h
 exact hq
theorem ZeG (N:Nat)(a0_:Z6)(a1_:Int)(a2_:Int)(a3_:Int)(a4_:Int)(r:Bool)(h:Zcg N a0_ a1_ a2_ a3_ a4_=some r):Zbs Try.prog 27 [.agg (Z5 a0_),iv a1_,iv a2_,iv a3_,iv a4_] (bv r):=by
 unfold Zcg at h
 have hH  := hp0
 refine ZaO ZwO rfl rfl (Zaw _ _ _ ?_) rfl
 refine sq ?_
 obtain ⟨id1,H2,hid1,hH2,hH⟩:=HP.newCell hH (Z5 a0_)
 replace hH:HP _ [.cel id1 (Z5 a0_)]:=hH
 obtain ⟨id3,H4,hid3,hH4,hH⟩:=HP.newCell hH [iv a2_]
 replace hH:HP _ [.cel id3 [iv a2_],.cel id1 (Z5 a0_)]:=hH
 obtain ⟨id5,H6,hid5,hH6,hH⟩:=HP.newCell hH [iv a4_]
 replace hH:HP _ [.cel id5 [iv a4_],.cel id3 [iv a2_],.cel id1 (Z5 a0_)]:=hH
 obtain ⟨id7,H8,hid7,hH8,hH⟩:=HP.newCell hH [bv false]
 replace hH:HP _ [.cel id7 [bv false],.cel id5 [iv a4_],.cel id3 [iv a2_],.cel id1 (Z5 a0_)]:=hH
 refine rgS ⟨[(1,iv a1_),(3,iv a3_),(5,.ptr id1 0),(7,.ptr id3 0),(9,.ptr id5 0),(10,.ptr id7 0)],[],H8⟩ (Z7.h 0 (ZeQ (H:=[]) (v:=.agg (Z5 a0_)) (hid:=hid1) (hH:=hH2)) (Z7.h 0 (ZeQ (H:=H2) (v:=iv a2_) (hid:=hid3) (hH:=hH4)) (Z7.h 0 (ZeQ (H:=H4) (v:=iv a4_) (hid:=hid5) (hH:=hH6)) (Z7.h 0 (Zlg (H:=H6) kr hid7 hH8) Z7.f)))) kr (tq (sq (sq ?_)))
 have hlc9:=HP.get hH 3 rfl
 obtain ⟨a8,aA,h⟩:=bs h
 obtain ⟨a7,a6,a5,a4,ak,ao⟩:=ZjG N a0_ a1_ a3_ H8 a8 aA
 replace hH:HP _ [.cel a7 (Z5 a8.1),.cel a6 [iv a8.2.1],.cel a5 [iv a8.2.2],.cel id7 [bv false],.cel id5 [iv a4_],.cel id3 [iv a2_],.cel id1 (Z5 a0_)]:=HP.callee (fp:=[]) (rest:=[.cel id7 [bv false],.cel id5 [iv a4_],.cel id3 [iv a2_],.cel id1 (Z5 a0_)]) hH ao
 refine rgS ⟨[(5,.ptr id1 0),(7,.ptr id3 0),(9,.ptr id5 0),(10,.ptr id7 0),(18,.fn 47 [] [.ptr a7 0,.ptr a6 0,.ptr a5 0])],[],a4⟩ (Z7.u 0 (ZaH (H:=H8) (id:=id1) (off:=0) (cs:=(Z5 a0_)) (c:=(Z5 a0_)) (r:=.agg (Z5 a0_)) (hl:=hlc9)) (Z7.v 2 (Zc3 (H:=H8) (ys:=[.agg (Z5 a0_),iv a1_,iv a3_]) kr kr kr ak) Z7.f)) kr (tq (bk ?_))
 obtain ⟨a0,ap,h⟩:=bs h
 have ab:∀ (a3:ZaD) (a2:ZaD) (s:(Bool)×Nat) (r:((Bool)×Nat)×Bool) (H:List HO) (its:List ZaL),(λ(s:(Bool)×Nat) (its:List ZaL)=>its=[.cel id7 [bv s.1],.cel id5 [iv a4_],.cel id3 [iv a2_],.cel id1 (Z5 a0_)]++[.lp (List.length a4) (lcOf Try.prog i27.nt [19,20] ZdY ZdX) [(5,.ptr id1 0),(7,.ptr id3 0),(9,.ptr id5 0),(10,.ptr id7 0)] (stAt [.ready,.done .ret] s.2)]) s its->HP H its->(λ(s:(Bool)×Nat) (a3:ZaD) (a2:ZaD)=>Zhp (λv:Bool=>Zbb N a0_ a2_ a4_ v a3 a2) s) s a3 a2=some r->∃ H' its',ZlJ Try.prog (List.length a4) [.agg (ZaN a3),.agg (ZaN a2)] H r.2 H'/\(λ(s:(Bool)×Nat) (its:List ZaL)=>its=[.cel id7 [bv s.1],.cel id5 [iv a4_],.cel id3 [iv a2_],.cel id1 (Z5 a0_)]++[.lp (List.length a4) (lcOf Try.prog i27.nt [19,20] ZdY ZdX) [(5,.ptr id1 0),(7,.ptr id3 0),(9,.ptr id5 0),(10,.ptr id7 0)] (stAt [.ready,.done .ret] s.2)]) r.1 its'/\Fp H H' its its':=by
  clear h
  intro a3 a2 s r ag its hT hH h
  obtain ⟨h0,q,hb,rfl⟩:=Zld h
  clear h
  obtain ⟨vs,e⟩:=s
  obtain rfl:e=0:=h0
  obtain ⟨b18,rfl⟩:∃ v,v=vs:=⟨vs,rfl⟩
  obtain rfl:=hT
  replace h:Zbb N a0_ a2_ a4_ b18 a3 a2=some q:=hb
  clear hb
  unfold Zbb at h
  replace hH:Fp _ _ _ [.cel id7 [bv b18],.cel id5 [iv a4_],.cel id3 [iv a2_],.cel id1 (Z5 a0_),.lp (List.length a4) (lcOf Try.prog i27.nt [19,20] ZdY ZdX) [(5,.ptr id1 0),(7,.ptr id3 0),(9,.ptr id5 0),(10,.ptr id7 0)] .ready]:=Fp.refl hH
  suffices hs:∃ H',ZlJ Try.prog (List.length a4) [.agg (ZaN a3),.agg (ZaN a2)] ag (q.2==0) H'/\∃ its',(λ(s:(Bool)×Nat) (its:List ZaL)=>its=[.cel id7 [bv s.1],.cel id5 [iv a4_],.cel id3 [iv a2_],.cel id1 (Z5 a0_)]++[.lp (List.length a4) (lcOf Try.prog i27.nt [19,20] ZdY ZdX) [(5,.ptr id1 0),(7,.ptr id3 0),(9,.ptr id5 0),(10,.ptr id7 0)] (stAt [.ready,.done .ret] s.2)]) q its'/\Fp ag H' [.cel id7 [bv b18],.cel id5 [iv a4_],.cel id3 [iv a2_],.cel id1 (Z5 a0_),.lp (List.length a4) (lcOf Try.prog i27.nt [19,20] ZdY ZdX) [(5,.ptr id1 0),(7,.ptr id3 0),(9,.ptr id5 0),(10,.ptr id7 0)] .ready] its' by
   obtain ⟨H',h1,its',h2,h3⟩:=hs
   exact ⟨H',its',h1,h2,h3⟩
  refine Zm9 (id:=(List.length a4)) (args:=[.agg (ZaN a3),.agg (ZaN a2)]) (H:=ag) (n:=i27.nt) (ps:=[19,20]) (fr0:=[(5,.ptr id1 0),(7,.ptr id3 0),(9,.ptr id5 0),(10,.ptr id7 0)]) (ia:=ZdY) (ib:=ZdX) (q.2==0) (λH'=>∃ its',(λ(s:(Bool)×Nat) (its:List ZaL)=>its=[.cel id7 [bv s.1],.cel id5 [iv a4_],.cel id3 [iv a2_],.cel id1 (Z5 a0_)]++[.lp (List.length a4) (lcOf Try.prog i27.nt [19,20] ZdY ZdX) [(5,.ptr id1 0),(7,.ptr id3 0),(9,.ptr id5 0),(10,.ptr id7 0)] (stAt [.ready,.done .ret] s.2)]) q its'/\Fp ag H' [.cel id7 [bv b18],.cel id5 [iv a4_],.cel id3 [iv a2_],.cel id1 (Z5 a0_),.lp (List.length a4) (lcOf Try.prog i27.nt [19,20] ZdY ZdX) [(5,.ptr id1 0),(7,.ptr id3 0),(9,.ptr id5 0),(10,.ptr id7 0)] .ready] its') (Fp.get hH 4 rfl) rfl (by decide +kernel) rfl ?_
  show vc _ _ _ _ ⟨[(5,.ptr id1 0),(7,.ptr id3 0),(9,.ptr id5 0),(10,.ptr id7 0),(19,.agg (ZaN a3)),(20,.agg (ZaN a2))],[],ag⟩
  refine sq (rgS ⟨[(5,.ptr id1 0),(7,.ptr id3 0),(9,.ptr id5 0),(10,.ptr id7 0),(11,.loc 11 0),(20,.agg (ZaN a2))],[(11,(ZaN a3))],ag⟩ Z7.f kr (tq (rgS ⟨[(5,.ptr id1 0),(7,.ptr id3 0),(9,.ptr id5 0),(10,.ptr id7 0),(11,.loc 11 0),(12,.loc 12 0)],[(11,(ZaN a3)),(12,(ZaN a2))],ag⟩ Z7.f kr (ZpC (k:=4) hH rfl ?_))))
  intro a1 hH
  replace hH:Fp _ _ _ [.cel id7 [bv b18],.cel id5 [iv a4_],.cel id3 [iv a2_],.cel id1 (Z5 a0_),.lp (List.length a4) (lcOf Try.prog i27.nt [19,20] ZdY ZdX) [(5,.ptr id1 0),(7,.ptr id3 0),(9,.ptr id5 0),(10,.ptr id7 0)] .busy]:=hH
  show vc _ _ _ _ ⟨[(5,.ptr id1 0),(7,.ptr id3 0),(9,.ptr id5 0),(10,.ptr id7 0),(11,.loc 11 0),(12,.loc 12 0)],[(11,(ZaN a3)),(12,(ZaN a2))],a1⟩
  refine bk (sq (sq (rgS ⟨[(5,.ptr id1 0),(7,.ptr id3 0),(9,.ptr id5 0),(10,.ptr id7 0),(11,.loc 11 0),(12,.loc 12 0),(23,bv ((a3.Stream==a2.Stream)&&((a3.Port==a2.Port)&&((a3.From==a2.From)&&((a3.Long==a2.Long)&&true)))))],[(11,(ZaN a3)),(12,(ZaN a2))],a1⟩ Z7.f kr (tq (it h (λav h=>?_) (λav h=>?_))))))
  ·refine sq ?_
   obtain ⟨aC,ay,hH⟩:=Fp.setCell (k:=0) (off:=0) (cs:=[bv b18]) (vs:=[bv true]) (cs':=[bv true]) hH rfl kr
   replace hH:Fp _ _ _ [.cel id7 [bv true],.cel id5 [iv a4_],.cel id3 [iv a2_],.cel id1 (Z5 a0_),.lp (List.length a4) (lcOf Try.prog i27.nt [19,20] ZdY ZdX) [(5,.ptr id1 0),(7,.ptr id3 0),(9,.ptr id5 0),(10,.ptr id7 0)] .busy]:=hH
   refine rgS ⟨[],[],aC⟩ (Z7.o 0 (Zda (H:=a1) (v:=bv true) (hw:=ay)) Z7.f) kr (tq (rt (tr (br ?_))))
   cases h
   exact rbd (k:=4) (.done .ret) hH rfl rfl (λH6 hH=>⟨_,(Eq.refl _),(Fp.pick hH [0,1,2,3,4] rfl)⟩)
  refine sk (tq (kq (sq ?_)))
  have af:=Fp.get hH 3 rfl
  have ae:=Fp.get hH 2 rfl
  obtain ⟨aj,an,h⟩:=bs h
  have ad:=Fp.get hH 3 rfl
  have ac:=Fp.get hH 1 rfl
  obtain ⟨ai,am,h⟩:=bs h
  obtain ⟨aa,al,h⟩:=bs h
  refine rqS ⟨[(10,.ptr id7 0),(13,bv aa.1)],[],a1⟩ (Z7.u 0 (Zbp (ZaH (H:=a1) (id:=id1) (off:=0) (cs:=(Z5 a0_)) (c:=(Z5 a0_)) (r:=.agg (Z5 a0_)) (hl:=af))) (Z7.u 1 (Zbp (ZaH (H:=a1) (id:=id3) (off:=0) (cs:=[iv a2_]) (c:=[iv a2_]) (r:=iv a2_) (hl:=ae))) (Z7.u 0 (ZoE (hc:=ZeE N a0_ a3 a2_ aj an)) (Z7.u 0 (Zbp (ZaH (H:=a1) (id:=id1) (off:=0) (cs:=(Z5 a0_)) (c:=(Z5 a0_)) (r:=.agg (Z5 a0_)) (hl:=ad))) (Z7.u 1 (Zbp (ZaH (H:=a1) (id:=id5) (off:=0) (cs:=[iv a4_]) (c:=[iv a4_]) (r:=iv a4_) (hl:=ac))) (Z7.v 0 (ZaM (hc:=ZeE N a0_ a2 a4_ ai am)) (Z7.v 0 (ZaM (hc:=Zg7 N aj ai aa al)) Z7.f))))))) kr (tq (sq (rgS ⟨[(10,.ptr id7 0),(37,bv (!aa.1))],[],a1⟩ Z7.f kr (tq (it h (λau h=>?_) (λau h=>?_))))))
  ·refine sq ?_
   obtain ⟨aB,ax,hH⟩:=Fp.setCell (k:=0) (off:=0) (cs:=[bv b18]) (vs:=[bv true]) (cs':=[bv true]) hH rfl kr
   replace hH:Fp _ _ _ [.cel id7 [bv true],.cel id5 [iv a4_],.cel id3 [iv a2_],.cel id1 (Z5 a0_),.lp (List.length a4) (lcOf Try.prog i27.nt [19,20] ZdY ZdX) [(5,.ptr id1 0),(7,.ptr id3 0),(9,.ptr id5 0),(10,.ptr id7 0)] .busy]:=hH
   refine rgS ⟨[],[],aB⟩ (Z7.o 0 (Zda (H:=a1) (v:=bv true) (hw:=ax)) Z7.f) kr (tq (rt (br ?_)))
   cases h
   exact rbd (k:=4) (.done .ret) hH rfl rfl (λH6 hH=>⟨_,(Eq.refl _),(Fp.pick hH [0,1,2,3,4] rfl)⟩)
  refine sk (bn ?_)
  cases h
  exact rbd (k:=4) (.ready) hH rfl rfl (λH6 hH=>⟨_,(Eq.refl _),(Fp.pick hH [0,1,2,3,4] rfl)⟩)
 refine Zov (s:=⟨[(5,.ptr id1 0),(7,.ptr id3 0),(9,.ptr id5 0),(10,.ptr id7 0),(18,.fn 47 [] [.ptr a7 0,.ptr a6 0,.ptr a5 0])],[],a4⟩) [(5,.ptr id1 0),(7,.ptr id3 0),(9,.ptr id5 0),(10,.ptr id7 0)] (FrOK.cons kr kr (FrOK.cons kr kr (FrOK.cons kr kr (FrOK.cons kr kr FrOK.nil)))) kr (λH=>rfl) (capT:=[.cel a7 (Z5 a8.1),.cel a6 [iv a8.2.1],.cel a5 [iv a8.2.2]]) (cells0:=[.cel id7 [bv false],.cel id5 [iv a4_],.cel id3 [iv a2_],.cel id1 (Z5 a0_)]) (rest:=[]) (HP.now (HP.pick hH [0,1,2,3,4,5,6] rfl)) (λ(s:(Bool)×Nat) (its:List ZaL)=>its=[.cel id7 [bv s.1],.cel id5 [iv a4_],.cel id3 [iv a2_],.cel id1 (Z5 a0_)]++[.lp (List.length a4) (lcOf Try.prog i27.nt [19,20] ZdY ZdX) [(5,.ptr id1 0),(7,.ptr id3 0),(9,.ptr id5 0),(10,.ptr id7 0)] (stAt [.ready,.done .ret] s.2)]) (false,0) a0 (by exact (Eq.refl _)) (λH its hT hH=>ZhR N (λ(s:(Bool)×Nat) (a3:ZaD) (a2:ZaD)=>Zhp (λv:Bool=>Zbb N a0_ a2_ a4_ v a3 a2) s) a8.1 a8.2.1 a8.2.2 (false,0) a7 a6 a5 (List.length a4) (λ(s:(Bool)×Nat) (its:List ZaL)=>its=[.cel id7 [bv s.1],.cel id5 [iv a4_],.cel id3 [iv a2_],.cel id1 (Z5 a0_)]++[.lp (List.length a4) (lcOf Try.prog i27.nt [19,20] ZdY ZdX) [(5,.ptr id1 0),(7,.ptr id3 0),(9,.ptr id5 0),(10,.ptr id7 0)] (stAt [.ready,.done .ret] s.2)]) ab H its hT hH a0 ap) ?_
 rintro its hT
 obtain rfl:=hT
 refine ⟨_,_,rfl,?_⟩
 intro a9 hF
 replace hH:HP _ [.cel a7 (Z5 a8.1),.cel a6 [iv a8.2.1],.cel a5 [iv a8.2.2],.cel id7 [bv a0.1],.cel id5 [iv a4_],.cel id3 [iv a2_],.cel id1 (Z5 a0_)]:=HP.after (HP.pick hH [0,1,2,3,4,5,6] rfl) hF
 rcases ZaJ h with ⟨ar,h⟩|⟨_,h⟩
 ·refine ZnC (S:=⟨[(5,.ptr id1 0),(7,.ptr id3 0),(9,.ptr id5 0),(10,.ptr id7 0),(18,.fn 47 [] [.ptr a7 0,.ptr a6 0,.ptr a5 0])],[],a9⟩) (e:=.normal) ar rfl (bn (tq (kq ?_)))
  replace hH:HP _ [.cel id7 [bv a0.1]]:=HP.pick hH [3] rfl
  refine sq ?_
  obtain ⟨az,aw,hH⟩:=HP.setCell (k:=0) (off:=0) (cs:=[bv a0.1]) (vs:=[bv false]) (cs':=[bv false]) hH rfl kr
  replace hH:HP _ [.cel id7 [bv false]]:=hH
  refine rgS ⟨[(10,.ptr id7 0)],[],az⟩ (Z7.o 0 (Zda (H:=a9) (v:=bv false) (hw:=aw)) Z7.f) kr (tq (rt ?_))
  obtain rfl:=Zar h
  exact ZjC (H:=az) (ys:=[bv false]) (xs:=[bv false]) kr (Zl6 (r:=.cell 10 1 false) (v:=bv false) (Zl5 (id:=id7) (off:=0) (cs:=[bv false]) (c:=[bv false]) kr (HP.get hH 0 rfl) kr kr) Zl7) (Zet rfl Zfe) kr
 rcases ZaJ h with ⟨aq,h⟩|⟨_,h⟩
 ·refine ZnC (S:=⟨[(5,.ptr id1 0),(7,.ptr id3 0),(9,.ptr id5 0),(10,.ptr id7 0),(18,.fn 47 [] [.ptr a7 0,.ptr a6 0,.ptr a5 0])],[],a9⟩) (e:=.ret) aq rfl (br (tr ?_))
  obtain rfl:=Zar h
  exact ZjC (H:=a9) (ys:=[bv a0.1]) (xs:=[bv a0.1]) kr (Zl6 (r:=.cell 10 1 false) (v:=bv a0.1) (Zl5 (id:=id7) (off:=0) (cs:=[bv a0.1]) (c:=[bv a0.1]) kr (HP.get hH 3 rfl) kr kr) Zl7) (Zet rfl Zfe) kr
 cases h
theorem ZeH (N:Nat)(a0_:Z6)(a1_:Int)(a2_:Int)(a3_:Int)(a4_:Int)(r:Bool×Int)(h:Zch N a0_ a1_ a2_ a3_ a4_=some r):Zbs Try.prog 53 [.agg (Z5 a0_),iv a1_,iv a2_,iv a3_,iv a4_] (.tup [bv r.1,iv r.2]):=by
 unfold Zch at h
 have hH  := hp0
 refine ZaO Zwu rfl rfl (Zaw _ _ _ ?_) rfl
 refine sq (rg Z7.f (tq (sq (sq ?_))))
 obtain ⟨r1,hr1,h⟩:=bs h
 refine rg (Z7.v 1 (ZaM (hc:=Zdv N a0_ r1 hr1)) Z7.f) (tq (sq (rg Z7.f (tq (it h (λhc2 h=>?_) (λhc2 h=>?_))))))
 ·refine sq (rg Z7.f (tq (rt (tr ?_))))
  cases h
  exact ZaF kr
 refine sk (tq (kq (sq (sq (rgX ⟨[(1,iv a1_),(2,iv a2_),(3,iv a3_),(4,iv a4_),(5,.loc 5 0),(37,bv ((decide (a1_<0))||((decide (a1_≥((List.length a0_.Periods:Nat):Int)))||((decide (a3_<0))||(decide (a3_≥((List.length a0_.Periods:Nat):Int)))))))],[(5,(Z5 a0_))],[]⟩ ?_ ?_)))))
 ·rcases Bool.eq_false_or_eq_true (decide (a1_<0)) with hc3|hc4
  ·exact (EP.u 1 (Zad (c:=(decide (a1_<0))) (h:=hc3)) (EP.f (by simp only [hc3];kernel_rfl)))
  refine (EP.u 1 (Zad (c:=(decide (a1_<0))) (h:=hc4)) (EP.u 4 (Zaf (ys:=[Zak false a0_.Periods]) (h:=Zao eI64)) ?_))
  rcases Bool.eq_false_or_eq_true (decide (a1_≥((List.length a0_.Periods:Nat):Int))) with hc5|hc6
  ·exact (EP.u 0 (Zad (c:=(decide (a1_≥((List.length a0_.Periods:Nat):Int)))) (h:=hc5)) (EP.f (by simp only [hc4,hc5];kernel_rfl)))
  refine (EP.u 0 (Zad (c:=(decide (a1_≥((List.length a0_.Periods:Nat):Int)))) (h:=hc6)) ?_)
  rcases Bool.eq_false_or_eq_true (decide (a3_<0)) with hc7|hc8
  ·exact (EP.u 3 (Zad (c:=(decide (a3_<0))) (h:=hc7)) (EP.f (by simp only [hc4,hc6,hc7];kernel_rfl)))
  exact (EP.u 3 (Zad (c:=(decide (a3_<0))) (h:=hc8)) (EP.u 5 (Zaf (ys:=[Zak false a0_.Periods]) (h:=Zao eI64)) (EP.f (by simp only [hc4,hc6,hc8];kernel_rfl))))
 refine tq (it h (λhc9 h=>?_) (λhc9 h=>?_))
 ·refine sq (rg Z7.f (tq (rt (tr ?_))))
  cases h
  exact ZaF kr
 refine sk (tq (kq (sq (sq ?_))))
 obtain ⟨ad,hj,h⟩:=bs h
 refine rgR (λs=>s=⟨[(1,iv a1_),(2,iv a2_),(3,iv a3_),(4,iv a4_),(5,.loc 5 0),(59,bv ad)],[(5,(Z5 a0_))],[]⟩) ?_ ?_
 ·clear h
  obtain ⟨a1,a4,hj⟩:=bs hj
  refine (EP.v 3 (ZaM (hc:=Zd6 N a0_ a1_ a2_ a1 a4)) ?_)
  rcases ZaJ hj with ⟨ab,hj⟩|⟨aa,hj⟩
  ·obtain rfl:=Zar hj
   exact (EP.u 0 (Zad (c:=(!a1)) (h:=ab)) (EP.f kr))
  refine (EP.u 0 (Zad (c:=(!a1)) (h:=aa)) ?_)
  obtain ⟨a0,a3,hj⟩:=bs hj
  refine (EP.v 4 (ZaM (hc:=Zd6 N a0_ a3_ a4_ a0 a3)) ?_)
  rcases ZaJ hj with ⟨a9,hj⟩|⟨a8,hj⟩
  ·obtain rfl:=Zar hj
   exact (EP.u 0 (Zad (c:=(!a0)) (h:=a9)) (EP.f kr))
  refine (EP.u 0 (Zad (c:=(!a0)) (h:=a8)) ?_)
  rcases ZaJ hj with ⟨a7,hj⟩|⟨a6,hj⟩
  ·obtain rfl:=Zar hj
   exact (EP.u 4 (Zad (c:=(a1_==a3_)) (h:=a7)) (EP.f kr))
  obtain rfl:=Zar hj
  exact (EP.u 4 (Zad (c:=(a1_==a3_)) (h:=a6)) (EP.f kr))
 clear hj
 rintro s hR
 obtain rfl:=hR
 refine tq (it h (λa5 h=>?_) (λa5 h=>?_))
 ·refine sq (rg Z7.f (tq (rt (tr ?_))))
  cases h
  exact ZaF kr
 refine sk (tq (kq (sq ?_)))
 obtain ⟨ac,a2,h⟩:=bs h
 refine rg (Z7.v 5 (ZaM (hc:=ZeG N a0_ a1_ a2_ a3_ a4_ ac a2)) Z7.f) (tq (rt ?_))
 cases h
 exact ZaF kr
end Go.Sh

