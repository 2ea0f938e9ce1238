/- Part of the proof. -/
import Derived.Test.YthhhjjjbpcaadaaSolveSearchesSh
import Derived.Test.YthhhjjjbpcaadaaSolveSearchesChk
set_option linter.all false
namespace Go.Sh
open Go Go.Eng Go.Proofs
set_option maxRecDepth 100000
set_option maxHeartbeats 4000000
attribute [local irreducible] vc ev ZcP opsD opsF ZfO upd updH updO
theorem Zel (N:Nat)(a0_:Zbn)(r:Z3)(h:Zbm N a0_=some r):Zbk Try.prog 8 [.agg (ZaJ a0_)] (.agg [Z9 false r.Periods,Z8 false r.Uses]):=by
 unfold Zbm at h
 have hH  := hp0
 refine ZaG chk8 rfl rfl (Zao _ _ _ ?_) rfl
 refine sq (rg Z4.f (tq (sq (rg Z4.f (tq (sq (sq (rg Z4.f (tq (bk ?_))))))))))
 obtain ⟨a5,az,h⟩:=bs h
 refine Zbc ((ZaT (λ(x:Int×(List Int)) s=>∃ (a1:AV) (H2:List HO),s=⟨[(1,.loc 1 0),(2,.loc 2 0),(3,.loc 3 0),(4,iv x.1)],[(1,(ZaJ a0_)),(2,[Z9 true [],Z8 true []]),(3,[a1,Z8 true []])],H2⟩/\HP H2 [.arr a1 1 false (List.map eI64 x.2)]) (λx:Int×(List Int)=>ZaV N a0_ x.1 x.2) (λ(p:(List Int)) e s=>e=.exit 0/\(∃ (ak:AV) (ar:List HO),s=⟨[(1,.loc 1 0),(2,.loc 2 0),(3,.loc 3 0)],[(1,(ZaJ a0_)),(2,[Z9 true [],Z8 true []]),(3,[ak,Z8 true []])],ar⟩/\HP ar [.arr ak 1 false (List.map eI64 p)])) ?_ N _ a5 _ az ⟨(.p (.sl 1 true [])),[],kr,(HP.pick (HP.nilArr hH 1 false) [0] rfl)⟩).mono ?_)
 ·clear h az
  rintro ⟨i3,l4⟩ o s h hR
  obtain ⟨a1,H2,rfl,hH⟩:=hR
  replace hH:HP _ [.arr a1 1 false (List.map eI64 l4)]:=hH
  have hfa1:=ZbB (HP.get hH 0 rfl)
  replace h:ZaV N a0_ i3 l4=some o:=h
  unfold ZaV at h
  refine sq (sq (rgX ⟨[(1,.loc 1 0),(2,.loc 2 0),(3,.loc 3 0),(4,iv i3),(17,bv ((decide (i3<((List.length a0_.Periods:Nat):Int)))&&(decide (i3<5))))],[(1,(ZaJ a0_)),(2,[Z9 true [],Z8 true []]),(3,[a1,Z8 true []])],H2⟩ ?_ ?_))
  ·refine (EP.u 3 (Zad (ys:=[Zky false a0_.Periods]) (h:=Zal (eI .u8))) ?_)
   rcases Bool.eq_false_or_eq_true (decide (i3<((List.length a0_.Periods:Nat):Int))) with aD|aC
   ·exact (EP.u 0 (Zaa (c:=(decide (i3<((List.length a0_.Periods:Nat):Int)))) (h:=aD)) (EP.f (by simp only [aD];cases hfa1<;>kernel_rfl)))
   exact (EP.u 0 (Zaa (c:=(decide (i3<((List.length a0_.Periods:Nat):Int)))) (h:=aC)) (EP.f (by simp only [aC];cases hfa1<;>kernel_rfl)))
  refine tq (it h (λbc h=>?_) (λbc h=>?_))
  ·refine sk (tq (kq (sq (bk ?_))))
   obtain ⟨aV,aB,h⟩:=bs h
   obtain ⟨aU,aA,h⟩:=bs h
   obtain ⟨bf,b9,h⟩:=bs h
   obtain ⟨ay,aW,bd,hH⟩:=HP.app (k:=0) (a:=a1) (sz:=1) (frz:=false) eI64 hH rfl b9
   replace hH:HP _ [.arr ay 1 false (List.map eI64 bf)]:=hH
   have af:=ZbB (HP.get hH 0 rfl)
   refine rqS ⟨[(1,.loc 1 0),(2,.loc 2 0),(3,.loc 3 0),(4,iv i3)],[(1,(ZaJ a0_)),(2,[Z9 true [],Z8 true []]),(3,[ay,Z8 true []])],aW⟩ (Z4.u (hm:=(by cases hfa1<;>kernel_rfl)) 6 (Zad (ys:=[Zky false a0_.Periods,iv i3]) (by cases hfa1<;>kernel_rfl) (Zac (eI .u8) aB)) (Z4.u (hm:=(by cases hfa1<;>kernel_rfl)) 0 (ZaY (Zas (sz:=1) (off:=0) (cs:=[.int .u8 aV]) (r:=.p (.int .u8 aV)) (eI .u8) aB (by cases hfa1<;>kernel_rfl) (by cases hfa1<;>kernel_rfl) (by cases hfa1<;>kernel_rfl)) (by cases hfa1<;>kernel_rfl)) (Z4.u (hm:=(by cases hfa1<;>kernel_rfl)) 1 (Zad (ys:=[Z9 true [4,6,8,12,3,5,10,24],.p (.int .u8 (Int.tmod aV 8))]) (by cases hfa1<;>kernel_rfl) (Zac eI64 aA)) (Z4.u (hm:=(by cases hfa1<;>kernel_rfl)) 0 (ZaY (Zas (sz:=1) (off:=0) (cs:=[.int .i64 aU]) (r:=iv aU) eI64 aA (by cases hfa1<;>kernel_rfl) (by cases hfa1<;>kernel_rfl) (by cases hfa1<;>kernel_rfl)) (by cases hfa1<;>kernel_rfl)) (Z4.h (hm:=(by cases hfa1<;>kernel_rfl)) 1 (Zep (H:=H2) (a:=a1) (b:=Z9 true [aU]) (by cases hfa1<;>kernel_rfl) (by cases hfa1<;>kernel_rfl) (by cases hfa1<;>kernel_rfl) (by cases hfa1<;>kernel_rfl) bd) (Z4.f (h:=(by cases hfa1<;>cases af<;>kernel_rfl)))))))) (by cases hfa1<;>cases af<;>kernel_rfl) (bn (tq (rgS ⟨[(1,.loc 1 0),(2,.loc 2 0),(3,.loc 3 0),(4,iv (w64 (i3+1)))],[(1,(ZaJ a0_)),(2,[Z9 true [],Z8 true []]),(3,[ay,Z8 true []])],aW⟩ Z4.f (by cases af<;>kernel_rfl) ?_)))
   cases h
   exact ⟨_,rfl,⟨ay,aW,(by show _=_;cases af<;>kernel_rfl),(HP.pick hH [0] rfl)⟩⟩
  refine kq (xq (tx ?_))
  cases h
  exact ⟨_,rfl,rfl,⟨a1,H2,(by show _=_;cases hfa1<;>kernel_rfl),(HP.pick hH [0] rfl)⟩⟩
 rintro e s hq
 obtain ⟨rfl,hR⟩:=hq
 obtain ⟨ak,ar,rfl,hH⟩:=hR
 replace hH:HP _ [.arr ak 1 false (List.map eI64 a5)]:=hH
 have ao:=ZbB (HP.get hH 0 rfl)
 refine bx (tq (sq (sq (rgS ⟨[(1,.loc 1 0),(2,.loc 2 0),(3,.loc 3 0),(5,iv 0)],[(1,(ZaJ a0_)),(2,[Z9 true [],Z8 true []]),(3,[ak,Z8 true []])],ar⟩ Z4.f (by cases ao<;>kernel_rfl) (tq (bk ?_))))))
 obtain ⟨al,am,h⟩:=bs h
 refine Zbc ((ZaT (λ(x:Int×(List Zax)) s=>∃ (a3:AV) (aa:AV) (ab:List HO),s=⟨[(1,.loc 1 0),(2,.loc 2 0),(3,.loc 3 0),(5,iv x.1)],[(1,(ZaJ a0_)),(2,[Z9 true [],Z8 true []]),(3,[a3,aa])],ab⟩/\HP ab [.arr a3 1 false (List.map eI64 a5),.arr aa 4 false (List.map Zan x.2)]) (λx:Int×(List Zax)=>ZaU N a0_ a5 x.1 x.2) (λ(p:(List Zax)) e s=>e=.exit 2/\(∃ (ae:AV) (ad:AV) (ag:List HO),s=⟨[(2,.loc 2 0),(3,.loc 3 0)],[(2,[Z9 true [],Z8 true []]),(3,[ae,ad])],ag⟩/\HP ag [.arr ae 1 false (List.map eI64 a5),.arr ad 4 false (List.map Zan p)])) ?_ N _ al _ am ⟨ak,(.p (.sl 4 true [])),ar,(by show _=_;cases ao<;>kernel_rfl),(HP.pick (HP.nilArr hH 4 false) [1,0] rfl)⟩).mono ?_)
 ·clear h am
  rintro ⟨a6,b0⟩ o s h hR
  obtain ⟨a3,aa,ab,rfl,hH⟩:=hR
  replace hH:HP _ [.arr a3 1 false (List.map eI64 a5),.arr aa 4 false (List.map Zan b0)]:=hH
  have a0:=ZbB (HP.get hH 0 rfl)
  have a2:=ZbB (HP.get hH 1 rfl)
  replace h:ZaU N a0_ a5 a6 b0=some o:=h
  unfold ZaU at h
  refine sq (sq ?_)
  obtain ⟨b2,hj,h⟩:=bs h
  refine rgR (λs=>s=⟨[(1,.loc 1 0),(2,.loc 2 0),(3,.loc 3 0),(5,iv a6),(48,bv b2)],[(1,(ZaJ a0_)),(2,[Z9 true [],Z8 true []]),(3,[a3,aa])],ab⟩) ?_ ?_
  ·clear h
   refine (EP.u 3 (Zad (ys:=[Zfk false a0_.Uses]) (h:=Zal Zd0)) ?_)
   rcases Zat hj with ⟨aS,hj⟩|⟨aM,hj⟩
   ·refine (EP.u 0 (Zaa (c:=(decide (a6<((List.length a0_.Uses:Nat):Int)))) (h:=aS)) ?_)
    rcases Zat hj with ⟨aR,hj⟩|⟨aQ,hj⟩
    ·refine (EP.u 2 (Zaa (c:=(decide (a6<12))) (h:=aR)) ?_)
     have aw:=HP.len (k:=0) (a:=a3) (sz:=1) (frz:=false) (l:=a5) eI64 hH rfl
     obtain rfl:=Zae hj
     exact (EP.u (hm:=(by cases a0<;>cases a2<;>kernel_rfl)) 4 (Zad (ys:=[a3]) (by cases a0<;>cases a2<;>kernel_rfl) aw) (EP.f (by show _=_;cases a0<;>cases a2<;>kernel_rfl) (h:=(by cases a0<;>cases a2<;>kernel_rfl))))
    obtain rfl:=Zae hj
    exact (EP.u 2 (Zaa (c:=(decide (a6<12))) (h:=aQ)) (EP.f (by show _=_;cases a0<;>cases a2<;>kernel_rfl)))
   obtain rfl:=Zae hj
   exact (EP.u 0 (Zaa (c:=(decide (a6<((List.length a0_.Uses:Nat):Int)))) (h:=aM)) (EP.f (by show _=_;cases a0<;>cases a2<;>kernel_rfl)))
  clear hj
  rintro s hR
  obtain rfl:=hR
  refine tq (it h (λaL h=>?_) (λaL h=>?_))
  ·refine sk (tq (kq (sq (bk (sq ?_)))))
   obtain ⟨a4,aq,h⟩:=bs h
   refine rgS ⟨[(1,.loc 1 0),(2,.loc 2 0),(3,.loc 3 0),(5,iv a6),(6,.loc 6 0)],[(1,(ZaJ a0_)),(2,[Z9 true [],Z8 true []]),(3,[a3,aa]),(6,(ZfT a4))],ab⟩ (Z4.u 3 (Zad (ys:=[Zfk false a0_.Uses,iv a6]) (h:=Zac Zd0 aq)) (Z4.u 0 (Zas (sz:=4) (off:=0) (cs:=[.int .u8 a4.x0,.int .u8 a4.x1,.int .u8 a4.x2,.int .u8 a4.x3]) (r:=.agg (ZfT a4)) Zd0 aq) Z4.f)) (by cases a0<;>cases a2<;>kernel_rfl) (tq (sq ?_))
   have av:=HP.len (k:=0) (a:=a3) (sz:=1) (frz:=false) (l:=a5) eI64 hH rfl
   obtain ⟨ai,aJ,h⟩:=bs h
   refine rgS ⟨[(1,.loc 1 0),(2,.loc 2 0),(3,.loc 3 0),(5,iv a6),(6,.loc 6 0),(7,iv ai)],[(1,(ZaJ a0_)),(2,[Z9 true [],Z8 true []]),(3,[a3,aa]),(6,(ZfT a4))],ab⟩ (Z4.u (hm:=(by cases a0<;>cases a2<;>kernel_rfl)) 5 (Zad (ys:=[a3]) (by cases a0<;>cases a2<;>kernel_rfl) av) (Z4.u (hm:=(by cases a0<;>cases a2<;>kernel_rfl)) 0 (Zad (ys:=[iv (w64 (a4.x0)),iv ((List.length a5:Nat):Int)]) (by cases a0<;>cases a2<;>kernel_rfl) (Zbl aJ)) (Z4.f (h:=(by cases a0<;>cases a2<;>kernel_rfl))))) (by cases a0<;>cases a2<;>kernel_rfl) (tq (sq ?_))
   obtain ⟨ac,ap,h⟩:=bs h
   obtain ⟨bi,be,_,ba,ax,bb,an⟩:=HP.elem (k:=0) (a:=a3) (sz:=1) (frz:=false) eI64 hH rfl ap
   refine rgS ⟨[(1,.loc 1 0),(2,.loc 2 0),(3,.loc 3 0),(5,iv a6),(6,.loc 6 0),(7,iv ai),(8,iv ac)],[(1,(ZaJ a0_)),(2,[Z9 true [],Z8 true []]),(3,[a3,aa]),(6,(ZfT a4))],ab⟩ (Z4.u (hm:=(by cases a0<;>cases a2<;>kernel_rfl)) 3 (Zad (ys:=[a3,iv ai]) (by cases a0<;>cases a2<;>kernel_rfl) (an .i64)) (Z4.u (hm:=(by cases a0<;>cases a2<;>kernel_rfl)) 0 (ZgT (H:=ab) (off:=0) (cs:=[.int .i64 ac]) (r:=iv ac) eI64 ap ax (by cases a0<;>cases a2<;>kernel_rfl) (by cases a0<;>cases a2<;>kernel_rfl) (by cases a0<;>cases a2<;>kernel_rfl) (by cases a0<;>cases a2<;>kernel_rfl)) (Z4.f (h:=(by cases a0<;>cases a2<;>kernel_rfl))))) (by cases a0<;>cases a2<;>kernel_rfl) (tq ?_)
   obtain ⟨aZ,aI,h⟩:=bs h
   obtain ⟨aY,aG,h⟩:=bs h
   obtain ⟨aX,aE,h⟩:=bs h
   obtain ⟨b1,aK,h⟩:=bs h
   obtain ⟨aj,au,aT,hH⟩:=HP.app (k:=1) (a:=aa) (sz:=4) (frz:=false) Zan hH rfl aK
   replace hH:HP _ [.arr a3 1 false (List.map eI64 a5),.arr aj 4 false (List.map Zan b1)]:=hH
   have a7:=ZbB (HP.get hH 1 rfl)
   refine rqS ⟨[(1,.loc 1 0),(2,.loc 2 0),(3,.loc 3 0),(5,iv a6)],[(1,(ZaJ a0_)),(2,[Z9 true [],Z8 true []]),(3,[a3,aj])],au⟩ (Z4.u (hm:=(by cases a0<;>cases a2<;>kernel_rfl)) 11 (Zad (ys:=[iv (w64 (a4.x2)),iv ac]) (by cases a0<;>cases a2<;>kernel_rfl) (Zbl aI)) (Z4.u (hm:=(by cases a0<;>cases a2<;>kernel_rfl)) 4 (Zad (ys:=[iv (w64 (a4.x3)),iv ac]) (by cases a0<;>cases a2<;>kernel_rfl) (Zbl aG)) (Z4.u (hm:=(by cases a0<;>cases a2<;>kernel_rfl)) 2 (Zad (ys:=[iv (Int.tmod aY 4),iv ac]) (by cases a0<;>cases a2<;>kernel_rfl) (Zbl aE)) (Z4.h (hm:=(by cases a0<;>cases a2<;>kernel_rfl)) 3 (Zep (H:=ab) (a:=aa) (b:=Z8 true [(Zax.mk ai (w64 ((Int.tmod a4.x1 4))) aZ (w64 (1+aX)))]) (by cases a0<;>cases a2<;>kernel_rfl) (by cases a0<;>cases a2<;>kernel_rfl) (by cases a0<;>cases a2<;>kernel_rfl) (by cases a0<;>cases a2<;>kernel_rfl) aT) (Z4.f (h:=(by cases a7<;>cases a0<;>cases a2<;>kernel_rfl))))))) (by cases a7<;>cases a0<;>cases a2<;>kernel_rfl) (bn (tq (rgS ⟨[(1,.loc 1 0),(2,.loc 2 0),(3,.loc 3 0),(5,iv (w64 (a6+1)))],[(1,(ZaJ a0_)),(2,[Z9 true [],Z8 true []]),(3,[a3,aj])],au⟩ Z4.f (by cases a7<;>cases a0<;>kernel_rfl) ?_)))
   cases h
   exact ⟨_,rfl,⟨a3,aj,au,(by show _=_;cases a7<;>cases a0<;>kernel_rfl),(HP.pick hH [0,1] rfl)⟩⟩
  refine kq (xq (tx ?_))
  cases h
  exact ⟨_,rfl,rfl,⟨a3,aa,ab,(by show _=_;cases a0<;>cases a2<;>kernel_rfl),(HP.pick hH [0,1] rfl)⟩⟩
 rintro e s hq
 obtain ⟨rfl,hR⟩:=hq
 obtain ⟨ae,ad,ag,rfl,hH⟩:=hR
 replace hH:HP _ [.arr ae 1 false (List.map eI64 a5),.arr ad 4 false (List.map Zan al)]:=hH
 have a9:=ZbB (HP.get hH 0 rfl)
 have a8:=ZbB (HP.get hH 1 rfl)
 refine bx (tq (sq (rgS ⟨[(2,.loc 2 0)],[(2,[ae,ad])],ag⟩ (Z4.f (h:=(by cases a9<;>cases a8<;>kernel_rfl))) (by cases a9<;>cases a8<;>kernel_rfl) (tq (rt ?_)))))
 obtain rfl:=Zae h
 exact Zhj (H:=ag) (ys:=[.agg [ae,ad]]) (xs:=[.agg [.p (.sl 1 false (List.map eI64 a5)),.p (.sl 4 false (List.map Zan al))]]) (by cases a9<;>cases a8<;>kernel_rfl) (by cases a9<;>cases a8<;>kernel_rfl) (ZbN (ZmH (Zik (HP.pure (k:=0) (frz:=false) eI64 hH rfl).1 (Zik (HP.pure (k:=1) (frz:=false) Zan hH rfl).1 ZmI))) ZdT) kr
theorem ZaF (N:Nat)(a0_:(List Int))(a1_:(List Int))(r:Bool)(h:Zau N a0_ a1_=some r):Zbk Try.prog 11 [Z9 false a0_,Z9 false a1_] (bv r):=by
 unfold Zau at h
 have hH  := hp0
 refine ZaG Zve rfl rfl (Zao _ _ _ ?_) rfl
 refine sq (rg Z4.f (tq (sq (sq (rg (Z4.u 1 (Zad (ys:=[Z9 false a0_]) (h:=Zal eI64)) (Z4.u 1 (Zad (ys:=[Z9 false a1_]) (h:=Zal eI64)) Z4.f)) (tq (it h (λhc1 h=>?_) (λhc1 h=>?_))))))))
 ·refine sq (rg Z4.f (tq (rt (tr ?_))))
  cases h
  exact Zaz kr
 refine sk (tq (kq (sq (sq (rg (Z4.u 1 (Zad (ys:=[Z9 false a0_]) (h:=Zal eI64)) Z4.f) (tq (bk ?_)))))))
 obtain ⟨a3,a0,h⟩:=bs h
 refine Zbc ((ZaT (λ(x:Int) s=>s=⟨[(0,Z9 false a0_),(1,Z9 false a1_),(12,iv ((List.length a0_:Nat):Int)),(13,iv x)],[],[]⟩) (λx:Int=>ZaN N a0_ a1_ x) (λ(p:(Unit)⊕(Bool)) e s=>match p with|(.inl p)=>e=.exit 0/\(s=⟨[],[],[]⟩)|(.inr p)=>e=.ret/\∃ xs,resL s i11.res=some xs/\Zbr xs=bv p) ?_ N _ a3 _ a0 kr).mono ?_)
 ·clear h a0
  rintro i2 o s h hR
  obtain rfl:=hR
  replace h:ZaN N a0_ a1_ i2=some o:=h
  unfold ZaN at h
  refine sq (rg Z4.f (tq (sq (it h (λa5 h=>?_) (λa5 h=>?_)))))
  ·refine sk (tq (kq (sq (bk (sq (rg Z4.f (tq (sq ?_))))))))
   obtain ⟨a7,a2,h⟩:=bs h
   obtain ⟨a6,a1,h⟩:=bs h
   refine rq (Z4.u 2 (Zad (ys:=[Z9 false a0_,iv i2]) (h:=Zac eI64 a2)) (Z4.u 0 (ZaY (Zas (sz:=1) (off:=0) (cs:=[.int .i64 a7]) (r:=iv a7) eI64 a2)) (Z4.u 2 (Zad (ys:=[Z9 false a1_,iv i2]) (h:=Zac eI64 a1)) (Z4.u 0 (ZaY (Zas (sz:=1) (off:=0) (cs:=[.int .i64 a6]) (r:=iv a6) eI64 a1)) Z4.f)))) (tq (it h (λa4 h=>?_) (λa4 h=>?_)))
   ·refine sq (rg Z4.f (tq (rt (br (tr ?_)))))
    cases h
    exact ⟨_,rfl,rfl,Zaz kr⟩
   refine sk (bn (tq (kq (rg Z4.f ?_))))
   cases h
   exact ⟨_,rfl,kr⟩
  refine kq (xq (tx ?_))
  cases h
  exact ⟨_,rfl,rfl,kr⟩
 rintro e s hq
 rcases a3 with a9|a8
 ·dsimp only at h hq
  obtain ⟨rfl,hR⟩:=hq
  obtain rfl:=hR
  refine bx (tq (sq (rg Z4.f (tq (rt ?_)))))
  cases h
  exact Zaz kr
 dsimp only at h hq
 obtain ⟨rfl,hq⟩:=hq
 refine br (tr ?_)
 cases h
 exact hq
theorem Zbu (N:Nat)(a0_:(List Z5))(a1_:(List Z5))(r:Bool)(h:Zbp N a0_ a1_=some r):Zbk Try.prog 12 [Z6 false a0_,Z6 false a1_] (bv r):=by
 unfold Zbp at h
 have hH  := hp0
 refine ZaG Zvd rfl rfl (Zao _ _ _ ?_) rfl
 refine sq (rg Z4.f (tq (sq (sq (rg (Z4.u 1 (Zad (ys:=[Z6 false a0_]) (h:=Zal Z7)) (Z4.u 1 (Zad (ys:=[Z6 false a1_]) (h:=Zal Z7)) Z4.f)) (tq (it h (λhc1 h=>?_) (λhc1 h=>?_))))))))
 ·refine sq (rg Z4.f (tq (rt (tr ?_))))
  cases h
  exact Zaz kr
 refine sk (tq (kq (sq (sq (rg Z4.f (tq (bk ?_)))))))
 obtain ⟨ae,a2,h⟩:=bs h
 refine Zbc ((ZaT (λ(x:Int) s=>s=⟨[(0,Z6 false a0_),(1,Z6 false a1_),(5,iv x)],[],[]⟩) (λx:Int=>Zcg N a0_ a1_ x) (λ(p:(Unit)⊕(Bool)) e s=>match p with|(.inl p)=>e=.exit 0/\(s=⟨[],[],[]⟩)|(.inr p)=>e=.ret/\∃ xs,resL s i12.res=some xs/\Zbr xs=bv p) ?_ N _ ae _ a2 kr).mono ?_)
 ·clear h a2
  rintro i2 o s h hR
  obtain rfl:=hR
  replace h:Zcg N a0_ a1_ i2=some o:=h
  unfold Zcg at h
  refine sq (sq (rg (Z4.u 2 (Zad (ys:=[Z6 false a0_]) (h:=Zal Z7)) Z4.f) (tq (it h (λav h=>?_) (λav h=>?_)))))
  ·refine sk (tq (kq (sq (bk (sq (sq ?_))))))
   obtain ⟨aw,hj,h⟩:=bs h
   refine rqR (λs=>s=⟨[(0,Z6 false a0_),(1,Z6 false a1_),(5,iv i2),(43,bv aw)],[],[]⟩) ?_ ?_
   ·clear h
    obtain ⟨ad,ak,hj⟩:=bs hj
    refine (EP.u 2 (Zad (ys:=[Z6 false a0_,iv i2]) (h:=Zac Z7 ak)) (EP.u 1 (ZaY (Zas (sz:=2) (off:=0) (cs:=[.int .i64 ad.Stream]) (r:=iv ad.Stream) Z7 ak)) ?_))
    obtain ⟨ac,aj,hj⟩:=bs hj
    refine (EP.u 2 (Zad (ys:=[Z6 false a1_,iv i2]) (h:=Zac Z7 aj)) (EP.u 1 (ZaY (Zas (sz:=2) (off:=0) (cs:=[.int .i64 ac.Stream]) (r:=iv ac.Stream) Z7 aj)) ?_))
    rcases Zat hj with ⟨au,hj⟩|⟨ar,hj⟩
    ·obtain rfl:=Zae hj
     exact (EP.u 0 (Zaa (c:=(ad.Stream != ac.Stream)) (h:=au)) (EP.f kr))
    refine (EP.u 0 (Zaa (c:=(ad.Stream != ac.Stream)) (h:=ar)) ?_)
    obtain ⟨ap,ai,hj⟩:=bs hj
    refine (EP.u 3 (Zad (ys:=[Z6 false a0_,iv i2]) (h:=Zac Z7 ai)) (EP.u 1 (ZaY (Zas (sz:=2) (off:=1) (cs:=[.sl 4 false (List.map Zah ap.Arms)]) (r:=ZaI false ap.Arms) Z7 ai)) (EP.u 0 (Zad (ys:=[ZaI false ap.Arms]) (h:=Zal Zah)) ?_)))
    obtain ⟨ao,ag,hj⟩:=bs hj
    obtain rfl:=Zae hj
    exact (EP.u 2 (Zad (ys:=[Z6 false a1_,iv i2]) (h:=Zac Z7 ag)) (EP.u 1 (ZaY (Zas (sz:=2) (off:=1) (cs:=[.sl 4 false (List.map Zah ao.Arms)]) (r:=ZaI false ao.Arms) Z7 ag)) (EP.u 0 (Zad (ys:=[ZaI false ao.Arms]) (h:=Zal Zah)) (EP.f kr))))
   clear hj
   rintro s hR
   obtain rfl:=hR
   refine tq (it h (λaq h=>?_) (λaq h=>?_))
   ·refine sq (rg Z4.f (tq (rt (tr (br (tr ?_))))))
    cases h
    exact ⟨_,rfl,rfl,Zaz kr⟩
   refine sk (tq (kq (sq (rg Z4.f (tq (bk ?_))))))
   obtain ⟨af,a3,h⟩:=bs h
   refine Zbc ((ZaT (λ(x:Int) s=>s=⟨[(0,Z6 false a0_),(1,Z6 false a1_),(5,iv i2),(6,iv x)],[],[]⟩) (λx:Int=>Zcf N a0_ a1_ i2 x) (λ(p:(Unit)⊕(Bool)) e s=>match p with|(.inl p)=>e=.exit 2/\(s=⟨[(0,Z6 false a0_),(1,Z6 false a1_),(5,iv i2)],[],[]⟩)|(.inr p)=>e=.ret/\∃ xs,resL s i12.res=some xs/\Zbr xs=bv p) ?_ N _ af _ a3 kr).mono ?_)
   ·clear h a3
    rintro al o s h hR
    obtain rfl:=hR
    replace h:Zcf N a0_ a1_ i2 al=some o:=h
    unfold Zcf at h
    refine sq (sq ?_)
    obtain ⟨ab,a8,h⟩:=bs h
    refine rg (Z4.u 3 (Zad (ys:=[Z6 false a0_,iv i2]) (h:=Zac Z7 a8)) (Z4.u 1 (Zas (sz:=2) (off:=1) (cs:=[.sl 4 false (List.map Zah ab.Arms)]) (r:=ZaI false ab.Arms) Z7 a8) (Z4.u 0 (Zad (ys:=[ZaI false ab.Arms]) (h:=Zal Zah)) Z4.f))) (tq (it h (λan h=>?_) (λan h=>?_)))
    ·refine sk (tq (kq (sq (bk (sq ?_)))))
     obtain ⟨aa,a7,h⟩:=bs h
     obtain ⟨a1,a6,h⟩:=bs h
     obtain ⟨a9,a5,h⟩:=bs h
     obtain ⟨a0,a4,h⟩:=bs h
     refine rq (Z4.u 2 (Zad (ys:=[Z6 false a0_,iv i2]) (h:=Zac Z7 a7)) (Z4.u 1 (ZaY (Zas (sz:=2) (off:=1) (cs:=[.sl 4 false (List.map Zah aa.Arms)]) (r:=ZaI false aa.Arms) Z7 a7)) (Z4.u 1 (Zad (ys:=[ZaI false aa.Arms,iv al]) (h:=Zac Zah a6)) (Z4.u 0 (ZaY (Zas (sz:=4) (off:=0) (cs:=[.int .i64 a1.From,.int .i64 a1.To,.int .i64 a1.By,.int .i64 a1.Next]) (r:=.agg (ZbV a1)) Zah a6)) (Z4.u 2 (Zad (ys:=[Z6 false a1_,iv i2]) (h:=Zac Z7 a5)) (Z4.u 1 (ZaY (Zas (sz:=2) (off:=1) (cs:=[.sl 4 false (List.map Zah a9.Arms)]) (r:=ZaI false a9.Arms) Z7 a5)) (Z4.u 1 (Zad (ys:=[ZaI false a9.Arms,iv al]) (h:=Zac Zah a4)) (Z4.u 0 (ZaY (Zas (sz:=4) (off:=0) (cs:=[.int .i64 a0.From,.int .i64 a0.To,.int .i64 a0.By,.int .i64 a0.Next]) (r:=.agg (ZbV a0)) Zah a4)) Z4.f)))))))) (tq (it h (λam h=>?_) (λam h=>?_)))
     ·refine sq (rg Z4.f (tq (rt (br (tr ?_)))))
      cases h
      exact ⟨_,rfl,rfl,Zaz kr⟩
     refine sk (bn (tq (kq (rg Z4.f ?_))))
     cases h
     exact ⟨_,rfl,kr⟩
    refine kq (xq (tx ?_))
    cases h
    exact ⟨_,rfl,rfl,kr⟩
   rintro e s hq
   rcases af with aA|az
   ·dsimp only at h hq
    obtain ⟨rfl,hR⟩:=hq
    obtain rfl:=hR
    refine bx (bn (tq (kq (rg Z4.f ?_))))
    cases h
    exact ⟨_,rfl,kr⟩
   dsimp only at h hq
   obtain ⟨rfl,hq⟩:=hq
   refine br (br (tr ?_))
   cases h
   exact ⟨_,rfl,rfl,hq⟩
  refine kq (xq (tx ?_))
  cases h
  exact ⟨_,rfl,rfl,kr⟩
 rintro e s hq
 rcases ae with ay|ax
 ·dsimp only at h hq
  obtain ⟨rfl,hR⟩:=hq
  obtain rfl:=hR
  refine bx (tq (sq (rg Z4.f (tq (rt ?_)))))
  cases h
  exact Zaz kr
 dsimp only at h hq
 obtain ⟨rfl,hq⟩:=hq
 refine br (tr ?_)
 cases h
 exact hq
theorem Zfe (N:Nat)(a0_:Int)(a1_:Int)(a2_:Int)(r:Z3)(h:Zd9 N a0_ a1_ a2_=some r):Zbk Try.prog 16 [iv a0_,iv a1_,iv a2_] (.agg [Z9 false r.Periods,Z8 false r.Uses]):=by
 unfold Zd9 at h
 have hH  := hp0
 refine ZaG Zu9 rfl rfl (Zao _ _ _ ?_) rfl
 refine sq (rg Z4.f (tq (sq (rg Z4.f (tq (rt ?_))))))
 cases h
 exact Zaz kr
theorem Zfb (N:Nat)(a0_:Z3)(a1_:Int)(a2_:Int)(r:Bool)(h:ZcV N a0_ a1_ a2_=some r):Zbk Try.prog 26 [.agg (Z2 a0_),iv a1_,iv a2_] (bv r):=by
 unfold ZcV at h
 have hH  := hp0
 refine ZaG Zu4 rfl rfl (Zao _ _ _ ?_) rfl
 refine sq (rg Z4.f (tq (sq ?_)))
 obtain ⟨j4,hj,h⟩:=bs h
 refine rgR (λs=>s=⟨[(6,bv j4)],[],[]⟩) ?_ ?_
 ·clear h
  rcases Zat hj with ⟨hc1,hj⟩|⟨hc3,hj⟩
  ·refine (EP.u 1 (Zaa (c:=(decide (a2_≥0))) (h:=hc1)) ?_)
   obtain ⟨e2,he2,hj⟩:=bs hj
   obtain rfl:=Zae hj
   exact (EP.u 5 (Zad (ys:=[Z9 false a0_.Periods,iv a1_]) (h:=Zac eI64 he2)) (EP.u 0 (Zas (sz:=1) (off:=0) (cs:=[.int .i64 e2]) (r:=iv e2) eI64 he2) (EP.f kr)))
  obtain rfl:=Zae hj
  exact (EP.u 1 (Zaa (c:=(decide (a2_≥0))) (h:=hc3)) (EP.f kr))
 clear hj
 rintro s hR
 obtain rfl:=hR
 refine tq (rt ?_)
 cases h
 exact Zaz kr
theorem ZjI (N:Nat)(a0_:(List Int))(r:Int)(h:Zet N a0_=some r):Zbk Try.prog 34 [Z9 false a0_] (iv r):=by
 unfold Zet at h
 have hH  := hp0
 refine ZaG ZuZ rfl rfl (Zao _ _ _ ?_) rfl
 refine sq (rg Z4.f (tq (sq (sq (rg Z4.f (tq (bk ?_)))))))
 obtain ⟨a4,a0,h⟩:=bs h
 refine Zbc ((ZaT (λ(x:Int) s=>s=⟨[(0,Z9 false a0_),(3,iv x)],[],[]⟩) (λx:Int=>ZbI N a0_ x) (λ(p:(Unit)⊕(Int)) e s=>match p with|(.inl p)=>e=.exit 0/\(s=⟨[],[],[]⟩)|(.inr p)=>e=.ret/\∃ xs,resL s i34.res=some xs/\Zbr xs=iv p) ?_ N _ a4 _ a0 kr).mono ?_)
 ·clear h a0
  rintro i1 o s h hR
  obtain rfl:=hR
  replace h:ZbI N a0_ i1=some o:=h
  unfold ZbI at h
  refine sq (sq (rg Z4.f (tq (it h (λai h=>?_) (λai h=>?_)))))
  ·refine sk (tq (kq (sq (bk (sq (rg Z4.f (tq (sq (sq (rg Z4.f (tq (bk ?_))))))))))))
   obtain ⟨af,a1,h⟩:=bs h
   refine Zbc ((ZaT (λ(x:Bool×Int) s=>s=⟨[(0,Z9 false a0_),(3,iv i1),(4,bv x.1),(5,iv x.2)],[],[]⟩) (λx:Bool×Int=>Zb8 N a0_ i1 x.1 x.2) (λ(p:Bool) e s=>e=.exit 2/\(s=⟨[(0,Z9 false a0_),(3,iv i1),(4,bv p)],[],[]⟩)) ?_ N _ af _ a1 kr).mono ?_)
   ·clear h a1
    rintro ⟨ae,a6⟩ o s h hR
    obtain rfl:=hR
    replace h:Zb8 N a0_ i1 ae a6=some o:=h
    unfold Zb8 at h
    refine sq (sq (rg (Z4.u 2 (Zad (ys:=[Z9 false a0_]) (h:=Zal eI64)) Z4.f) (tq (it h (λad h=>?_) (λad h=>?_)))))
    ·refine sk (tq (kq (sq (bk ?_))))
     obtain ⟨ag,hj,h⟩:=bs h
     refine rgR (λs=>s=⟨[(0,Z9 false a0_),(3,iv i1),(4,bv ag),(5,iv a6)],[],[]⟩) ?_ ?_
     ·clear h
      rcases Zat hj with ⟨ac,hj⟩|⟨a9,hj⟩
      ·refine (EP.u 0 (Zaa (c:=ae) (h:=ac)) ?_)
       obtain ⟨a3,a2,hj⟩:=bs hj
       refine (EP.u 4 (Zad (ys:=[Z9 false a0_,iv a6]) (h:=Zac eI64 a2)) (EP.u 0 (Zas (sz:=1) (off:=0) (cs:=[.int .i64 a3]) (r:=iv a3) eI64 a2) ?_))
       obtain ⟨a5,a7,hj⟩:=bs hj
       refine (EP.u 0 (Zad (ys:=[iv i1,iv a3]) (h:=Zbl a7)) ?_)
       rcases Zat hj with ⟨ab,hj⟩|⟨aa,hj⟩
       ·obtain rfl:=Zae hj
        exact (EP.u 2 (Zaa (c:=(a5==0)) (h:=ab)) (EP.f kr))
       obtain rfl:=Zae hj
       exact (EP.u 2 (Zaa (c:=(a5==0)) (h:=aa)) (EP.f kr))
      obtain rfl:=Zae hj
      exact (EP.u 0 (Zaa (c:=ae) (h:=a9)) (EP.f kr))
     clear hj
     rintro s hR
     obtain rfl:=hR
     refine bn (tq (rg Z4.f ?_))
     cases h
     exact ⟨_,rfl,kr⟩
    refine kq (xq (tx ?_))
    cases h
    exact ⟨_,rfl,rfl,kr⟩
   rintro e s hq
   obtain ⟨rfl,hR⟩:=hq
   obtain rfl:=hR
   refine bx (tq (sq (rg Z4.f (tq (it h (λa8 h=>?_) (λa8 h=>?_))))))
   ·refine sq (rg Z4.f (tq (rt (br (tr ?_)))))
    cases h
    exact ⟨_,rfl,rfl,Zaz kr⟩
   refine sk (bn (tq (kq (rg Z4.f ?_))))
   cases h
   exact ⟨_,rfl,kr⟩
  refine kq (xq (tx ?_))
  cases h
  exact ⟨_,rfl,rfl,kr⟩
 rintro e s hq
 rcases a4 with ak|aj
 ·dsimp only at h hq
  obtain ⟨rfl,hR⟩:=hq
  obtain rfl:=hR
  refine bx (tq (sq (rg Z4.f (tq (rt ?_)))))
  cases h
  exact Zaz kr
 dsimp only at h hq
 obtain ⟨rfl,hq⟩:=hq
 refine br (tr ?_)
 cases h
 exact hq
theorem ZiY (N:Nat)(a0_:Z3)(a1_:Int)(a2_:Int)(H:List HO)(r:Z3×Int×Int)(h:ZeP N a0_ a1_ a2_=some r):∃ (id0_ id1_ id2_:Nat) (H':List HO),ZbR Try.prog 36 [.agg (Z2 a0_),iv a1_,iv a2_] H (.fn 47 [] [.ptr id0_ 0,.ptr id1_ 0,.ptr id2_ 0]) H'/\Fp H H' [] [.cel id0_ [Z9 false r.1.Periods,Z8 false r.1.Uses],.cel id1_ [iv r.2.1],.cel id2_ [iv r.2.2]]:=by
 suffices hs:∃ r' H',ZbR Try.prog 36 [.agg (Z2 a0_),iv a1_,iv a2_] H r' H'/\∃ (id0_ id1_ id2_:Nat),r'=.fn 47 [] [.ptr id0_ 0,.ptr id1_ 0,.ptr id2_ 0]/\Fp H H' [] [.cel id0_ [Z9 false r.1.Periods,Z8 false r.1.Uses],.cel id1_ [iv r.2.1],.cel id2_ [iv r.2.2]] by
  obtain ⟨_,H',h1,id0_,id1_,id2_,rfl,h2⟩:=hs
  exact ⟨id0_,id1_,id2_,H',h1,h2⟩
 unfold ZeP at h
 have hH:Fp H H [] []:=Fp.refl trivial
 refine Zmf ZuX (λr' H'=>∃ (id0_ id1_ id2_:Nat),r'=.fn 47 [] [.ptr id0_ 0,.ptr id1_ 0,.ptr id2_ 0]/\Fp H H' [] [.cel id0_ [Z9 false r.1.Periods,Z8 false r.1.Uses],.cel id1_ [iv r.2.1],.cel id2_ [iv r.2.2]]) (λr' H' ⟨_,_,_,e,_⟩=>by rw [e];rfl) rfl rfl (sq ?_)
 obtain ⟨id1,H2,hid1,hH2,hH⟩:=Fp.newCell hH (Z2 a0_)
 replace hH:Fp _ _ _ [.cel id1 (Z2 a0_)]:=hH
 obtain ⟨id3,H4,hid3,hH4,hH⟩:=Fp.newCell hH [iv a1_]
 replace hH:Fp _ _ _ [.cel id3 [iv a1_],.cel id1 (Z2 a0_)]:=hH
 obtain ⟨id5,H6,hid5,hH6,hH⟩:=Fp.newCell hH [iv a2_]
 replace hH:Fp _ _ _ [.cel id5 [iv a2_],.cel id3 [iv a1_],.cel id1 (Z2 a0_)]:=hH
 refine rg (Z4.h 0 (Zfj (H:=H) (v:=.agg (Z2 a0_)) (hid:=hid1) (hH:=hH2)) (Z4.h 0 (Zfj (H:=H2) (v:=iv a1_) (hid:=hid3) (hH:=hH4)) (Z4.h 0 (Zfj (H:=H4) (v:=iv a2_) (hid:=hid5) (hH:=hH6)) Z4.f))) (tq (sq (rg Z4.f (tq (rt ?_)))))
 cases h
 exact ⟨[.fn 47 [] [.ptr id1 0,.ptr id3 0,.ptr id5 0]],kr,id1,id3,id5,rfl,Fp.pk hH [2,1,0] rfl⟩
theorem Zeh (N:Nat)(a0_:Z3)(a1_:Zax)(a2_:Int)(r:Zab)(h:Zch N a0_ a1_ a2_=some r):Zbk Try.prog 38 [.agg (Z2 a0_),.agg (ZaE a1_),iv a2_] (.agg [iv r.Period,iv r.From,iv r.Long]):=by
 unfold Zch at h
 have hH  := hp0
 refine ZaG ZuV rfl rfl (Zao _ _ _ ?_) rfl
 refine sq (rg Z4.f (tq (sq ?_)))
 obtain ⟨e1,he1,h⟩:=bs h
 refine rg (Z4.u 4 (Zad (ys:=[Z9 false a0_.Periods,iv a1_.Stream]) (h:=Zac eI64 he1)) (Z4.u 0 (Zas (sz:=1) (off:=0) (cs:=[.int .i64 e1]) (r:=iv e1) eI64 he1) Z4.f)) (tq (sq ?_))
 obtain ⟨m2,hm2,h⟩:=bs h
 refine rq (Z4.u 6 (Zad (ys:=[iv (w64 (a1_.From+a2_)),iv e1]) (h:=Zbl hm2)) Z4.f) (tq (rt ?_))
 cases h
 exact Zaz kr
theorem Zhu {σ:Type}(N:Nat)(y_:σ->Zax->Zax->Option (σ×Bool))(c0_:Z3)(c1_:Int)(c2_:Int)(s_:σ)(k0_:Nat)(k1_:Nat)(k2_:Nat)(yid_:Nat)(T_:σ->List ZaS->Prop)(hy_:∀ (x0:Zax) (x1:Zax) (s:σ) (r:σ×Bool) (H:List HO) (its:List ZaS),T_ s its->HP H its->y_ s x0 x1=some r->∃ H' its',Zk0 Try.prog yid_ [.agg [iv x0.Stream,iv x0.Port,iv x0.From,iv x0.Long],.agg [iv x1.Stream,iv x1.Port,iv x1.From,iv x1.Long]] H r.2 H'/\T_ r.1 its'/\Fp H H' its its')(H:List HO)(its:List ZaS)(hT:T_ s_ its)(hH:HP H (.cel k0_ (Z2 c0_)::.cel k1_ [iv c1_]::.cel k2_ [iv c2_]::its))(r:σ)(h:Zc4 N y_ c0_ c1_ c2_ s_=some r):∃ H' its',ZbR Try.prog 47 [.yl yid_,.ptr k0_ 0,.ptr k1_ 0,.ptr k2_ 0] H (.tup []) H'/\T_ r its'/\Fp H H' (.cel k0_ (Z2 c0_)::.cel k1_ [iv c1_]::.cel k2_ [iv c2_]::its) (.cel k0_ (Z2 c0_)::.cel k1_ [iv c1_]::.cel k2_ [iv c2_]::its'):=by
 suffices hs:∃ H',ZbR Try.prog 47 [.yl yid_,.ptr k0_ 0,.ptr k1_ 0,.ptr k2_ 0] H (.tup []) H'/\∃ its',T_ r its'/\Fp H H' (.cel k0_ (Z2 c0_)::.cel k1_ [iv c1_]::.cel k2_ [iv c2_]::its) (.cel k0_ (Z2 c0_)::.cel k1_ [iv c1_]::.cel k2_ [iv c2_]::its') by
  obtain ⟨H',h1,its',h2,h3⟩:=hs
  exact ⟨H',its',h1,h2,h3⟩
 unfold Zc4 at h
 replace hH:Fp H H (.cel k0_ (Z2 c0_)::.cel k1_ [iv c1_]::.cel k2_ [iv c2_]::its) (.cel k0_ (Z2 c0_)::.cel k1_ [iv c1_]::.cel k2_ [iv c2_]::its):=Fp.refl hH
 refine ZfU ZuR (λH'=>∃ its',T_ r its'/\Fp H H' (.cel k0_ (Z2 c0_)::.cel k1_ [iv c1_]::.cel k2_ [iv c2_]::its) (.cel k0_ (Z2 c0_)::.cel k1_ [iv c1_]::.cel k2_ [iv c2_]::its')) rfl rfl rfl (sq ?_)
 have hlc1:=Fp.get hH 0 rfl
 refine rg (Z4.u 1 (ZaP (H:=H) (id:=k0_) (off:=1) (cs:=(Z2 c0_)) (c:=[Z8 false c0_.Uses]) (r:=Z8 false c0_.Uses) (hl:=hlc1)) (Z4.u 0 (Zad (ys:=[Z8 false c0_.Uses]) (h:=Zal Zan)) Z4.f)) (tq (bk ?_))
 obtain ⟨ag,a9,h⟩:=bs h
 refine Zbc ((ZaT (λ(x:Int×σ) s=>∃ (its2:List ZaS) (H3:List HO),s=⟨[(0,.yl yid_),(1,.ptr k0_ 0),(2,.ptr k1_ 0),(3,.ptr k2_ 0),(10,Z8 false c0_.Uses),(11,iv ((List.length c0_.Uses:Nat):Int)),(12,iv x.1)],[],H3⟩/\T_ x.2 its2/\Fp H H3 (.cel k0_ (Z2 c0_)::.cel k1_ [iv c1_]::.cel k2_ [iv c2_]::its) (.cel k0_ (Z2 c0_)::.cel k1_ [iv c1_]::.cel k2_ [iv c2_]::its2)) (λx:Int×σ=>ZbF N y_ c0_ c1_ c2_ x.1 x.2) (λ(p:(σ)⊕(σ)) e s=>match p with|(.inl p)=>e=.exit 0/\(∃ (a3:List ZaS) (af:List HO),s=⟨[],[],af⟩/\T_ p a3/\Fp H af (.cel k0_ (Z2 c0_)::.cel k1_ [iv c1_]::.cel k2_ [iv c2_]::its) (.cel k0_ (Z2 c0_)::.cel k1_ [iv c1_]::.cel k2_ [iv c2_]::a3))|(.inr p)=>e=.ret/\∃ xs,rawL s i47.res=some xs/\Zbr xs=.tup []/\∃ its',T_ p its'/\Fp H s.H (.cel k0_ (Z2 c0_)::.cel k1_ [iv c1_]::.cel k2_ [iv c2_]::its) (.cel k0_ (Z2 c0_)::.cel k1_ [iv c1_]::.cel k2_ [iv c2_]::its')) ?_ N _ ag _ a9 ⟨its,H,kr,hT,Fp.at hH⟩).mono ?_)
 ·clear h a9
  rintro ⟨i4,g5⟩ o s h hR
  obtain ⟨its2,H3,rfl,hT,hH⟩:=hR
  replace hH:Fp H H3 (.cel k0_ (Z2 c0_)::.cel k1_ [iv c1_]::.cel k2_ [iv c2_]::its) (.cel k0_ (Z2 c0_)::.cel k1_ [iv c1_]::.cel k2_ [iv c2_]::its2):=hH
  replace h:ZbF N y_ c0_ c1_ c2_ i4 g5=some o:=h
  unfold ZbF at h
  refine sq (rg Z4.f (tq (sq (it h (λaA h=>?_) (λaA h=>?_)))))
  ·refine sk (tq (kq (sq (bk (sq ?_)))))
   obtain ⟨a4,aj,h⟩:=bs h
   refine rg (Z4.u 1 (Zad (ys:=[Z8 false c0_.Uses,iv i4]) (h:=Zac Zan aj)) (Z4.u 0 (Zas (sz:=4) (off:=0) (cs:=[.int .i64 a4.Stream,.int .i64 a4.Port,.int .i64 a4.From,.int .i64 a4.Long]) (r:=.agg (ZaE a4)) Zan aj) Z4.f)) (tq (sq (sq ?_)))
   have an:=Fp.get hH 1 rfl
   refine rg (Z4.u 2 (ZaP (H:=H3) (id:=k1_) (off:=0) (cs:=[iv c1_]) (c:=[iv c1_]) (r:=iv c1_) (hl:=an)) Z4.f) (tq (it h (λaz h=>?_) (λaz h=>?_)))
   ·refine kq (xq (tx (bx (tq (kq (rg Z4.f ?_))))))
    cases h
    exact ⟨_,rfl,⟨its2,H3,kr,hT,Fp.at hH⟩⟩
   refine sk (tq (kq (sq ?_)))
   have am:=Fp.get hH 0 rfl
   refine rg (Z4.u 1 (ZaP (H:=H3) (id:=k0_) (off:=1) (cs:=(Z2 c0_)) (c:=[Z8 false c0_.Uses]) (r:=Z8 false c0_.Uses) (hl:=am)) (Z4.u 0 (Zad (ys:=[Z8 false c0_.Uses]) (h:=Zal Zan)) Z4.f)) (tq (bk ?_))
   obtain ⟨ai,aa,h⟩:=bs h
   refine Zbc ((ZaT (λ(x:Int×σ) s=>∃ (a0:List ZaS) (a5:List HO),s=⟨[(0,.yl yid_),(1,.ptr k0_ 0),(2,.ptr k1_ 0),(3,.ptr k2_ 0),(5,iv i4),(6,.loc 6 0),(10,Z8 false c0_.Uses),(11,iv ((List.length c0_.Uses:Nat):Int)),(12,iv i4),(22,Z8 false c0_.Uses),(23,iv ((List.length c0_.Uses:Nat):Int)),(24,iv x.1)],[(6,(ZaE a4))],a5⟩/\T_ x.2 a0/\Fp H a5 (.cel k0_ (Z2 c0_)::.cel k1_ [iv c1_]::.cel k2_ [iv c2_]::its) (.cel k0_ (Z2 c0_)::.cel k1_ [iv c1_]::.cel k2_ [iv c2_]::a0)) (λx:Int×σ=>ZbE N y_ c0_ c2_ i4 a4 x.1 x.2) (λ(p:(σ)⊕(σ)) e s=>match p with|(.inl p)=>e=.exit 2/\(∃ (a2:List ZaS) (a7:List HO),s=⟨[(0,.yl yid_),(1,.ptr k0_ 0),(2,.ptr k1_ 0),(3,.ptr k2_ 0),(10,Z8 false c0_.Uses),(11,iv ((List.length c0_.Uses:Nat):Int)),(12,iv i4)],[],a7⟩/\T_ p a2/\Fp H a7 (.cel k0_ (Z2 c0_)::.cel k1_ [iv c1_]::.cel k2_ [iv c2_]::its) (.cel k0_ (Z2 c0_)::.cel k1_ [iv c1_]::.cel k2_ [iv c2_]::a2))|(.inr p)=>e=.ret/\∃ xs,rawL s i47.res=some xs/\Zbr xs=.tup []/\∃ its',T_ p its'/\Fp H s.H (.cel k0_ (Z2 c0_)::.cel k1_ [iv c1_]::.cel k2_ [iv c2_]::its) (.cel k0_ (Z2 c0_)::.cel k1_ [iv c1_]::.cel k2_ [iv c2_]::its')) ?_ N _ ai _ aa ⟨its2,H3,kr,hT,Fp.at hH⟩).mono ?_)
   ·clear h aa
    rintro ⟨a8,aB⟩ o s h hR
    obtain ⟨a0,a5,rfl,hT,hH⟩:=hR
    replace hH:Fp H a5 (.cel k0_ (Z2 c0_)::.cel k1_ [iv c1_]::.cel k2_ [iv c2_]::its) (.cel k0_ (Z2 c0_)::.cel k1_ [iv c1_]::.cel k2_ [iv c2_]::a0):=hH
    replace h:ZbE N y_ c0_ c2_ i4 a4 a8 aB=some o:=h
    unfold ZbE at h
    refine sq (rg Z4.f (tq (sq (it h (λaw h=>?_) (λaw h=>?_)))))
    ·refine sk (tq (kq (sq (bk (sq ?_)))))
     obtain ⟨a1,ab,h⟩:=bs h
     refine rg (Z4.u 1 (Zad (ys:=[Z8 false c0_.Uses,iv a8]) (h:=Zac Zan ab)) (Z4.u 0 (Zas (sz:=4) (off:=0) (cs:=[.int .i64 a1.Stream,.int .i64 a1.Port,.int .i64 a1.From,.int .i64 a1.Long]) (r:=.agg (ZaE a1)) Zan ab) Z4.f)) (tq (sq (sq ?_)))
     obtain ⟨ay,hj,h⟩:=bs h
     refine rgR (λs=>s=⟨[(0,.yl yid_),(1,.ptr k0_ 0),(2,.ptr k1_ 0),(3,.ptr k2_ 0),(5,iv i4),(6,.loc 6 0),(8,.loc 8 0),(10,Z8 false c0_.Uses),(11,iv ((List.length c0_.Uses:Nat):Int)),(12,iv i4),(22,Z8 false c0_.Uses),(23,iv ((List.length c0_.Uses:Nat):Int)),(24,iv a8),(44,bv ay)],[(6,(ZaE a4)),(8,(ZaE a1))],a5⟩) ?_ ?_
     ·clear h
      rcases Zat hj with ⟨av,hj⟩|⟨au,hj⟩
      ·obtain rfl:=Zae hj
       exact (EP.u 2 (Zaa (c:=(a8==i4)) (h:=av)) (EP.f kr))
      refine (EP.u 2 (Zaa (c:=(a8==i4)) (h:=au)) ?_)
      have ad:=Fp.get hH 2 rfl
      refine (EP.u 3 (ZaP (H:=a5) (id:=k2_) (off:=0) (cs:=[iv c2_]) (c:=[iv c2_]) (r:=iv c2_) (hl:=ad)) ?_)
      rcases Zat hj with ⟨ar,hj⟩|⟨aq,hj⟩
      ·obtain rfl:=Zae hj
       exact (EP.u 0 (Zaa (c:=(a1.Stream != c2_)) (h:=ar)) (EP.f kr))
      obtain rfl:=Zae hj
      exact (EP.u 0 (Zaa (c:=(a1.Stream != c2_)) (h:=aq)) (EP.f kr))
     clear hj
     rintro s hR
     obtain rfl:=hR
     refine tq (it h (λap h=>?_) (λap h=>?_))
     ·refine kq (xq (tx (bx (tq (kq (rg Z4.f ?_))))))
      cases h
      exact ⟨_,rfl,⟨a0,a5,kr,hT,Fp.at hH⟩⟩
     refine sk (tq (kq (sq ?_)))
     obtain ⟨ax,al,h⟩:=bs h
     obtain ⟨ak,a6,ac,hT,ae⟩:=hy_ a4 a1 aB ax a5 a0 hT (Fp.tail (own:=[.cel k0_ (Z2 c0_),.cel k1_ [iv c1_],.cel k2_ [iv c2_]]) (its:=a0) hH) al
     replace hH:Fp H ak (.cel k0_ (Z2 c0_)::.cel k1_ [iv c1_]::.cel k2_ [iv c2_]::its) (.cel k0_ (Z2 c0_)::.cel k1_ [iv c1_]::.cel k2_ [iv c2_]::a6):=Fp.callT (own:=[.cel k0_ (Z2 c0_),.cel k1_ [iv c1_],.cel k2_ [iv c2_]]) (its:=a0) hH ae
     refine rg (Z4.v 3 (Znv (H:=a5) (id:=yid_) (ys:=[.agg (ZaE a4),.agg (ZaE a1)]) kr kr kr kr ac) Z4.f) (tq (it h (λao h=>?_) (λao h=>?_)))
     ·refine rt (br (tr ?_))
      cases h
      exact ⟨_,rfl,rfl,⟨[],kr,kr,a6,hT,Fp.at hH⟩⟩
     refine sk (bn (tq (kq (rg Z4.f ?_))))
     cases h
     exact ⟨_,rfl,⟨a6,ak,kr,hT,Fp.at hH⟩⟩
    refine kq (xq (tx ?_))
    cases h
    exact ⟨_,rfl,rfl,⟨a0,a5,kr,hT,Fp.at hH⟩⟩
   rintro e s hq
   rcases ai with aG|aE
   ·dsimp only at h hq
    obtain ⟨rfl,hR⟩:=hq
    obtain ⟨a2,a7,rfl,hT,hH⟩:=hR
    replace hH:Fp H a7 (.cel k0_ (Z2 c0_)::.cel k1_ [iv c1_]::.cel k2_ [iv c2_]::its) (.cel k0_ (Z2 c0_)::.cel k1_ [iv c1_]::.cel k2_ [iv c2_]::a2):=hH
    refine bx (bn (tq (kq (rg Z4.f ?_))))
    cases h
    exact ⟨_,rfl,⟨a2,a7,kr,hT,Fp.at hH⟩⟩
   dsimp only at h hq
   obtain ⟨rfl,hq⟩:=hq
   refine br (br (tr ?_))
   cases h
   exact ⟨_,rfl,rfl,hq⟩
  refine kq (xq (tx ?_))
  cases h
  exact ⟨_,rfl,rfl,⟨its2,H3,kr,hT,Fp.at hH⟩⟩
 rintro e s hq
 rcases ag with aD|aC
 ·dsimp only at h hq
  obtain ⟨rfl,hR⟩:=hq
  obtain ⟨a3,af,rfl,hT,hH⟩:=hR
  replace hH:Fp H af (.cel k0_ (Z2 c0_)::.cel k1_ [iv c1_]::.cel k2_ [iv c2_]::its) (.cel k0_ (Z2 c0_)::.cel k1_ [iv c1_]::.cel k2_ [iv c2_]::a3):=hH
  refine bx ?_
  cases h
  exact ⟨[],kr,kr,a3,hT,Fp.at hH⟩
 dsimp only at h hq
 obtain ⟨rfl,hq⟩:=hq
 refine br ?_
 cases h
 exact hq
theorem Zc9 (N:Nat)(a0_:Zab)(r:Int)(h:ZbM N a0_=some r):Zbk Try.prog 48 [.agg (Za9 a0_)] (iv r):=by
 unfold ZbM at h
 have hH  := hp0
 refine ZaG ZuQ rfl rfl (Zao _ _ _ ?_) rfl
 refine sq (rg Z4.f (tq (sq (sq (rgX ⟨[(1,.loc 1 0),(22,bv ((decide (a0_.Period<1))||((decide (a0_.Period>960))||((decide (a0_.From<0))||(decide (a0_.From≥a0_.Period))))))],[(1,(Za9 a0_))],[]⟩ ?_ ?_)))))
 ·rcases Bool.eq_false_or_eq_true (decide (a0_.Period<1)) with hc1|hc2
  ·exact (EP.u 2 (Zaa (c:=(decide (a0_.Period<1))) (h:=hc1)) (EP.f (by simp only [hc1];kernel_rfl)))
  refine (EP.u 2 (Zaa (c:=(decide (a0_.Period<1))) (h:=hc2)) ?_)
  rcases Bool.eq_false_or_eq_true (decide (a0_.Period>960)) with hc3|hc4
  ·exact (EP.u 3 (Zaa (c:=(decide (a0_.Period>960))) (h:=hc3)) (EP.f (by simp only [hc2,hc3];kernel_rfl)))
  refine (EP.u 3 (Zaa (c:=(decide (a0_.Period>960))) (h:=hc4)) ?_)
  rcases Bool.eq_false_or_eq_true (decide (a0_.From<0)) with hc5|hc6
  ·exact (EP.u 4 (Zaa (c:=(decide (a0_.From<0))) (h:=hc5)) (EP.f (by simp only [hc2,hc4,hc5];kernel_rfl)))
  exact (EP.u 4 (Zaa (c:=(decide (a0_.From<0))) (h:=hc6)) (EP.f (by simp only [hc2,hc4,hc6];kernel_rfl)))
 refine tq (it h (λhc7 h=>?_) (λhc7 h=>?_))
 ·refine sq (rg Z4.f (tq (rt (tr ?_))))
  cases h
  exact Zaz kr
 refine sk (tq (kq (sq (sq (rgX ⟨[(32,bv ((decide (a0_.Long<1))||(decide (a0_.Long>a0_.Period))))],[],[]⟩ ?_ ?_)))))
 ·rcases Bool.eq_false_or_eq_true (decide (a0_.Long<1)) with hc8|hc9
  ·exact (EP.u 2 (Zaa (c:=(decide (a0_.Long<1))) (h:=hc8)) (EP.f (by simp only [hc8];kernel_rfl)))
  exact (EP.u 2 (Zaa (c:=(decide (a0_.Long<1))) (h:=hc9)) (EP.f (by simp only [hc9];kernel_rfl)))
 refine tq (it h (λa0 h=>?_) (λa0 h=>?_))
 ·refine sq (rg Z4.f (tq (rt (tr ?_))))
  cases h
  exact Zaz kr
 refine sk (tq (kq (sq (rg Z4.f (tq (rt ?_))))))
 cases h
 exact Zaz kr
theorem Zfm (N:Nat)(a0_:(List Zab))(r:Int)(h:ZbT N a0_=some r):Zbk Try.prog 54 [ZaL false a0_] (iv r):=by
 unfold ZbT at h
 have hH  := hp0
 refine ZaG ZuN rfl rfl (Zao _ _ _ ?_) rfl
 refine sq (rg Z4.f (tq (sq (sq (rg (Z4.u 1 (Zad (ys:=[ZaL false a0_]) (h:=Zal ZaO)) Z4.f) (tq (it h (λhc1 h=>?_) (λhc1 h=>?_))))))))
 ·refine sq (rg Z4.f (tq (rt (tr ?_))))
  cases h
  exact Zaz kr
 refine sk (tq (kq (sq (sq (rg (Z4.u 1 (Zad (ys:=[ZaL false a0_]) (h:=Zal ZaO)) Z4.f) (tq (bk ?_)))))))
 obtain ⟨a3,a1,h⟩:=bs h
 refine Zbc ((ZaT (λ(x:Int) s=>s=⟨[(9,ZaL false a0_),(10,iv ((List.length a0_:Nat):Int)),(11,iv x)],[],[]⟩) (λx:Int=>ZaZ N a0_ x) (λ(p:(Unit)⊕(Int)) e s=>match p with|(.inl p)=>e=.exit 0/\(s=⟨[],[],[]⟩)|(.inr p)=>e=.ret/\∃ xs,resL s i54.res=some xs/\Zbr xs=iv p) ?_ N _ a3 _ a1 kr).mono ?_)
 ·clear h a1
  rintro i2 o s h hR
  obtain rfl:=hR
  replace h:ZaZ N a0_ i2=some o:=h
  unfold ZaZ at h
  refine sq (rg Z4.f (tq (sq (it h (λa6 h=>?_) (λa6 h=>?_)))))
  ·refine sk (tq (kq (sq (bk (sq ?_)))))
   obtain ⟨a0,a2,h⟩:=bs h
   refine rg (Z4.u 0 (Zad (ys:=[ZaL false a0_,iv i2]) (h:=Zac ZaO a2)) (Z4.u 0 (Zas (sz:=3) (off:=0) (cs:=[.int .i64 a0.Period,.int .i64 a0.From,.int .i64 a0.Long]) (r:=.agg (Za9 a0)) ZaO a2) Z4.f)) (tq (sq ?_))
   obtain ⟨a7,a4,h⟩:=bs h
   refine rg (Z4.v 1 (Zav (hc:=Zc9 N a0 a7 a4)) Z4.f) (tq (sq (rg Z4.f (tq (it h (λa5 h=>?_) (λa5 h=>?_))))))
   ·refine sq (rg Z4.f (tq (rt (br (tr ?_)))))
    cases h
    exact ⟨_,rfl,rfl,Zaz kr⟩
   refine sk (bn (tq (kq (rg Z4.f ?_))))
   cases h
   exact ⟨_,rfl,kr⟩
  refine kq (xq (tx ?_))
  cases h
  exact ⟨_,rfl,rfl,kr⟩
 rintro e s hq
 rcases a3 with a9|a8
 ·dsimp only at h hq
  obtain ⟨rfl,hR⟩:=hq
  obtain rfl:=hR
  refine bx (tq (sq (rg Z4.f (tq (rt ?_)))))
  cases h
  exact Zaz kr
 dsimp only at h hq
 obtain ⟨rfl,hq⟩:=hq
 refine br (tr ?_)
 cases h
 exact hq
theorem Zhn (N:Nat)(a0_:Z3)(a1_:Int)(a2_:Int)(r:Zab)(h:ZeO N a0_ a1_ a2_=some r):Zbk Try.prog 57 [.agg (Z2 a0_),iv a1_,iv a2_] (.agg [iv r.Period,iv r.From,iv r.Long]):=by
 unfold ZeO at h
 have hH  := hp0
 refine ZaG ZuK rfl rfl (Zao _ _ _ ?_) rfl
 refine sq (rg Z4.f (tq (sq ?_)))
 obtain ⟨e1,he1,h⟩:=bs h
 obtain ⟨e2,he2,h⟩:=bs h
 refine rq (Z4.u 5 (Zad (ys:=[Z8 false a0_.Uses,iv a1_]) (h:=Zac Zan he1)) (Z4.u 1 (ZaY (Zas (sz:=4) (off:=0) (cs:=[.int .i64 e1.Stream]) (r:=iv e1.Stream) Zan he1)) (Z4.u 0 (Zad (ys:=[Z9 false a0_.Periods,iv e1.Stream]) (h:=Zac eI64 he2)) (Z4.u 0 (ZaY (Zas (sz:=1) (off:=0) (cs:=[.int .i64 e2]) (r:=iv e2) eI64 he2)) Z4.f)))) (tq (sq ?_))
 obtain ⟨e3,he3,h⟩:=bs h
 obtain ⟨m4,hm4,h⟩:=bs h
 obtain ⟨e5,he5,h⟩:=bs h
 refine rq (Z4.u 4 (Zad (ys:=[Z8 false a0_.Uses,iv a1_]) (h:=Zac Zan he3)) (Z4.u 1 (ZaY (Zas (sz:=4) (off:=2) (cs:=[.int .i64 e3.From]) (r:=iv e3.From) Zan he3)) (Z4.u 3 (Zad (ys:=[iv (w64 (e3.From+a2_)),iv e2]) (h:=Zbl hm4)) (Z4.u 3 (Zad (ys:=[Z8 false a0_.Uses,iv a1_]) (h:=Zac Zan he5)) (Z4.u 1 (ZaY (Zas (sz:=4) (off:=3) (cs:=[.int .i64 e5.Long]) (r:=iv e5.Long) Zan he5)) Z4.f))))) (tq (rt ?_))
 cases h
 exact Zaz kr
theorem Zh1 (N:Nat)(a0_:Int)(a1_:Int)(r:Int)(h:Zdp N a0_ a1_=some r):Zbk Try.prog 59 [iv a0_,iv a1_] (iv r):=by
 unfold Zdp at h
 have hH  := hp0
 refine ZaG ZuI rfl rfl (Zao _ _ _ ?_) rfl
 refine sq (rg Z4.f (tq (sq ?_)))
 obtain ⟨m1,hm1,h⟩:=bs h
 obtain ⟨m2,hm2,h⟩:=bs h
 refine rg (Z4.u 2 (Zad (ys:=[iv a0_,iv a1_]) (h:=Zbl hm1)) (Z4.u 3 (Zad (ys:=[iv (w64 (m1+a1_)),iv a1_]) (h:=Zbl hm2)) Z4.f)) (tq (rt ?_))
 cases h
 exact Zaz kr
theorem Ze5 (N:Nat)(a0_:Int)(a1_:Int)(r:Int)(h:ZcR N a0_ a1_=some r):Zbk Try.prog 60 [iv a0_,iv a1_] (iv r):=by
 unfold ZcR at h
 have hH  := hp0
 refine ZaG ZuH rfl rfl (Zao _ _ _ ?_) rfl
 refine sq (rg Z4.f (tq (sq (bk ?_))))
 obtain ⟨a3,a0,h⟩:=bs h
 refine Zbc ((ZaT (λ(x:Int×Int) s=>s=⟨[(0,iv x.1),(1,iv x.2)],[],[]⟩) (λx:Int×Int=>Zbz N x.1 x.2) (λ(p:Int) e s=>e=.exit 0/\(s=⟨[(0,iv p)],[],[]⟩)) ?_ N _ a3 _ a0 kr).mono ?_)
 ·clear h a0
  rintro ⟨i1,i2⟩ o s h hR
  obtain rfl:=hR
  replace h:Zbz N i1 i2=some o:=h
  unfold Zbz at h
  refine sq (sq (rg Z4.f (tq (it h (λa2 h=>?_) (λa2 h=>?_)))))
  ·refine sk (tq (kq (bk ?_)))
   obtain ⟨a4,a1,h⟩:=bs h
   refine rq (Z4.u 3 (Zad (ys:=[iv i1,iv i2]) (h:=Zbl a1)) Z4.f) (bn ?_)
   cases h
   exact ⟨_,rfl,kr⟩
  refine kq (xq (tx ?_))
  cases h
  exact ⟨_,rfl,rfl,kr⟩
 rintro e s hq
 obtain ⟨rfl,hR⟩:=hq
 obtain rfl:=hR
 refine bx (tq (sq (rg Z4.f (tq (rt ?_)))))
 cases h
 exact Zaz kr
theorem ZjM (N:Nat)(a0_:Int)(a1_:Int)(r:Int)(h:Zev N a0_ a1_=some r):Zbk Try.prog 61 [iv a0_,iv a1_] (iv r):=by
 unfold Zev at h
 have hH  := hp0
 refine ZaG ZuG rfl rfl (Zao _ _ _ ?_) rfl
 refine sq (rg Z4.f (tq (sq (sq (rg Z4.f (tq (bk ?_)))))))
 obtain ⟨a1,a0,h⟩:=bs h
 refine Zbc ((ZaT (λ(x:Int) s=>s=⟨[(0,iv a0_),(1,iv a1_),(5,iv x)],[],[]⟩) (λx:Int=>ZbJ N a0_ a1_ x) (λ(p:(Unit)⊕(Int)) e s=>match p with|(.inl p)=>e=.exit 0/\(s=⟨[],[],[]⟩)|(.inr p)=>e=.ret/\∃ xs,resL s i61.res=some xs/\Zbr xs=iv p) ?_ N _ a1 _ a0 kr).mono ?_)
 ·clear h a0
  rintro i1 o s h hR
  obtain rfl:=hR
  replace h:ZbJ N a0_ a1_ i1=some o:=h
  unfold ZbJ at h
  refine sq (sq (rg Z4.f (tq (it h (λa8 h=>?_) (λa8 h=>?_)))))
  ·refine sk (tq (kq (sq (bk (sq ?_)))))
   obtain ⟨a9,hj,h⟩:=bs h
   refine rgR (λs=>s=⟨[(0,iv a0_),(1,iv a1_),(5,iv i1),(20,bv a9)],[],[]⟩) ?_ ?_
   ·clear h
    obtain ⟨a2,a4,hj⟩:=bs hj
    refine (EP.u 2 (Zad (ys:=[iv a0_,iv i1]) (h:=Zbl a4)) ?_)
    rcases Zat hj with ⟨a7,hj⟩|⟨a6,hj⟩
    ·refine (EP.u 0 (Zaa (c:=(a2==0)) (h:=a7)) ?_)
     obtain ⟨ac,a3,hj⟩:=bs hj
     obtain rfl:=Zae hj
     exact (EP.u 3 (Zad (ys:=[iv a1_,iv i1]) (h:=Zbl a3)) (EP.f kr))
    obtain rfl:=Zae hj
    exact (EP.u 0 (Zaa (c:=(a2==0)) (h:=a6)) (EP.f kr))
   clear hj
   rintro s hR
   obtain rfl:=hR
   refine tq (it h (λa5 h=>?_) (λa5 h=>?_))
   ·refine sq (rg Z4.f (tq (rt (br (tr ?_)))))
    cases h
    exact ⟨_,rfl,rfl,Zaz kr⟩
   refine sk (bn (tq (kq (rg Z4.f ?_))))
   cases h
   exact ⟨_,rfl,kr⟩
  refine kq (xq (tx ?_))
  cases h
  exact ⟨_,rfl,rfl,kr⟩
 rintro e s hq
 rcases a1 with ab|aa
 ·dsimp only at h hq
  obtain ⟨rfl,hR⟩:=hq
  obtain rfl:=hR
  refine bx (tq (sq (rg Z4.f (tq (rt ?_)))))
  cases h
  exact Zaz kr
 dsimp only at h hq
 obtain ⟨rfl,hq⟩:=hq
 refine br (tr ?_)
 cases h
 exact hq
theorem ZjK (N:Nat)(a0_:Int)(a1_:Int)(r:Int)(h:Zeu N a0_ a1_=some r):Zbk Try.prog 62 [iv a0_,iv a1_] (iv r):=by
 unfold Zeu at h
 have hH  := hp0
 refine ZaG ZuF rfl rfl (Zao _ _ _ ?_) rfl
 refine sq (rg Z4.f (tq (sq ?_)))
 obtain ⟨m1,hm1,h⟩:=bs h
 refine rg (Z4.u 2 (Zad (ys:=[iv a0_,iv a1_]) (h:=Zbl hm1)) Z4.f) (tq ?_)
 obtain ⟨a2,a0,h⟩:=bs h
 refine ZgP [5] (λs=>s=⟨[(5,iv a2)],[],[]⟩) ?_ ?_
 ·clear h
  have h:=a0
  refine sq (rg Z4.f (tq (it h (λa1 h=>?_) (λa1 h=>?_))))
  ·refine rg Z4.f ?_
   cases h
   exact ⟨rfl,kr⟩
  refine sk ?_
  cases h
  exact ⟨rfl,kr⟩
 clear a0
 rintro s hR
 obtain rfl:=hR
 refine sq (rg Z4.f (tq (rt ?_)))
 cases h
 exact Zaz kr
theorem Zh4 (N:Nat)(a0_:Z3)(r:Bool)(h:Zdq N a0_=some r):Zbk Try.prog 24 [.agg (Z2 a0_)] (bv r):=by
 unfold Zdq at h
 have hH  := hp0
 refine ZaG Zu6 rfl rfl (Zao _ _ _ ?_) rfl
 refine sq (rg Z4.f (tq (sq (sq (rgX ⟨[(1,.loc 1 0),(15,bv ((decide (((List.length a0_.Periods:Nat):Int)>12))||(decide (((List.length a0_.Uses:Nat):Int)>192))))],[(1,(Z2 a0_))],[]⟩ ?_ ?_)))))
 ·refine (EP.u 2 (Zad (ys:=[Z9 false a0_.Periods]) (h:=Zal eI64)) ?_)
  rcases Bool.eq_false_or_eq_true (decide (((List.length a0_.Periods:Nat):Int)>12)) with hc1|hc2
  ·exact (EP.u 0 (Zaa (c:=(decide (((List.length a0_.Periods:Nat):Int)>12))) (h:=hc1)) (EP.f (by simp only [hc1];kernel_rfl)))
  exact (EP.u 0 (Zaa (c:=(decide (((List.length a0_.Periods:Nat):Int)>12))) (h:=hc2)) (EP.u 3 (Zad (ys:=[Z8 false a0_.Uses]) (h:=Zal Zan)) (EP.f (by simp only [hc2];kernel_rfl))))
 refine tq (it h (λhc3 h=>?_) (λhc3 h=>?_))
 ·refine sq (rg Z4.f (tq (rt (tr ?_))))
  cases h
  exact Zaz kr
 refine sk (tq (kq (sq (sq (rg Z4.f (tq (bk ?_)))))))
 obtain ⟨ax,af,h⟩:=bs h
 refine Zbc ((ZaT (λ(x:Int) s=>s=⟨[(1,.loc 1 0),(3,iv x)],[(1,(Z2 a0_))],[]⟩) (λx:Int=>Zb0 N a0_ x) (λ(p:(Unit)⊕(Bool)) e s=>match p with|(.inl p)=>e=.exit 0/\(s=⟨[(1,.loc 1 0)],[(1,(Z2 a0_))],[]⟩)|(.inr p)=>e=.ret/\∃ xs,resL s i24.res=some xs/\Zbr xs=bv p) ?_ N _ ax _ af kr).mono ?_)
 ·clear h af
  rintro i4 o s h hR
  obtain rfl:=hR
  replace h:Zb0 N a0_ i4=some o:=h
  unfold Zb0 at h
  refine sq (sq (rg (Z4.u 3 (Zad (ys:=[Z9 false a0_.Periods]) (h:=Zal eI64)) Z4.f) (tq (it h (λaC h=>?_) (λaC h=>?_)))))
  ·refine sk (tq (kq (sq (bk (sq ?_)))))
   obtain ⟨aE,hj,h⟩:=bs h
   refine rgR (λs=>s=⟨[(1,.loc 1 0),(3,iv i4),(36,bv aE)],[(1,(Z2 a0_))],[]⟩) ?_ ?_
   ·clear h
    obtain ⟨ad,ai,hj⟩:=bs hj
    refine (EP.u 3 (Zad (ys:=[Z9 false a0_.Periods,iv i4]) (h:=Zac eI64 ai)) (EP.u 0 (Zas (sz:=1) (off:=0) (cs:=[.int .i64 ad]) (r:=iv ad) eI64 ai) ?_))
    rcases Zat hj with ⟨aB,hj⟩|⟨aA,hj⟩
    ·obtain rfl:=Zae hj
     exact (EP.u 0 (Zaa (c:=(decide (ad<1))) (h:=aB)) (EP.f kr))
    refine (EP.u 0 (Zaa (c:=(decide (ad<1))) (h:=aA)) ?_)
    obtain ⟨aD,ag,hj⟩:=bs hj
    obtain rfl:=Zae hj
    exact (EP.u 4 (Zad (ys:=[Z9 false a0_.Periods,iv i4]) (h:=Zac eI64 ag)) (EP.u 0 (Zas (sz:=1) (off:=0) (cs:=[.int .i64 aD]) (r:=iv aD) eI64 ag) (EP.f kr)))
   clear hj
   rintro s hR
   obtain rfl:=hR
   refine tq (it h (λaz h=>?_) (λaz h=>?_))
   ·refine sq (rg Z4.f (tq (rt (br (tr ?_)))))
    cases h
    exact ⟨_,rfl,rfl,Zaz kr⟩
   refine sk (bn (tq (kq (rg Z4.f ?_))))
   cases h
   exact ⟨_,rfl,kr⟩
  refine kq (xq (tx ?_))
  cases h
  exact ⟨_,rfl,rfl,kr⟩
 rintro e s hq
 rcases ax with aK|aG
 ·dsimp only at h hq
  obtain ⟨rfl,hR⟩:=hq
  obtain rfl:=hR
  refine bx (tq (sq (sq (rg Z4.f (tq (bk ?_))))))
  obtain ⟨ae,a4,h⟩:=bs h
  refine Zbc ((ZaT (λ(x:Int) s=>s=⟨[(1,.loc 1 0),(4,iv x)],[(1,(Z2 a0_))],[]⟩) (λx:Int=>ZbZ N a0_ x) (λ(p:(Unit)⊕(Bool)) e s=>match p with|(.inl p)=>e=.exit 2/\(s=⟨[(1,.loc 1 0)],[(1,(Z2 a0_))],[]⟩)|(.inr p)=>e=.ret/\∃ xs,resL s i24.res=some xs/\Zbr xs=bv p) ?_ N _ ae _ a4 kr).mono ?_)
  ·clear h a4
   rintro ac o s h hR
   obtain rfl:=hR
   replace h:ZbZ N a0_ ac=some o:=h
   unfold ZbZ at h
   refine sq (sq (rg (Z4.u 3 (Zad (ys:=[Z8 false a0_.Uses]) (h:=Zal Zan)) Z4.f) (tq (it h (λav h=>?_) (λav h=>?_)))))
   ·refine sk (tq (kq (sq (bk (sq ?_)))))
    obtain ⟨a0,a7,h⟩:=bs h
    refine rg (Z4.u 3 (Zad (ys:=[Z8 false a0_.Uses,iv ac]) (h:=Zac Zan a7)) (Z4.u 0 (Zas (sz:=4) (off:=0) (cs:=[.int .i64 a0.Stream,.int .i64 a0.Port,.int .i64 a0.From,.int .i64 a0.Long]) (r:=.agg (ZaE a0)) Zan a7) Z4.f)) (tq (sq (sq (rgX ⟨[(1,.loc 1 0),(4,iv ac),(5,.loc 5 0),(69,bv ((decide (a0.Stream<0))||((decide (a0.Stream≥((List.length a0_.Periods:Nat):Int)))||((decide (a0.Port<0))||(decide (a0.Port≥48))))))],[(1,(Z2 a0_)),(5,(ZaE a0))],[]⟩ ?_ ?_))))
    ·rcases Bool.eq_false_or_eq_true (decide (a0.Stream<0)) with ab|a1
     ·exact (EP.u 2 (Zaa (c:=(decide (a0.Stream<0))) (h:=ab)) (EP.f (by simp only [ab];kernel_rfl)))
     refine (EP.u 2 (Zaa (c:=(decide (a0.Stream<0))) (h:=a1)) (EP.u 5 (Zad (ys:=[Z9 false a0_.Periods]) (h:=Zal eI64)) ?_))
     rcases Bool.eq_false_or_eq_true (decide (a0.Stream≥((List.length a0_.Periods:Nat):Int))) with aa|a2
     ·exact (EP.u 0 (Zaa (c:=(decide (a0.Stream≥((List.length a0_.Periods:Nat):Int)))) (h:=aa)) (EP.f (by simp only [a1,aa];kernel_rfl)))
     refine (EP.u 0 (Zaa (c:=(decide (a0.Stream≥((List.length a0_.Periods:Nat):Int)))) (h:=a2)) ?_)
     rcases Bool.eq_false_or_eq_true (decide (a0.Port<0)) with a9|a8
     ·exact (EP.u 4 (Zaa (c:=(decide (a0.Port<0))) (h:=a9)) (EP.f (by simp only [a1,a2,a9];kernel_rfl)))
     exact (EP.u 4 (Zaa (c:=(decide (a0.Port<0))) (h:=a8)) (EP.f (by simp only [a1,a2,a8];kernel_rfl)))
    refine tq (it h (λau h=>?_) (λau h=>?_))
    ·refine sq (rg Z4.f (tq (rt (tr (br (tr ?_))))))
     cases h
     exact ⟨_,rfl,rfl,Zaz kr⟩
    refine sk (tq (kq (sq ?_)))
    obtain ⟨ay,hj,h⟩:=bs h
    refine rqR (λs=>s=⟨[(1,.loc 1 0),(4,iv ac),(99,bv ay)],[(1,(Z2 a0_))],[]⟩) ?_ ?_
    ·clear h
     rcases Zat hj with ⟨ar,hj⟩|⟨aq,hj⟩
     ·obtain rfl:=Zae hj
      exact (EP.u 2 (Zaa (c:=(decide (a0.From<0))) (h:=ar)) (EP.f kr))
     refine (EP.u 2 (Zaa (c:=(decide (a0.From<0))) (h:=aq)) ?_)
     obtain ⟨a3,a6,hj⟩:=bs hj
     refine (EP.u 7 (Zad (ys:=[Z9 false a0_.Periods,iv a0.Stream]) (h:=Zac eI64 a6)) (EP.u 0 (ZaY (Zas (sz:=1) (off:=0) (cs:=[.int .i64 a3]) (r:=iv a3) eI64 a6)) ?_))
     rcases Zat hj with ⟨ap,hj⟩|⟨ao,hj⟩
     ·obtain rfl:=Zae hj
      exact (EP.u 0 (Zaa (c:=(decide (a0.From≥a3))) (h:=ap)) (EP.f kr))
     refine (EP.u 0 (Zaa (c:=(decide (a0.From≥a3))) (h:=ao)) ?_)
     rcases Zat hj with ⟨an,hj⟩|⟨am,hj⟩
     ·obtain rfl:=Zae hj
      exact (EP.u 4 (Zaa (c:=(decide (a0.Long<1))) (h:=an)) (EP.f kr))
     refine (EP.u 4 (Zaa (c:=(decide (a0.Long<1))) (h:=am)) ?_)
     obtain ⟨aj,a5,hj⟩:=bs hj
     obtain rfl:=Zae hj
     exact (EP.u 8 (Zad (ys:=[Z9 false a0_.Periods,iv a0.Stream]) (h:=Zac eI64 a5)) (EP.u 0 (ZaY (Zas (sz:=1) (off:=0) (cs:=[.int .i64 aj]) (r:=iv aj) eI64 a5)) (EP.f kr)))
    clear hj
    rintro s hR
    obtain rfl:=hR
    refine tq (it h (λal h=>?_) (λal h=>?_))
    ·refine sq (rg Z4.f (tq (rt (br (tr ?_)))))
     cases h
     exact ⟨_,rfl,rfl,Zaz kr⟩
    refine sk (bn (tq (kq (rg Z4.f ?_))))
    cases h
    exact ⟨_,rfl,kr⟩
   refine kq (xq (tx ?_))
   cases h
   exact ⟨_,rfl,rfl,kr⟩
  rintro e s hq
  rcases ae with aJ|aI
  ·dsimp only at h hq
   obtain ⟨rfl,hR⟩:=hq
   obtain rfl:=hR
   refine bx (tq (sq ?_))
   obtain ⟨aw,ak,h⟩:=bs h
   refine rg (Z4.v 2 (Zav (hc:=ZjI N a0_.Periods aw ak)) Z4.f) (tq (rt ?_))
   cases h
   exact Zaz kr
  dsimp only at h hq
  obtain ⟨rfl,hq⟩:=hq
  refine br (tr ?_)
  cases h
  exact hq
 dsimp only at h hq
 obtain ⟨rfl,hq⟩:=hq
 refine br (tr ?_)
 cases h
 exact hq
theorem Zhm (N:Nat)(a0_:Int)(a1_:(List Int))(r:Int)(h:Zc3 N a0_ a1_=some r):Zbk Try.prog 55 [iv a0_,Z9 false a1_] (iv r):=by
 unfold Zc3 at h
 have hH  := hp0
 refine ZaG ZuM rfl rfl (Zao _ _ _ ?_) rfl
 refine sq (rg Z4.f (tq (sq (rg Z4.f (tq (sq (sq (rg (Z4.u 1 (Zad (ys:=[Z9 false a1_]) (h:=Zal eI64)) Z4.f) (tq (bk ?_))))))))))
 obtain ⟨a8,a0,h⟩:=bs h
 refine Zbc ((ZaT (λ(x:Int×Int) s=>s=⟨[(0,iv a0_),(5,iv x.1),(8,Z9 false a1_),(9,iv ((List.length a1_:Nat):Int)),(10,iv x.2)],[],[]⟩) (λx:Int×Int=>Za3 N a0_ a1_ x.1 x.2) (λ(p:Int) e s=>e=.exit 0/\(s=⟨[(5,iv p)],[],[]⟩)) ?_ N _ a8 _ a0 kr).mono ?_)
 ·clear h a0
  rintro ⟨i1,i2⟩ o s h hR
  obtain rfl:=hR
  replace h:Za3 N a0_ a1_ i1 i2=some o:=h
  unfold Za3 at h
  refine sq (rg Z4.f (tq (sq (it h (λa7 h=>?_) (λa7 h=>?_)))))
  ·refine sk (tq (kq (sq (bk (sq ?_)))))
   obtain ⟨a2,a1,h⟩:=bs h
   refine rg (Z4.u 0 (Zad (ys:=[Z9 false a1_,iv i2]) (h:=Zac eI64 a1)) (Z4.u 0 (Zas (sz:=1) (off:=0) (cs:=[.int .i64 a2]) (r:=iv a2) eI64 a1) Z4.f)) (tq (sq ?_))
   obtain ⟨a3,a4,h⟩:=bs h
   obtain ⟨a9,a5,h⟩:=bs h
   refine rg (Z4.v 3 (Zav (hc:=Ze5 N i1 a2 a3 a4)) (Z4.u 0 (Zad (ys:=[iv i1,iv a3]) (h:=Zml a5)) Z4.f)) (tq (sq (rg Z4.f (tq (it h (λa6 h=>?_) (λa6 h=>?_))))))
   ·refine kq (xq (bo (tx ?_)))
    cases h
    exact ⟨_,rfl,rfl,kr⟩
   refine sk (bn (tq (kq (rg Z4.f ?_))))
   cases h
   exact ⟨_,rfl,kr⟩
  refine kq (xq (tx ?_))
  cases h
  exact ⟨_,rfl,rfl,kr⟩
 rintro e s hq
 obtain ⟨rfl,hR⟩:=hq
 obtain rfl:=hR
 refine bx (tq (sq (rg Z4.f (tq (rt ?_)))))
 cases h
 exact Zaz kr
theorem Zf2 (N:Nat)(a0_:Zab)(a1_:Zab)(r:Bool)(h:Zb3 N a0_ a1_=some r):Zbk Try.prog 56 [.agg (Za9 a0_),.agg (Za9 a1_)] (bv r):=by
 unfold Zb3 at h
 have hH  := hp0
 refine ZaG ZuL rfl rfl (Zao _ _ _ ?_) rfl
 refine sq (rg Z4.f (tq (sq ?_)))
 obtain ⟨r1,hr1,h⟩:=bs h
 refine rg (Z4.v 4 (Zav (hc:=ZjM N a0_.Period a1_.Period r1 hr1)) Z4.f) (tq (sq (sq (rg Z4.f (tq (bk ?_))))))
 obtain ⟨a1,a0,h⟩:=bs h
 refine Zbc ((ZaT (λ(x:Int) s=>s=⟨[(2,.loc 2 0),(3,.loc 3 0),(5,iv r1),(6,iv x)],[(2,(Za9 a0_)),(3,(Za9 a1_))],[]⟩) (λx:Int=>ZaR N a0_ a1_ r1 x) (λ(p:(Unit)⊕(Bool)) e s=>match p with|(.inl p)=>e=.exit 0/\(s=⟨[],[],[]⟩)|(.inr p)=>e=.ret/\∃ xs,resL s i56.res=some xs/\Zbr xs=bv p) ?_ N _ a1 _ a0 kr).mono ?_)
 ·clear h a0
  rintro i2 o s h hR
  obtain rfl:=hR
  replace h:ZaR N a0_ a1_ r1 i2=some o:=h
  unfold ZaR at h
  refine sq (sq (rg Z4.f (tq (it h (λa4 h=>?_) (λa4 h=>?_)))))
  ·refine sk (tq (kq (sq (bk (sq ?_)))))
   obtain ⟨a5,a2,h⟩:=bs h
   refine rg (Z4.v 8 (Zav (hc:=ZjK N (w64 ((w64 (a1_.From-a0_.From))-i2)) r1 a5 a2)) Z4.f) (tq (it h (λa3 h=>?_) (λa3 h=>?_)))
   ·refine sq (rg Z4.f (tq (rt (br (tr ?_)))))
    cases h
    exact ⟨_,rfl,rfl,Zaz kr⟩
   refine sk (bn (tq (kq (rg Z4.f ?_))))
   cases h
   exact ⟨_,rfl,kr⟩
  refine kq (xq (tx ?_))
  cases h
  exact ⟨_,rfl,rfl,kr⟩
 rintro e s hq
 rcases a1 with a7|a6
 ·dsimp only at h hq
  obtain ⟨rfl,hR⟩:=hq
  obtain rfl:=hR
  refine bx (tq (sq (rg Z4.f (tq (rt ?_)))))
  cases h
  exact Zaz kr
 dsimp only at h hq
 obtain ⟨rfl,hq⟩:=hq
 refine br (tr ?_)
 cases h
 exact hq
theorem Zhk (N:Nat)(a0_:Zab)(a1_:Zab)(r:Int×Int×Int)(h:Zc2 N a0_ a1_=some r):Zbk Try.prog 58 [.agg (Za9 a0_),.agg (Za9 a1_)] (.tup [iv r.1,iv r.2.1,iv r.2.2]):=by
 unfold Zc2 at h
 have hH  := hp0
 refine ZaG ZuJ rfl rfl (Zao _ _ _ ?_) rfl
 refine sq (rg Z4.f (tq (sq ?_)))
 obtain ⟨r1,hr1,h⟩:=bs h
 refine rg (Z4.v 4 (Zav (hc:=Ze5 N a0_.Period a1_.Period r1 hr1)) Z4.f) (tq (sq (rq Z4.f (tq (rt ?_)))))
 cases h
 exact Zaz kr
theorem ZgE (N:Nat)(a0_:(List Zab))(r:Int×Int)(h:ZcE N a0_=some r):Zbk Try.prog 44 [ZaL false a0_] (.tup [iv r.1,iv r.2]):=by
 unfold ZcE at h
 have hH  := hp0
 refine ZaG ZuU rfl rfl (Zao _ _ _ ?_) rfl
 refine sq (rg Z4.f (tq (sq (sq ?_))))
 obtain ⟨r1,hr1,h⟩:=bs h
 refine rg (Z4.v 1 (Zav (hc:=Zfm N a0_ r1 hr1)) Z4.f) (tq (sq (rg Z4.f (tq (it h (λhc2 h=>?_) (λhc2 h=>?_))))))
 ·refine sq (rg Z4.f (tq (rt (tr ?_))))
  cases h
  exact Zaz kr
 refine sk (tq (kq (sq ?_)))
 obtain ⟨l5,hl5,h⟩:=bs h
 obtain ⟨a3,H4,ha3,hH4,ha3b,hH⟩:=HP.make eI64 hH hl5
 replace hH:HP _ [.arr a3 1 false (List.map eI64 l5)]:=hH
 have hfa3:=ZbB (HP.get hH 0 rfl)
 refine rgS ⟨[(0,ZaL false a0_),(5,a3)],[],H4⟩ (Z4.u 1 (Zad (ys:=[ZaL false a0_]) (h:=Zal ZaO)) (Z4.h 0 (Zmt (H:=[]) (zero:=[.int .i64 0]) (bytes:=8) kr kr kr ha3 hH4 ha3b) Z4.f)) (by cases hfa3<;>kernel_rfl) (tq (sq (sq (rgS ⟨[(5,a3),(17,ZaL false a0_),(18,iv ((List.length a0_:Nat):Int)),(19,iv 0)],[],H4⟩ (Z4.u 1 (Zad (ys:=[ZaL false a0_]) (h:=Zal ZaO)) Z4.f) (by cases hfa3<;>kernel_rfl) (tq (bk ?_))))))
 obtain ⟨a4,ab,h⟩:=bs h
 refine Zbc ((ZaT (λ(x:Int×(List Int)) s=>∃ (a6:AV) (H7:List HO),s=⟨[(5,a6),(17,ZaL false a0_),(18,iv ((List.length a0_:Nat):Int)),(19,iv x.1)],[],H7⟩/\HP H7 [.arr a6 1 false (List.map eI64 x.2)]) (λx:Int×(List Int)=>Zbh N a0_ x.1 x.2) (λ(p:(List Int)) e s=>e=.exit 0/\(∃ (a1:AV) (aa:List HO),s=⟨[(5,a1)],[],aa⟩/\HP aa [.arr a1 1 false (List.map eI64 p)])) ?_ N _ a4 _ ab ⟨a3,H4,(by show _=_;cases hfa3<;>kernel_rfl),(HP.pick hH [0] rfl)⟩).mono ?_)
 ·clear h ab
  rintro ⟨i8,l9⟩ o s h hR
  obtain ⟨a6,H7,rfl,hH⟩:=hR
  replace hH:HP _ [.arr a6 1 false (List.map eI64 l9)]:=hH
  have hfa6:=ZbB (HP.get hH 0 rfl)
  replace h:Zbh N a0_ i8 l9=some o:=h
  unfold Zbh at h
  refine sq (rgS ⟨[(5,a6),(17,ZaL false a0_),(18,iv ((List.length a0_:Nat):Int)),(19,iv i8),(20,bv (decide (i8<((List.length a0_:Nat):Int))))],[],H7⟩ Z4.f (by cases hfa6<;>kernel_rfl) (tq (sq (it h (λak h=>?_) (λak h=>?_)))))
  ·refine sk (tq (kq (sq (bk (sq ?_)))))
   obtain ⟨a0,ad,h⟩:=bs h
   refine rgS ⟨[(5,a6),(6,iv i8),(7,.loc 7 0),(17,ZaL false a0_),(18,iv ((List.length a0_:Nat):Int)),(19,iv i8)],[(7,(Za9 a0))],H7⟩ (Z4.u 1 (Zad (ys:=[ZaL false a0_,iv i8]) (h:=Zac ZaO ad)) (Z4.u 0 (Zas (sz:=3) (off:=0) (cs:=[.int .i64 a0.Period,.int .i64 a0.From,.int .i64 a0.Long]) (r:=.agg (Za9 a0)) ZaO ad) (Z4.f (h:=(by cases hfa6<;>kernel_rfl))))) (by cases hfa6<;>kernel_rfl) (tq ?_)
   obtain ⟨aq,ac,h⟩:=bs h
   obtain ⟨ap,am,_,a8,ae,a9,a7⟩:=HP.elem (k:=0) (a:=a6) (sz:=1) (frz:=false) eI64 hH rfl ac
   obtain ⟨af,al,hH⟩:=HP.setRow (k:=0) (off:=0) (cs:=[iv a0.Period]) (ps:=[.int .i64 a0.Period]) (e':=a0.Period) eI64 hH rfl a9 ae (a8 rfl) ac kr kr
   replace hH:HP _ [.arr a6 1 false (List.map eI64 (List.set l9 (Int.toNat i8) a0.Period))]:=hH
   refine rgS ⟨[(5,a6),(17,ZaL false a0_),(18,iv ((List.length a0_:Nat):Int)),(19,iv i8)],[],af⟩ (Z4.u 4 (Zad (ys:=[a6,iv i8]) (by cases hfa6<;>kernel_rfl) (a7 .i64)) (Z4.o 0 (Zc1 (H:=H7) (v:=iv a0.Period) (hw:=al)) Z4.f)) (by cases hfa6<;>kernel_rfl) (bn (tq (rgS ⟨[(5,a6),(17,ZaL false a0_),(18,iv ((List.length a0_:Nat):Int)),(19,iv (w64 (i8+1)))],[],af⟩ Z4.f (by cases hfa6<;>kernel_rfl) ?_)))
   cases h
   exact ⟨_,rfl,⟨a6,af,(by show _=_;cases hfa6<;>kernel_rfl),(HP.pick hH [0] rfl)⟩⟩
  refine kq (xq (tx ?_))
  cases h
  exact ⟨_,rfl,rfl,⟨a6,H7,(by show _=_;cases hfa6<;>kernel_rfl),(HP.pick hH [0] rfl)⟩⟩
 rintro e s hq
 obtain ⟨rfl,hR⟩:=hq
 obtain ⟨a1,aa,rfl,hH⟩:=hR
 replace hH:HP _ [.arr a1 1 false (List.map eI64 a4)]:=hH
 have a2:=ZbB (HP.get hH 0 rfl)
 refine bx (tq (sq ?_))
 obtain ⟨ag,ai,h⟩:=bs h
 obtain ⟨ao,an,a5,hH⟩:=HP.frz (k:=0) (a:=a1) (sz:=1) (frz:=false) eI64 hH rfl
 replace hH:HP _ [.arr a1 1 true (List.map eI64 a4)]:=hH
 refine rgS ⟨[(8,iv ag)],[],ao⟩ (Z4.v 1 (Zle (H:=aa) (ys:=[iv 960,a1]) (by cases a2<;>kernel_rfl) (by cases a2<;>kernel_rfl) (ZhK rfl (ZhK a5 Zlv)) (Zhm N 960 a4 ag ai)) Z4.f) kr ?_
 replace hH:HP _ []:=HP.pick hH [] rfl
 refine tq (sq (sq (rg Z4.f (tq (it h (λaj h=>?_) (λaj h=>?_))))))
 ·refine sq (rg Z4.f (tq (rt (tr ?_))))
  cases h
  exact Zaz kr
 refine sk (tq (kq (sq (rg Z4.f (tq (rt ?_))))))
 cases h
 exact Zaz kr
theorem Ze9 (N:Nat)(a0_:Z3)(a1_:Int)(a2_:Int)(a3_:Int)(a4_:Int)(r:Bool)(h:ZcU N a0_ a1_ a2_ a3_ a4_=some r):Zbk Try.prog 46 [.agg (Z2 a0_),iv a1_,iv a2_,iv a3_,iv a4_] (bv r):=by
 unfold ZcU at h
 have hH  := hp0
 refine ZaG ZuS rfl rfl (Zao _ _ _ ?_) rfl
 refine sq (rg Z4.f (tq (sq (sq (rg Z4.f (tq (bk ?_)))))))
 obtain ⟨ad,a5,h⟩:=bs h
 refine Zbc ((ZaT (λ(x:Int) s=>s=⟨[(1,iv a1_),(2,iv a2_),(3,iv a3_),(4,iv a4_),(5,.loc 5 0),(11,iv x)],[(5,(Z2 a0_))],[]⟩) (λx:Int=>Zb2 N a0_ a1_ a2_ a3_ a4_ x) (λ(p:(Unit)⊕(Bool)) e s=>match p with|(.inl p)=>e=.exit 0/\(s=⟨[],[],[]⟩)|(.inr p)=>e=.ret/\∃ xs,resL s i46.res=some xs/\Zbr xs=bv p) ?_ N _ ad _ a5 kr).mono ?_)
 ·clear h a5
  rintro i1 o s h hR
  obtain rfl:=hR
  replace h:Zb2 N a0_ a1_ a2_ a3_ a4_ i1=some o:=h
  unfold Zb2 at h
  refine sq (sq (rg (Z4.u 3 (Zad (ys:=[Z8 false a0_.Uses]) (h:=Zal Zan)) Z4.f) (tq (it h (λax h=>?_) (λax h=>?_)))))
  ·refine sk (tq (kq (sq (bk (sq (rg Z4.f (tq (bk ?_))))))))
   obtain ⟨ae,a6,h⟩:=bs h
   refine Zbc ((ZaT (λ(x:Int) s=>s=⟨[(1,iv a1_),(2,iv a2_),(3,iv a3_),(4,iv a4_),(5,.loc 5 0),(11,iv i1),(12,iv x)],[(5,(Z2 a0_))],[]⟩) (λx:Int=>Zb1 N a0_ a1_ a2_ a3_ a4_ i1 x) (λ(p:(Unit)⊕(Bool)) e s=>match p with|(.inl p)=>e=.exit 2/\(s=⟨[(1,iv a1_),(2,iv a2_),(3,iv a3_),(4,iv a4_),(5,.loc 5 0),(11,iv i1)],[(5,(Z2 a0_))],[]⟩)|(.inr p)=>e=.ret/\∃ xs,resL s i46.res=some xs/\Zbr xs=bv p) ?_ N _ ae _ a6 kr).mono ?_)
   ·clear h a6
    rintro a0 o s h hR
    obtain rfl:=hR
    replace h:Zb1 N a0_ a1_ a2_ a3_ a4_ i1 a0=some o:=h
    unfold Zb1 at h
    refine sq (sq (rg (Z4.u 3 (Zad (ys:=[Z8 false a0_.Uses]) (h:=Zal Zan)) Z4.f) (tq (it h (λau h=>?_) (λau h=>?_)))))
    ·refine sk (tq (kq (sq (bk (sq ?_)))))
     obtain ⟨aw,hj,h⟩:=bs h
     refine rqR (λs=>s=⟨[(1,iv a1_),(2,iv a2_),(3,iv a3_),(4,iv a4_),(5,.loc 5 0),(11,iv i1),(12,iv a0),(76,bv aw)],[(5,(Z2 a0_))],[]⟩) ?_ ?_
     ·clear h
      rcases Zat hj with ⟨ar,hj⟩|⟨ak,hj⟩
      ·refine (EP.u 2 (Zaa (c:=(i1 != a0)) (h:=ar)) ?_)
       obtain ⟨a4,aa,hj⟩:=bs hj
       refine (EP.u 4 (Zad (ys:=[Z8 false a0_.Uses,iv i1]) (h:=Zac Zan aa)) (EP.u 1 (ZaY (Zas (sz:=4) (off:=0) (cs:=[.int .i64 a4.Stream]) (r:=iv a4.Stream) Zan aa)) ?_))
       rcases Zat hj with ⟨aq,hj⟩|⟨al,hj⟩
       ·refine (EP.u 1 (Zaa (c:=(a4.Stream==a1_)) (h:=aq)) ?_)
        obtain ⟨a3,a9,hj⟩:=bs hj
        refine (EP.u 5 (Zad (ys:=[Z8 false a0_.Uses,iv a0]) (h:=Zac Zan a9)) (EP.u 1 (ZaY (Zas (sz:=4) (off:=0) (cs:=[.int .i64 a3.Stream]) (r:=iv a3.Stream) Zan a9)) ?_))
        rcases Zat hj with ⟨ap,hj⟩|⟨am,hj⟩
        ·refine (EP.u 1 (Zaa (c:=(a3.Stream==a3_)) (h:=ap)) ?_)
         obtain ⟨a2,a8,hj⟩:=bs hj
         refine (EP.u 5 (Zad (ys:=[Z8 false a0_.Uses,iv i1]) (h:=Zac Zan a8)) (EP.u 1 (ZaY (Zas (sz:=4) (off:=1) (cs:=[.int .i64 a2.Port]) (r:=iv a2.Port) Zan a8)) ?_))
         obtain ⟨a1,a7,hj⟩:=bs hj
         refine (EP.u 3 (Zad (ys:=[Z8 false a0_.Uses,iv a0]) (h:=Zac Zan a7)) (EP.u 1 (ZaY (Zas (sz:=4) (off:=1) (cs:=[.int .i64 a1.Port]) (r:=iv a1.Port) Zan a7)) ?_))
         rcases Zat hj with ⟨ao,hj⟩|⟨an,hj⟩
         ·refine (EP.u 0 (Zaa (c:=(a2.Port==a1.Port)) (h:=ao)) ?_)
          obtain ⟨ac,ai,hj⟩:=bs hj
          refine (EP.u 5 (Zfy (hc:=Zhn N a0_ i1 a2_ ac ai)) ?_)
          obtain ⟨ab,ag,hj⟩:=bs hj
          refine (EP.u 3 (Zfy (hc:=Zhn N a0_ a0 a4_ ab ag)) ?_)
          obtain ⟨av,af,hj⟩:=bs hj
          obtain rfl:=Zae hj
          exact (EP.u 0 (Zfy (hc:=Zf2 N ac ab av af)) (EP.f kr))
         obtain rfl:=Zae hj
         exact (EP.u 0 (Zaa (c:=(a2.Port==a1.Port)) (h:=an)) (EP.f kr))
        obtain rfl:=Zae hj
        exact (EP.u 1 (Zaa (c:=(a3.Stream==a3_)) (h:=am)) (EP.f kr))
       obtain rfl:=Zae hj
       exact (EP.u 1 (Zaa (c:=(a4.Stream==a1_)) (h:=al)) (EP.f kr))
      obtain rfl:=Zae hj
      exact (EP.u 2 (Zaa (c:=(i1 != a0)) (h:=ak)) (EP.f kr))
     clear hj
     rintro s hR
     obtain rfl:=hR
     refine tq (it h (λaj h=>?_) (λaj h=>?_))
     ·refine sq (rg Z4.f (tq (rt (br (tr ?_)))))
      cases h
      exact ⟨_,rfl,rfl,Zaz kr⟩
     refine sk (bn (tq (kq (rg Z4.f ?_))))
     cases h
     exact ⟨_,rfl,kr⟩
    refine kq (xq (tx ?_))
    cases h
    exact ⟨_,rfl,rfl,kr⟩
   rintro e s hq
   rcases ae with aB|aA
   ·dsimp only at h hq
    obtain ⟨rfl,hR⟩:=hq
    obtain rfl:=hR
    refine bx (bn (tq (rg Z4.f ?_)))
    cases h
    exact ⟨_,rfl,kr⟩
   dsimp only at h hq
   obtain ⟨rfl,hq⟩:=hq
   refine br (br (tr ?_))
   cases h
   exact ⟨_,rfl,rfl,hq⟩
  refine kq (xq (tx ?_))
  cases h
  exact ⟨_,rfl,rfl,kr⟩
 rintro e s hq
 rcases ad with az|ay
 ·dsimp only at h hq
  obtain ⟨rfl,hR⟩:=hq
  obtain rfl:=hR
  refine bx (tq (sq (rg Z4.f (tq (rt ?_)))))
  cases h
  exact Zaz kr
 dsimp only at h hq
 obtain ⟨rfl,hq⟩:=hq
 refine br (tr ?_)
 cases h
 exact hq
theorem ZgC (N:Nat)(a0_:Zab)(a1_:Zab)(r:Bool)(h:ZcD N a0_ a1_=some r):Zbk Try.prog 49 [.agg (Za9 a0_),.agg (Za9 a1_)] (bv r):=by
 unfold ZcD at h
 have hH  := hp0
 refine ZaG ZuP rfl rfl (Zao _ _ _ ?_) rfl
 refine sq (rg Z4.f (tq (sq (sq (rg Z4.f (tq (it h (λhc1 h=>?_) (λhc1 h=>?_))))))))
 ·refine sq (rg Z4.f (tq (rt (tr ?_))))
  cases h
  exact Zaz kr
 refine sk (tq (kq (sq ?_)))
 obtain ⟨r2,hr2,h⟩:=bs h
 refine rg (Z4.v 2 (Zav (hc:=Zhk N a0_ a1_ r2 hr2)) Z4.f) (tq (sq ?_))
 obtain ⟨r3,hr3,h⟩:=bs h
 refine rg (Z4.v 6 (Zav (hc:=Zh1 N (w64 (a1_.From-a0_.From)) r2.2.2 r3 hr3)) Z4.f) (tq (sq (rgX ⟨[(4,bv ((decide (r2.1<=r3))&&(decide (r3<=r2.2.1))))],[],[]⟩ ?_ ?_)))
 ·rcases Bool.eq_false_or_eq_true (decide (r2.1<=r3)) with hc4|hc5
  ·exact (EP.u 2 (Zaa (c:=(decide (r2.1<=r3))) (h:=hc4)) (EP.f (by simp only [hc4];kernel_rfl)))
  exact (EP.u 2 (Zaa (c:=(decide (r2.1<=r3))) (h:=hc5)) (EP.f (by simp only [hc5];kernel_rfl)))
 refine tq (rt ?_)
 cases h
 exact Zaz kr
theorem ZiZ (N:Nat)(a0_:(List Int))(r:Int×Int)(h:Zdg N a0_=some r):Zbk Try.prog 31 [Z9 false a0_] (.tup [iv r.1,iv r.2]):=by
 unfold Zdg at h
 have hH  := hp0
 refine ZaG Zu2 rfl rfl (Zao _ _ _ ?_) rfl
 refine sq (rg Z4.f (tq (sq ?_)))
 obtain ⟨l3,hl3,h⟩:=bs h
 obtain ⟨a1,H2,ha1,hH2,ha1b,hH⟩:=HP.make ZaO hH hl3
 replace hH:HP _ [.arr a1 3 false (List.map ZaO l3)]:=hH
 have hfa1:=ZbB (HP.get hH 0 rfl)
 refine rgS ⟨[(0,Z9 false a0_),(4,a1)],[],H2⟩ (Z4.u 1 (Zad (ys:=[Z9 false a0_]) (h:=Zal eI64)) (Z4.h 0 (Zmt (H:=[]) (zero:=[.int .i64 0,.int .i64 0,.int .i64 0]) (bytes:=24) kr kr kr ha1 hH2 ha1b) Z4.f)) (by cases hfa1<;>kernel_rfl) (tq (sq (sq (rgS ⟨[(4,a1),(10,Z9 false a0_),(11,iv ((List.length a0_:Nat):Int)),(12,iv 0)],[],H2⟩ (Z4.u 1 (Zad (ys:=[Z9 false a0_]) (h:=Zal eI64)) Z4.f) (by cases hfa1<;>kernel_rfl) (tq (bk ?_))))))
 obtain ⟨a5,ab,h⟩:=bs h
 refine Zbc ((ZaT (λ(x:Int×(List Zab)) s=>∃ (a4:AV) (H5:List HO),s=⟨[(4,a4),(10,Z9 false a0_),(11,iv ((List.length a0_:Nat):Int)),(12,iv x.1)],[],H5⟩/\HP H5 [.arr a4 3 false (List.map ZaO x.2)]) (λx:Int×(List Zab)=>ZbO N a0_ x.1 x.2) (λ(p:(List Zab)) e s=>e=.exit 0/\(∃ (a2:AV) (aa:List HO),s=⟨[(4,a2)],[],aa⟩/\HP aa [.arr a2 3 false (List.map ZaO p)])) ?_ N _ a5 _ ab ⟨a1,H2,(by show _=_;cases hfa1<;>kernel_rfl),(HP.pick hH [0] rfl)⟩).mono ?_)
 ·clear h ab
  rintro ⟨i6,l7⟩ o s h hR
  obtain ⟨a4,H5,rfl,hH⟩:=hR
  replace hH:HP _ [.arr a4 3 false (List.map ZaO l7)]:=hH
  have hfa4:=ZbB (HP.get hH 0 rfl)
  replace h:ZbO N a0_ i6 l7=some o:=h
  unfold ZbO at h
  refine sq (rgS ⟨[(4,a4),(10,Z9 false a0_),(11,iv ((List.length a0_:Nat):Int)),(12,iv i6),(13,bv (decide (i6<((List.length a0_:Nat):Int))))],[],H5⟩ Z4.f (by cases hfa4<;>kernel_rfl) (tq (sq (it h (λaj h=>?_) (λaj h=>?_)))))
  ·refine sk (tq (kq (sq (bk (sq ?_)))))
   obtain ⟨a0,ad,h⟩:=bs h
   refine rgS ⟨[(4,a4),(5,iv i6),(6,iv a0),(10,Z9 false a0_),(11,iv ((List.length a0_:Nat):Int)),(12,iv i6)],[],H5⟩ (Z4.u 1 (Zad (ys:=[Z9 false a0_,iv i6]) (h:=Zac eI64 ad)) (Z4.u 0 (Zas (sz:=1) (off:=0) (cs:=[.int .i64 a0]) (r:=iv a0) eI64 ad) Z4.f)) (by cases hfa4<;>kernel_rfl) (tq ?_)
   obtain ⟨ap,ac,h⟩:=bs h
   obtain ⟨ao,al,_,a8,af,a9,a7⟩:=HP.elem (k:=0) (a:=a4) (sz:=3) (frz:=false) ZaO hH rfl ac
   obtain ⟨ag,ak,hH⟩:=HP.setRow (k:=0) (off:=0) (cs:=[iv a0,iv 0,iv 1]) (ps:=[.int .i64 a0,.int .i64 0,.int .i64 1]) (e':=(Zab.mk a0 0 1)) ZaO hH rfl a9 af (a8 rfl) ac kr kr
   replace hH:HP _ [.arr a4 3 false (List.map ZaO (List.set l7 (Int.toNat i6) (Zab.mk a0 0 1)))]:=hH
   refine rgS ⟨[(4,a4),(10,Z9 false a0_),(11,iv ((List.length a0_:Nat):Int)),(12,iv i6)],[],ag⟩ (Z4.u 4 (Zad (ys:=[a4,iv i6]) (by cases hfa4<;>kernel_rfl) (a7 .i64)) (Z4.o 0 (Zc1 (H:=H5) (v:=.agg [iv a0,iv 0,iv 1]) (hw:=ak)) Z4.f)) (by cases hfa4<;>kernel_rfl) (bn (tq (rgS ⟨[(4,a4),(10,Z9 false a0_),(11,iv ((List.length a0_:Nat):Int)),(12,iv (w64 (i6+1)))],[],ag⟩ Z4.f (by cases hfa4<;>kernel_rfl) ?_)))
   cases h
   exact ⟨_,rfl,⟨a4,ag,(by show _=_;cases hfa4<;>kernel_rfl),(HP.pick hH [0] rfl)⟩⟩
  refine kq (xq (tx ?_))
  cases h
  exact ⟨_,rfl,rfl,⟨a4,H5,(by show _=_;cases hfa4<;>kernel_rfl),(HP.pick hH [0] rfl)⟩⟩
 rintro e s hq
 obtain ⟨rfl,hR⟩:=hq
 obtain ⟨a2,aa,rfl,hH⟩:=hR
 replace hH:HP _ [.arr a2 3 false (List.map ZaO a5)]:=hH
 have a3:=ZbB (HP.get hH 0 rfl)
 refine bx (tq (sq ?_))
 obtain ⟨ae,ai,h⟩:=bs h
 obtain ⟨an,am,a6,hH⟩:=HP.frz (k:=0) (a:=a2) (sz:=3) (frz:=false) ZaO hH rfl
 replace hH:HP _ [.arr a2 3 true (List.map ZaO a5)]:=hH
 refine rgS ⟨[(2,iv ae.1),(3,iv ae.2)],[],an⟩ (Z4.v 1 (Zle (H:=aa) (ys:=[a2]) (by cases a3<;>kernel_rfl) (by cases a3<;>kernel_rfl) (ZhK a6 Zlv) (ZgE N a5 ae ai)) Z4.f) kr ?_
 replace hH:HP _ []:=HP.pick hH [] rfl
 refine tq (rt ?_)
 cases h
 exact Zaz kr
theorem ZkB (N:Nat)(a0_:Z3)(a1_:(List Int))(a2_:Int)(r:Int)(h:ZfC N a0_ a1_ a2_=some r):Zbk Try.prog 35 [.agg (Z2 a0_),Z9 false a1_,iv a2_] (iv r):=by
 unfold ZfC at h
 have hH  := hp0
 refine ZaG ZuY rfl rfl (Zao _ _ _ ?_) rfl
 refine sq (rg Z4.f (tq (sq (rg (Z4.u 1 (Zad (ys:=[Z9 false a1_]) (h:=Zal eI64)) Z4.f) (tq (sq (sq (rg Z4.f (tq (bk ?_))))))))))
 obtain ⟨a3,a0,h⟩:=bs h
 refine Zbc ((ZaT (λ(x:Int) s=>s=⟨[(1,Z9 false a1_),(2,iv a2_),(3,.loc 3 0),(7,iv ((List.length a1_:Nat):Int)),(8,iv x)],[(3,(Z2 a0_))],[]⟩) (λx:Int=>ZcT N a0_ a1_ a2_ x) (λ(p:(Unit)⊕(Int)) e s=>match p with|(.inl p)=>e=.exit 0/\(s=⟨[(2,iv a2_),(3,.loc 3 0),(7,iv ((List.length a1_:Nat):Int))],[(3,(Z2 a0_))],[]⟩)|(.inr p)=>e=.ret/\∃ xs,resL s i35.res=some xs/\Zbr xs=iv p) ?_ N _ a3 _ a0 kr).mono ?_)
 ·clear h a0
  rintro i1 o s h hR
  obtain rfl:=hR
  replace h:ZcT N a0_ a1_ a2_ i1=some o:=h
  unfold ZcT at h
  refine sq (sq (rg Z4.f (tq (it h (λa8 h=>?_) (λa8 h=>?_)))))
  ·refine sk (tq (kq (sq (bk (sq ?_)))))
   obtain ⟨a2,a1,h⟩:=bs h
   obtain ⟨aa,a5,h⟩:=bs h
   refine rq (Z4.u 6 (Zad (ys:=[Z9 false a1_,iv i1]) (h:=Zac eI64 a1)) (Z4.u 0 (ZaY (Zas (sz:=1) (off:=0) (cs:=[.int .i64 a2]) (r:=iv a2) eI64 a1)) (Z4.v 0 (Zav (hc:=Ze9 N a0_ ((List.length a1_:Nat):Int) a2_ i1 a2 aa a5)) Z4.f))) (tq (it h (λa7 h=>?_) (λa7 h=>?_)))
   ·refine sq (rg Z4.f (tq (rt (br (tr ?_)))))
    cases h
    exact ⟨_,rfl,rfl,Zaz kr⟩
   refine sk (bn (tq (kq (rg Z4.f ?_))))
   cases h
   exact ⟨_,rfl,kr⟩
  refine kq (xq (tx ?_))
  cases h
  exact ⟨_,rfl,rfl,kr⟩
 rintro e s hq
 rcases a3 with ac|ab
 ·dsimp only at h hq
  obtain ⟨rfl,hR⟩:=hq
  obtain rfl:=hR
  refine bx (tq (sq (sq ?_)))
  obtain ⟨a9,a4,h⟩:=bs h
  refine rg (Z4.v 5 (Zav (hc:=Ze9 N a0_ ((List.length a1_:Nat):Int) a2_ ((List.length a1_:Nat):Int) a2_ a9 a4)) Z4.f) (tq (it h (λa6 h=>?_) (λa6 h=>?_)))
  ·refine sq (rg Z4.f (tq (rt (tr ?_))))
   cases h
   exact Zaz kr
  refine sk (tq (kq (sq (rg Z4.f (tq (rt ?_))))))
  cases h
  exact Zaz kr
 dsimp only at h hq
 obtain ⟨rfl,hq⟩:=hq
 refine br (tr ?_)
 cases h
 exact hq
theorem ZgG (N:Nat)(a0_:Zab)(a1_:Zab)(r:Bool×Int)(h:ZcF N a0_ a1_=some r):Zbk Try.prog 37 [.agg (Za9 a0_),.agg (Za9 a1_)] (.tup [bv r.1,iv r.2]):=by
 unfold ZcF at h
 have hH  := hp0
 refine ZaG ZuW rfl rfl (Zao _ _ _ ?_) rfl
 refine sq (rg Z4.f (tq (sq (sq ?_))))
 obtain ⟨r1,hr1,h⟩:=bs h
 refine rg (Z4.v 1 (Zav (hc:=Zc9 N a0_ r1 hr1)) Z4.f) (tq (sq (rg Z4.f (tq (it h (λhc2 h=>?_) (λhc2 h=>?_))))))
 ·refine sq (rg Z4.f (tq (rt (tr ?_))))
  cases h
  exact Zaz kr
 refine sk (tq (kq (sq (sq ?_))))
 obtain ⟨r3,hr3,h⟩:=bs h
 refine rg (Z4.v 1 (Zav (hc:=Zc9 N a1_ r3 hr3)) Z4.f) (tq (sq (rg Z4.f (tq (it h (λhc4 h=>?_) (λhc4 h=>?_))))))
 ·refine sq (rg Z4.f (tq (rt (tr ?_))))
  cases h
  exact Zaz kr
 refine sk (tq (kq (sq ?_)))
 obtain ⟨r5,hr5,h⟩:=bs h
 refine rg (Z4.v 2 (Zav (hc:=ZgC N a0_ a1_ r5 hr5)) Z4.f) (tq (rt ?_))
 cases h
 exact Zaz kr
theorem ZfE (N:Nat)(a0_:Z3)(r:Int)(h:Zdh N a0_=some r):Zbk Try.prog 21 [.agg (Z2 a0_)] (iv r):=by
 unfold Zdh at h
 have hH  := hp0
 refine ZaG Zu8 rfl rfl (Zao _ _ _ ?_) rfl
 refine sq (rg Z4.f (tq (sq (sq (rgX ⟨[(1,.loc 1 0),(19,bv ((decide (((List.length a0_.Periods:Nat):Int)>12))||(decide (((List.length a0_.Uses:Nat):Int)>192))))],[(1,(Z2 a0_))],[]⟩ ?_ ?_)))))
 ·refine (EP.u 2 (Zad (ys:=[Z9 false a0_.Periods]) (h:=Zal eI64)) ?_)
  rcases Bool.eq_false_or_eq_true (decide (((List.length a0_.Periods:Nat):Int)>12)) with hc1|hc2
  ·exact (EP.u 0 (Zaa (c:=(decide (((List.length a0_.Periods:Nat):Int)>12))) (h:=hc1)) (EP.f (by simp only [hc1];kernel_rfl)))
  exact (EP.u 0 (Zaa (c:=(decide (((List.length a0_.Periods:Nat):Int)>12))) (h:=hc2)) (EP.u 3 (Zad (ys:=[Z8 false a0_.Uses]) (h:=Zal Zan)) (EP.f (by simp only [hc2];kernel_rfl))))
 refine tq (it h (λhc3 h=>?_) (λhc3 h=>?_))
 ·refine sq (rg Z4.f (tq (rt (tr ?_))))
  cases h
  exact Zaz kr
 refine sk (tq (kq (sq (sq (rg (Z4.u 2 (Zad (ys:=[Z9 false a0_.Periods]) (h:=Zal eI64)) Z4.f) (tq (bk ?_)))))))
 obtain ⟨au,al,h⟩:=bs h
 refine Zbc ((ZaT (λ(x:Int) s=>s=⟨[(1,.loc 1 0),(21,Z9 false a0_.Periods),(22,iv ((List.length a0_.Periods:Nat):Int)),(23,iv x)],[(1,(Z2 a0_))],[]⟩) (λx:Int=>Zcj N a0_ x) (λ(p:(Unit)⊕(Int)) e s=>match p with|(.inl p)=>e=.exit 0/\(s=⟨[(1,.loc 1 0)],[(1,(Z2 a0_))],[]⟩)|(.inr p)=>e=.ret/\∃ xs,resL s i21.res=some xs/\Zbr xs=iv p) ?_ N _ au _ al kr).mono ?_)
 ·clear h al
  rintro i4 o s h hR
  obtain rfl:=hR
  replace h:Zcj N a0_ i4=some o:=h
  unfold Zcj at h
  refine sq (rg Z4.f (tq (sq (it h (λay h=>?_) (λay h=>?_)))))
  ·refine sk (tq (kq (sq (bk (sq ?_)))))
   obtain ⟨a6,am,h⟩:=bs h
   refine rg (Z4.u 0 (Zad (ys:=[Z9 false a0_.Periods,iv i4]) (h:=Zac eI64 am)) (Z4.u 0 (Zas (sz:=1) (off:=0) (cs:=[.int .i64 a6]) (r:=iv a6) eI64 am) Z4.f)) (tq (sq (rgX ⟨[(1,.loc 1 0),(21,Z9 false a0_.Periods),(22,iv ((List.length a0_.Periods:Nat):Int)),(23,iv i4),(32,bv ((decide (a6<1))||(decide (a6>240))))],[(1,(Z2 a0_))],[]⟩ ?_ ?_)))
   ·rcases Bool.eq_false_or_eq_true (decide (a6<1)) with ao|an
    ·exact (EP.u 1 (Zaa (c:=(decide (a6<1))) (h:=ao)) (EP.f (by simp only [ao];kernel_rfl)))
    exact (EP.u 1 (Zaa (c:=(decide (a6<1))) (h:=an)) (EP.f (by simp only [an];kernel_rfl)))
   refine tq (it h (λax h=>?_) (λax h=>?_))
   ·refine sq (rg Z4.f (tq (rt (br (tr ?_)))))
    cases h
    exact ⟨_,rfl,rfl,Zaz kr⟩
   refine sk (bn (tq (kq (rg Z4.f ?_))))
   cases h
   exact ⟨_,rfl,kr⟩
  refine kq (xq (tx ?_))
  cases h
  exact ⟨_,rfl,rfl,kr⟩
 rintro e s hq
 rcases au with aD|aA
 ·dsimp only at h hq
  obtain ⟨rfl,hR⟩:=hq
  obtain rfl:=hR
  refine bx (tq (sq (sq ?_)))
  obtain ⟨az,av,h⟩:=bs h
  refine rg (Z4.v 2 (Zav (hc:=ZiZ N a0_.Periods az av)) Z4.f) (tq (sq (rg Z4.f (tq (it h (λaw h=>?_) (λaw h=>?_))))))
  ·refine sq (rg Z4.f (tq (rt (tr ?_))))
   cases h
   exact Zaz kr
  refine sk (tq (kq (sq (sq (rg (Z4.u 2 (Zad (ys:=[Z8 false a0_.Uses]) (h:=Zal Zan)) Z4.f) (tq (bk ?_)))))))
  obtain ⟨ak,a7,h⟩:=bs h
  refine Zbc ((ZaT (λ(x:Int) s=>s=⟨[(1,.loc 1 0),(43,Z8 false a0_.Uses),(44,iv ((List.length a0_.Uses:Nat):Int)),(45,iv x)],[(1,(Z2 a0_))],[]⟩) (λx:Int=>Zci N a0_ x) (λ(p:(Unit)⊕(Int)) e s=>match p with|(.inl p)=>e=.exit 2/\(s=⟨[],[],[]⟩)|(.inr p)=>e=.ret/\∃ xs,resL s i21.res=some xs/\Zbr xs=iv p) ?_ N _ ak _ a7 kr).mono ?_)
  ·clear h a7
   rintro aj o s h hR
   obtain rfl:=hR
   replace h:Zci N a0_ aj=some o:=h
   unfold Zci at h
   refine sq (rg Z4.f (tq (sq (it h (λar h=>?_) (λar h=>?_)))))
   ·refine sk (tq (kq (sq (bk (sq ?_)))))
    obtain ⟨a0,a9,h⟩:=bs h
    refine rg (Z4.u 0 (Zad (ys:=[Z8 false a0_.Uses,iv aj]) (h:=Zac Zan a9)) (Z4.u 0 (Zas (sz:=4) (off:=0) (cs:=[.int .i64 a0.Stream,.int .i64 a0.Port,.int .i64 a0.From,.int .i64 a0.Long]) (r:=.agg (ZaE a0)) Zan a9) Z4.f)) (tq (sq (sq (rgX ⟨[(1,.loc 1 0),(8,.loc 8 0),(43,Z8 false a0_.Uses),(44,iv ((List.length a0_.Uses:Nat):Int)),(45,iv aj),(69,bv ((decide (a0.Stream<0))||((decide (a0.Stream≥((List.length a0_.Periods:Nat):Int)))||((decide (a0.Port<0))||(decide (a0.Port≥48))))))],[(1,(Z2 a0_)),(8,(ZaE a0))],[]⟩ ?_ ?_))))
    ·rcases Bool.eq_false_or_eq_true (decide (a0.Stream<0)) with ai|a3
     ·exact (EP.u 2 (Zaa (c:=(decide (a0.Stream<0))) (h:=ai)) (EP.f (by simp only [ai];kernel_rfl)))
     refine (EP.u 2 (Zaa (c:=(decide (a0.Stream<0))) (h:=a3)) (EP.u 5 (Zad (ys:=[Z9 false a0_.Periods]) (h:=Zal eI64)) ?_))
     rcases Bool.eq_false_or_eq_true (decide (a0.Stream≥((List.length a0_.Periods:Nat):Int))) with ag|a5
     ·exact (EP.u 0 (Zaa (c:=(decide (a0.Stream≥((List.length a0_.Periods:Nat):Int)))) (h:=ag)) (EP.f (by simp only [a3,ag];kernel_rfl)))
     refine (EP.u 0 (Zaa (c:=(decide (a0.Stream≥((List.length a0_.Periods:Nat):Int)))) (h:=a5)) ?_)
     rcases Bool.eq_false_or_eq_true (decide (a0.Port<0)) with af|ae
     ·exact (EP.u 4 (Zaa (c:=(decide (a0.Port<0))) (h:=af)) (EP.f (by simp only [a3,a5,af];kernel_rfl)))
     exact (EP.u 4 (Zaa (c:=(decide (a0.Port<0))) (h:=ae)) (EP.f (by simp only [a3,a5,ae];kernel_rfl)))
    refine tq (it h (λaq h=>?_) (λaq h=>?_))
    ·refine sq (rg Z4.f (tq (rt (tr (br (tr ?_))))))
     cases h
     exact ⟨_,rfl,rfl,Zaz kr⟩
    refine sk (tq (kq (sq ?_)))
    obtain ⟨a1,a8,h⟩:=bs h
    refine rg (Z4.u 4 (Zad (ys:=[Z9 false a0_.Periods,iv a0.Stream]) (h:=Zac eI64 a8)) (Z4.u 0 (Zas (sz:=1) (off:=0) (cs:=[.int .i64 a1]) (r:=iv a1) eI64 a8) Z4.f)) (tq (sq (rgX ⟨[(1,.loc 1 0),(43,Z8 false a0_.Uses),(44,iv ((List.length a0_.Uses:Nat):Int)),(45,iv aj),(95,bv ((decide (a0.From<0))||((decide (a0.From≥a1))||((decide (a0.Long<1))||(decide (a0.Long>a1))))))],[(1,(Z2 a0_))],[]⟩ ?_ ?_)))
    ·rcases Bool.eq_false_or_eq_true (decide (a0.From<0)) with ad|a2
     ·exact (EP.u 2 (Zaa (c:=(decide (a0.From<0))) (h:=ad)) (EP.f (by simp only [ad];kernel_rfl)))
     refine (EP.u 2 (Zaa (c:=(decide (a0.From<0))) (h:=a2)) ?_)
     rcases Bool.eq_false_or_eq_true (decide (a0.From≥a1)) with ac|a4
     ·exact (EP.u 4 (Zaa (c:=(decide (a0.From≥a1))) (h:=ac)) (EP.f (by simp only [a2,ac];kernel_rfl)))
     refine (EP.u 4 (Zaa (c:=(decide (a0.From≥a1))) (h:=a4)) ?_)
     rcases Bool.eq_false_or_eq_true (decide (a0.Long<1)) with ab|aa
     ·exact (EP.u 4 (Zaa (c:=(decide (a0.Long<1))) (h:=ab)) (EP.f (by simp only [a2,a4,ab];kernel_rfl)))
     exact (EP.u 4 (Zaa (c:=(decide (a0.Long<1))) (h:=aa)) (EP.f (by simp only [a2,a4,aa];kernel_rfl)))
    refine tq (it h (λap h=>?_) (λap h=>?_))
    ·refine sq (rg Z4.f (tq (rt (br (tr ?_)))))
     cases h
     exact ⟨_,rfl,rfl,Zaz kr⟩
    refine sk (bn (tq (kq (rg Z4.f ?_))))
    cases h
    exact ⟨_,rfl,kr⟩
   refine kq (xq (tx ?_))
   cases h
   exact ⟨_,rfl,rfl,kr⟩
  rintro e s hq
  rcases ak with aC|aB
  ·dsimp only at h hq
   obtain ⟨rfl,hR⟩:=hq
   obtain rfl:=hR
   refine bx (tq (sq (rg Z4.f (tq (rt ?_)))))
   cases h
   exact Zaz kr
  dsimp only at h hq
  obtain ⟨rfl,hq⟩:=hq
  refine br (tr ?_)
  cases h
  exact hq
 dsimp only at h hq
 obtain ⟨rfl,hq⟩:=hq
 refine br (tr ?_)
 cases h
 exact hq
theorem ZgI (N:Nat)(rec_:Z3->Zaq->((List Int))->Int->Option (Zaq))(hrec_:∀ (a0_:Z3) (a1_:Zaq) (a2_:(List Int)) (a3_:Int) (bp1_0_:AV) (bp1_1_:AV) (H:List HO) (hH:HP H [.arr bp1_0_ 2 false (List.map Z7 a1_.Proof),.arr bp1_1_ 1 false (List.map eI64 a1_.Offsets)]) (r:Zaq),rec_ a0_ a1_ a2_ a3_=some r->∃ (or_0_0_:AV) (or_0_1_:AV) (H':List HO),ZbR Try.prog 25 [.agg (Z2 a0_),.agg [bp1_0_,bp1_1_,iv a1_.What],Z9 false a2_,iv a3_] H (.agg [or_0_0_,or_0_1_,iv r.What]) H'/\Fp H H' [.arr bp1_0_ 2 false (List.map Z7 a1_.Proof),.arr bp1_1_ 1 false (List.map eI64 a1_.Offsets)] [.arr or_0_0_ 2 false (List.map Z7 r.Proof),.arr or_0_1_ 1 false (List.map eI64 r.Offsets)])(a0_:Z3)(a1_:Zaq)(a2_:(List Int))(a3_:Int)(bp1_0_:AV)(bp1_1_:AV)(H:List HO)(hH:HP H [.arr bp1_0_ 2 false (List.map Z7 a1_.Proof),.arr bp1_1_ 1 false (List.map eI64 a1_.Offsets)])(r:Zaq)(h:Zce N rec_ a0_ a1_ a2_ a3_=some r):∃ (or_0_0_:AV) (or_0_1_:AV) (H':List HO),ZbR Try.prog 25 [.agg (Z2 a0_),.agg [bp1_0_,bp1_1_,iv a1_.What],Z9 false a2_,iv a3_] H (.agg [or_0_0_,or_0_1_,iv r.What]) H'/\Fp H H' [.arr bp1_0_ 2 false (List.map Z7 a1_.Proof),.arr bp1_1_ 1 false (List.map eI64 a1_.Offsets)] [.arr or_0_0_ 2 false (List.map Z7 r.Proof),.arr or_0_1_ 1 false (List.map eI64 r.Offsets)]:=by
 suffices hs:∃ r' H',ZbR Try.prog 25 [.agg (Z2 a0_),.agg [bp1_0_,bp1_1_,iv a1_.What],Z9 false a2_,iv a3_] H r' H'/\∃ (or_0_0_:AV) (or_0_1_:AV),r'=.agg [or_0_0_,or_0_1_,iv r.What]/\Fp H H' [.arr bp1_0_ 2 false (List.map Z7 a1_.Proof),.arr bp1_1_ 1 false (List.map eI64 a1_.Offsets)] [.arr or_0_0_ 2 false (List.map Z7 r.Proof),.arr or_0_1_ 1 false (List.map eI64 r.Offsets)] by
  obtain ⟨_,H',h1,or_0_0_,or_0_1_,he,h2⟩:=hs
  exact ⟨or_0_0_,or_0_1_,H',he ▸ h1,h2⟩
 unfold Zce at h
 replace hH:=Fp.refl hH
 have hfbp1_0_:=ZbB (Fp.get hH 0 rfl)
 have hfbp1_1_:=ZbB (Fp.get hH 1 rfl)
 refine ZkY Zu5 [] (λr' H'=>∃ (or_0_0_:AV) (or_0_1_:AV),r'=.agg [or_0_0_,or_0_1_,iv r.What]/\Fp H H' [.arr bp1_0_ 2 false (List.map Z7 a1_.Proof),.arr bp1_1_ 1 false (List.map eI64 a1_.Offsets)] [.arr or_0_0_ 2 false (List.map Z7 r.Proof),.arr or_0_1_ 1 false (List.map eI64 r.Offsets)]) (λr' H' q=>by obtain ⟨or_0_0_,or_0_1_,e,hp⟩:=q;subst e;have hfor_0_0_:=ZbB (Fp.get hp 0 rfl);have hfor_0_1_:=ZbB (Fp.get hp 1 rfl);show Zaw _=true;cases hfor_0_0_<;>cases hfor_0_1_<;>rfl) rfl (by cases hfbp1_0_<;>cases hfbp1_1_<;>kernel_rfl) (sq (rgS ⟨[(2,Z9 false a2_),(3,iv a3_),(4,.loc 4 0),(5,.loc 5 0),(8,.loc 8 0)],[(4,(Z2 a0_)),(5,[bp1_0_,bp1_1_,iv a1_.What]),(8,[Z6 true [],Z9 true [],iv 0])],H⟩ (Z4.f (h:=(by cases hfbp1_0_<;>cases hfbp1_1_<;>kernel_rfl))) (by cases hfbp1_0_<;>cases hfbp1_1_<;>kernel_rfl) (tq (sq (rgS ⟨[(2,Z9 false a2_),(3,iv a3_),(4,.loc 4 0),(5,.loc 5 0),(8,.loc 8 0),(9,iv ((List.length a2_:Nat):Int))],[(4,(Z2 a0_)),(5,[bp1_0_,bp1_1_,iv a1_.What]),(8,[Z6 true [],Z9 true [],iv 0])],H⟩ (Z4.u 1 (Zad (ys:=[Z9 false a2_]) (h:=Zal eI64)) Z4.f) (by cases hfbp1_0_<;>cases hfbp1_1_<;>kernel_rfl) (tq (sq ?_)))))))
 have hln1:=Fp.len (k:=0) (a:=bp1_0_) (sz:=2) (frz:=false) (l:=a1_.Proof) Z7 hH rfl
 refine rgS ⟨[(2,Z9 false a2_),(3,iv a3_),(4,.loc 4 0),(5,.loc 5 0),(8,.loc 8 0),(9,iv ((List.length a2_:Nat):Int)),(10,iv ((List.length a1_.Proof:Nat):Int))],[(4,(Z2 a0_)),(5,[bp1_0_,bp1_1_,iv a1_.What]),(8,[Z6 true [],Z9 true [],iv 0])],H⟩ (Z4.u (hm:=(by cases hfbp1_0_<;>cases hfbp1_1_<;>kernel_rfl)) 2 (Zad (ys:=[bp1_0_]) (by cases hfbp1_0_<;>cases hfbp1_1_<;>kernel_rfl) hln1) (Z4.f (h:=(by cases hfbp1_0_<;>cases hfbp1_1_<;>kernel_rfl)))) (by cases hfbp1_0_<;>cases hfbp1_1_<;>kernel_rfl) (tq (sq (sq (rgS ⟨[(2,Z9 false a2_),(3,iv a3_),(4,.loc 4 0),(5,.loc 5 0),(8,.loc 8 0),(9,iv ((List.length a2_:Nat):Int)),(10,iv ((List.length a1_.Proof:Nat):Int)),(22,bv (decide (((List.length a1_.Proof:Nat):Int)>a3_)))],[(4,(Z2 a0_)),(5,[bp1_0_,bp1_1_,iv a1_.What]),(8,[Z6 true [],Z9 true [],iv 0])],H⟩ Z4.f (by cases hfbp1_0_<;>cases hfbp1_1_<;>kernel_rfl) (tq (it h (λhc2 h=>?_) (λhc2 h=>?_)))))))
 ·refine sq (rgS ⟨[(5,.loc 5 0),(8,.loc 8 0)],[(5,[bp1_0_,bp1_1_,iv 2]),(8,[Z6 true [],Z9 true [],iv 0])],H⟩ Z4.f (by cases hfbp1_0_<;>cases hfbp1_1_<;>kernel_rfl) (tq (sq (rgS ⟨[(8,.loc 8 0)],[(8,[bp1_0_,bp1_1_,iv 2])],H⟩ (Z4.f (h:=(by cases hfbp1_0_<;>cases hfbp1_1_<;>kernel_rfl))) (by cases hfbp1_0_<;>cases hfbp1_1_<;>kernel_rfl) (tq (rt (tr ?_)))))))
  cases h
  exact ⟨[.agg [bp1_0_,bp1_1_,iv 2]],(by cases hfbp1_0_<;>cases hfbp1_1_<;>kernel_rfl),bp1_0_,bp1_1_,(by cases hfbp1_0_<;>cases hfbp1_1_<;>kernel_rfl),Fp.pk hH [0,1] rfl⟩
 refine sk (tq (kq (sq ?_)))
 obtain ⟨l5,hl5,h⟩:=bs h
 obtain ⟨a3,H4,ha3,hH⟩:=Fp.app (k:=0) (a:=bp1_0_) (sz:=2) (frz:=false) Z7 hH rfl hl5
 replace hH:Fp _ _ _ [.arr a3 2 false (List.map Z7 l5),.arr bp1_1_ 1 false (List.map eI64 a1_.Offsets)]:=hH
 have hfa3:=ZbB (Fp.get hH 0 rfl)
 refine rgS ⟨[(2,Z9 false a2_),(3,iv a3_),(4,.loc 4 0),(5,.loc 5 0),(8,.loc 8 0),(9,iv ((List.length a2_:Nat):Int)),(10,iv ((List.length a1_.Proof:Nat):Int))],[(4,(Z2 a0_)),(5,[a3,bp1_1_,iv a1_.What]),(8,[Z6 true [],Z9 true [],iv 0])],H4⟩ (Z4.h (hm:=(by cases hfbp1_0_<;>cases hfbp1_1_<;>kernel_rfl)) 5 (Zep (H:=H) (a:=bp1_0_) (b:=Z6 true [(Z5.mk ((List.length a2_:Nat):Int) ([]))]) (by cases hfbp1_0_<;>cases hfbp1_1_<;>kernel_rfl) (by cases hfbp1_0_<;>cases hfbp1_1_<;>kernel_rfl) (by cases hfbp1_0_<;>cases hfbp1_1_<;>kernel_rfl) (by cases hfbp1_0_<;>cases hfbp1_1_<;>kernel_rfl) ha3) (Z4.f (h:=(by cases hfa3<;>cases hfbp1_0_<;>cases hfbp1_1_<;>kernel_rfl)))) (by cases hfa3<;>cases hfbp1_0_<;>cases hfbp1_1_<;>kernel_rfl) (tq (sq (rgS ⟨[(2,Z9 false a2_),(3,iv a3_),(4,.loc 4 0),(5,.loc 5 0),(8,.loc 8 0),(9,iv ((List.length a2_:Nat):Int)),(10,iv ((List.length a1_.Proof:Nat):Int)),(11,ZaI true [])],[(4,(Z2 a0_)),(5,[a3,bp1_1_,iv a1_.What]),(8,[Z6 true [],Z9 true [],iv 0])],H4⟩ Z4.f (by cases hfa3<;>cases hfbp1_1_<;>kernel_rfl) (tq (sq (sq (rgS ⟨[(2,Z9 false a2_),(3,iv a3_),(4,.loc 4 0),(5,.loc 5 0),(8,.loc 8 0),(9,iv ((List.length a2_:Nat):Int)),(10,iv ((List.length a1_.Proof:Nat):Int)),(11,ZaI true []),(12,iv 0)],[(4,(Z2 a0_)),(5,[a3,bp1_1_,iv a1_.What]),(8,[Z6 true [],Z9 true [],iv 0])],H4⟩ Z4.f (by cases hfa3<;>cases hfbp1_1_<;>kernel_rfl) (tq (ZpP (bk ?_))))))))))
 obtain ⟨bj,aG,h⟩:=bs h
 refine Zbc ((ZaT (λ(x:Int×Int×(List Zag)×(List Z5)×(List Int)) s=>∃ (a6:AV) (a7:AV) (a8:AV) (H9:List HO),s=⟨[(2,Z9 false a2_),(3,iv a3_),(4,.loc 4 0),(5,.loc 5 0),(8,.loc 8 0),(9,iv ((List.length a2_:Nat):Int)),(10,iv ((List.length a1_.Proof:Nat):Int)),(11,a6),(12,iv x.1)],[(4,(Z2 a0_)),(5,[a7,a8,iv x.2.1]),(8,[Z6 true [],Z9 true [],iv 0])],H9⟩/\Fp H H9 [.arr bp1_0_ 2 false (List.map Z7 a1_.Proof),.arr bp1_1_ 1 false (List.map eI64 a1_.Offsets)] [.arr a6 4 false (List.map Zah x.2.2.1),.arr a7 2 false (List.map Z7 x.2.2.2.1),.arr a8 1 false (List.map eI64 x.2.2.2.2)]) (λx:Int×Int×(List Zag)×(List Z5)×(List Int)=>ZbX N rec_ a0_ a2_ a3_ x.1 x.2.1 x.2.2.1 x.2.2.2.1 x.2.2.2.2) (λ(p:(Int×(List Zag)×(List Z5)×(List Int))⊕(Zaq)) e s=>match p with|(.inl p)=>e=.exit 0/\(∃ (aw:AV) (aj:AV) (ak:AV) (bi:List HO),s=⟨[(5,.loc 5 0),(8,.loc 8 0),(10,iv ((List.length a1_.Proof:Nat):Int)),(11,aw)],[(5,[aj,ak,iv p.1]),(8,[Z6 true [],Z9 true [],iv 0])],bi⟩/\Fp H bi [.arr bp1_0_ 2 false (List.map Z7 a1_.Proof),.arr bp1_1_ 1 false (List.map eI64 a1_.Offsets)] [.arr aw 4 false (List.map Zah p.2.1),.arr aj 2 false (List.map Z7 p.2.2.1),.arr ak 1 false (List.map eI64 p.2.2.2)])|(.inr p)=>e=.ret/\∃ xs,rawL (wS [] s) i25.res=some xs/\∃ (or_0_0_:AV) (or_0_1_:AV),Zbr xs=.agg [or_0_0_,or_0_1_,iv p.What]/\Fp H (weakH [] s.H) [.arr bp1_0_ 2 false (List.map Z7 a1_.Proof),.arr bp1_1_ 1 false (List.map eI64 a1_.Offsets)] [.arr or_0_0_ 2 false (List.map Z7 p.Proof),.arr or_0_1_ 1 false (List.map eI64 p.Offsets)]) ?_ N _ bj _ aG ⟨(.p (.sl 4 true [])),a3,bp1_1_,H4,(by show _=_;cases hfa3<;>cases hfbp1_1_<;>kernel_rfl),(Fp.pick (Fp.nilArr hH 4 false) [0,1,2] rfl)⟩).mono ?_)
 ·clear h aG
  rintro ⟨i10,i11,aD,av,aC⟩ o s h hR
  obtain ⟨a6,a7,a8,H9,rfl,hH⟩:=hR
  replace hH:Fp _ _ _ [.arr a6 4 false (List.map Zah aD),.arr a7 2 false (List.map Z7 av),.arr a8 1 false (List.map eI64 aC)]:=hH
  have hfa6:=ZbB (Fp.get hH 0 rfl)
  have hfa7:=ZbB (Fp.get hH 1 rfl)
  have hfa8:=ZbB (Fp.get hH 2 rfl)
  replace h:ZbX N rec_ a0_ a2_ a3_ i10 i11 aD av aC=some o:=h
  unfold ZbX at h
  refine sq (sq ?_)
  obtain ⟨c2,bq,h⟩:=bs h
  refine rgS ⟨[(2,Z9 false a2_),(3,iv a3_),(4,.loc 4 0),(5,.loc 5 0),(8,.loc 8 0),(9,iv ((List.length a2_:Nat):Int)),(10,iv ((List.length a1_.Proof:Nat):Int)),(11,a6),(12,iv i10),(38,bv (decide (i10<c2)))],[(4,(Z2 a0_)),(5,[a7,a8,iv i11]),(8,[Z6 true [],Z9 true [],iv 0])],H9⟩ (Z4.u 4 (Zad (ys:=[Z9 false a0_.Periods,iv ((List.length a2_:Nat):Int)]) (h:=Zac eI64 bq)) (Z4.u 0 (Zas (sz:=1) (off:=0) (cs:=[.int .i64 c2]) (r:=iv c2) eI64 bq) Z4.f)) (by cases hfa6<;>cases hfa7<;>cases hfa8<;>kernel_rfl) (tq (it h (λcd h=>?_) (λcd h=>?_)))
  ·refine sk (tq (kq (sq (bk (sq (sq (rgX ⟨[(2,Z9 false a2_),(3,iv a3_),(4,.loc 4 0),(5,.loc 5 0),(8,.loc 8 0),(9,iv ((List.length a2_:Nat):Int)),(10,iv ((List.length a1_.Proof:Nat):Int)),(11,a6),(12,iv i10),(46,bv ((((List.length a2_:Nat):Int)==0)&&(i10==1)))],[(4,(Z2 a0_)),(5,[a7,a8,iv i11]),(8,[Z6 true [],Z9 true [],iv 0])],H9⟩ ?_ ?_)))))))
   ·rcases Bool.eq_false_or_eq_true (((List.length a2_:Nat):Int)==0) with bu|bt
    ·exact (EP.u 1 (Zaa (c:=(((List.length a2_:Nat):Int)==0)) (h:=bu)) (EP.f (by simp only [bu];cases hfa6<;>cases hfa7<;>cases hfa8<;>kernel_rfl)))
    exact (EP.u 1 (Zaa (c:=(((List.length a2_:Nat):Int)==0)) (h:=bt)) (EP.f (by simp only [bt];cases hfa6<;>cases hfa7<;>cases hfa8<;>kernel_rfl)))
   refine tq (it h (λcc h=>?_) (λcc h=>?_))
   ·refine sq ?_
    obtain ⟨c1,bm,h⟩:=bs h
    obtain ⟨cn,c8,h⟩:=bs h
    obtain ⟨c3,cf,ce,hH⟩:=Fp.app (k:=0) (a:=a6) (sz:=4) (frz:=false) Zah hH rfl c8
    replace hH:Fp _ _ _ [.arr c3 4 false (List.map Zah cn),.arr a7 2 false (List.map Z7 av),.arr a8 1 false (List.map eI64 aC)]:=hH
    have aT:=ZbB (Fp.get hH 0 rfl)
    refine rgS ⟨[(5,.loc 5 0),(8,.loc 8 0),(10,iv ((List.length a1_.Proof:Nat):Int)),(11,c3)],[(5,[a7,a8,iv i11]),(8,[Z6 true [],Z9 true [],iv 0])],cf⟩ (Z4.u 3 (Zad (ys:=[Z9 false a0_.Periods,iv 0]) (h:=Zac eI64 bm)) (Z4.u 0 (Zas (sz:=1) (off:=0) (cs:=[.int .i64 c1]) (r:=iv c1) eI64 bm) (Z4.h 2 (Zep (H:=H9) (a:=a6) (b:=ZaI true [(Zag.mk 1 c1 (-2) 0)]) (by cases hfa6<;>kernel_rfl) (by cases hfa6<;>kernel_rfl) (by cases hfa6<;>kernel_rfl) (by cases hfa6<;>kernel_rfl) ce) Z4.f))) (by cases aT<;>cases hfa6<;>cases hfa7<;>cases hfa8<;>kernel_rfl) (tq (kq (xq (tx (bo (tx ?_))))))
    cases h
    exact ⟨_,rfl,rfl,⟨c3,a7,a8,cf,(by show _=_;cases aT<;>cases hfa7<;>cases hfa8<;>kernel_rfl),(Fp.pick hH [0,1,2] rfl)⟩⟩
   refine sk (tq (kq (sq ?_)))
   obtain ⟨aB,c7,h⟩:=bs h
   refine rgS ⟨[(2,Z9 false a2_),(3,iv a3_),(4,.loc 4 0),(5,.loc 5 0),(8,.loc 8 0),(9,iv ((List.length a2_:Nat):Int)),(10,iv ((List.length a1_.Proof:Nat):Int)),(11,a6),(12,iv i10),(13,iv aB)],[(4,(Z2 a0_)),(5,[a7,a8,iv i11]),(8,[Z6 true [],Z9 true [],iv 0])],H9⟩ (Z4.v 3 (Zav (hc:=ZkB N a0_ a2_ i10 aB c7)) Z4.f) (by cases hfa6<;>cases hfa7<;>cases hfa8<;>kernel_rfl) (tq (sq (sq (rgS ⟨[(2,Z9 false a2_),(3,iv a3_),(4,.loc 4 0),(5,.loc 5 0),(8,.loc 8 0),(9,iv ((List.length a2_:Nat):Int)),(10,iv ((List.length a1_.Proof:Nat):Int)),(11,a6),(12,iv i10),(13,iv aB),(60,bv (aB != (-1)))],[(4,(Z2 a0_)),(5,[a7,a8,iv i11]),(8,[Z6 true [],Z9 true [],iv 0])],H9⟩ Z4.f (by cases hfa6<;>cases hfa7<;>cases hfa8<;>kernel_rfl) (tq (it h (λcb h=>?_) (λcb h=>?_)))))))
   ·obtain ⟨bl,aI,h⟩:=bs h
    refine Znq (λs=>∃ (ao:AV) (an:AV) (am:AV) (au:List HO),s=⟨[(2,Z9 false a2_),(3,iv a3_),(4,.loc 4 0),(5,.loc 5 0),(8,.loc 8 0),(9,iv ((List.length a2_:Nat):Int)),(10,iv ((List.length a1_.Proof:Nat):Int)),(11,ao),(12,iv i10)],[(4,(Z2 a0_)),(5,[an,am,iv i11]),(8,[Z6 true [],Z9 true [],iv 0])],au⟩/\Fp H au [.arr bp1_0_ 2 false (List.map Z7 a1_.Proof),.arr bp1_1_ 1 false (List.map eI64 a1_.Offsets)] [.arr ao 4 false (List.map Zah bl),.arr an 2 false (List.map Z7 av),.arr am 1 false (List.map eI64 aC)]) ?_ ?_
    ·clear h
     have h:=aI
     refine sq ?_
     obtain ⟨c6,hj,h⟩:=bs h
     refine rgR (λs=>s=⟨[(2,Z9 false a2_),(3,iv a3_),(4,.loc 4 0),(5,.loc 5 0),(8,.loc 8 0),(9,iv ((List.length a2_:Nat):Int)),(10,iv ((List.length a1_.Proof:Nat):Int)),(11,a6),(12,iv i10),(13,iv aB),(74,bv c6)],[(4,(Z2 a0_)),(5,[a7,a8,iv i11]),(8,[Z6 true [],Z9 true [],iv 0])],H9⟩) ?_ ?_
     ·clear h
      have bc:=Fp.len (k:=0) (a:=a6) (sz:=4) (frz:=false) (l:=aD) Zah hH rfl
      refine (EP.u 1 (Zad (ys:=[a6]) (by cases hfa6<;>kernel_rfl) bc) ?_)
      rcases Zat hj with ⟨bU,hj⟩|⟨bT,hj⟩
      ·refine (EP.u 0 (Zaa (c:=(decide (((List.length aD:Nat):Int)>0))) (h:=bU)) ?_)
       have bb:=Fp.len (k:=0) (a:=a6) (sz:=4) (frz:=false) (l:=aD) Zah hH rfl
       refine (EP.u 3 (Zad (ys:=[a6]) (by cases hfa6<;>kernel_rfl) bb) ?_)
       obtain ⟨bz,aW,hj⟩:=bs hj
       obtain ⟨cq,cl,_,c9,bf,ca,aS⟩:=Fp.elem (k:=0) (a:=a6) (sz:=4) (frz:=false) Zah hH rfl aW
       obtain rfl:=Zae hj
       exact (EP.u 1 (Zad (ys:=[a6,iv (w64 (((List.length aD:Nat):Int)-1))]) (by cases hfa6<;>kernel_rfl) (aS .i64)) (EP.u 1 (ZgT (H:=H9) (off:=2) (cs:=[.int .i64 bz.By]) (r:=iv bz.By) Zah aW bf) (EP.f (by show _=_;cases hfa6<;>cases hfa7<;>cases hfa8<;>kernel_rfl))))
      obtain rfl:=Zae hj
      exact (EP.u 0 (Zaa (c:=(decide (((List.length aD:Nat):Int)>0))) (h:=bT)) (EP.f (by show _=_;cases hfa6<;>cases hfa7<;>cases hfa8<;>kernel_rfl)))
     clear hj
     rintro s hR
     obtain rfl:=hR
     refine tq (it h (λbR h=>?_) (λbR h=>?_))
     ·have ba:=Fp.len (k:=0) (a:=a6) (sz:=4) (frz:=false) (l:=aD) Zah hH rfl
      obtain ⟨al,aV,h⟩:=bs h
      obtain ⟨cp,ck,_,aQ,be,aR,aM⟩:=Fp.elem (k:=0) (a:=a6) (sz:=4) (frz:=false) Zah hH rfl aV
      obtain ⟨bE,c0,hH⟩:=Fp.setRow (k:=0) (off:=1) (cs:=[iv (w64 (i10+1))]) (ps:=[.int .i64 (w64 (i10+1))]) (e':=(Zag.mk al.From (w64 (i10+1)) al.By al.Next)) Zah hH rfl aR be (aQ rfl) aV kr kr
      replace hH:Fp _ _ _ [.arr a6 4 false (List.map Zah (List.set aD (Int.toNat (w64 (((List.length aD:Nat):Int)-1))) (Zag.mk al.From (w64 (i10+1)) al.By al.Next))),.arr a7 2 false (List.map Z7 av),.arr a8 1 false (List.map eI64 aC)]:=hH
      refine rgS ⟨[(2,Z9 false a2_),(3,iv a3_),(4,.loc 4 0),(5,.loc 5 0),(8,.loc 8 0),(9,iv ((List.length a2_:Nat):Int)),(10,iv ((List.length a1_.Proof:Nat):Int)),(11,a6),(12,iv i10)],[(4,(Z2 a0_)),(5,[a7,a8,iv i11]),(8,[Z6 true [],Z9 true [],iv 0])],bE⟩ (Z4.u 2 (Zad (ys:=[a6]) (by cases hfa6<;>kernel_rfl) ba) (Z4.u 3 (Zad (ys:=[a6,iv (w64 (((List.length aD:Nat):Int)-1))]) (by cases hfa6<;>kernel_rfl) (aM .i64)) (Z4.o 1 (Zc1 (H:=H9) (v:=iv (w64 (i10+1))) (hw:=c0)) Z4.f))) (by cases hfa6<;>cases hfa7<;>cases hfa8<;>kernel_rfl) ?_
      cases h
      exact ⟨rfl,⟨a6,a7,a8,bE,(by show _=_;cases hfa6<;>cases hfa7<;>cases hfa8<;>kernel_rfl),(Fp.pick hH [0,1,2] rfl)⟩⟩
     obtain ⟨c5,bL,h⟩:=bs h
     obtain ⟨aY,bD,bY,hH⟩:=Fp.app (k:=0) (a:=a6) (sz:=4) (frz:=false) Zah hH rfl bL
     replace hH:Fp _ _ _ [.arr aY 4 false (List.map Zah c5),.arr a7 2 false (List.map Z7 av),.arr a8 1 false (List.map eI64 aC)]:=hH
     have ax:=ZbB (Fp.get hH 0 rfl)
     refine rgS ⟨[(2,Z9 false a2_),(3,iv a3_),(4,.loc 4 0),(5,.loc 5 0),(8,.loc 8 0),(9,iv ((List.length a2_:Nat):Int)),(10,iv ((List.length a1_.Proof:Nat):Int)),(11,aY),(12,iv i10)],[(4,(Z2 a0_)),(5,[a7,a8,iv i11]),(8,[Z6 true [],Z9 true [],iv 0])],bD⟩ (Z4.h 7 (Zep (H:=H9) (a:=a6) (b:=ZaI true [(Zag.mk i10 (w64 (i10+1)) aB 0)]) (by cases hfa6<;>kernel_rfl) (by cases hfa6<;>kernel_rfl) (by cases hfa6<;>kernel_rfl) (by cases hfa6<;>kernel_rfl) bY) Z4.f) (by cases ax<;>cases hfa6<;>cases hfa7<;>cases hfa8<;>kernel_rfl) ?_
     cases h
     exact ⟨rfl,⟨aY,a7,a8,bD,(by show _=_;cases ax<;>cases hfa7<;>cases hfa8<;>kernel_rfl),(Fp.pick hH [0,1,2] rfl)⟩⟩
    clear aI
    rintro s hR
    obtain ⟨ao,an,am,au,rfl,hH⟩:=hR
    replace hH:Fp _ _ _ [.arr ao 4 false (List.map Zah bl),.arr an 2 false (List.map Z7 av),.arr am 1 false (List.map eI64 aC)]:=hH
    have aA:=ZbB (Fp.get hH 0 rfl)
    have az:=ZbB (Fp.get hH 1 rfl)
    have ay:=ZbB (Fp.get hH 2 rfl)
    refine kq (xq (tx (bx (tq (kq (rgS ⟨[(2,Z9 false a2_),(3,iv a3_),(4,.loc 4 0),(5,.loc 5 0),(8,.loc 8 0),(9,iv ((List.length a2_:Nat):Int)),(10,iv ((List.length a1_.Proof:Nat):Int)),(11,ao),(12,iv (w64 (i10+1)))],[(4,(Z2 a0_)),(5,[an,am,iv i11]),(8,[Z6 true [],Z9 true [],iv 0])],au⟩ Z4.f (by cases aA<;>cases az<;>cases ay<;>kernel_rfl) ?_))))))
    cases h
    exact ⟨_,rfl,⟨ao,an,am,au,(by show _=_;cases aA<;>cases az<;>cases ay<;>kernel_rfl),(Fp.pick hH [0,1,2] rfl)⟩⟩
   refine sk (tq (kq (sq ?_)))
   obtain ⟨c4,bK,h⟩:=bs h
   obtain ⟨aX,ci,bX,hH⟩:=ZnT (sz:=1) eI64 hH bK
   replace hH:Fp _ _ _ [.arr aX 1 false (List.map eI64 c4),.arr a6 4 false (List.map Zah aD),.arr a7 2 false (List.map Z7 av),.arr a8 1 false (List.map eI64 aC)]:=hH
   have ai:=ZbB (Fp.get hH 0 rfl)
   obtain ⟨ag,bJ,h⟩:=bs h
   obtain ⟨a5,ap,bW,hH⟩:=Fp.app (k:=0) (a:=aX) (sz:=1) (frz:=false) eI64 hH rfl bJ
   replace hH:Fp _ _ _ [.arr a5 1 false (List.map eI64 ag),.arr a6 4 false (List.map Zah aD),.arr a7 2 false (List.map Z7 av),.arr a8 1 false (List.map eI64 aC)]:=hH
   have a0:=ZbB (Fp.get hH 0 rfl)
   refine rgS ⟨[(2,Z9 false a2_),(3,iv a3_),(4,.loc 4 0),(5,.loc 5 0),(8,.loc 8 0),(9,iv ((List.length a2_:Nat):Int)),(10,iv ((List.length a1_.Proof:Nat):Int)),(11,a6),(12,iv i10),(14,a5)],[(4,(Z2 a0_)),(5,[a7,a8,iv i11]),(8,[Z6 true [],Z9 true [],iv 0])],ap⟩ (Z4.h 2 (Zep (H:=H9) (a:=Z9 true []) (b:=Z9 false a2_) kr kr kr kr bX) (Z4.h 2 (Zep (H:=ci) (a:=aX) (b:=Z9 true [i10]) (by cases ai<;>kernel_rfl) (by cases ai<;>kernel_rfl) (by cases ai<;>kernel_rfl) (by cases ai<;>kernel_rfl) bW) Z4.f)) (by cases ai<;>cases a0<;>cases hfa6<;>cases hfa7<;>cases hfa8<;>kernel_rfl) (tq (sq (sq ?_)))
   have b9:=Fp.len (k:=0) (a:=a5) (sz:=1) (frz:=false) (l:=ag) eI64 hH rfl
   refine rgS ⟨[(2,Z9 false a2_),(3,iv a3_),(4,.loc 4 0),(5,.loc 5 0),(8,.loc 8 0),(9,iv ((List.length a2_:Nat):Int)),(10,iv ((List.length a1_.Proof:Nat):Int)),(11,a6),(12,iv i10),(14,a5),(102,bv (((List.length ag:Nat):Int)==((List.length a0_.Periods:Nat):Int)))],[(4,(Z2 a0_)),(5,[a7,a8,iv i11]),(8,[Z6 true [],Z9 true [],iv 0])],ap⟩ (Z4.u 1 (Zad (ys:=[a5]) (by cases a0<;>kernel_rfl) b9) (Z4.u 2 (Zad (ys:=[Z9 false a0_.Periods]) (h:=Zal eI64)) Z4.f)) (by cases a0<;>cases hfa6<;>cases hfa7<;>cases hfa8<;>kernel_rfl) (tq (it h (λbQ h=>?_) (λbQ h=>?_)))
   ·refine sq (rgS ⟨[(5,.loc 5 0),(8,.loc 8 0)],[(5,[a7,a5,iv i11]),(8,[Z6 true [],Z9 true [],iv 0])],ap⟩ (Z4.f (h:=(by cases a0<;>kernel_rfl))) (by cases a0<;>cases hfa6<;>cases hfa7<;>cases hfa8<;>kernel_rfl) ?_)
    replace hH:Fp _ _ _ [.arr a5 1 false (List.map eI64 ag),.arr a7 2 false (List.map Z7 av)]:=Fp.pick hH [0,2] rfl
    refine tq (sq (rgS ⟨[(5,.loc 5 0),(8,.loc 8 0)],[(5,[a7,a5,iv 1]),(8,[Z6 true [],Z9 true [],iv 0])],ap⟩ Z4.f (by cases a0<;>cases hfa7<;>kernel_rfl) (tq (sq (rgS ⟨[(8,.loc 8 0)],[(8,[a7,a5,iv 1])],ap⟩ (Z4.f (h:=(by cases a0<;>cases hfa7<;>kernel_rfl))) (by cases a0<;>cases hfa7<;>kernel_rfl) (tq (rt (tr (br (tr ?_))))))))))
    cases h
    exact ⟨_,rfl,rfl,⟨[.agg [a7,a5,iv 1]],(by cases a0<;>cases hfa7<;>kernel_rfl),a7,a5,(by cases a0<;>cases hfa7<;>kernel_rfl),Fp.pk hH [1,0] rfl⟩⟩
   refine sk (tq (kq (sq ?_)))
   have b2:=Fp.len (k:=2) (a:=a7) (sz:=2) (frz:=false) (l:=av) Z7 hH rfl
   obtain ⟨aq,bI,h⟩:=bs h
   obtain ⟨af,bC,bV,hH⟩:=Fp.app (k:=1) (a:=a6) (sz:=4) (frz:=false) Zah hH rfl bI
   replace hH:Fp _ _ _ [.arr a5 1 false (List.map eI64 ag),.arr af 4 false (List.map Zah aq),.arr a7 2 false (List.map Z7 av),.arr a8 1 false (List.map eI64 aC)]:=hH
   have ac:=ZbB (Fp.get hH 1 rfl)
   refine rgS ⟨[(2,Z9 false a2_),(3,iv a3_),(4,.loc 4 0),(5,.loc 5 0),(8,.loc 8 0),(9,iv ((List.length a2_:Nat):Int)),(10,iv ((List.length a1_.Proof:Nat):Int)),(11,af),(12,iv i10),(14,a5)],[(4,(Z2 a0_)),(5,[a7,a8,iv i11]),(8,[Z6 true [],Z9 true [],iv 0])],bC⟩ (Z4.u (hm:=(by cases hfa7<;>cases hfa8<;>kernel_rfl)) 6 (Zad (ys:=[a7]) (by cases hfa7<;>cases hfa8<;>kernel_rfl) b2) (Z4.h (hm:=(by cases hfa7<;>cases hfa8<;>kernel_rfl)) 2 (Zep (H:=ap) (a:=a6) (b:=ZaI true [(Zag.mk i10 (w64 (i10+1)) (-1) ((List.length av:Nat):Int))]) (by cases hfa6<;>cases hfa7<;>cases hfa8<;>kernel_rfl) (by cases hfa6<;>cases hfa7<;>cases hfa8<;>kernel_rfl) (by cases hfa6<;>cases hfa7<;>cases hfa8<;>kernel_rfl) (by cases hfa6<;>cases hfa7<;>cases hfa8<;>kernel_rfl) bV) (Z4.f (h:=(by cases hfa7<;>cases hfa8<;>kernel_rfl))))) (by cases a0<;>cases ac<;>cases hfa6<;>cases hfa7<;>cases hfa8<;>kernel_rfl) (tq (sq ?_))
   obtain ⟨ab,bG,h⟩:=bs h
   have hl_a7:=Fp.get hH 2 rfl
   have hl_a8:=Fp.get hH 3 rfl
   obtain ⟨cg,cm,aE,hH⟩:=Fp.frz (k:=0) (a:=a5) (sz:=1) (frz:=false) eI64 hH rfl
   replace hH:Fp _ _ _ [.arr a5 1 true (List.map eI64 ag),.arr af 4 false (List.map Zah aq),.arr a7 2 false (List.map Z7 av),.arr a8 1 false (List.map eI64 aC)]:=hH
   obtain ⟨ae,ad,ar,b0,b1⟩:=hrec_ a0_ (Zaq.mk av aC i11) ag a3_   a7 a8 cg (Fp.now (Fp.pick hH [2,3] rfl)) ab bG
   replace hH:Fp _ _ _ [.arr ae 2 false (List.map Z7 ab.Proof),.arr ad 1 false (List.map eI64 ab.Offsets),.arr a5 1 true (List.map eI64 ag),.arr af 4 false (List.map Zah aq)]:=Fp.callee (fp:=[.arr a7 2 false (List.map Z7 av),.arr a8 1 false (List.map eI64 aC)]) (rest:=[.arr a5 1 true (List.map eI64 ag),.arr af 4 false (List.map Zah aq)]) (Fp.pick hH [2,3,0,1] rfl) b1
   have aa:=ZbB (Fp.get hH 0 rfl)
   have a9:=ZbB (Fp.get hH 1 rfl)
   refine rgS ⟨[(2,Z9 false a2_),(3,iv a3_),(4,.loc 4 0),(5,.loc 5 0),(8,.loc 8 0),(9,iv ((List.length a2_:Nat):Int)),(10,iv ((List.length a1_.Proof:Nat):Int)),(11,af),(12,iv i10)],[(4,(Z2 a0_)),(5,[ae,ad,iv ab.What]),(8,[Z6 true [],Z9 true [],iv 0])],ar⟩ (Z4.v (hm:=(by cases hfa7<;>cases hfa8<;>kernel_rfl)) 4 (Zld (H:=bC) (ys:=[.agg (Z2 a0_),.agg [a7,a8,iv i11],a5,iv a3_]) (by cases a0<;>cases hfa7<;>cases hfa8<;>kernel_rfl) (by cases a0<;>cases hfa7<;>cases hfa8<;>kernel_rfl) [[],[true,true,false],[],[]] (Zcw (ZdV rfl) (Zcw (ZjS (Zdi (ZfI (ZjW hl_a7)) (Zdi (ZfI (ZjW hl_a8)) (Zdi (ZjV rfl) passC_nil')))) (Zcw (ZdV aE) (Zcw (ZdV rfl) passL_nil')))) b0) (Z4.f (h:=(by cases aa<;>cases a9<;>cases hfa7<;>cases hfa8<;>kernel_rfl)))) (by cases a0<;>cases ac<;>cases aa<;>cases a9<;>cases hfa7<;>cases hfa8<;>kernel_rfl) ?_
   replace hH:Fp _ _ _ [.arr ae 2 false (List.map Z7 ab.Proof),.arr ad 1 false (List.map eI64 ab.Offsets),.arr af 4 false (List.map Zah aq)]:=Fp.pick hH [0,1,3] rfl
   refine tq (sq (rgS ⟨[(2,Z9 false a2_),(3,iv a3_),(4,.loc 4 0),(5,.loc 5 0),(8,.loc 8 0),(9,iv ((List.length a2_:Nat):Int)),(10,iv ((List.length a1_.Proof:Nat):Int)),(11,af),(12,iv i10),(124,bv (ab.What != 0))],[(4,(Z2 a0_)),(5,[ae,ad,iv ab.What]),(8,[Z6 true [],Z9 true [],iv 0])],ar⟩ (Z4.f (h:=(by cases aa<;>cases a9<;>kernel_rfl))) (by cases ac<;>cases aa<;>cases a9<;>kernel_rfl) (tq (it h (λbM h=>?_) (λbM h=>?_)))))
   ·refine sq (rgS ⟨[(8,.loc 8 0)],[(8,[ae,ad,iv ab.What])],ar⟩ (Z4.f (h:=(by cases aa<;>cases a9<;>kernel_rfl))) (by cases ac<;>cases aa<;>cases a9<;>kernel_rfl) ?_)
    replace hH:Fp _ _ _ [.arr ae 2 false (List.map Z7 ab.Proof),.arr ad 1 false (List.map eI64 ab.Offsets)]:=Fp.pick hH [0,1] rfl
    refine tq (rt (br (tr ?_)))
    cases h
    exact ⟨_,rfl,rfl,⟨[.agg [ae,ad,iv ab.What]],(by cases aa<;>cases a9<;>kernel_rfl),ae,ad,(by cases aa<;>cases a9<;>kernel_rfl),Fp.pk hH [0,1] rfl⟩⟩
   refine sk (bn (tq (kq (rgS ⟨[(2,Z9 false a2_),(3,iv a3_),(4,.loc 4 0),(5,.loc 5 0),(8,.loc 8 0),(9,iv ((List.length a2_:Nat):Int)),(10,iv ((List.length a1_.Proof:Nat):Int)),(11,af),(12,iv (w64 (i10+1)))],[(4,(Z2 a0_)),(5,[ae,ad,iv ab.What]),(8,[Z6 true [],Z9 true [],iv 0])],ar⟩ Z4.f (by cases ac<;>cases aa<;>cases a9<;>kernel_rfl) ?_))))
   cases h
   exact ⟨_,rfl,⟨af,ae,ad,ar,(by show _=_;cases ac<;>cases aa<;>cases a9<;>kernel_rfl),(Fp.pick hH [2,0,1] rfl)⟩⟩
  refine kq (xq (tx ?_))
  cases h
  exact ⟨_,rfl,rfl,⟨a6,a7,a8,H9,(by show _=_;cases hfa6<;>cases hfa7<;>cases hfa8<;>kernel_rfl),(Fp.pick hH [0,1,2] rfl)⟩⟩
 rintro e s hq
 rcases bj with a4|ct
 ·dsimp only at h hq
  obtain ⟨rfl,hR⟩:=hq
  obtain ⟨aw,aj,ak,bi,rfl,hH⟩:=hR
  replace hH:Fp _ _ _ [.arr aw 4 false (List.map Zah a4.2.1),.arr aj 2 false (List.map Z7 a4.2.2.1),.arr ak 1 false (List.map eI64 a4.2.2.2)]:=hH
  have cr:=ZbB (Fp.get hH 0 rfl)
  have a2:=ZbB (Fp.get hH 1 rfl)
  have a1:=ZbB (Fp.get hH 2 rfl)
  refine bx ?_
  obtain ⟨bB,_,aZ,hH⟩:=Fp.frz (k:=0) (a:=aw) (sz:=4) (frz:=false) Zah hH rfl
  replace hH:Fp _ _ _ [.arr aw 4 true (List.map Zah a4.2.1),.arr aj 2 false (List.map Z7 a4.2.2.1),.arr ak 1 false (List.map eI64 a4.2.2.2)]:=hH
  refine ⟨⟨[(5,.loc 5 0),(8,.loc 8 0),(10,iv ((List.length a1_.Proof:Nat):Int)),(11,ZaI false a4.2.1)],[(5,[aj,ak,iv a4.1]),(8,[Z6 true [],Z9 true [],iv 0])],bB⟩,(ZlQ 11 (H:=bi) (a:=aw) (by decide) (by cases a2<;>cases a1<;>kernel_rfl) (by cases a2<;>cases a1<;>kernel_rfl) aZ (by cases a2<;>cases a1<;>kernel_rfl)),?_⟩
  replace hH:Fp _ _ _ [.arr aj 2 false (List.map Z7 a4.2.2.1),.arr ak 1 false (List.map eI64 a4.2.2.2)]:=Fp.pick hH [1,2] rfl
  refine tq (sq ?_)
  obtain ⟨bw,aU,h⟩:=bs h
  obtain ⟨co,cj,_,aK,bd,aL,aJ⟩:=Fp.elem (k:=0) (a:=aj) (sz:=2) (frz:=false) Z7 hH rfl aU
  obtain ⟨bA,bZ,hH⟩:=Fp.setRow (k:=0) (off:=1) (cs:=[ZaI false a4.2.1]) (ps:=[.sl 4 false (List.map Zah a4.2.1)]) (e':=(Z5.mk bw.Stream a4.2.1)) Z7 hH rfl aL bd (aK rfl) aU kr kr
  replace hH:Fp _ _ _ [.arr aj 2 false (List.map Z7 (List.set a4.2.2.1 (Int.toNat ((List.length a1_.Proof:Nat):Int)) (Z5.mk bw.Stream a4.2.1))),.arr ak 1 false (List.map eI64 a4.2.2.2)]:=hH
  refine rgS ⟨[(5,.loc 5 0),(8,.loc 8 0)],[(5,[aj,ak,iv a4.1]),(8,[Z6 true [],Z9 true [],iv 0])],bA⟩ (Z4.u (hm:=(by cases a2<;>cases a1<;>kernel_rfl)) 4 (Zad (ys:=[aj,iv ((List.length a1_.Proof:Nat):Int)]) (by cases a2<;>cases a1<;>kernel_rfl) (aJ .i64)) (Z4.o (hm:=(by cases a2<;>cases a1<;>kernel_rfl)) 1 (Zc1 (H:=bB) (v:=ZaI false a4.2.1) (by cases a2<;>cases a1<;>kernel_rfl) (by cases a2<;>cases a1<;>kernel_rfl) (by cases a2<;>cases a1<;>kernel_rfl) (by cases a2<;>cases a1<;>kernel_rfl) bZ) Z4.f)) (by cases a2<;>cases a1<;>kernel_rfl) (tq (sq (rgS ⟨[(8,.loc 8 0)],[(8,[aj,ak,iv a4.1])],bA⟩ (Z4.f (h:=(by cases a2<;>cases a1<;>kernel_rfl))) (by cases a2<;>cases a1<;>kernel_rfl) (tq (rt ?_)))))
  cases h
  exact ⟨[.agg [aj,ak,iv a4.1]],(by cases a2<;>cases a1<;>kernel_rfl),aj,ak,(by cases a2<;>cases a1<;>kernel_rfl),Fp.pk hH [0,1] rfl⟩
 dsimp only at h hq
 obtain ⟨rfl,hq⟩:=hq
 refine br (pur (tr ?_))
 cases h
 exact hq
theorem Ze7:∀ (N:Nat) (a0_:Z3) (a1_:Zaq) (a2_:(List Int)) (a3_:Int) (bp1_0_:AV) (bp1_1_:AV) (H:List HO) (hH:HP H [.arr bp1_0_ 2 false (List.map Z7 a1_.Proof),.arr bp1_1_ 1 false (List.map eI64 a1_.Offsets)]) (r:Zaq) (h:ZcS N a0_ a1_ a2_ a3_=some r),∃ (or_0_0_:AV) (or_0_1_:AV) (H':List HO),ZbR Try.prog 25 [.agg (Z2 a0_),.agg [bp1_0_,bp1_1_,iv a1_.What],Z9 false a2_,iv a3_] H (.agg [or_0_0_,or_0_1_,iv r.What]) H'/\Fp H H' [.arr bp1_0_ 2 false (List.map Z7 a1_.Proof),.arr bp1_1_ 1 false (List.map eI64 a1_.Offsets)] [.arr or_0_0_ 2 false (List.map Z7 r.Proof),.arr or_0_1_ 1 false (List.map eI64 r.Offsets)]
 | 0,a0_,a1_,a2_,a3_,bp1_0_,bp1_1_,H,hH,r,h=>by cases h
 | N+1,a0_,a1_,a2_,a3_,bp1_0_,bp1_1_,H,hH,r,h=>ZgI N (ZcS N) (λa0_ a1_ a2_ a3_ bp1_0_ bp1_1_ H hH r h=>Ze7 N a0_ a1_ a2_ a3_ bp1_0_ bp1_1_ H hH r h) a0_ a1_ a2_ a3_ bp1_0_ bp1_1_ H hH r h
theorem ZgL (N:Nat)(a0_:Z3)(a1_:Int)(a2_:Int)(a3_:Int)(a4_:Int)(r:Bool)(h:ZcG N a0_ a1_ a2_ a3_ a4_=some r):Zbk Try.prog 27 [.agg (Z2 a0_),iv a1_,iv a2_,iv a3_,iv a4_] (bv r):=by
 unfold ZcG at h
 have hH  := hp0
 refine ZaG Zu3 rfl rfl (Zao _ _ _ ?_) rfl
 refine sq ?_
 obtain ⟨id1,H2,hid1,hH2,hH⟩:=HP.newCell hH (Z2 a0_)
 replace hH:HP _ [.cel id1 (Z2 a0_)]:=hH
 obtain ⟨id3,H4,hid3,hH4,hH⟩:=HP.newCell hH [iv a2_]
 replace hH:HP _ [.cel id3 [iv a2_],.cel id1 (Z2 a0_)]:=hH
 obtain ⟨id5,H6,hid5,hH6,hH⟩:=HP.newCell hH [iv a4_]
 replace hH:HP _ [.cel id5 [iv a4_],.cel id3 [iv a2_],.cel id1 (Z2 a0_)]:=hH
 obtain ⟨id7,H8,hid7,hH8,hH⟩:=HP.newCell hH [bv false]
 replace hH:HP _ [.cel id7 [bv false],.cel id5 [iv a4_],.cel id3 [iv a2_],.cel id1 (Z2 a0_)]:=hH
 refine rgS ⟨[(1,iv a1_),(3,iv a3_),(5,.ptr id1 0),(7,.ptr id3 0),(9,.ptr id5 0),(10,.ptr id7 0)],[],H8⟩ (Z4.h 0 (Zfj (H:=[]) (v:=.agg (Z2 a0_)) (hid:=hid1) (hH:=hH2)) (Z4.h 0 (Zfj (H:=H2) (v:=iv a2_) (hid:=hid3) (hH:=hH4)) (Z4.h 0 (Zfj (H:=H4) (v:=iv a4_) (hid:=hid5) (hH:=hH6)) (Z4.h 0 (Zn7 (H:=H6) kr hid7 hH8) Z4.f)))) kr (tq (sq (sq ?_)))
 have hlc9:=HP.get hH 3 rfl
 obtain ⟨a8,aA,h⟩:=bs h
 obtain ⟨a7,a6,a5,a4,ak,ao⟩:=ZiY N a0_ a1_ a3_ H8 a8 aA
 replace hH:HP _ [.cel a7 (Z2 a8.1),.cel a6 [iv a8.2.1],.cel a5 [iv a8.2.2],.cel id7 [bv false],.cel id5 [iv a4_],.cel id3 [iv a2_],.cel id1 (Z2 a0_)]:=HP.callee (fp:=[]) (rest:=[.cel id7 [bv false],.cel id5 [iv a4_],.cel id3 [iv a2_],.cel id1 (Z2 a0_)]) hH ao
 refine rgS ⟨[(5,.ptr id1 0),(7,.ptr id3 0),(9,.ptr id5 0),(10,.ptr id7 0),(18,.fn 47 [] [.ptr a7 0,.ptr a6 0,.ptr a5 0])],[],a4⟩ (Z4.u 0 (ZaP (H:=H8) (id:=id1) (off:=0) (cs:=(Z2 a0_)) (c:=(Z2 a0_)) (r:=.agg (Z2 a0_)) (hl:=hlc9)) (Z4.v 2 (ZdC (H:=H8) (ys:=[.agg (Z2 a0_),iv a1_,iv a3_]) kr kr kr ak) Z4.f)) kr (tq (bk ?_))
 obtain ⟨a0,ap,h⟩:=bs h
 have ab:∀ (a3:Zax) (a2:Zax) (s:(Bool)×Nat) (r:((Bool)×Nat)×Bool) (H:List HO) (its:List ZaS),(λ(s:(Bool)×Nat) (its:List ZaS)=>its=[.cel id7 [bv s.1],.cel id5 [iv a4_],.cel id3 [iv a2_],.cel id1 (Z2 a0_)]++[.lp (List.length a4) (lcOf Try.prog i27.nt [19,20] ZdF ZdE) [(5,.ptr id1 0),(7,.ptr id3 0),(9,.ptr id5 0),(10,.ptr id7 0)] (stAt [.ready,.done .ret] s.2)]) s its->HP H its->(λ(s:(Bool)×Nat) (a3:Zax) (a2:Zax)=>Zg4 (λv:Bool=>Za6 N a0_ a2_ a4_ v a3 a2) s) s a3 a2=some r->∃ H' its',Zk0 Try.prog (List.length a4) [.agg (ZaE a3),.agg (ZaE a2)] H r.2 H'/\(λ(s:(Bool)×Nat) (its:List ZaS)=>its=[.cel id7 [bv s.1],.cel id5 [iv a4_],.cel id3 [iv a2_],.cel id1 (Z2 a0_)]++[.lp (List.length a4) (lcOf Try.prog i27.nt [19,20] ZdF ZdE) [(5,.ptr id1 0),(7,.ptr id3 0),(9,.ptr id5 0),(10,.ptr id7 0)] (stAt [.ready,.done .ret] s.2)]) r.1 its'/\Fp H H' its its':=by
  clear h
  intro a3 a2 s r ag its hT hH h
  obtain ⟨h0,q,hb,rfl⟩:=Zks h
  clear h
  obtain ⟨vs,e⟩:=s
  obtain rfl:e=0:=h0
  obtain ⟨b18,rfl⟩:∃ v,v=vs:=⟨vs,rfl⟩
  obtain rfl:=hT
  replace h:Za6 N a0_ a2_ a4_ b18 a3 a2=some q:=hb
  clear hb
  unfold Za6 at h
  replace hH:Fp _ _ _ [.cel id7 [bv b18],.cel id5 [iv a4_],.cel id3 [iv a2_],.cel id1 (Z2 a0_),.lp (List.length a4) (lcOf Try.prog i27.nt [19,20] ZdF ZdE) [(5,.ptr id1 0),(7,.ptr id3 0),(9,.ptr id5 0),(10,.ptr id7 0)] .ready]:=Fp.refl hH
  suffices hs:∃ H',Zk0 Try.prog (List.length a4) [.agg (ZaE a3),.agg (ZaE a2)] ag (q.2==0) H'/\∃ its',(λ(s:(Bool)×Nat) (its:List ZaS)=>its=[.cel id7 [bv s.1],.cel id5 [iv a4_],.cel id3 [iv a2_],.cel id1 (Z2 a0_)]++[.lp (List.length a4) (lcOf Try.prog i27.nt [19,20] ZdF ZdE) [(5,.ptr id1 0),(7,.ptr id3 0),(9,.ptr id5 0),(10,.ptr id7 0)] (stAt [.ready,.done .ret] s.2)]) q its'/\Fp ag H' [.cel id7 [bv b18],.cel id5 [iv a4_],.cel id3 [iv a2_],.cel id1 (Z2 a0_),.lp (List.length a4) (lcOf Try.prog i27.nt [19,20] ZdF ZdE) [(5,.ptr id1 0),(7,.ptr id3 0),(9,.ptr id5 0),(10,.ptr id7 0)] .ready] its' by
   obtain ⟨H',h1,its',h2,h3⟩:=hs
   exact ⟨H',its',h1,h2,h3⟩
  refine Zmh (id:=(List.length a4)) (args:=[.agg (ZaE a3),.agg (ZaE a2)]) (H:=ag) (n:=i27.nt) (ps:=[19,20]) (fr0:=[(5,.ptr id1 0),(7,.ptr id3 0),(9,.ptr id5 0),(10,.ptr id7 0)]) (ia:=ZdF) (ib:=ZdE) (q.2==0) (λH'=>∃ its',(λ(s:(Bool)×Nat) (its:List ZaS)=>its=[.cel id7 [bv s.1],.cel id5 [iv a4_],.cel id3 [iv a2_],.cel id1 (Z2 a0_)]++[.lp (List.length a4) (lcOf Try.prog i27.nt [19,20] ZdF ZdE) [(5,.ptr id1 0),(7,.ptr id3 0),(9,.ptr id5 0),(10,.ptr id7 0)] (stAt [.ready,.done .ret] s.2)]) q its'/\Fp ag H' [.cel id7 [bv b18],.cel id5 [iv a4_],.cel id3 [iv a2_],.cel id1 (Z2 a0_),.lp (List.length a4) (lcOf Try.prog i27.nt [19,20] ZdF ZdE) [(5,.ptr id1 0),(7,.ptr id3 0),(9,.ptr id5 0),(10,.ptr id7 0)] .ready] its') (Fp.get hH 4 rfl) rfl (by decide +kernel) rfl ?_
  show vc _ _ _ _ ⟨[(5,.ptr id1 0),(7,.ptr id3 0),(9,.ptr id5 0),(10,.ptr id7 0),(19,.agg (ZaE a3)),(20,.agg (ZaE a2))],[],ag⟩
  refine sq (rgS ⟨[(5,.ptr id1 0),(7,.ptr id3 0),(9,.ptr id5 0),(10,.ptr id7 0),(11,.loc 11 0),(20,.agg (ZaE a2))],[(11,(ZaE a3))],ag⟩ Z4.f kr (tq (rgS ⟨[(5,.ptr id1 0),(7,.ptr id3 0),(9,.ptr id5 0),(10,.ptr id7 0),(11,.loc 11 0),(12,.loc 12 0)],[(11,(ZaE a3)),(12,(ZaE a2))],ag⟩ Z4.f kr (Zon (k:=4) hH rfl ?_))))
  intro a1 hH
  replace hH:Fp _ _ _ [.cel id7 [bv b18],.cel id5 [iv a4_],.cel id3 [iv a2_],.cel id1 (Z2 a0_),.lp (List.length a4) (lcOf Try.prog i27.nt [19,20] ZdF ZdE) [(5,.ptr id1 0),(7,.ptr id3 0),(9,.ptr id5 0),(10,.ptr id7 0)] .busy]:=hH
  show vc _ _ _ _ ⟨[(5,.ptr id1 0),(7,.ptr id3 0),(9,.ptr id5 0),(10,.ptr id7 0),(11,.loc 11 0),(12,.loc 12 0)],[(11,(ZaE a3)),(12,(ZaE a2))],a1⟩
  refine bk (sq (sq (rgS ⟨[(5,.ptr id1 0),(7,.ptr id3 0),(9,.ptr id5 0),(10,.ptr id7 0),(11,.loc 11 0),(12,.loc 12 0),(23,bv ((a3.Stream==a2.Stream)&&((a3.Port==a2.Port)&&((a3.From==a2.From)&&((a3.Long==a2.Long)&&true)))))],[(11,(ZaE a3)),(12,(ZaE a2))],a1⟩ Z4.f kr (tq (it h (λav h=>?_) (λav h=>?_))))))
  ·refine sq ?_
   obtain ⟨aC,ay,hH⟩:=Fp.setCell (k:=0) (off:=0) (cs:=[bv b18]) (vs:=[bv true]) (cs':=[bv true]) hH rfl kr
   replace hH:Fp _ _ _ [.cel id7 [bv true],.cel id5 [iv a4_],.cel id3 [iv a2_],.cel id1 (Z2 a0_),.lp (List.length a4) (lcOf Try.prog i27.nt [19,20] ZdF ZdE) [(5,.ptr id1 0),(7,.ptr id3 0),(9,.ptr id5 0),(10,.ptr id7 0)] .busy]:=hH
   refine rgS ⟨[],[],aC⟩ (Z4.o 0 (Zc1 (H:=a1) (v:=bv true) (hw:=ay)) Z4.f) kr (tq (rt (tr (br ?_))))
   cases h
   exact rbd (k:=4) (.done .ret) hH rfl rfl (λH6 hH=>⟨_,(Eq.refl _),(Fp.pick hH [0,1,2,3,4] rfl)⟩)
  refine sk (tq (kq (sq ?_)))
  have af:=Fp.get hH 3 rfl
  have ae:=Fp.get hH 2 rfl
  obtain ⟨aj,an,h⟩:=bs h
  have ad:=Fp.get hH 3 rfl
  have ac:=Fp.get hH 1 rfl
  obtain ⟨ai,am,h⟩:=bs h
  obtain ⟨aa,al,h⟩:=bs h
  refine rqS ⟨[(10,.ptr id7 0),(13,bv aa.1)],[],a1⟩ (Z4.u 0 (ZaY (ZaP (H:=a1) (id:=id1) (off:=0) (cs:=(Z2 a0_)) (c:=(Z2 a0_)) (r:=.agg (Z2 a0_)) (hl:=af))) (Z4.u 1 (ZaY (ZaP (H:=a1) (id:=id3) (off:=0) (cs:=[iv a2_]) (c:=[iv a2_]) (r:=iv a2_) (hl:=ae))) (Z4.u 0 (Zfy (hc:=Zeh N a0_ a3 a2_ aj an)) (Z4.u 0 (ZaY (ZaP (H:=a1) (id:=id1) (off:=0) (cs:=(Z2 a0_)) (c:=(Z2 a0_)) (r:=.agg (Z2 a0_)) (hl:=ad))) (Z4.u 1 (ZaY (ZaP (H:=a1) (id:=id5) (off:=0) (cs:=[iv a4_]) (c:=[iv a4_]) (r:=iv a4_) (hl:=ac))) (Z4.v 0 (Zav (hc:=Zeh N a0_ a2 a4_ ai am)) (Z4.v 0 (Zav (hc:=ZgG N aj ai aa al)) Z4.f))))))) kr (tq (sq (rgS ⟨[(10,.ptr id7 0),(37,bv (!aa.1))],[],a1⟩ Z4.f kr (tq (it h (λau h=>?_) (λau h=>?_))))))
  ·refine sq ?_
   obtain ⟨aB,ax,hH⟩:=Fp.setCell (k:=0) (off:=0) (cs:=[bv b18]) (vs:=[bv true]) (cs':=[bv true]) hH rfl kr
   replace hH:Fp _ _ _ [.cel id7 [bv true],.cel id5 [iv a4_],.cel id3 [iv a2_],.cel id1 (Z2 a0_),.lp (List.length a4) (lcOf Try.prog i27.nt [19,20] ZdF ZdE) [(5,.ptr id1 0),(7,.ptr id3 0),(9,.ptr id5 0),(10,.ptr id7 0)] .busy]:=hH
   refine rgS ⟨[],[],aB⟩ (Z4.o 0 (Zc1 (H:=a1) (v:=bv true) (hw:=ax)) Z4.f) kr (tq (rt (br ?_)))
   cases h
   exact rbd (k:=4) (.done .ret) hH rfl rfl (λH6 hH=>⟨_,(Eq.refl _),(Fp.pick hH [0,1,2,3,4] rfl)⟩)
  refine sk (bn ?_)
  cases h
  exact rbd (k:=4) (.ready) hH rfl rfl (λH6 hH=>⟨_,(Eq.refl _),(Fp.pick hH [0,1,2,3,4] rfl)⟩)
 refine Znp (s:=⟨[(5,.ptr id1 0),(7,.ptr id3 0),(9,.ptr id5 0),(10,.ptr id7 0),(18,.fn 47 [] [.ptr a7 0,.ptr a6 0,.ptr a5 0])],[],a4⟩) [(5,.ptr id1 0),(7,.ptr id3 0),(9,.ptr id5 0),(10,.ptr id7 0)] (FrOK.cons kr kr (FrOK.cons kr kr (FrOK.cons kr kr (FrOK.cons kr kr FrOK.nil)))) kr (λH=>rfl) (capT:=[.cel a7 (Z2 a8.1),.cel a6 [iv a8.2.1],.cel a5 [iv a8.2.2]]) (cells0:=[.cel id7 [bv false],.cel id5 [iv a4_],.cel id3 [iv a2_],.cel id1 (Z2 a0_)]) (rest:=[]) (HP.now (HP.pick hH [0,1,2,3,4,5,6] rfl)) (λ(s:(Bool)×Nat) (its:List ZaS)=>its=[.cel id7 [bv s.1],.cel id5 [iv a4_],.cel id3 [iv a2_],.cel id1 (Z2 a0_)]++[.lp (List.length a4) (lcOf Try.prog i27.nt [19,20] ZdF ZdE) [(5,.ptr id1 0),(7,.ptr id3 0),(9,.ptr id5 0),(10,.ptr id7 0)] (stAt [.ready,.done .ret] s.2)]) (false,0) a0 (by exact (Eq.refl _)) (λH its hT hH=>Zhu N (λ(s:(Bool)×Nat) (a3:Zax) (a2:Zax)=>Zg4 (λv:Bool=>Za6 N a0_ a2_ a4_ v a3 a2) s) a8.1 a8.2.1 a8.2.2 (false,0) a7 a6 a5 (List.length a4) (λ(s:(Bool)×Nat) (its:List ZaS)=>its=[.cel id7 [bv s.1],.cel id5 [iv a4_],.cel id3 [iv a2_],.cel id1 (Z2 a0_)]++[.lp (List.length a4) (lcOf Try.prog i27.nt [19,20] ZdF ZdE) [(5,.ptr id1 0),(7,.ptr id3 0),(9,.ptr id5 0),(10,.ptr id7 0)] (stAt [.ready,.done .ret] s.2)]) ab H its hT hH a0 ap) ?_
 rintro its hT
 obtain rfl:=hT
 refine ⟨_,_,rfl,?_⟩
 intro a9 hF
 replace hH:HP _ [.cel a7 (Z2 a8.1),.cel a6 [iv a8.2.1],.cel a5 [iv a8.2.2],.cel id7 [bv a0.1],.cel id5 [iv a4_],.cel id3 [iv a2_],.cel id1 (Z2 a0_)]:=HP.after (HP.pick hH [0,1,2,3,4,5,6] rfl) hF
 rcases Zat h with ⟨ar,h⟩|⟨_,h⟩
 ·refine ZmJ (S:=⟨[(5,.ptr id1 0),(7,.ptr id3 0),(9,.ptr id5 0),(10,.ptr id7 0),(18,.fn 47 [] [.ptr a7 0,.ptr a6 0,.ptr a5 0])],[],a9⟩) (e:=.normal) ar rfl (bn (tq (kq ?_)))
  replace hH:HP _ [.cel id7 [bv a0.1]]:=HP.pick hH [3] rfl
  refine sq ?_
  obtain ⟨az,aw,hH⟩:=HP.setCell (k:=0) (off:=0) (cs:=[bv a0.1]) (vs:=[bv false]) (cs':=[bv false]) hH rfl kr
  replace hH:HP _ [.cel id7 [bv false]]:=hH
  refine rgS ⟨[(10,.ptr id7 0)],[],az⟩ (Z4.o 0 (Zc1 (H:=a9) (v:=bv false) (hw:=aw)) Z4.f) kr (tq (rt ?_))
  obtain rfl:=Zae h
  exact Zhj (H:=az) (ys:=[bv false]) (xs:=[bv false]) kr (Zln (r:=.cell 10 1 false) (v:=bv false) (Zlm (id:=id7) (off:=0) (cs:=[bv false]) (c:=[bv false]) kr (HP.get hH 0 rfl) kr kr) Zlo) (ZbN rfl ZdT) kr
 rcases Zat h with ⟨aq,h⟩|⟨_,h⟩
 ·refine ZmJ (S:=⟨[(5,.ptr id1 0),(7,.ptr id3 0),(9,.ptr id5 0),(10,.ptr id7 0),(18,.fn 47 [] [.ptr a7 0,.ptr a6 0,.ptr a5 0])],[],a9⟩) (e:=.ret) aq rfl (br (tr ?_))
  obtain rfl:=Zae h
  exact Zhj (H:=a9) (ys:=[bv a0.1]) (xs:=[bv a0.1]) kr (Zln (r:=.cell 10 1 false) (v:=bv a0.1) (Zlm (id:=id7) (off:=0) (cs:=[bv a0.1]) (c:=[bv a0.1]) kr (HP.get hH 3 rfl) kr kr) Zlo) (ZbN rfl ZdT) kr
 cases h
theorem ZgM (N:Nat)(a0_:Z3)(a1_:Int)(a2_:Int)(a3_:Int)(a4_:Int)(r:Bool×Int)(h:ZcH N a0_ a1_ a2_ a3_ a4_=some r):Zbk Try.prog 53 [.agg (Z2 a0_),iv a1_,iv a2_,iv a3_,iv a4_] (.tup [bv r.1,iv r.2]):=by
 unfold ZcH at h
 have hH  := hp0
 refine ZaG ZuO rfl rfl (Zao _ _ _ ?_) rfl
 refine sq (rg Z4.f (tq (sq (sq ?_))))
 obtain ⟨r1,hr1,h⟩:=bs h
 refine rg (Z4.v 1 (Zav (hc:=ZfE N a0_ r1 hr1)) Z4.f) (tq (sq (rg Z4.f (tq (it h (λhc2 h=>?_) (λhc2 h=>?_))))))
 ·refine sq (rg Z4.f (tq (rt (tr ?_))))
  cases h
  exact Zaz kr
 refine sk (tq (kq (sq (sq (rgX ⟨[(1,iv a1_),(2,iv a2_),(3,iv a3_),(4,iv a4_),(5,.loc 5 0),(37,bv ((decide (a1_<0))||((decide (a1_≥((List.length a0_.Periods:Nat):Int)))||((decide (a3_<0))||(decide (a3_≥((List.length a0_.Periods:Nat):Int)))))))],[(5,(Z2 a0_))],[]⟩ ?_ ?_)))))
 ·rcases Bool.eq_false_or_eq_true (decide (a1_<0)) with hc3|hc4
  ·exact (EP.u 1 (Zaa (c:=(decide (a1_<0))) (h:=hc3)) (EP.f (by simp only [hc3];kernel_rfl)))
  refine (EP.u 1 (Zaa (c:=(decide (a1_<0))) (h:=hc4)) (EP.u 4 (Zad (ys:=[Z9 false a0_.Periods]) (h:=Zal eI64)) ?_))
  rcases Bool.eq_false_or_eq_true (decide (a1_≥((List.length a0_.Periods:Nat):Int))) with hc5|hc6
  ·exact (EP.u 0 (Zaa (c:=(decide (a1_≥((List.length a0_.Periods:Nat):Int)))) (h:=hc5)) (EP.f (by simp only [hc4,hc5];kernel_rfl)))
  refine (EP.u 0 (Zaa (c:=(decide (a1_≥((List.length a0_.Periods:Nat):Int)))) (h:=hc6)) ?_)
  rcases Bool.eq_false_or_eq_true (decide (a3_<0)) with hc7|hc8
  ·exact (EP.u 3 (Zaa (c:=(decide (a3_<0))) (h:=hc7)) (EP.f (by simp only [hc4,hc6,hc7];kernel_rfl)))
  exact (EP.u 3 (Zaa (c:=(decide (a3_<0))) (h:=hc8)) (EP.u 5 (Zad (ys:=[Z9 false a0_.Periods]) (h:=Zal eI64)) (EP.f (by simp only [hc4,hc6,hc8];kernel_rfl))))
 refine tq (it h (λhc9 h=>?_) (λhc9 h=>?_))
 ·refine sq (rg Z4.f (tq (rt (tr ?_))))
  cases h
  exact Zaz kr
 refine sk (tq (kq (sq (sq ?_))))
 obtain ⟨ad,hj,h⟩:=bs h
 refine rgR (λs=>s=⟨[(1,iv a1_),(2,iv a2_),(3,iv a3_),(4,iv a4_),(5,.loc 5 0),(59,bv ad)],[(5,(Z2 a0_))],[]⟩) ?_ ?_
 ·clear h
  obtain ⟨a1,a4,hj⟩:=bs hj
  refine (EP.v 3 (Zav (hc:=Zfb N a0_ a1_ a2_ a1 a4)) ?_)
  rcases Zat hj with ⟨ab,hj⟩|⟨aa,hj⟩
  ·obtain rfl:=Zae hj
   exact (EP.u 0 (Zaa (c:=(!a1)) (h:=ab)) (EP.f kr))
  refine (EP.u 0 (Zaa (c:=(!a1)) (h:=aa)) ?_)
  obtain ⟨a0,a3,hj⟩:=bs hj
  refine (EP.v 4 (Zav (hc:=Zfb N a0_ a3_ a4_ a0 a3)) ?_)
  rcases Zat hj with ⟨a9,hj⟩|⟨a8,hj⟩
  ·obtain rfl:=Zae hj
   exact (EP.u 0 (Zaa (c:=(!a0)) (h:=a9)) (EP.f kr))
  refine (EP.u 0 (Zaa (c:=(!a0)) (h:=a8)) ?_)
  rcases Zat hj with ⟨a7,hj⟩|⟨a6,hj⟩
  ·obtain rfl:=Zae hj
   exact (EP.u 4 (Zaa (c:=(a1_==a3_)) (h:=a7)) (EP.f kr))
  obtain rfl:=Zae hj
  exact (EP.u 4 (Zaa (c:=(a1_==a3_)) (h:=a6)) (EP.f kr))
 clear hj
 rintro s hR
 obtain rfl:=hR
 refine tq (it h (λa5 h=>?_) (λa5 h=>?_))
 ·refine sq (rg Z4.f (tq (rt (tr ?_))))
  cases h
  exact Zaz kr
 refine sk (tq (kq (sq ?_)))
 obtain ⟨ac,a2,h⟩:=bs h
 refine rg (Z4.v 5 (Zav (hc:=ZgL N a0_ a1_ a2_ a3_ a4_ ac a2)) Z4.f) (tq (rt ?_))
 cases h
 exact Zaz kr
end Go.Sh

