/- Part of the proof. -/
import Derived.Test.YthhhjjjbpcaadaaSolveLeastSh
import Derived.Test.YthhhjjjbpcaadaaSolveLeastChk
set_option linter.all false
namespace Go.Sh
open Go Go.Eng Go.Proofs
set_option maxRecDepth 100000
set_option maxHeartbeats 4000000
attribute [local irreducible] vc ev Zcr opsD opsF Zfs upd updH updO
theorem Zec (N:Nat)(a0_:Zbc)(r:Z1)(h:Zbb N a0_=some r):Zbk Try.prog 8 [.agg (Zaz a0_)] (.agg [Z5 false r.Periods,Z6 false r.Uses]):=by
 unfold Zbb at h
 have hH  := hp0
 refine ZaK chk8 rfl rfl (Zaj _ _ _ ?_) rfl
 refine sq (rg Z2.f (tq (sq (rg Z2.f (tq (sq (sq (rg Z2.f (tq (bk ?_))))))))))
 obtain ⟨a5,az,h⟩:=bs h
 refine Zbf ((Za0 (λ(x:Int×(List Int)) s=>∃ (a1:AV) (H2:List HO),s=⟨[(1,.loc 1 0),(2,.loc 2 0),(3,.loc 3 0),(4,iv x.1)],[(1,(Zaz a0_)),(2,[Z5 true [],Z6 true []]),(3,[a1,Z6 true []])],H2⟩/\HP H2 [.arr a1 1 false (List.map eI64 x.2)]) (λx:Int×(List Int)=>ZaN N a0_ x.1 x.2) (λ(p:(List Int)) e s=>e=.exit 0/\(∃ (ak:AV) (ar:List HO),s=⟨[(1,.loc 1 0),(2,.loc 2 0),(3,.loc 3 0)],[(1,(Zaz a0_)),(2,[Z5 true [],Z6 true []]),(3,[ak,Z6 true []])],ar⟩/\HP ar [.arr ak 1 false (List.map eI64 p)])) ?_ N _ a5 _ az ⟨(.p (.sl 1 true [])),[],kr,(HP.pick (HP.nilArr hH 1 false) [0] rfl)⟩).mono ?_)
 ·clear h az
  rintro ⟨i3,l4⟩ o s h hR
  obtain ⟨a1,H2,rfl,hH⟩:=hR
  replace hH:HP _ [.arr a1 1 false (List.map eI64 l4)]:=hH
  have hfa1:=Zcq (HP.get hH 0 rfl)
  replace h:ZaN N a0_ i3 l4=some o:=h
  unfold ZaN at h
  refine sq (sq (rgX ⟨[(1,.loc 1 0),(2,.loc 2 0),(3,.loc 3 0),(4,iv i3),(17,bv ((decide (i3<((List.length a0_.Periods:Nat):Int)))&&(decide (i3<5))))],[(1,(Zaz a0_)),(2,[Z5 true [],Z6 true []]),(3,[a1,Z6 true []])],H2⟩ ?_ ?_))
  ·refine (EP.u 3 (Z9 (ys:=[ZbK false a0_.Periods]) (h:=Zaf (eI .u8))) ?_)
   rcases Bool.eq_false_or_eq_true (decide (i3<((List.length a0_.Periods:Nat):Int))) with aD|aC
   ·exact (EP.u 0 (Zaa (c:=(decide (i3<((List.length a0_.Periods:Nat):Int)))) (h:=aD)) (EP.f (by simp only [aD];cases hfa1<;>kernel_rfl)))
   exact (EP.u 0 (Zaa (c:=(decide (i3<((List.length a0_.Periods:Nat):Int)))) (h:=aC)) (EP.f (by simp only [aC];cases hfa1<;>kernel_rfl)))
  refine tq (it h (λbc h=>?_) (λbc h=>?_))
  ·refine sk (tq (kq (sq (bk ?_))))
   obtain ⟨aV,aB,h⟩:=bs h
   obtain ⟨aU,aA,h⟩:=bs h
   obtain ⟨bf,b9,h⟩:=bs h
   obtain ⟨ay,aW,bd,hH⟩:=HP.app (k:=0) (a:=a1) (sz:=1) (frz:=false) eI64 hH rfl b9
   replace hH:HP _ [.arr ay 1 false (List.map eI64 bf)]:=hH
   have af:=Zcq (HP.get hH 0 rfl)
   refine rqS ⟨[(1,.loc 1 0),(2,.loc 2 0),(3,.loc 3 0),(4,iv i3)],[(1,(Zaz a0_)),(2,[Z5 true [],Z6 true []]),(3,[ay,Z6 true []])],aW⟩ (Z2.u (hm:=(by cases hfa1<;>kernel_rfl)) 6 (Z9 (ys:=[ZbK false a0_.Periods,iv i3]) (by cases hfa1<;>kernel_rfl) (Z8 (eI .u8) aB)) (Z2.u (hm:=(by cases hfa1<;>kernel_rfl)) 0 (Za5 (Zas (sz:=1) (off:=0) (cs:=[.int .u8 aV]) (r:=.p (.int .u8 aV)) (eI .u8) aB (by cases hfa1<;>kernel_rfl) (by cases hfa1<;>kernel_rfl) (by cases hfa1<;>kernel_rfl)) (by cases hfa1<;>kernel_rfl)) (Z2.u (hm:=(by cases hfa1<;>kernel_rfl)) 1 (Z9 (ys:=[Z5 true [4,6,8,12,3,5,10,24],.p (.int .u8 (Int.tmod aV 8))]) (by cases hfa1<;>kernel_rfl) (Z8 eI64 aA)) (Z2.u (hm:=(by cases hfa1<;>kernel_rfl)) 0 (Za5 (Zas (sz:=1) (off:=0) (cs:=[.int .i64 aU]) (r:=iv aU) eI64 aA (by cases hfa1<;>kernel_rfl) (by cases hfa1<;>kernel_rfl) (by cases hfa1<;>kernel_rfl)) (by cases hfa1<;>kernel_rfl)) (Z2.h (hm:=(by cases hfa1<;>kernel_rfl)) 1 (ZhQ (H:=H2) (a:=a1) (b:=Z5 true [aU]) (by cases hfa1<;>kernel_rfl) (by cases hfa1<;>kernel_rfl) (by cases hfa1<;>kernel_rfl) (by cases hfa1<;>kernel_rfl) bd) (Z2.f (h:=(by cases hfa1<;>cases af<;>kernel_rfl)))))))) (by cases hfa1<;>cases af<;>kernel_rfl) (bn (tq (rgS ⟨[(1,.loc 1 0),(2,.loc 2 0),(3,.loc 3 0),(4,iv (w64 (i3+1)))],[(1,(Zaz a0_)),(2,[Z5 true [],Z6 true []]),(3,[ay,Z6 true []])],aW⟩ Z2.f (by cases af<;>kernel_rfl) ?_)))
   cases h
   exact ⟨_,rfl,⟨ay,aW,(by show _=_;cases af<;>kernel_rfl),(HP.pick hH [0] rfl)⟩⟩
  refine kq (xq (tx ?_))
  cases h
  exact ⟨_,rfl,rfl,⟨a1,H2,(by show _=_;cases hfa1<;>kernel_rfl),(HP.pick hH [0] rfl)⟩⟩
 rintro e s hq
 obtain ⟨rfl,hR⟩:=hq
 obtain ⟨ak,ar,rfl,hH⟩:=hR
 replace hH:HP _ [.arr ak 1 false (List.map eI64 a5)]:=hH
 have ao:=Zcq (HP.get hH 0 rfl)
 refine bx (tq (sq (sq (rgS ⟨[(1,.loc 1 0),(2,.loc 2 0),(3,.loc 3 0),(5,iv 0)],[(1,(Zaz a0_)),(2,[Z5 true [],Z6 true []]),(3,[ak,Z6 true []])],ar⟩ Z2.f (by cases ao<;>kernel_rfl) (tq (bk ?_))))))
 obtain ⟨al,am,h⟩:=bs h
 refine Zbf ((Za0 (λ(x:Int×(List Zam)) s=>∃ (a3:AV) (aa:AV) (ab:List HO),s=⟨[(1,.loc 1 0),(2,.loc 2 0),(3,.loc 3 0),(5,iv x.1)],[(1,(Zaz a0_)),(2,[Z5 true [],Z6 true []]),(3,[a3,aa])],ab⟩/\HP ab [.arr a3 1 false (List.map eI64 a5),.arr aa 4 false (List.map ZaX x.2)]) (λx:Int×(List Zam)=>ZaM N a0_ a5 x.1 x.2) (λ(p:(List Zam)) e s=>e=.exit 2/\(∃ (ae:AV) (ad:AV) (ag:List HO),s=⟨[(2,.loc 2 0),(3,.loc 3 0)],[(2,[Z5 true [],Z6 true []]),(3,[ae,ad])],ag⟩/\HP ag [.arr ae 1 false (List.map eI64 a5),.arr ad 4 false (List.map ZaX p)])) ?_ N _ al _ am ⟨ak,(.p (.sl 4 true [])),ar,(by show _=_;cases ao<;>kernel_rfl),(HP.pick (HP.nilArr hH 4 false) [1,0] rfl)⟩).mono ?_)
 ·clear h am
  rintro ⟨a6,b0⟩ o s h hR
  obtain ⟨a3,aa,ab,rfl,hH⟩:=hR
  replace hH:HP _ [.arr a3 1 false (List.map eI64 a5),.arr aa 4 false (List.map ZaX b0)]:=hH
  have a0:=Zcq (HP.get hH 0 rfl)
  have a2:=Zcq (HP.get hH 1 rfl)
  replace h:ZaM N a0_ a5 a6 b0=some o:=h
  unfold ZaM at h
  refine sq (sq ?_)
  obtain ⟨b2,hj,h⟩:=bs h
  refine rgR (λs=>s=⟨[(1,.loc 1 0),(2,.loc 2 0),(3,.loc 3 0),(5,iv a6),(48,bv b2)],[(1,(Zaz a0_)),(2,[Z5 true [],Z6 true []]),(3,[a3,aa])],ab⟩) ?_ ?_
  ·clear h
   refine (EP.u 3 (Z9 (ys:=[Ze1 false a0_.Uses]) (h:=Zaf ZdJ)) ?_)
   rcases ZaP hj with ⟨aS,hj⟩|⟨aM,hj⟩
   ·refine (EP.u 0 (Zaa (c:=(decide (a6<((List.length a0_.Uses:Nat):Int)))) (h:=aS)) ?_)
    rcases ZaP hj with ⟨aR,hj⟩|⟨aQ,hj⟩
    ·refine (EP.u 2 (Zaa (c:=(decide (a6<12))) (h:=aR)) ?_)
     have aw:=HP.len (k:=0) (a:=a3) (sz:=1) (frz:=false) (l:=a5) eI64 hH rfl
     obtain rfl:=Zap hj
     exact (EP.u (hm:=(by cases a0<;>cases a2<;>kernel_rfl)) 4 (Z9 (ys:=[a3]) (by cases a0<;>cases a2<;>kernel_rfl) aw) (EP.f (by show _=_;cases a0<;>cases a2<;>kernel_rfl) (h:=(by cases a0<;>cases a2<;>kernel_rfl))))
    obtain rfl:=Zap hj
    exact (EP.u 2 (Zaa (c:=(decide (a6<12))) (h:=aQ)) (EP.f (by show _=_;cases a0<;>cases a2<;>kernel_rfl)))
   obtain rfl:=Zap hj
   exact (EP.u 0 (Zaa (c:=(decide (a6<((List.length a0_.Uses:Nat):Int)))) (h:=aM)) (EP.f (by show _=_;cases a0<;>cases a2<;>kernel_rfl)))
  clear hj
  rintro s hR
  obtain rfl:=hR
  refine tq (it h (λaL h=>?_) (λaL h=>?_))
  ·refine sk (tq (kq (sq (bk (sq ?_)))))
   obtain ⟨a4,aq,h⟩:=bs h
   refine rgS ⟨[(1,.loc 1 0),(2,.loc 2 0),(3,.loc 3 0),(5,iv a6),(6,.loc 6 0)],[(1,(Zaz a0_)),(2,[Z5 true [],Z6 true []]),(3,[a3,aa]),(6,(Zfy a4))],ab⟩ (Z2.u 3 (Z9 (ys:=[Ze1 false a0_.Uses,iv a6]) (h:=Z8 ZdJ aq)) (Z2.u 0 (Zas (sz:=4) (off:=0) (cs:=[.int .u8 a4.x0,.int .u8 a4.x1,.int .u8 a4.x2,.int .u8 a4.x3]) (r:=.agg (Zfy a4)) ZdJ aq) Z2.f)) (by cases a0<;>cases a2<;>kernel_rfl) (tq (sq ?_))
   have av:=HP.len (k:=0) (a:=a3) (sz:=1) (frz:=false) (l:=a5) eI64 hH rfl
   obtain ⟨ai,aJ,h⟩:=bs h
   refine rgS ⟨[(1,.loc 1 0),(2,.loc 2 0),(3,.loc 3 0),(5,iv a6),(6,.loc 6 0),(7,iv ai)],[(1,(Zaz a0_)),(2,[Z5 true [],Z6 true []]),(3,[a3,aa]),(6,(Zfy a4))],ab⟩ (Z2.u (hm:=(by cases a0<;>cases a2<;>kernel_rfl)) 5 (Z9 (ys:=[a3]) (by cases a0<;>cases a2<;>kernel_rfl) av) (Z2.u (hm:=(by cases a0<;>cases a2<;>kernel_rfl)) 0 (Z9 (ys:=[iv (w64 (a4.x0)),iv ((List.length a5:Nat):Int)]) (by cases a0<;>cases a2<;>kernel_rfl) (Zbx aJ)) (Z2.f (h:=(by cases a0<;>cases a2<;>kernel_rfl))))) (by cases a0<;>cases a2<;>kernel_rfl) (tq (sq ?_))
   obtain ⟨ac,ap,h⟩:=bs h
   obtain ⟨bi,be,_,ba,ax,bb,an⟩:=HP.elem (k:=0) (a:=a3) (sz:=1) (frz:=false) eI64 hH rfl ap
   refine rgS ⟨[(1,.loc 1 0),(2,.loc 2 0),(3,.loc 3 0),(5,iv a6),(6,.loc 6 0),(7,iv ai),(8,iv ac)],[(1,(Zaz a0_)),(2,[Z5 true [],Z6 true []]),(3,[a3,aa]),(6,(Zfy a4))],ab⟩ (Z2.u (hm:=(by cases a0<;>cases a2<;>kernel_rfl)) 3 (Z9 (ys:=[a3,iv ai]) (by cases a0<;>cases a2<;>kernel_rfl) (an .i64)) (Z2.u (hm:=(by cases a0<;>cases a2<;>kernel_rfl)) 0 (Zfg (H:=ab) (off:=0) (cs:=[.int .i64 ac]) (r:=iv ac) eI64 ap ax (by cases a0<;>cases a2<;>kernel_rfl) (by cases a0<;>cases a2<;>kernel_rfl) (by cases a0<;>cases a2<;>kernel_rfl) (by cases a0<;>cases a2<;>kernel_rfl)) (Z2.f (h:=(by cases a0<;>cases a2<;>kernel_rfl))))) (by cases a0<;>cases a2<;>kernel_rfl) (tq ?_)
   obtain ⟨aZ,aI,h⟩:=bs h
   obtain ⟨aY,aG,h⟩:=bs h
   obtain ⟨aX,aE,h⟩:=bs h
   obtain ⟨b1,aK,h⟩:=bs h
   obtain ⟨aj,au,aT,hH⟩:=HP.app (k:=1) (a:=aa) (sz:=4) (frz:=false) ZaX hH rfl aK
   replace hH:HP _ [.arr a3 1 false (List.map eI64 a5),.arr aj 4 false (List.map ZaX b1)]:=hH
   have a7:=Zcq (HP.get hH 1 rfl)
   refine rqS ⟨[(1,.loc 1 0),(2,.loc 2 0),(3,.loc 3 0),(5,iv a6)],[(1,(Zaz a0_)),(2,[Z5 true [],Z6 true []]),(3,[a3,aj])],au⟩ (Z2.u (hm:=(by cases a0<;>cases a2<;>kernel_rfl)) 11 (Z9 (ys:=[iv (w64 (a4.x2)),iv ac]) (by cases a0<;>cases a2<;>kernel_rfl) (Zbx aI)) (Z2.u (hm:=(by cases a0<;>cases a2<;>kernel_rfl)) 4 (Z9 (ys:=[iv (w64 (a4.x3)),iv ac]) (by cases a0<;>cases a2<;>kernel_rfl) (Zbx aG)) (Z2.u (hm:=(by cases a0<;>cases a2<;>kernel_rfl)) 2 (Z9 (ys:=[iv (Int.tmod aY 4),iv ac]) (by cases a0<;>cases a2<;>kernel_rfl) (Zbx aE)) (Z2.h (hm:=(by cases a0<;>cases a2<;>kernel_rfl)) 3 (ZhQ (H:=ab) (a:=aa) (b:=Z6 true [(Zam.mk ai (w64 ((Int.tmod a4.x1 4))) aZ (w64 (1+aX)))]) (by cases a0<;>cases a2<;>kernel_rfl) (by cases a0<;>cases a2<;>kernel_rfl) (by cases a0<;>cases a2<;>kernel_rfl) (by cases a0<;>cases a2<;>kernel_rfl) aT) (Z2.f (h:=(by cases a7<;>cases a0<;>cases a2<;>kernel_rfl))))))) (by cases a7<;>cases a0<;>cases a2<;>kernel_rfl) (bn (tq (rgS ⟨[(1,.loc 1 0),(2,.loc 2 0),(3,.loc 3 0),(5,iv (w64 (a6+1)))],[(1,(Zaz a0_)),(2,[Z5 true [],Z6 true []]),(3,[a3,aj])],au⟩ Z2.f (by cases a7<;>cases a0<;>kernel_rfl) ?_)))
   cases h
   exact ⟨_,rfl,⟨a3,aj,au,(by show _=_;cases a7<;>cases a0<;>kernel_rfl),(HP.pick hH [0,1] rfl)⟩⟩
  refine kq (xq (tx ?_))
  cases h
  exact ⟨_,rfl,rfl,⟨a3,aa,ab,(by show _=_;cases a0<;>cases a2<;>kernel_rfl),(HP.pick hH [0,1] rfl)⟩⟩
 rintro e s hq
 obtain ⟨rfl,hR⟩:=hq
 obtain ⟨ae,ad,ag,rfl,hH⟩:=hR
 replace hH:HP _ [.arr ae 1 false (List.map eI64 a5),.arr ad 4 false (List.map ZaX al)]:=hH
 have a9:=Zcq (HP.get hH 0 rfl)
 have a8:=Zcq (HP.get hH 1 rfl)
 refine bx (tq (sq (rgS ⟨[(2,.loc 2 0)],[(2,[ae,ad])],ag⟩ (Z2.f (h:=(by cases a9<;>cases a8<;>kernel_rfl))) (by cases a9<;>cases a8<;>kernel_rfl) (tq (rt ?_)))))
 obtain rfl:=Zap h
 exact Zj7 (H:=ag) (ys:=[.agg [ae,ad]]) (xs:=[.agg [.p (.sl 1 false (List.map eI64 a5)),.p (.sl 4 false (List.map ZaX al))]]) (by cases a9<;>cases a8<;>kernel_rfl) (by cases a9<;>cases a8<;>kernel_rfl) (Ze6 (Zl4 (ZhX (HP.pure (k:=0) (frz:=false) eI64 hH rfl).1 (ZhX (HP.pure (k:=1) (frz:=false) ZaX hH rfl).1 Zl5))) ZfK) kr
theorem ZdD (N:Nat)(a0_:(List Int))(a1_:(List Int))(r:Bool)(h:ZbJ N a0_ a1_=some r):Zbk Try.prog 11 [Z5 false a0_,Z5 false a1_] (bv r):=by
 unfold ZbJ at h
 have hH  := hp0
 refine ZaK ZtR rfl rfl (Zaj _ _ _ ?_) rfl
 refine sq (rg Z2.f (tq (sq (sq (rg (Z2.u 1 (Z9 (ys:=[Z5 false a0_]) (h:=Zaf eI64)) (Z2.u 1 (Z9 (ys:=[Z5 false a1_]) (h:=Zaf eI64)) Z2.f)) (tq (it h (λhc1 h=>?_) (λhc1 h=>?_))))))))
 ·refine sq (rg Z2.f (tq (rt (tr ?_))))
  cases h
  exact Zat kr
 refine sk (tq (kq (sq (sq (rg (Z2.u 1 (Z9 (ys:=[Z5 false a0_]) (h:=Zaf eI64)) Z2.f) (tq (bk ?_)))))))
 obtain ⟨a3,a0,h⟩:=bs h
 refine Zbf ((Za0 (λ(x:Int) s=>s=⟨[(0,Z5 false a0_),(1,Z5 false a1_),(12,iv ((List.length a0_:Nat):Int)),(13,iv x)],[],[]⟩) (λx:Int=>Za4 N a0_ a1_ x) (λ(p:(Unit)⊕(Bool)) e s=>match p with|(.inl p)=>e=.exit 0/\(s=⟨[],[],[]⟩)|(.inr p)=>e=.ret/\∃ xs,resL s i11.res=some xs/\Zbu xs=bv p) ?_ N _ a3 _ a0 kr).mono ?_)
 ·clear h a0
  rintro i2 o s h hR
  obtain rfl:=hR
  replace h:Za4 N a0_ a1_ i2=some o:=h
  unfold Za4 at h
  refine sq (rg Z2.f (tq (sq (it h (λa5 h=>?_) (λa5 h=>?_)))))
  ·refine sk (tq (kq (sq (bk (sq (rg Z2.f (tq (sq ?_))))))))
   obtain ⟨a7,a2,h⟩:=bs h
   obtain ⟨a6,a1,h⟩:=bs h
   refine rq (Z2.u 2 (Z9 (ys:=[Z5 false a0_,iv i2]) (h:=Z8 eI64 a2)) (Z2.u 0 (Za5 (Zas (sz:=1) (off:=0) (cs:=[.int .i64 a7]) (r:=iv a7) eI64 a2)) (Z2.u 2 (Z9 (ys:=[Z5 false a1_,iv i2]) (h:=Z8 eI64 a1)) (Z2.u 0 (Za5 (Zas (sz:=1) (off:=0) (cs:=[.int .i64 a6]) (r:=iv a6) eI64 a1)) Z2.f)))) (tq (it h (λa4 h=>?_) (λa4 h=>?_)))
   ·refine sq (rg Z2.f (tq (rt (br (tr ?_)))))
    cases h
    exact ⟨_,rfl,rfl,Zat kr⟩
   refine sk (bn (tq (kq (rg Z2.f ?_))))
   cases h
   exact ⟨_,rfl,kr⟩
  refine kq (xq (tx ?_))
  cases h
  exact ⟨_,rfl,rfl,kr⟩
 rintro e s hq
 rcases a3 with a9|a8
 ·dsimp only at h hq
  obtain ⟨rfl,hR⟩:=hq
  obtain rfl:=hR
  refine bx (tq (sq (rg Z2.f (tq (rt ?_)))))
  cases h
  exact Zat kr
 dsimp only at h hq
 obtain ⟨rfl,hq⟩:=hq
 refine br (tr ?_)
 cases h
 exact hq
theorem Zfk (N:Nat)(a0_:(List Z3))(a1_:(List Z3))(r:Bool)(h:ZfI N a0_ a1_=some r):Zbk Try.prog 12 [Zag false a0_,Zag false a1_] (bv r):=by
 unfold ZfI at h
 have hH  := hp0
 refine ZaK ZtQ rfl rfl (Zaj _ _ _ ?_) rfl
 refine sq (rg Z2.f (tq (sq (sq (rg (Z2.u 1 (Z9 (ys:=[Zag false a0_]) (h:=Zaf Zao)) (Z2.u 1 (Z9 (ys:=[Zag false a1_]) (h:=Zaf Zao)) Z2.f)) (tq (it h (λhc1 h=>?_) (λhc1 h=>?_))))))))
 ·refine sq (rg Z2.f (tq (rt (tr ?_))))
  cases h
  exact Zat kr
 refine sk (tq (kq (sq (sq (rg Z2.f (tq (bk ?_)))))))
 obtain ⟨ae,a2,h⟩:=bs h
 refine Zbf ((Za0 (λ(x:Int) s=>s=⟨[(0,Zag false a0_),(1,Zag false a1_),(5,iv x)],[],[]⟩) (λx:Int=>ZcU N a0_ a1_ x) (λ(p:(Unit)⊕(Bool)) e s=>match p with|(.inl p)=>e=.exit 0/\(s=⟨[],[],[]⟩)|(.inr p)=>e=.ret/\∃ xs,resL s i12.res=some xs/\Zbu xs=bv p) ?_ N _ ae _ a2 kr).mono ?_)
 ·clear h a2
  rintro i2 o s h hR
  obtain rfl:=hR
  replace h:ZcU N a0_ a1_ i2=some o:=h
  unfold ZcU at h
  refine sq (sq (rg (Z2.u 2 (Z9 (ys:=[Zag false a0_]) (h:=Zaf Zao)) Z2.f) (tq (it h (λav h=>?_) (λav h=>?_)))))
  ·refine sk (tq (kq (sq (bk (sq (sq ?_))))))
   obtain ⟨aw,hj,h⟩:=bs h
   refine rqR (λs=>s=⟨[(0,Zag false a0_),(1,Zag false a1_),(5,iv i2),(43,bv aw)],[],[]⟩) ?_ ?_
   ·clear h
    obtain ⟨ad,ak,hj⟩:=bs hj
    refine (EP.u 2 (Z9 (ys:=[Zag false a0_,iv i2]) (h:=Z8 Zao ak)) (EP.u 1 (Za5 (Zas (sz:=2) (off:=0) (cs:=[.int .i64 ad.Stream]) (r:=iv ad.Stream) Zao ak)) ?_))
    obtain ⟨ac,aj,hj⟩:=bs hj
    refine (EP.u 2 (Z9 (ys:=[Zag false a1_,iv i2]) (h:=Z8 Zao aj)) (EP.u 1 (Za5 (Zas (sz:=2) (off:=0) (cs:=[.int .i64 ac.Stream]) (r:=iv ac.Stream) Zao aj)) ?_))
    rcases ZaP hj with ⟨au,hj⟩|⟨ar,hj⟩
    ·obtain rfl:=Zap hj
     exact (EP.u 0 (Zaa (c:=(ad.Stream != ac.Stream)) (h:=au)) (EP.f kr))
    refine (EP.u 0 (Zaa (c:=(ad.Stream != ac.Stream)) (h:=ar)) ?_)
    obtain ⟨ap,ai,hj⟩:=bs hj
    refine (EP.u 3 (Z9 (ys:=[Zag false a0_,iv i2]) (h:=Z8 Zao ai)) (EP.u 1 (Za5 (Zas (sz:=2) (off:=1) (cs:=[.sl 4 false (List.map ZaA ap.Arms)]) (r:=Zba false ap.Arms) Zao ai)) (EP.u 0 (Z9 (ys:=[Zba false ap.Arms]) (h:=Zaf ZaA)) ?_)))
    obtain ⟨ao,ag,hj⟩:=bs hj
    obtain rfl:=Zap hj
    exact (EP.u 2 (Z9 (ys:=[Zag false a1_,iv i2]) (h:=Z8 Zao ag)) (EP.u 1 (Za5 (Zas (sz:=2) (off:=1) (cs:=[.sl 4 false (List.map ZaA ao.Arms)]) (r:=Zba false ao.Arms) Zao ag)) (EP.u 0 (Z9 (ys:=[Zba false ao.Arms]) (h:=Zaf ZaA)) (EP.f kr))))
   clear hj
   rintro s hR
   obtain rfl:=hR
   refine tq (it h (λaq h=>?_) (λaq h=>?_))
   ·refine sq (rg Z2.f (tq (rt (tr (br (tr ?_))))))
    cases h
    exact ⟨_,rfl,rfl,Zat kr⟩
   refine sk (tq (kq (sq (rg Z2.f (tq (bk ?_))))))
   obtain ⟨af,a3,h⟩:=bs h
   refine Zbf ((Za0 (λ(x:Int) s=>s=⟨[(0,Zag false a0_),(1,Zag false a1_),(5,iv i2),(6,iv x)],[],[]⟩) (λx:Int=>ZcT N a0_ a1_ i2 x) (λ(p:(Unit)⊕(Bool)) e s=>match p with|(.inl p)=>e=.exit 2/\(s=⟨[(0,Zag false a0_),(1,Zag false a1_),(5,iv i2)],[],[]⟩)|(.inr p)=>e=.ret/\∃ xs,resL s i12.res=some xs/\Zbu xs=bv p) ?_ N _ af _ a3 kr).mono ?_)
   ·clear h a3
    rintro al o s h hR
    obtain rfl:=hR
    replace h:ZcT N a0_ a1_ i2 al=some o:=h
    unfold ZcT at h
    refine sq (sq ?_)
    obtain ⟨ab,a8,h⟩:=bs h
    refine rg (Z2.u 3 (Z9 (ys:=[Zag false a0_,iv i2]) (h:=Z8 Zao a8)) (Z2.u 1 (Zas (sz:=2) (off:=1) (cs:=[.sl 4 false (List.map ZaA ab.Arms)]) (r:=Zba false ab.Arms) Zao a8) (Z2.u 0 (Z9 (ys:=[Zba false ab.Arms]) (h:=Zaf ZaA)) Z2.f))) (tq (it h (λan h=>?_) (λan h=>?_)))
    ·refine sk (tq (kq (sq (bk (sq ?_)))))
     obtain ⟨aa,a7,h⟩:=bs h
     obtain ⟨a1,a6,h⟩:=bs h
     obtain ⟨a9,a5,h⟩:=bs h
     obtain ⟨a0,a4,h⟩:=bs h
     refine rq (Z2.u 2 (Z9 (ys:=[Zag false a0_,iv i2]) (h:=Z8 Zao a7)) (Z2.u 1 (Za5 (Zas (sz:=2) (off:=1) (cs:=[.sl 4 false (List.map ZaA aa.Arms)]) (r:=Zba false aa.Arms) Zao a7)) (Z2.u 1 (Z9 (ys:=[Zba false aa.Arms,iv al]) (h:=Z8 ZaA a6)) (Z2.u 0 (Za5 (Zas (sz:=4) (off:=0) (cs:=[.int .i64 a1.From,.int .i64 a1.To,.int .i64 a1.By,.int .i64 a1.Next]) (r:=.agg (ZbB a1)) ZaA a6)) (Z2.u 2 (Z9 (ys:=[Zag false a1_,iv i2]) (h:=Z8 Zao a5)) (Z2.u 1 (Za5 (Zas (sz:=2) (off:=1) (cs:=[.sl 4 false (List.map ZaA a9.Arms)]) (r:=Zba false a9.Arms) Zao a5)) (Z2.u 1 (Z9 (ys:=[Zba false a9.Arms,iv al]) (h:=Z8 ZaA a4)) (Z2.u 0 (Za5 (Zas (sz:=4) (off:=0) (cs:=[.int .i64 a0.From,.int .i64 a0.To,.int .i64 a0.By,.int .i64 a0.Next]) (r:=.agg (ZbB a0)) ZaA a4)) Z2.f)))))))) (tq (it h (λam h=>?_) (λam h=>?_)))
     ·refine sq (rg Z2.f (tq (rt (br (tr ?_)))))
      cases h
      exact ⟨_,rfl,rfl,Zat kr⟩
     refine sk (bn (tq (kq (rg Z2.f ?_))))
     cases h
     exact ⟨_,rfl,kr⟩
    refine kq (xq (tx ?_))
    cases h
    exact ⟨_,rfl,rfl,kr⟩
   rintro e s hq
   rcases af with aA|az
   ·dsimp only at h hq
    obtain ⟨rfl,hR⟩:=hq
    obtain rfl:=hR
    refine bx (bn (tq (kq (rg Z2.f ?_))))
    cases h
    exact ⟨_,rfl,kr⟩
   dsimp only at h hq
   obtain ⟨rfl,hq⟩:=hq
   refine br (br (tr ?_))
   cases h
   exact ⟨_,rfl,rfl,hq⟩
  refine kq (xq (tx ?_))
  cases h
  exact ⟨_,rfl,rfl,kr⟩
 rintro e s hq
 rcases ae with ay|ax
 ·dsimp only at h hq
  obtain ⟨rfl,hR⟩:=hq
  obtain rfl:=hR
  refine bx (tq (sq (rg Z2.f (tq (rt ?_)))))
  cases h
  exact Zat kr
 dsimp only at h hq
 obtain ⟨rfl,hq⟩:=hq
 refine br (tr ?_)
 cases h
 exact hq
theorem ZeW (N:Nat)(a0_:Int)(a1_:Int)(a2_:Int)(r:Z1)(h:ZdX N a0_ a1_ a2_=some r):Zbk Try.prog 16 [iv a0_,iv a1_,iv a2_] (.agg [Z5 false r.Periods,Z6 false r.Uses]):=by
 unfold ZdX at h
 have hH  := hp0
 refine ZaK ZtM rfl rfl (Zaj _ _ _ ?_) rfl
 refine sq (rg Z2.f (tq (sq (rg Z2.f (tq (rt ?_))))))
 cases h
 exact Zat kr
theorem Zdv (N:Nat)(a0_:Z1)(a1_:Int)(a2_:Int)(r:Bool)(h:Zb9 N a0_ a1_ a2_=some r):Zbk Try.prog 26 [.agg (Z0 a0_),iv a1_,iv a2_] (bv r):=by
 unfold Zb9 at h
 have hH  := hp0
 refine ZaK ZtG rfl rfl (Zaj _ _ _ ?_) rfl
 refine sq (rg Z2.f (tq (sq ?_)))
 obtain ⟨j4,hj,h⟩:=bs h
 refine rgR (λs=>s=⟨[(6,bv j4)],[],[]⟩) ?_ ?_
 ·clear h
  rcases ZaP hj with ⟨hc1,hj⟩|⟨hc3,hj⟩
  ·refine (EP.u 1 (Zaa (c:=(decide (a2_≥0))) (h:=hc1)) ?_)
   obtain ⟨e2,he2,hj⟩:=bs hj
   obtain rfl:=Zap hj
   exact (EP.u 5 (Z9 (ys:=[Z5 false a0_.Periods,iv a1_]) (h:=Z8 eI64 he2)) (EP.u 0 (Zas (sz:=1) (off:=0) (cs:=[.int .i64 e2]) (r:=iv e2) eI64 he2) (EP.f kr)))
  obtain rfl:=Zap hj
  exact (EP.u 1 (Zaa (c:=(decide (a2_≥0))) (h:=hc3)) (EP.f kr))
 clear hj
 rintro s hR
 obtain rfl:=hR
 refine tq (rt ?_)
 cases h
 exact Zat kr
theorem ZiC (N:Nat)(a0_:Z1)(a1_:Int)(a2_:Int)(H:List HO)(r:Z1×Int×Int)(h:ZeA N a0_ a1_ a2_=some r):∃ (id0_ id1_ id2_:Nat) (H':List HO),ZbE Try.prog 36 [.agg (Z0 a0_),iv a1_,iv a2_] H (.fn 47 [] [.ptr id0_ 0,.ptr id1_ 0,.ptr id2_ 0]) H'/\Fp H H' [] [.cel id0_ [Z5 false r.1.Periods,Z6 false r.1.Uses],.cel id1_ [iv r.2.1],.cel id2_ [iv r.2.2]]:=by
 suffices hs:∃ r' H',ZbE Try.prog 36 [.agg (Z0 a0_),iv a1_,iv a2_] H r' H'/\∃ (id0_ id1_ id2_:Nat),r'=.fn 47 [] [.ptr id0_ 0,.ptr id1_ 0,.ptr id2_ 0]/\Fp H H' [] [.cel id0_ [Z5 false r.1.Periods,Z6 false r.1.Uses],.cel id1_ [iv r.2.1],.cel id2_ [iv r.2.2]] by
  obtain ⟨_,H',h1,id0_,id1_,id2_,rfl,h2⟩:=hs
  exact ⟨id0_,id1_,id2_,H',h1,h2⟩
 unfold ZeA at h
 have hH:Fp H H [] []:=Fp.refl trivial
 refine ZlE ZtA (λr' H'=>∃ (id0_ id1_ id2_:Nat),r'=.fn 47 [] [.ptr id0_ 0,.ptr id1_ 0,.ptr id2_ 0]/\Fp H H' [] [.cel id0_ [Z5 false r.1.Periods,Z6 false r.1.Uses],.cel id1_ [iv r.2.1],.cel id2_ [iv r.2.2]]) (λr' H' ⟨_,_,_,e,_⟩=>by rw [e];rfl) rfl rfl (sq ?_)
 obtain ⟨id1,H2,hid1,hH2,hH⟩:=Fp.newCell hH (Z0 a0_)
 replace hH:Fp _ _ _ [.cel id1 (Z0 a0_)]:=hH
 obtain ⟨id3,H4,hid3,hH4,hH⟩:=Fp.newCell hH [iv a1_]
 replace hH:Fp _ _ _ [.cel id3 [iv a1_],.cel id1 (Z0 a0_)]:=hH
 obtain ⟨id5,H6,hid5,hH6,hH⟩:=Fp.newCell hH [iv a2_]
 replace hH:Fp _ _ _ [.cel id5 [iv a2_],.cel id3 [iv a1_],.cel id1 (Z0 a0_)]:=hH
 refine rg (Z2.h 0 (Ze0 (H:=H) (v:=.agg (Z0 a0_)) (hid:=hid1) (hH:=hH2)) (Z2.h 0 (Ze0 (H:=H2) (v:=iv a1_) (hid:=hid3) (hH:=hH4)) (Z2.h 0 (Ze0 (H:=H4) (v:=iv a2_) (hid:=hid5) (hH:=hH6)) Z2.f))) (tq (sq (rg Z2.f (tq (rt ?_)))))
 cases h
 exact ⟨[.fn 47 [] [.ptr id1 0,.ptr id3 0,.ptr id5 0]],kr,id1,id3,id5,rfl,Fp.pk hH [2,1,0] rfl⟩
theorem Zd7 (N:Nat)(a0_:Z1)(a1_:Zam)(a2_:Int)(r:Z4)(h:ZbS N a0_ a1_ a2_=some r):Zbk Try.prog 38 [.agg (Z0 a0_),.agg (Zaw a1_),iv a2_] (.agg [iv r.Period,iv r.From,iv r.Long]):=by
 unfold ZbS at h
 have hH  := hp0
 refine ZaK Zty rfl rfl (Zaj _ _ _ ?_) rfl
 refine sq (rg Z2.f (tq (sq ?_)))
 obtain ⟨e1,he1,h⟩:=bs h
 refine rg (Z2.u 4 (Z9 (ys:=[Z5 false a0_.Periods,iv a1_.Stream]) (h:=Z8 eI64 he1)) (Z2.u 0 (Zas (sz:=1) (off:=0) (cs:=[.int .i64 e1]) (r:=iv e1) eI64 he1) Z2.f)) (tq (sq ?_))
 obtain ⟨m2,hm2,h⟩:=bs h
 refine rq (Z2.u 6 (Z9 (ys:=[iv (w64 (a1_.From+a2_)),iv e1]) (h:=Zbx hm2)) Z2.f) (tq (rt ?_))
 cases h
 exact Zat kr
theorem Zeb (N:Nat)(a0_:Int)(r:Bool)(h:Zcn N a0_=some r):Zbk Try.prog 39 [iv a0_] (bv r):=by
 unfold Zcn at h
 have hH  := hp0
 refine ZaK Ztx rfl rfl (Zaj _ _ _ ?_) rfl
 refine sq (rg Z2.f (tq (sq (rg Z2.f (tq (rt ?_))))))
 cases h
 exact Zat kr
theorem Zg7 {σ:Type}(N:Nat)(y_:σ->Zam->Zam->Option (σ×Bool))(c0_:Z1)(c1_:Int)(c2_:Int)(s_:σ)(k0_:Nat)(k1_:Nat)(k2_:Nat)(yid_:Nat)(T_:σ->List ZaL->Prop)(hy_:∀ (x0:Zam) (x1:Zam) (s:σ) (r:σ×Bool) (H:List HO) (its:List ZaL),T_ s its->HP H its->y_ s x0 x1=some r->∃ H' its',Zku Try.prog yid_ [.agg [iv x0.Stream,iv x0.Port,iv x0.From,iv x0.Long],.agg [iv x1.Stream,iv x1.Port,iv x1.From,iv x1.Long]] H r.2 H'/\T_ r.1 its'/\Fp H H' its its')(H:List HO)(its:List ZaL)(hT:T_ s_ its)(hH:HP H (.cel k0_ (Z0 c0_)::.cel k1_ [iv c1_]::.cel k2_ [iv c2_]::its))(r:σ)(h:ZcE N y_ c0_ c1_ c2_ s_=some r):∃ H' its',ZbE Try.prog 47 [.yl yid_,.ptr k0_ 0,.ptr k1_ 0,.ptr k2_ 0] H (.tup []) H'/\T_ r its'/\Fp H H' (.cel k0_ (Z0 c0_)::.cel k1_ [iv c1_]::.cel k2_ [iv c2_]::its) (.cel k0_ (Z0 c0_)::.cel k1_ [iv c1_]::.cel k2_ [iv c2_]::its'):=by
 suffices hs:∃ H',ZbE Try.prog 47 [.yl yid_,.ptr k0_ 0,.ptr k1_ 0,.ptr k2_ 0] H (.tup []) H'/\∃ its',T_ r its'/\Fp H H' (.cel k0_ (Z0 c0_)::.cel k1_ [iv c1_]::.cel k2_ [iv c2_]::its) (.cel k0_ (Z0 c0_)::.cel k1_ [iv c1_]::.cel k2_ [iv c2_]::its') by
  obtain ⟨H',h1,its',h2,h3⟩:=hs
  exact ⟨H',its',h1,h2,h3⟩
 unfold ZcE at h
 replace hH:Fp H H (.cel k0_ (Z0 c0_)::.cel k1_ [iv c1_]::.cel k2_ [iv c2_]::its) (.cel k0_ (Z0 c0_)::.cel k1_ [iv c1_]::.cel k2_ [iv c2_]::its):=Fp.refl hH
 refine ZfA Ztu (λH'=>∃ its',T_ r its'/\Fp H H' (.cel k0_ (Z0 c0_)::.cel k1_ [iv c1_]::.cel k2_ [iv c2_]::its) (.cel k0_ (Z0 c0_)::.cel k1_ [iv c1_]::.cel k2_ [iv c2_]::its')) rfl rfl rfl (sq ?_)
 have hlc1:=Fp.get hH 0 rfl
 refine rg (Z2.u 1 (ZaF (H:=H) (id:=k0_) (off:=1) (cs:=(Z0 c0_)) (c:=[Z6 false c0_.Uses]) (r:=Z6 false c0_.Uses) (hl:=hlc1)) (Z2.u 0 (Z9 (ys:=[Z6 false c0_.Uses]) (h:=Zaf ZaX)) Z2.f)) (tq (bk ?_))
 obtain ⟨ag,a9,h⟩:=bs h
 refine Zbf ((Za0 (λ(x:Int×σ) s=>∃ (its2:List ZaL) (H3:List HO),s=⟨[(0,.yl yid_),(1,.ptr k0_ 0),(2,.ptr k1_ 0),(3,.ptr k2_ 0),(10,Z6 false c0_.Uses),(11,iv ((List.length c0_.Uses:Nat):Int)),(12,iv x.1)],[],H3⟩/\T_ x.2 its2/\Fp H H3 (.cel k0_ (Z0 c0_)::.cel k1_ [iv c1_]::.cel k2_ [iv c2_]::its) (.cel k0_ (Z0 c0_)::.cel k1_ [iv c1_]::.cel k2_ [iv c2_]::its2)) (λx:Int×σ=>Zbq N y_ c0_ c1_ c2_ x.1 x.2) (λ(p:(σ)⊕(σ)) e s=>match p with|(.inl p)=>e=.exit 0/\(∃ (a3:List ZaL) (af:List HO),s=⟨[],[],af⟩/\T_ p a3/\Fp H af (.cel k0_ (Z0 c0_)::.cel k1_ [iv c1_]::.cel k2_ [iv c2_]::its) (.cel k0_ (Z0 c0_)::.cel k1_ [iv c1_]::.cel k2_ [iv c2_]::a3))|(.inr p)=>e=.ret/\∃ xs,rawL s i47.res=some xs/\Zbu xs=.tup []/\∃ its',T_ p its'/\Fp H s.H (.cel k0_ (Z0 c0_)::.cel k1_ [iv c1_]::.cel k2_ [iv c2_]::its) (.cel k0_ (Z0 c0_)::.cel k1_ [iv c1_]::.cel k2_ [iv c2_]::its')) ?_ N _ ag _ a9 ⟨its,H,kr,hT,Fp.at hH⟩).mono ?_)
 ·clear h a9
  rintro ⟨i4,g5⟩ o s h hR
  obtain ⟨its2,H3,rfl,hT,hH⟩:=hR
  replace hH:Fp H H3 (.cel k0_ (Z0 c0_)::.cel k1_ [iv c1_]::.cel k2_ [iv c2_]::its) (.cel k0_ (Z0 c0_)::.cel k1_ [iv c1_]::.cel k2_ [iv c2_]::its2):=hH
  replace h:Zbq N y_ c0_ c1_ c2_ i4 g5=some o:=h
  unfold Zbq at h
  refine sq (rg Z2.f (tq (sq (it h (λaA h=>?_) (λaA h=>?_)))))
  ·refine sk (tq (kq (sq (bk (sq ?_)))))
   obtain ⟨a4,aj,h⟩:=bs h
   refine rg (Z2.u 1 (Z9 (ys:=[Z6 false c0_.Uses,iv i4]) (h:=Z8 ZaX aj)) (Z2.u 0 (Zas (sz:=4) (off:=0) (cs:=[.int .i64 a4.Stream,.int .i64 a4.Port,.int .i64 a4.From,.int .i64 a4.Long]) (r:=.agg (Zaw a4)) ZaX aj) Z2.f)) (tq (sq (sq ?_)))
   have an:=Fp.get hH 1 rfl
   refine rg (Z2.u 2 (ZaF (H:=H3) (id:=k1_) (off:=0) (cs:=[iv c1_]) (c:=[iv c1_]) (r:=iv c1_) (hl:=an)) Z2.f) (tq (it h (λaz h=>?_) (λaz h=>?_)))
   ·refine kq (xq (tx (bx (tq (kq (rg Z2.f ?_))))))
    cases h
    exact ⟨_,rfl,⟨its2,H3,kr,hT,Fp.at hH⟩⟩
   refine sk (tq (kq (sq ?_)))
   have am:=Fp.get hH 0 rfl
   refine rg (Z2.u 1 (ZaF (H:=H3) (id:=k0_) (off:=1) (cs:=(Z0 c0_)) (c:=[Z6 false c0_.Uses]) (r:=Z6 false c0_.Uses) (hl:=am)) (Z2.u 0 (Z9 (ys:=[Z6 false c0_.Uses]) (h:=Zaf ZaX)) Z2.f)) (tq (bk ?_))
   obtain ⟨ai,aa,h⟩:=bs h
   refine Zbf ((Za0 (λ(x:Int×σ) s=>∃ (a0:List ZaL) (a5:List HO),s=⟨[(0,.yl yid_),(1,.ptr k0_ 0),(2,.ptr k1_ 0),(3,.ptr k2_ 0),(5,iv i4),(6,.loc 6 0),(10,Z6 false c0_.Uses),(11,iv ((List.length c0_.Uses:Nat):Int)),(12,iv i4),(22,Z6 false c0_.Uses),(23,iv ((List.length c0_.Uses:Nat):Int)),(24,iv x.1)],[(6,(Zaw a4))],a5⟩/\T_ x.2 a0/\Fp H a5 (.cel k0_ (Z0 c0_)::.cel k1_ [iv c1_]::.cel k2_ [iv c2_]::its) (.cel k0_ (Z0 c0_)::.cel k1_ [iv c1_]::.cel k2_ [iv c2_]::a0)) (λx:Int×σ=>Zbp N y_ c0_ c2_ i4 a4 x.1 x.2) (λ(p:(σ)⊕(σ)) e s=>match p with|(.inl p)=>e=.exit 2/\(∃ (a2:List ZaL) (a7:List HO),s=⟨[(0,.yl yid_),(1,.ptr k0_ 0),(2,.ptr k1_ 0),(3,.ptr k2_ 0),(10,Z6 false c0_.Uses),(11,iv ((List.length c0_.Uses:Nat):Int)),(12,iv i4)],[],a7⟩/\T_ p a2/\Fp H a7 (.cel k0_ (Z0 c0_)::.cel k1_ [iv c1_]::.cel k2_ [iv c2_]::its) (.cel k0_ (Z0 c0_)::.cel k1_ [iv c1_]::.cel k2_ [iv c2_]::a2))|(.inr p)=>e=.ret/\∃ xs,rawL s i47.res=some xs/\Zbu xs=.tup []/\∃ its',T_ p its'/\Fp H s.H (.cel k0_ (Z0 c0_)::.cel k1_ [iv c1_]::.cel k2_ [iv c2_]::its) (.cel k0_ (Z0 c0_)::.cel k1_ [iv c1_]::.cel k2_ [iv c2_]::its')) ?_ N _ ai _ aa ⟨its2,H3,kr,hT,Fp.at hH⟩).mono ?_)
   ·clear h aa
    rintro ⟨a8,aB⟩ o s h hR
    obtain ⟨a0,a5,rfl,hT,hH⟩:=hR
    replace hH:Fp H a5 (.cel k0_ (Z0 c0_)::.cel k1_ [iv c1_]::.cel k2_ [iv c2_]::its) (.cel k0_ (Z0 c0_)::.cel k1_ [iv c1_]::.cel k2_ [iv c2_]::a0):=hH
    replace h:Zbp N y_ c0_ c2_ i4 a4 a8 aB=some o:=h
    unfold Zbp at h
    refine sq (rg Z2.f (tq (sq (it h (λaw h=>?_) (λaw h=>?_)))))
    ·refine sk (tq (kq (sq (bk (sq ?_)))))
     obtain ⟨a1,ab,h⟩:=bs h
     refine rg (Z2.u 1 (Z9 (ys:=[Z6 false c0_.Uses,iv a8]) (h:=Z8 ZaX ab)) (Z2.u 0 (Zas (sz:=4) (off:=0) (cs:=[.int .i64 a1.Stream,.int .i64 a1.Port,.int .i64 a1.From,.int .i64 a1.Long]) (r:=.agg (Zaw a1)) ZaX ab) Z2.f)) (tq (sq (sq ?_)))
     obtain ⟨ay,hj,h⟩:=bs h
     refine rgR (λs=>s=⟨[(0,.yl yid_),(1,.ptr k0_ 0),(2,.ptr k1_ 0),(3,.ptr k2_ 0),(5,iv i4),(6,.loc 6 0),(8,.loc 8 0),(10,Z6 false c0_.Uses),(11,iv ((List.length c0_.Uses:Nat):Int)),(12,iv i4),(22,Z6 false c0_.Uses),(23,iv ((List.length c0_.Uses:Nat):Int)),(24,iv a8),(44,bv ay)],[(6,(Zaw a4)),(8,(Zaw a1))],a5⟩) ?_ ?_
     ·clear h
      rcases ZaP hj with ⟨av,hj⟩|⟨au,hj⟩
      ·obtain rfl:=Zap hj
       exact (EP.u 2 (Zaa (c:=(a8==i4)) (h:=av)) (EP.f kr))
      refine (EP.u 2 (Zaa (c:=(a8==i4)) (h:=au)) ?_)
      have ad:=Fp.get hH 2 rfl
      refine (EP.u 3 (ZaF (H:=a5) (id:=k2_) (off:=0) (cs:=[iv c2_]) (c:=[iv c2_]) (r:=iv c2_) (hl:=ad)) ?_)
      rcases ZaP hj with ⟨ar,hj⟩|⟨aq,hj⟩
      ·obtain rfl:=Zap hj
       exact (EP.u 0 (Zaa (c:=(a1.Stream != c2_)) (h:=ar)) (EP.f kr))
      obtain rfl:=Zap hj
      exact (EP.u 0 (Zaa (c:=(a1.Stream != c2_)) (h:=aq)) (EP.f kr))
     clear hj
     rintro s hR
     obtain rfl:=hR
     refine tq (it h (λap h=>?_) (λap h=>?_))
     ·refine kq (xq (tx (bx (tq (kq (rg Z2.f ?_))))))
      cases h
      exact ⟨_,rfl,⟨a0,a5,kr,hT,Fp.at hH⟩⟩
     refine sk (tq (kq (sq ?_)))
     obtain ⟨ax,al,h⟩:=bs h
     obtain ⟨ak,a6,ac,hT,ae⟩:=hy_ a4 a1 aB ax a5 a0 hT (Fp.tail (own:=[.cel k0_ (Z0 c0_),.cel k1_ [iv c1_],.cel k2_ [iv c2_]]) (its:=a0) hH) al
     replace hH:Fp H ak (.cel k0_ (Z0 c0_)::.cel k1_ [iv c1_]::.cel k2_ [iv c2_]::its) (.cel k0_ (Z0 c0_)::.cel k1_ [iv c1_]::.cel k2_ [iv c2_]::a6):=Fp.callT (own:=[.cel k0_ (Z0 c0_),.cel k1_ [iv c1_],.cel k2_ [iv c2_]]) (its:=a0) hH ae
     refine rg (Z2.v 3 (ZmT (H:=a5) (id:=yid_) (ys:=[.agg (Zaw a4),.agg (Zaw a1)]) kr kr kr kr ac) Z2.f) (tq (it h (λao h=>?_) (λao h=>?_)))
     ·refine rt (br (tr ?_))
      cases h
      exact ⟨_,rfl,rfl,⟨[],kr,kr,a6,hT,Fp.at hH⟩⟩
     refine sk (bn (tq (kq (rg Z2.f ?_))))
     cases h
     exact ⟨_,rfl,⟨a6,ak,kr,hT,Fp.at hH⟩⟩
    refine kq (xq (tx ?_))
    cases h
    exact ⟨_,rfl,rfl,⟨a0,a5,kr,hT,Fp.at hH⟩⟩
   rintro e s hq
   rcases ai with aG|aE
   ·dsimp only at h hq
    obtain ⟨rfl,hR⟩:=hq
    obtain ⟨a2,a7,rfl,hT,hH⟩:=hR
    replace hH:Fp H a7 (.cel k0_ (Z0 c0_)::.cel k1_ [iv c1_]::.cel k2_ [iv c2_]::its) (.cel k0_ (Z0 c0_)::.cel k1_ [iv c1_]::.cel k2_ [iv c2_]::a2):=hH
    refine bx (bn (tq (kq (rg Z2.f ?_))))
    cases h
    exact ⟨_,rfl,⟨a2,a7,kr,hT,Fp.at hH⟩⟩
   dsimp only at h hq
   obtain ⟨rfl,hq⟩:=hq
   refine br (br (tr ?_))
   cases h
   exact ⟨_,rfl,rfl,hq⟩
  refine kq (xq (tx ?_))
  cases h
  exact ⟨_,rfl,rfl,⟨its2,H3,kr,hT,Fp.at hH⟩⟩
 rintro e s hq
 rcases ag with aD|aC
 ·dsimp only at h hq
  obtain ⟨rfl,hR⟩:=hq
  obtain ⟨a3,af,rfl,hT,hH⟩:=hR
  replace hH:Fp H af (.cel k0_ (Z0 c0_)::.cel k1_ [iv c1_]::.cel k2_ [iv c2_]::its) (.cel k0_ (Z0 c0_)::.cel k1_ [iv c1_]::.cel k2_ [iv c2_]::a3):=hH
  refine bx ?_
  cases h
  exact ⟨[],kr,kr,a3,hT,Fp.at hH⟩
 dsimp only at h hq
 obtain ⟨rfl,hq⟩:=hq
 refine br ?_
 cases h
 exact hq
theorem ZcL (N:Nat)(a0_:Z4)(r:Int)(h:Zbv N a0_=some r):Zbk Try.prog 48 [.agg (Zbr a0_)] (iv r):=by
 unfold Zbv at h
 have hH  := hp0
 refine ZaK Ztt rfl rfl (Zaj _ _ _ ?_) rfl
 refine sq (rg Z2.f (tq (sq (sq (rgX ⟨[(1,.loc 1 0),(22,bv ((decide (a0_.Period<1))||((decide (a0_.Period>960))||((decide (a0_.From<0))||(decide (a0_.From≥a0_.Period))))))],[(1,(Zbr a0_))],[]⟩ ?_ ?_)))))
 ·rcases Bool.eq_false_or_eq_true (decide (a0_.Period<1)) with hc1|hc2
  ·exact (EP.u 2 (Zaa (c:=(decide (a0_.Period<1))) (h:=hc1)) (EP.f (by simp only [hc1];kernel_rfl)))
  refine (EP.u 2 (Zaa (c:=(decide (a0_.Period<1))) (h:=hc2)) ?_)
  rcases Bool.eq_false_or_eq_true (decide (a0_.Period>960)) with hc3|hc4
  ·exact (EP.u 3 (Zaa (c:=(decide (a0_.Period>960))) (h:=hc3)) (EP.f (by simp only [hc2,hc3];kernel_rfl)))
  refine (EP.u 3 (Zaa (c:=(decide (a0_.Period>960))) (h:=hc4)) ?_)
  rcases Bool.eq_false_or_eq_true (decide (a0_.From<0)) with hc5|hc6
  ·exact (EP.u 4 (Zaa (c:=(decide (a0_.From<0))) (h:=hc5)) (EP.f (by simp only [hc2,hc4,hc5];kernel_rfl)))
  exact (EP.u 4 (Zaa (c:=(decide (a0_.From<0))) (h:=hc6)) (EP.f (by simp only [hc2,hc4,hc6];kernel_rfl)))
 refine tq (it h (λhc7 h=>?_) (λhc7 h=>?_))
 ·refine sq (rg Z2.f (tq (rt (tr ?_))))
  cases h
  exact Zat kr
 refine sk (tq (kq (sq (sq (rgX ⟨[(32,bv ((decide (a0_.Long<1))||(decide (a0_.Long>a0_.Period))))],[],[]⟩ ?_ ?_)))))
 ·rcases Bool.eq_false_or_eq_true (decide (a0_.Long<1)) with hc8|hc9
  ·exact (EP.u 2 (Zaa (c:=(decide (a0_.Long<1))) (h:=hc8)) (EP.f (by simp only [hc8];kernel_rfl)))
  exact (EP.u 2 (Zaa (c:=(decide (a0_.Long<1))) (h:=hc9)) (EP.f (by simp only [hc9];kernel_rfl)))
 refine tq (it h (λa0 h=>?_) (λa0 h=>?_))
 ·refine sq (rg Z2.f (tq (rt (tr ?_))))
  cases h
  exact Zat kr
 refine sk (tq (kq (sq (rg Z2.f (tq (rt ?_))))))
 cases h
 exact Zat kr
theorem Ze3 (N:Nat)(a0_:(List Z4))(r:Int)(h:Zbz N a0_=some r):Zbk Try.prog 54 [ZaC false a0_] (iv r):=by
 unfold Zbz at h
 have hH  := hp0
 refine ZaK Ztq rfl rfl (Zaj _ _ _ ?_) rfl
 refine sq (rg Z2.f (tq (sq (sq (rg (Z2.u 1 (Z9 (ys:=[ZaC false a0_]) (h:=Zaf ZaE)) Z2.f) (tq (it h (λhc1 h=>?_) (λhc1 h=>?_))))))))
 ·refine sq (rg Z2.f (tq (rt (tr ?_))))
  cases h
  exact Zat kr
 refine sk (tq (kq (sq (sq (rg (Z2.u 1 (Z9 (ys:=[ZaC false a0_]) (h:=Zaf ZaE)) Z2.f) (tq (bk ?_)))))))
 obtain ⟨a3,a1,h⟩:=bs h
 refine Zbf ((Za0 (λ(x:Int) s=>s=⟨[(9,ZaC false a0_),(10,iv ((List.length a0_:Nat):Int)),(11,iv x)],[],[]⟩) (λx:Int=>ZaR N a0_ x) (λ(p:(Unit)⊕(Int)) e s=>match p with|(.inl p)=>e=.exit 0/\(s=⟨[],[],[]⟩)|(.inr p)=>e=.ret/\∃ xs,resL s i54.res=some xs/\Zbu xs=iv p) ?_ N _ a3 _ a1 kr).mono ?_)
 ·clear h a1
  rintro i2 o s h hR
  obtain rfl:=hR
  replace h:ZaR N a0_ i2=some o:=h
  unfold ZaR at h
  refine sq (rg Z2.f (tq (sq (it h (λa6 h=>?_) (λa6 h=>?_)))))
  ·refine sk (tq (kq (sq (bk (sq ?_)))))
   obtain ⟨a0,a2,h⟩:=bs h
   refine rg (Z2.u 0 (Z9 (ys:=[ZaC false a0_,iv i2]) (h:=Z8 ZaE a2)) (Z2.u 0 (Zas (sz:=3) (off:=0) (cs:=[.int .i64 a0.Period,.int .i64 a0.From,.int .i64 a0.Long]) (r:=.agg (Zbr a0)) ZaE a2) Z2.f)) (tq (sq ?_))
   obtain ⟨a7,a4,h⟩:=bs h
   refine rg (Z2.v 1 (ZaH (hc:=ZcL N a0 a7 a4)) Z2.f) (tq (sq (rg Z2.f (tq (it h (λa5 h=>?_) (λa5 h=>?_))))))
   ·refine sq (rg Z2.f (tq (rt (br (tr ?_)))))
    cases h
    exact ⟨_,rfl,rfl,Zat kr⟩
   refine sk (bn (tq (kq (rg Z2.f ?_))))
   cases h
   exact ⟨_,rfl,kr⟩
  refine kq (xq (tx ?_))
  cases h
  exact ⟨_,rfl,rfl,kr⟩
 rintro e s hq
 rcases a3 with a9|a8
 ·dsimp only at h hq
  obtain ⟨rfl,hR⟩:=hq
  obtain rfl:=hR
  refine bx (tq (sq (rg Z2.f (tq (rt ?_)))))
  cases h
  exact Zat kr
 dsimp only at h hq
 obtain ⟨rfl,hq⟩:=hq
 refine br (tr ?_)
 cases h
 exact hq
theorem ZhH (N:Nat)(a0_:Int)(a1_:Int)(r:Int)(h:Zc8 N a0_ a1_=some r):Zbk Try.prog 59 [iv a0_,iv a1_] (iv r):=by
 unfold Zc8 at h
 have hH  := hp0
 refine ZaK Ztn rfl rfl (Zaj _ _ _ ?_) rfl
 refine sq (rg Z2.f (tq (sq ?_)))
 obtain ⟨m1,hm1,h⟩:=bs h
 obtain ⟨m2,hm2,h⟩:=bs h
 refine rg (Z2.u 2 (Z9 (ys:=[iv a0_,iv a1_]) (h:=Zbx hm1)) (Z2.u 3 (Z9 (ys:=[iv (w64 (m1+a1_)),iv a1_]) (h:=Zbx hm2)) Z2.f)) (tq (rt ?_))
 cases h
 exact Zat kr
theorem ZeT (N:Nat)(a0_:Int)(a1_:Int)(r:Int)(h:Zcu N a0_ a1_=some r):Zbk Try.prog 60 [iv a0_,iv a1_] (iv r):=by
 unfold Zcu at h
 have hH  := hp0
 refine ZaK Ztm rfl rfl (Zaj _ _ _ ?_) rfl
 refine sq (rg Z2.f (tq (sq (bk ?_))))
 obtain ⟨a3,a0,h⟩:=bs h
 refine Zbf ((Za0 (λ(x:Int×Int) s=>s=⟨[(0,iv x.1),(1,iv x.2)],[],[]⟩) (λx:Int×Int=>Zbl N x.1 x.2) (λ(p:Int) e s=>e=.exit 0/\(s=⟨[(0,iv p)],[],[]⟩)) ?_ N _ a3 _ a0 kr).mono ?_)
 ·clear h a0
  rintro ⟨i1,i2⟩ o s h hR
  obtain rfl:=hR
  replace h:Zbl N i1 i2=some o:=h
  unfold Zbl at h
  refine sq (sq (rg Z2.f (tq (it h (λa2 h=>?_) (λa2 h=>?_)))))
  ·refine sk (tq (kq (bk ?_)))
   obtain ⟨a4,a1,h⟩:=bs h
   refine rq (Z2.u 3 (Z9 (ys:=[iv i1,iv i2]) (h:=Zbx a1)) Z2.f) (bn ?_)
   cases h
   exact ⟨_,rfl,kr⟩
  refine kq (xq (tx ?_))
  cases h
  exact ⟨_,rfl,rfl,kr⟩
 rintro e s hq
 obtain ⟨rfl,hR⟩:=hq
 obtain rfl:=hR
 refine bx (tq (sq (rg Z2.f (tq (rt ?_)))))
 cases h
 exact Zat kr
theorem Zfv (N:Nat)(a0_:Int)(a1_:Int)(r:Int)(h:ZbO N a0_ a1_=some r):Zbk Try.prog 28 [iv a0_,iv a1_] (iv r):=by
 unfold ZbO at h
 have hH  := hp0
 refine ZaK ZtE rfl rfl (Zaj _ _ _ ?_) rfl
 refine sq (rg Z2.f (tq (sq ?_)))
 obtain ⟨r1,hr1,h⟩:=bs h
 refine rg (Z2.v 1 (ZaH (hc:=Zeb N a0_ r1 hr1)) Z2.f) (tq (sq ?_))
 obtain ⟨r2,hr2,h⟩:=bs h
 refine rg (Z2.v 1 (ZaH (hc:=Zeb N a1_ r2 hr2)) Z2.f) (tq (sq (sq (rg Z2.f (tq (it h (λhc3 h=>?_) (λhc3 h=>?_)))))))
 ·refine sq (sq (rg Z2.f (tq (it h (λhc4 h=>?_) (λhc4 h=>?_)))))
  ·refine sq (rg Z2.f (tq (rt (tr (tr ?_)))))
   cases h
   exact Zat kr
  refine sk (tq (kq (sq (rg Z2.f (tq (rt (tr ?_)))))))
  cases h
  exact Zat kr
 refine sk (tq (kq (sq (sq (rg Z2.f (tq (it h (λhc5 h=>?_) (λhc5 h=>?_))))))))
 ·refine sq (rg Z2.f (tq (rt (tr ?_))))
  cases h
  exact Zat kr
 refine sk (tq (kq (sq (sq (rg Z2.f (tq (it h (λhc6 h=>?_) (λhc6 h=>?_))))))))
 ·refine sq (rg Z2.f (tq (rt (tr ?_))))
  cases h
  exact Zat kr
 refine sk (tq (kq (sq (sq (rg Z2.f (tq (it h (λhc7 h=>?_) (λhc7 h=>?_))))))))
 ·refine sq (rg Z2.f (tq (rt (tr ?_))))
  cases h
  exact Zat kr
 refine sk (tq (kq (sq (rg Z2.f (tq (rt ?_))))))
 cases h
 exact Zat kr
theorem Zg1 (N:Nat)(a0_:Int)(a1_:(List Int))(r:Int)(h:ZcD N a0_ a1_=some r):Zbk Try.prog 55 [iv a0_,Z5 false a1_] (iv r):=by
 unfold ZcD at h
 have hH  := hp0
 refine ZaK Ztp rfl rfl (Zaj _ _ _ ?_) rfl
 refine sq (rg Z2.f (tq (sq (rg Z2.f (tq (sq (sq (rg (Z2.u 1 (Z9 (ys:=[Z5 false a1_]) (h:=Zaf eI64)) Z2.f) (tq (bk ?_))))))))))
 obtain ⟨a8,a0,h⟩:=bs h
 refine Zbf ((Za0 (λ(x:Int×Int) s=>s=⟨[(0,iv a0_),(5,iv x.1),(8,Z5 false a1_),(9,iv ((List.length a1_:Nat):Int)),(10,iv x.2)],[],[]⟩) (λx:Int×Int=>ZaV N a0_ a1_ x.1 x.2) (λ(p:Int) e s=>e=.exit 0/\(s=⟨[(5,iv p)],[],[]⟩)) ?_ N _ a8 _ a0 kr).mono ?_)
 ·clear h a0
  rintro ⟨i1,i2⟩ o s h hR
  obtain rfl:=hR
  replace h:ZaV N a0_ a1_ i1 i2=some o:=h
  unfold ZaV at h
  refine sq (rg Z2.f (tq (sq (it h (λa7 h=>?_) (λa7 h=>?_)))))
  ·refine sk (tq (kq (sq (bk (sq ?_)))))
   obtain ⟨a2,a1,h⟩:=bs h
   refine rg (Z2.u 0 (Z9 (ys:=[Z5 false a1_,iv i2]) (h:=Z8 eI64 a1)) (Z2.u 0 (Zas (sz:=1) (off:=0) (cs:=[.int .i64 a2]) (r:=iv a2) eI64 a1) Z2.f)) (tq (sq ?_))
   obtain ⟨a3,a4,h⟩:=bs h
   obtain ⟨a9,a5,h⟩:=bs h
   refine rg (Z2.v 3 (ZaH (hc:=ZeT N i1 a2 a3 a4)) (Z2.u 0 (Z9 (ys:=[iv i1,iv a3]) (h:=ZlK a5)) Z2.f)) (tq (sq (rg Z2.f (tq (it h (λa6 h=>?_) (λa6 h=>?_))))))
   ·refine kq (xq (bo (tx ?_)))
    cases h
    exact ⟨_,rfl,rfl,kr⟩
   refine sk (bn (tq (kq (rg Z2.f ?_))))
   cases h
   exact ⟨_,rfl,kr⟩
  refine kq (xq (tx ?_))
  cases h
  exact ⟨_,rfl,rfl,kr⟩
 rintro e s hq
 obtain ⟨rfl,hR⟩:=hq
 obtain rfl:=hR
 refine bx (tq (sq (rg Z2.f (tq (rt ?_)))))
 cases h
 exact Zat kr
theorem ZgZ (N:Nat)(a0_:Z4)(a1_:Z4)(r:Int×Int×Int)(h:ZcC N a0_ a1_=some r):Zbk Try.prog 58 [.agg (Zbr a0_),.agg (Zbr a1_)] (.tup [iv r.1,iv r.2.1,iv r.2.2]):=by
 unfold ZcC at h
 have hH  := hp0
 refine ZaK Zto rfl rfl (Zaj _ _ _ ?_) rfl
 refine sq (rg Z2.f (tq (sq ?_)))
 obtain ⟨r1,hr1,h⟩:=bs h
 refine rg (Z2.v 4 (ZaH (hc:=ZeT N a0_.Period a1_.Period r1 hr1)) Z2.f) (tq (sq (rq Z2.f (tq (rt ?_)))))
 cases h
 exact Zat kr
theorem Zdi (N:Nat)(a0_:(List Int))(a1_:(List Int))(r:Int)(h:ZaJ N a0_ a1_=some r):Zbk Try.prog 19 [Z5 false a0_,Z5 false a1_] (iv r):=by
 unfold ZaJ at h
 have hH  := hp0
 refine ZaK ZtJ rfl rfl (Zaj _ _ _ ?_) rfl
 refine sq (rg Z2.f (tq (sq (sq (rg (Z2.u 1 (Z9 (ys:=[Z5 false a0_]) (h:=Zaf eI64)) Z2.f) (tq (bk ?_)))))))
 obtain ⟨a5,a0,h⟩:=bs h
 refine Zbf ((Za0 (λ(x:Int) s=>s=⟨[(0,Z5 false a0_),(1,Z5 false a1_),(9,Z5 false a0_),(10,iv ((List.length a0_:Nat):Int)),(11,iv x)],[],[]⟩) (λx:Int=>Zay N a0_ a1_ x) (λ(p:(Unit)⊕(Int)) e s=>match p with|(.inl p)=>e=.exit 0/\(s=⟨[(0,Z5 false a0_),(1,Z5 false a1_)],[],[]⟩)|(.inr p)=>e=.ret/\∃ xs,resL s i19.res=some xs/\Zbu xs=iv p) ?_ N _ a5 _ a0 kr).mono ?_)
 ·clear h a0
  rintro i1 o s h hR
  obtain rfl:=hR
  replace h:Zay N a0_ a1_ i1=some o:=h
  unfold Zay at h
  refine sq (rg Z2.f (tq (sq (it h (λaa h=>?_) (λaa h=>?_)))))
  ·refine sk (tq (kq (sq (bk (sq ?_)))))
   obtain ⟨a4,a2,h⟩:=bs h
   refine rg (Z2.u 1 (Z9 (ys:=[Z5 false a0_,iv i1]) (h:=Z8 eI64 a2)) (Z2.u 0 (Zas (sz:=1) (off:=0) (cs:=[.int .i64 a4]) (r:=iv a4) eI64 a2) Z2.f)) (tq (sq (sq (rg (Z2.u 2 (Z9 (ys:=[Z5 false a1_]) (h:=Zaf eI64)) Z2.f) (tq (it h (λa9 h=>?_) (λa9 h=>?_)))))))
   ·refine sq (rg Z2.f (tq (rt (tr (br (tr ?_))))))
    cases h
    exact ⟨_,rfl,rfl,Zat kr⟩
   refine sk (tq (kq (sq ?_)))
   obtain ⟨a3,a1,h⟩:=bs h
   refine rg (Z2.u 2 (Z9 (ys:=[Z5 false a1_,iv i1]) (h:=Z8 eI64 a1)) (Z2.u 0 (Zas (sz:=1) (off:=0) (cs:=[.int .i64 a3]) (r:=iv a3) eI64 a1) Z2.f)) (tq (sq ?_))
   obtain ⟨ab,a6,h⟩:=bs h
   refine rg (Z2.v 2 (ZaH (hc:=Zfv N a4 a3 ab a6)) Z2.f) (tq (sq (rg Z2.f (tq (it h (λa8 h=>?_) (λa8 h=>?_))))))
   ·refine sq (rg Z2.f (tq (rt (br (tr ?_)))))
    cases h
    exact ⟨_,rfl,rfl,Zat kr⟩
   refine sk (bn (tq (kq (rg Z2.f ?_))))
   cases h
   exact ⟨_,rfl,kr⟩
  refine kq (xq (tx ?_))
  cases h
  exact ⟨_,rfl,rfl,kr⟩
 rintro e s hq
 rcases a5 with ad|ac
 ·dsimp only at h hq
  obtain ⟨rfl,hR⟩:=hq
  obtain rfl:=hR
  refine bx (tq (sq (sq (rg (Z2.u 1 (Z9 (ys:=[Z5 false a0_]) (h:=Zaf eI64)) (Z2.u 1 (Z9 (ys:=[Z5 false a1_]) (h:=Zaf eI64)) Z2.f)) (tq (it h (λa7 h=>?_) (λa7 h=>?_)))))))
  ·refine sq (rg Z2.f (tq (rt (tr ?_))))
   cases h
   exact Zat kr
  refine sk (tq (kq (sq (rg Z2.f (tq (rt ?_))))))
  cases h
  exact Zat kr
 dsimp only at h hq
 obtain ⟨rfl,hq⟩:=hq
 refine br (tr ?_)
 cases h
 exact hq
theorem Zgm (N:Nat)(a0_:(List Z4))(r:Int×Int)(h:Zch N a0_=some r):Zbk Try.prog 44 [ZaC false a0_] (.tup [iv r.1,iv r.2]):=by
 unfold Zch at h
 have hH  := hp0
 refine ZaK Ztw rfl rfl (Zaj _ _ _ ?_) rfl
 refine sq (rg Z2.f (tq (sq (sq ?_))))
 obtain ⟨r1,hr1,h⟩:=bs h
 refine rg (Z2.v 1 (ZaH (hc:=Ze3 N a0_ r1 hr1)) Z2.f) (tq (sq (rg Z2.f (tq (it h (λhc2 h=>?_) (λhc2 h=>?_))))))
 ·refine sq (rg Z2.f (tq (rt (tr ?_))))
  cases h
  exact Zat kr
 refine sk (tq (kq (sq ?_)))
 obtain ⟨l5,hl5,h⟩:=bs h
 obtain ⟨a3,H4,ha3,hH4,ha3b,hH⟩:=HP.make eI64 hH hl5
 replace hH:HP _ [.arr a3 1 false (List.map eI64 l5)]:=hH
 have hfa3:=Zcq (HP.get hH 0 rfl)
 refine rgS ⟨[(0,ZaC false a0_),(5,a3)],[],H4⟩ (Z2.u 1 (Z9 (ys:=[ZaC false a0_]) (h:=Zaf ZaE)) (Z2.h 0 (ZlT (H:=[]) (zero:=[.int .i64 0]) (bytes:=8) kr kr kr ha3 hH4 ha3b) Z2.f)) (by cases hfa3<;>kernel_rfl) (tq (sq (sq (rgS ⟨[(5,a3),(17,ZaC false a0_),(18,iv ((List.length a0_:Nat):Int)),(19,iv 0)],[],H4⟩ (Z2.u 1 (Z9 (ys:=[ZaC false a0_]) (h:=Zaf ZaE)) Z2.f) (by cases hfa3<;>kernel_rfl) (tq (bk ?_))))))
 obtain ⟨a4,ab,h⟩:=bs h
 refine Zbf ((Za0 (λ(x:Int×(List Int)) s=>∃ (a6:AV) (H7:List HO),s=⟨[(5,a6),(17,ZaC false a0_),(18,iv ((List.length a0_:Nat):Int)),(19,iv x.1)],[],H7⟩/\HP H7 [.arr a6 1 false (List.map eI64 x.2)]) (λx:Int×(List Int)=>Za6 N a0_ x.1 x.2) (λ(p:(List Int)) e s=>e=.exit 0/\(∃ (a1:AV) (aa:List HO),s=⟨[(5,a1)],[],aa⟩/\HP aa [.arr a1 1 false (List.map eI64 p)])) ?_ N _ a4 _ ab ⟨a3,H4,(by show _=_;cases hfa3<;>kernel_rfl),(HP.pick hH [0] rfl)⟩).mono ?_)
 ·clear h ab
  rintro ⟨i8,l9⟩ o s h hR
  obtain ⟨a6,H7,rfl,hH⟩:=hR
  replace hH:HP _ [.arr a6 1 false (List.map eI64 l9)]:=hH
  have hfa6:=Zcq (HP.get hH 0 rfl)
  replace h:Za6 N a0_ i8 l9=some o:=h
  unfold Za6 at h
  refine sq (rgS ⟨[(5,a6),(17,ZaC false a0_),(18,iv ((List.length a0_:Nat):Int)),(19,iv i8),(20,bv (decide (i8<((List.length a0_:Nat):Int))))],[],H7⟩ Z2.f (by cases hfa6<;>kernel_rfl) (tq (sq (it h (λak h=>?_) (λak h=>?_)))))
  ·refine sk (tq (kq (sq (bk (sq ?_)))))
   obtain ⟨a0,ad,h⟩:=bs h
   refine rgS ⟨[(5,a6),(6,iv i8),(7,.loc 7 0),(17,ZaC false a0_),(18,iv ((List.length a0_:Nat):Int)),(19,iv i8)],[(7,(Zbr a0))],H7⟩ (Z2.u 1 (Z9 (ys:=[ZaC false a0_,iv i8]) (h:=Z8 ZaE ad)) (Z2.u 0 (Zas (sz:=3) (off:=0) (cs:=[.int .i64 a0.Period,.int .i64 a0.From,.int .i64 a0.Long]) (r:=.agg (Zbr a0)) ZaE ad) (Z2.f (h:=(by cases hfa6<;>kernel_rfl))))) (by cases hfa6<;>kernel_rfl) (tq ?_)
   obtain ⟨aq,ac,h⟩:=bs h
   obtain ⟨ap,am,_,a8,ae,a9,a7⟩:=HP.elem (k:=0) (a:=a6) (sz:=1) (frz:=false) eI64 hH rfl ac
   obtain ⟨af,al,hH⟩:=HP.setRow (k:=0) (off:=0) (cs:=[iv a0.Period]) (ps:=[.int .i64 a0.Period]) (e':=a0.Period) eI64 hH rfl a9 ae (a8 rfl) ac kr kr
   replace hH:HP _ [.arr a6 1 false (List.map eI64 (List.set l9 (Int.toNat i8) a0.Period))]:=hH
   refine rgS ⟨[(5,a6),(17,ZaC false a0_),(18,iv ((List.length a0_:Nat):Int)),(19,iv i8)],[],af⟩ (Z2.u 4 (Z9 (ys:=[a6,iv i8]) (by cases hfa6<;>kernel_rfl) (a7 .i64)) (Z2.o 0 (Zc2 (H:=H7) (v:=iv a0.Period) (hw:=al)) Z2.f)) (by cases hfa6<;>kernel_rfl) (bn (tq (rgS ⟨[(5,a6),(17,ZaC false a0_),(18,iv ((List.length a0_:Nat):Int)),(19,iv (w64 (i8+1)))],[],af⟩ Z2.f (by cases hfa6<;>kernel_rfl) ?_)))
   cases h
   exact ⟨_,rfl,⟨a6,af,(by show _=_;cases hfa6<;>kernel_rfl),(HP.pick hH [0] rfl)⟩⟩
  refine kq (xq (tx ?_))
  cases h
  exact ⟨_,rfl,rfl,⟨a6,H7,(by show _=_;cases hfa6<;>kernel_rfl),(HP.pick hH [0] rfl)⟩⟩
 rintro e s hq
 obtain ⟨rfl,hR⟩:=hq
 obtain ⟨a1,aa,rfl,hH⟩:=hR
 replace hH:HP _ [.arr a1 1 false (List.map eI64 a4)]:=hH
 have a2:=Zcq (HP.get hH 0 rfl)
 refine bx (tq (sq ?_))
 obtain ⟨ag,ai,h⟩:=bs h
 obtain ⟨ao,an,a5,hH⟩:=HP.frz (k:=0) (a:=a1) (sz:=1) (frz:=false) eI64 hH rfl
 replace hH:HP _ [.arr a1 1 true (List.map eI64 a4)]:=hH
 refine rgS ⟨[(8,iv ag)],[],ao⟩ (Z2.v 1 (Zgw (H:=aa) (ys:=[iv 960,a1]) (by cases a2<;>kernel_rfl) (by cases a2<;>kernel_rfl) (Zdc rfl (Zdc a5 ZgB)) (Zg1 N 960 a4 ag ai)) Z2.f) kr ?_
 replace hH:HP _ []:=HP.pick hH [] rfl
 refine tq (sq (sq (rg Z2.f (tq (it h (λaj h=>?_) (λaj h=>?_))))))
 ·refine sq (rg Z2.f (tq (rt (tr ?_))))
  cases h
  exact Zat kr
 refine sk (tq (kq (sq (rg Z2.f (tq (rt ?_))))))
 cases h
 exact Zat kr
theorem Zgk (N:Nat)(a0_:Z4)(a1_:Z4)(r:Bool)(h:Zcg N a0_ a1_=some r):Zbk Try.prog 49 [.agg (Zbr a0_),.agg (Zbr a1_)] (bv r):=by
 unfold Zcg at h
 have hH  := hp0
 refine ZaK Zts rfl rfl (Zaj _ _ _ ?_) rfl
 refine sq (rg Z2.f (tq (sq (sq (rg Z2.f (tq (it h (λhc1 h=>?_) (λhc1 h=>?_))))))))
 ·refine sq (rg Z2.f (tq (rt (tr ?_))))
  cases h
  exact Zat kr
 refine sk (tq (kq (sq ?_)))
 obtain ⟨r2,hr2,h⟩:=bs h
 refine rg (Z2.v 2 (ZaH (hc:=ZgZ N a0_ a1_ r2 hr2)) Z2.f) (tq (sq ?_))
 obtain ⟨r3,hr3,h⟩:=bs h
 refine rg (Z2.v 6 (ZaH (hc:=ZhH N (w64 (a1_.From-a0_.From)) r2.2.2 r3 hr3)) Z2.f) (tq (sq (rgX ⟨[(4,bv ((decide (r2.1<=r3))&&(decide (r3<=r2.2.1))))],[],[]⟩ ?_ ?_)))
 ·rcases Bool.eq_false_or_eq_true (decide (r2.1<=r3)) with hc4|hc5
  ·exact (EP.u 2 (Zaa (c:=(decide (r2.1<=r3))) (h:=hc4)) (EP.f (by simp only [hc4];kernel_rfl)))
  exact (EP.u 2 (Zaa (c:=(decide (r2.1<=r3))) (h:=hc5)) (EP.f (by simp only [hc5];kernel_rfl)))
 refine tq (rt ?_)
 cases h
 exact Zat kr
theorem ZiD (N:Nat)(a0_:(List Int))(r:Int×Int)(h:ZcX N a0_=some r):Zbk Try.prog 31 [Z5 false a0_] (.tup [iv r.1,iv r.2]):=by
 unfold ZcX at h
 have hH  := hp0
 refine ZaK ZtD rfl rfl (Zaj _ _ _ ?_) rfl
 refine sq (rg Z2.f (tq (sq ?_)))
 obtain ⟨l3,hl3,h⟩:=bs h
 obtain ⟨a1,H2,ha1,hH2,ha1b,hH⟩:=HP.make ZaE hH hl3
 replace hH:HP _ [.arr a1 3 false (List.map ZaE l3)]:=hH
 have hfa1:=Zcq (HP.get hH 0 rfl)
 refine rgS ⟨[(0,Z5 false a0_),(4,a1)],[],H2⟩ (Z2.u 1 (Z9 (ys:=[Z5 false a0_]) (h:=Zaf eI64)) (Z2.h 0 (ZlT (H:=[]) (zero:=[.int .i64 0,.int .i64 0,.int .i64 0]) (bytes:=24) kr kr kr ha1 hH2 ha1b) Z2.f)) (by cases hfa1<;>kernel_rfl) (tq (sq (sq (rgS ⟨[(4,a1),(10,Z5 false a0_),(11,iv ((List.length a0_:Nat):Int)),(12,iv 0)],[],H2⟩ (Z2.u 1 (Z9 (ys:=[Z5 false a0_]) (h:=Zaf eI64)) Z2.f) (by cases hfa1<;>kernel_rfl) (tq (bk ?_))))))
 obtain ⟨a5,ab,h⟩:=bs h
 refine Zbf ((Za0 (λ(x:Int×(List Z4)) s=>∃ (a4:AV) (H5:List HO),s=⟨[(4,a4),(10,Z5 false a0_),(11,iv ((List.length a0_:Nat):Int)),(12,iv x.1)],[],H5⟩/\HP H5 [.arr a4 3 false (List.map ZaE x.2)]) (λx:Int×(List Z4)=>Zbw N a0_ x.1 x.2) (λ(p:(List Z4)) e s=>e=.exit 0/\(∃ (a2:AV) (aa:List HO),s=⟨[(4,a2)],[],aa⟩/\HP aa [.arr a2 3 false (List.map ZaE p)])) ?_ N _ a5 _ ab ⟨a1,H2,(by show _=_;cases hfa1<;>kernel_rfl),(HP.pick hH [0] rfl)⟩).mono ?_)
 ·clear h ab
  rintro ⟨i6,l7⟩ o s h hR
  obtain ⟨a4,H5,rfl,hH⟩:=hR
  replace hH:HP _ [.arr a4 3 false (List.map ZaE l7)]:=hH
  have hfa4:=Zcq (HP.get hH 0 rfl)
  replace h:Zbw N a0_ i6 l7=some o:=h
  unfold Zbw at h
  refine sq (rgS ⟨[(4,a4),(10,Z5 false a0_),(11,iv ((List.length a0_:Nat):Int)),(12,iv i6),(13,bv (decide (i6<((List.length a0_:Nat):Int))))],[],H5⟩ Z2.f (by cases hfa4<;>kernel_rfl) (tq (sq (it h (λaj h=>?_) (λaj h=>?_)))))
  ·refine sk (tq (kq (sq (bk (sq ?_)))))
   obtain ⟨a0,ad,h⟩:=bs h
   refine rgS ⟨[(4,a4),(5,iv i6),(6,iv a0),(10,Z5 false a0_),(11,iv ((List.length a0_:Nat):Int)),(12,iv i6)],[],H5⟩ (Z2.u 1 (Z9 (ys:=[Z5 false a0_,iv i6]) (h:=Z8 eI64 ad)) (Z2.u 0 (Zas (sz:=1) (off:=0) (cs:=[.int .i64 a0]) (r:=iv a0) eI64 ad) Z2.f)) (by cases hfa4<;>kernel_rfl) (tq ?_)
   obtain ⟨ap,ac,h⟩:=bs h
   obtain ⟨ao,al,_,a8,af,a9,a7⟩:=HP.elem (k:=0) (a:=a4) (sz:=3) (frz:=false) ZaE hH rfl ac
   obtain ⟨ag,ak,hH⟩:=HP.setRow (k:=0) (off:=0) (cs:=[iv a0,iv 0,iv 1]) (ps:=[.int .i64 a0,.int .i64 0,.int .i64 1]) (e':=(Z4.mk a0 0 1)) ZaE hH rfl a9 af (a8 rfl) ac kr kr
   replace hH:HP _ [.arr a4 3 false (List.map ZaE (List.set l7 (Int.toNat i6) (Z4.mk a0 0 1)))]:=hH
   refine rgS ⟨[(4,a4),(10,Z5 false a0_),(11,iv ((List.length a0_:Nat):Int)),(12,iv i6)],[],ag⟩ (Z2.u 4 (Z9 (ys:=[a4,iv i6]) (by cases hfa4<;>kernel_rfl) (a7 .i64)) (Z2.o 0 (Zc2 (H:=H5) (v:=.agg [iv a0,iv 0,iv 1]) (hw:=ak)) Z2.f)) (by cases hfa4<;>kernel_rfl) (bn (tq (rgS ⟨[(4,a4),(10,Z5 false a0_),(11,iv ((List.length a0_:Nat):Int)),(12,iv (w64 (i6+1)))],[],ag⟩ Z2.f (by cases hfa4<;>kernel_rfl) ?_)))
   cases h
   exact ⟨_,rfl,⟨a4,ag,(by show _=_;cases hfa4<;>kernel_rfl),(HP.pick hH [0] rfl)⟩⟩
  refine kq (xq (tx ?_))
  cases h
  exact ⟨_,rfl,rfl,⟨a4,H5,(by show _=_;cases hfa4<;>kernel_rfl),(HP.pick hH [0] rfl)⟩⟩
 rintro e s hq
 obtain ⟨rfl,hR⟩:=hq
 obtain ⟨a2,aa,rfl,hH⟩:=hR
 replace hH:HP _ [.arr a2 3 false (List.map ZaE a5)]:=hH
 have a3:=Zcq (HP.get hH 0 rfl)
 refine bx (tq (sq ?_))
 obtain ⟨ae,ai,h⟩:=bs h
 obtain ⟨an,am,a6,hH⟩:=HP.frz (k:=0) (a:=a2) (sz:=3) (frz:=false) ZaE hH rfl
 replace hH:HP _ [.arr a2 3 true (List.map ZaE a5)]:=hH
 refine rgS ⟨[(2,iv ae.1),(3,iv ae.2)],[],an⟩ (Z2.v 1 (Zgw (H:=aa) (ys:=[a2]) (by cases a3<;>kernel_rfl) (by cases a3<;>kernel_rfl) (Zdc a6 ZgB) (Zgm N a5 ae ai)) Z2.f) kr ?_
 replace hH:HP _ []:=HP.pick hH [] rfl
 refine tq (rt ?_)
 cases h
 exact Zat kr
theorem Zgo (N:Nat)(a0_:Z4)(a1_:Z4)(r:Bool×Int)(h:Zci N a0_ a1_=some r):Zbk Try.prog 37 [.agg (Zbr a0_),.agg (Zbr a1_)] (.tup [bv r.1,iv r.2]):=by
 unfold Zci at h
 have hH  := hp0
 refine ZaK Ztz rfl rfl (Zaj _ _ _ ?_) rfl
 refine sq (rg Z2.f (tq (sq (sq ?_))))
 obtain ⟨r1,hr1,h⟩:=bs h
 refine rg (Z2.v 1 (ZaH (hc:=ZcL N a0_ r1 hr1)) Z2.f) (tq (sq (rg Z2.f (tq (it h (λhc2 h=>?_) (λhc2 h=>?_))))))
 ·refine sq (rg Z2.f (tq (rt (tr ?_))))
  cases h
  exact Zat kr
 refine sk (tq (kq (sq (sq ?_))))
 obtain ⟨r3,hr3,h⟩:=bs h
 refine rg (Z2.v 1 (ZaH (hc:=ZcL N a1_ r3 hr3)) Z2.f) (tq (sq (rg Z2.f (tq (it h (λhc4 h=>?_) (λhc4 h=>?_))))))
 ·refine sq (rg Z2.f (tq (rt (tr ?_))))
  cases h
  exact Zat kr
 refine sk (tq (kq (sq ?_)))
 obtain ⟨r5,hr5,h⟩:=bs h
 refine rg (Z2.v 2 (ZaH (hc:=Zgk N a0_ a1_ r5 hr5)) Z2.f) (tq (rt ?_))
 cases h
 exact Zat kr
theorem ZdT (N:Nat)(a0_:Z1)(r:Int)(h:Zcv N a0_=some r):Zbk Try.prog 21 [.agg (Z0 a0_)] (iv r):=by
 unfold Zcv at h
 have hH  := hp0
 refine ZaK ZtI rfl rfl (Zaj _ _ _ ?_) rfl
 refine sq (rg Z2.f (tq (sq (sq (rgX ⟨[(1,.loc 1 0),(19,bv ((decide (((List.length a0_.Periods:Nat):Int)>12))||(decide (((List.length a0_.Uses:Nat):Int)>192))))],[(1,(Z0 a0_))],[]⟩ ?_ ?_)))))
 ·refine (EP.u 2 (Z9 (ys:=[Z5 false a0_.Periods]) (h:=Zaf eI64)) ?_)
  rcases Bool.eq_false_or_eq_true (decide (((List.length a0_.Periods:Nat):Int)>12)) with hc1|hc2
  ·exact (EP.u 0 (Zaa (c:=(decide (((List.length a0_.Periods:Nat):Int)>12))) (h:=hc1)) (EP.f (by simp only [hc1];kernel_rfl)))
  exact (EP.u 0 (Zaa (c:=(decide (((List.length a0_.Periods:Nat):Int)>12))) (h:=hc2)) (EP.u 3 (Z9 (ys:=[Z6 false a0_.Uses]) (h:=Zaf ZaX)) (EP.f (by simp only [hc2];kernel_rfl))))
 refine tq (it h (λhc3 h=>?_) (λhc3 h=>?_))
 ·refine sq (rg Z2.f (tq (rt (tr ?_))))
  cases h
  exact Zat kr
 refine sk (tq (kq (sq (sq (rg (Z2.u 2 (Z9 (ys:=[Z5 false a0_.Periods]) (h:=Zaf eI64)) Z2.f) (tq (bk ?_)))))))
 obtain ⟨au,al,h⟩:=bs h
 refine Zbf ((Za0 (λ(x:Int) s=>s=⟨[(1,.loc 1 0),(21,Z5 false a0_.Periods),(22,iv ((List.length a0_.Periods:Nat):Int)),(23,iv x)],[(1,(Z0 a0_))],[]⟩) (λx:Int=>ZbV N a0_ x) (λ(p:(Unit)⊕(Int)) e s=>match p with|(.inl p)=>e=.exit 0/\(s=⟨[(1,.loc 1 0)],[(1,(Z0 a0_))],[]⟩)|(.inr p)=>e=.ret/\∃ xs,resL s i21.res=some xs/\Zbu xs=iv p) ?_ N _ au _ al kr).mono ?_)
 ·clear h al
  rintro i4 o s h hR
  obtain rfl:=hR
  replace h:ZbV N a0_ i4=some o:=h
  unfold ZbV at h
  refine sq (rg Z2.f (tq (sq (it h (λay h=>?_) (λay h=>?_)))))
  ·refine sk (tq (kq (sq (bk (sq ?_)))))
   obtain ⟨a6,am,h⟩:=bs h
   refine rg (Z2.u 0 (Z9 (ys:=[Z5 false a0_.Periods,iv i4]) (h:=Z8 eI64 am)) (Z2.u 0 (Zas (sz:=1) (off:=0) (cs:=[.int .i64 a6]) (r:=iv a6) eI64 am) Z2.f)) (tq (sq (rgX ⟨[(1,.loc 1 0),(21,Z5 false a0_.Periods),(22,iv ((List.length a0_.Periods:Nat):Int)),(23,iv i4),(32,bv ((decide (a6<1))||(decide (a6>240))))],[(1,(Z0 a0_))],[]⟩ ?_ ?_)))
   ·rcases Bool.eq_false_or_eq_true (decide (a6<1)) with ao|an
    ·exact (EP.u 1 (Zaa (c:=(decide (a6<1))) (h:=ao)) (EP.f (by simp only [ao];kernel_rfl)))
    exact (EP.u 1 (Zaa (c:=(decide (a6<1))) (h:=an)) (EP.f (by simp only [an];kernel_rfl)))
   refine tq (it h (λax h=>?_) (λax h=>?_))
   ·refine sq (rg Z2.f (tq (rt (br (tr ?_)))))
    cases h
    exact ⟨_,rfl,rfl,Zat kr⟩
   refine sk (bn (tq (kq (rg Z2.f ?_))))
   cases h
   exact ⟨_,rfl,kr⟩
  refine kq (xq (tx ?_))
  cases h
  exact ⟨_,rfl,rfl,kr⟩
 rintro e s hq
 rcases au with aD|aA
 ·dsimp only at h hq
  obtain ⟨rfl,hR⟩:=hq
  obtain rfl:=hR
  refine bx (tq (sq (sq ?_)))
  obtain ⟨az,av,h⟩:=bs h
  refine rg (Z2.v 2 (ZaH (hc:=ZiD N a0_.Periods az av)) Z2.f) (tq (sq (rg Z2.f (tq (it h (λaw h=>?_) (λaw h=>?_))))))
  ·refine sq (rg Z2.f (tq (rt (tr ?_))))
   cases h
   exact Zat kr
  refine sk (tq (kq (sq (sq (rg (Z2.u 2 (Z9 (ys:=[Z6 false a0_.Uses]) (h:=Zaf ZaX)) Z2.f) (tq (bk ?_)))))))
  obtain ⟨ak,a7,h⟩:=bs h
  refine Zbf ((Za0 (λ(x:Int) s=>s=⟨[(1,.loc 1 0),(43,Z6 false a0_.Uses),(44,iv ((List.length a0_.Uses:Nat):Int)),(45,iv x)],[(1,(Z0 a0_))],[]⟩) (λx:Int=>ZbU N a0_ x) (λ(p:(Unit)⊕(Int)) e s=>match p with|(.inl p)=>e=.exit 2/\(s=⟨[],[],[]⟩)|(.inr p)=>e=.ret/\∃ xs,resL s i21.res=some xs/\Zbu xs=iv p) ?_ N _ ak _ a7 kr).mono ?_)
  ·clear h a7
   rintro aj o s h hR
   obtain rfl:=hR
   replace h:ZbU N a0_ aj=some o:=h
   unfold ZbU at h
   refine sq (rg Z2.f (tq (sq (it h (λar h=>?_) (λar h=>?_)))))
   ·refine sk (tq (kq (sq (bk (sq ?_)))))
    obtain ⟨a0,a9,h⟩:=bs h
    refine rg (Z2.u 0 (Z9 (ys:=[Z6 false a0_.Uses,iv aj]) (h:=Z8 ZaX a9)) (Z2.u 0 (Zas (sz:=4) (off:=0) (cs:=[.int .i64 a0.Stream,.int .i64 a0.Port,.int .i64 a0.From,.int .i64 a0.Long]) (r:=.agg (Zaw a0)) ZaX a9) Z2.f)) (tq (sq (sq (rgX ⟨[(1,.loc 1 0),(8,.loc 8 0),(43,Z6 false a0_.Uses),(44,iv ((List.length a0_.Uses:Nat):Int)),(45,iv aj),(69,bv ((decide (a0.Stream<0))||((decide (a0.Stream≥((List.length a0_.Periods:Nat):Int)))||((decide (a0.Port<0))||(decide (a0.Port≥48))))))],[(1,(Z0 a0_)),(8,(Zaw a0))],[]⟩ ?_ ?_))))
    ·rcases Bool.eq_false_or_eq_true (decide (a0.Stream<0)) with ai|a3
     ·exact (EP.u 2 (Zaa (c:=(decide (a0.Stream<0))) (h:=ai)) (EP.f (by simp only [ai];kernel_rfl)))
     refine (EP.u 2 (Zaa (c:=(decide (a0.Stream<0))) (h:=a3)) (EP.u 5 (Z9 (ys:=[Z5 false a0_.Periods]) (h:=Zaf eI64)) ?_))
     rcases Bool.eq_false_or_eq_true (decide (a0.Stream≥((List.length a0_.Periods:Nat):Int))) with ag|a5
     ·exact (EP.u 0 (Zaa (c:=(decide (a0.Stream≥((List.length a0_.Periods:Nat):Int)))) (h:=ag)) (EP.f (by simp only [a3,ag];kernel_rfl)))
     refine (EP.u 0 (Zaa (c:=(decide (a0.Stream≥((List.length a0_.Periods:Nat):Int)))) (h:=a5)) ?_)
     rcases Bool.eq_false_or_eq_true (decide (a0.Port<0)) with af|ae
     ·exact (EP.u 4 (Zaa (c:=(decide (a0.Port<0))) (h:=af)) (EP.f (by simp only [a3,a5,af];kernel_rfl)))
     exact (EP.u 4 (Zaa (c:=(decide (a0.Port<0))) (h:=ae)) (EP.f (by simp only [a3,a5,ae];kernel_rfl)))
    refine tq (it h (λaq h=>?_) (λaq h=>?_))
    ·refine sq (rg Z2.f (tq (rt (tr (br (tr ?_))))))
     cases h
     exact ⟨_,rfl,rfl,Zat kr⟩
    refine sk (tq (kq (sq ?_)))
    obtain ⟨a1,a8,h⟩:=bs h
    refine rg (Z2.u 4 (Z9 (ys:=[Z5 false a0_.Periods,iv a0.Stream]) (h:=Z8 eI64 a8)) (Z2.u 0 (Zas (sz:=1) (off:=0) (cs:=[.int .i64 a1]) (r:=iv a1) eI64 a8) Z2.f)) (tq (sq (rgX ⟨[(1,.loc 1 0),(43,Z6 false a0_.Uses),(44,iv ((List.length a0_.Uses:Nat):Int)),(45,iv aj),(95,bv ((decide (a0.From<0))||((decide (a0.From≥a1))||((decide (a0.Long<1))||(decide (a0.Long>a1))))))],[(1,(Z0 a0_))],[]⟩ ?_ ?_)))
    ·rcases Bool.eq_false_or_eq_true (decide (a0.From<0)) with ad|a2
     ·exact (EP.u 2 (Zaa (c:=(decide (a0.From<0))) (h:=ad)) (EP.f (by simp only [ad];kernel_rfl)))
     refine (EP.u 2 (Zaa (c:=(decide (a0.From<0))) (h:=a2)) ?_)
     rcases Bool.eq_false_or_eq_true (decide (a0.From≥a1)) with ac|a4
     ·exact (EP.u 4 (Zaa (c:=(decide (a0.From≥a1))) (h:=ac)) (EP.f (by simp only [a2,ac];kernel_rfl)))
     refine (EP.u 4 (Zaa (c:=(decide (a0.From≥a1))) (h:=a4)) ?_)
     rcases Bool.eq_false_or_eq_true (decide (a0.Long<1)) with ab|aa
     ·exact (EP.u 4 (Zaa (c:=(decide (a0.Long<1))) (h:=ab)) (EP.f (by simp only [a2,a4,ab];kernel_rfl)))
     exact (EP.u 4 (Zaa (c:=(decide (a0.Long<1))) (h:=aa)) (EP.f (by simp only [a2,a4,aa];kernel_rfl)))
    refine tq (it h (λap h=>?_) (λap h=>?_))
    ·refine sq (rg Z2.f (tq (rt (br (tr ?_)))))
     cases h
     exact ⟨_,rfl,rfl,Zat kr⟩
    refine sk (bn (tq (kq (rg Z2.f ?_))))
    cases h
    exact ⟨_,rfl,kr⟩
   refine kq (xq (tx ?_))
   cases h
   exact ⟨_,rfl,rfl,kr⟩
  rintro e s hq
  rcases ak with aC|aB
  ·dsimp only at h hq
   obtain ⟨rfl,hR⟩:=hq
   obtain rfl:=hR
   refine bx (tq (sq (rg Z2.f (tq (rt ?_)))))
   cases h
   exact Zat kr
  dsimp only at h hq
  obtain ⟨rfl,hq⟩:=hq
  refine br (tr ?_)
  cases h
  exact hq
 dsimp only at h hq
 obtain ⟨rfl,hq⟩:=hq
 refine br (tr ?_)
 cases h
 exact hq
theorem Zd9 (N:Nat)(a0_:Z1)(a1_:Int)(a2_:Int)(a3_:Int)(a4_:Int)(r:Bool)(h:ZbT N a0_ a1_ a2_ a3_ a4_=some r):Zbk Try.prog 27 [.agg (Z0 a0_),iv a1_,iv a2_,iv a3_,iv a4_] (bv r):=by
 unfold ZbT at h
 have hH  := hp0
 refine ZaK ZtF rfl rfl (Zaj _ _ _ ?_) rfl
 refine sq ?_
 obtain ⟨id1,H2,hid1,hH2,hH⟩:=HP.newCell hH (Z0 a0_)
 replace hH:HP _ [.cel id1 (Z0 a0_)]:=hH
 obtain ⟨id3,H4,hid3,hH4,hH⟩:=HP.newCell hH [iv a2_]
 replace hH:HP _ [.cel id3 [iv a2_],.cel id1 (Z0 a0_)]:=hH
 obtain ⟨id5,H6,hid5,hH6,hH⟩:=HP.newCell hH [iv a4_]
 replace hH:HP _ [.cel id5 [iv a4_],.cel id3 [iv a2_],.cel id1 (Z0 a0_)]:=hH
 obtain ⟨id7,H8,hid7,hH8,hH⟩:=HP.newCell hH [bv false]
 replace hH:HP _ [.cel id7 [bv false],.cel id5 [iv a4_],.cel id3 [iv a2_],.cel id1 (Z0 a0_)]:=hH
 refine rgS ⟨[(1,iv a1_),(3,iv a3_),(5,.ptr id1 0),(7,.ptr id3 0),(9,.ptr id5 0),(10,.ptr id7 0)],[],H8⟩ (Z2.h 0 (Ze0 (H:=[]) (v:=.agg (Z0 a0_)) (hid:=hid1) (hH:=hH2)) (Z2.h 0 (Ze0 (H:=H2) (v:=iv a2_) (hid:=hid3) (hH:=hH4)) (Z2.h 0 (Ze0 (H:=H4) (v:=iv a4_) (hid:=hid5) (hH:=hH6)) (Z2.h 0 (ZnC (H:=H6) kr hid7 hH8) Z2.f)))) kr (tq (sq (sq ?_)))
 have hlc9:=HP.get hH 3 rfl
 obtain ⟨a8,aA,h⟩:=bs h
 obtain ⟨a7,a6,a5,a4,ak,ao⟩:=ZiC N a0_ a1_ a3_ H8 a8 aA
 replace hH:HP _ [.cel a7 (Z0 a8.1),.cel a6 [iv a8.2.1],.cel a5 [iv a8.2.2],.cel id7 [bv false],.cel id5 [iv a4_],.cel id3 [iv a2_],.cel id1 (Z0 a0_)]:=HP.callee (fp:=[]) (rest:=[.cel id7 [bv false],.cel id5 [iv a4_],.cel id3 [iv a2_],.cel id1 (Z0 a0_)]) hH ao
 refine rgS ⟨[(5,.ptr id1 0),(7,.ptr id3 0),(9,.ptr id5 0),(10,.ptr id7 0),(18,.fn 47 [] [.ptr a7 0,.ptr a6 0,.ptr a5 0])],[],a4⟩ (Z2.u 0 (ZaF (H:=H8) (id:=id1) (off:=0) (cs:=(Z0 a0_)) (c:=(Z0 a0_)) (r:=.agg (Z0 a0_)) (hl:=hlc9)) (Z2.v 2 (Zdj (H:=H8) (ys:=[.agg (Z0 a0_),iv a1_,iv a3_]) kr kr kr ak) Z2.f)) kr (tq (bk ?_))
 obtain ⟨a0,ap,h⟩:=bs h
 have ab:∀ (a3:Zam) (a2:Zam) (s:(Bool)×Nat) (r:((Bool)×Nat)×Bool) (H:List HO) (its:List ZaL),(λ(s:(Bool)×Nat) (its:List ZaL)=>its=[.cel id7 [bv s.1],.cel id5 [iv a4_],.cel id3 [iv a2_],.cel id1 (Z0 a0_)]++[.lp (List.length a4) (lcOf Try.prog i27.nt [19,20] Zdm Zdl) [(5,.ptr id1 0),(7,.ptr id3 0),(9,.ptr id5 0),(10,.ptr id7 0)] (stAt [.ready,.done .ret] s.2)]) s its->HP H its->(λ(s:(Bool)×Nat) (a3:Zam) (a2:Zam)=>ZgK (λv:Bool=>ZaZ N a0_ a2_ a4_ v a3 a2) s) s a3 a2=some r->∃ H' its',Zku Try.prog (List.length a4) [.agg (Zaw a3),.agg (Zaw a2)] H r.2 H'/\(λ(s:(Bool)×Nat) (its:List ZaL)=>its=[.cel id7 [bv s.1],.cel id5 [iv a4_],.cel id3 [iv a2_],.cel id1 (Z0 a0_)]++[.lp (List.length a4) (lcOf Try.prog i27.nt [19,20] Zdm Zdl) [(5,.ptr id1 0),(7,.ptr id3 0),(9,.ptr id5 0),(10,.ptr id7 0)] (stAt [.ready,.done .ret] s.2)]) r.1 its'/\Fp H H' its its':=by
  clear h
  intro a3 a2 s r ag its hT hH h
  obtain ⟨h0,q,hb,rfl⟩:=ZjZ h
  clear h
  obtain ⟨vs,e⟩:=s
  obtain rfl:e=0:=h0
  obtain ⟨b18,rfl⟩:∃ v,v=vs:=⟨vs,rfl⟩
  obtain rfl:=hT
  replace h:ZaZ N a0_ a2_ a4_ b18 a3 a2=some q:=hb
  clear hb
  unfold ZaZ at h
  replace hH:Fp _ _ _ [.cel id7 [bv b18],.cel id5 [iv a4_],.cel id3 [iv a2_],.cel id1 (Z0 a0_),.lp (List.length a4) (lcOf Try.prog i27.nt [19,20] Zdm Zdl) [(5,.ptr id1 0),(7,.ptr id3 0),(9,.ptr id5 0),(10,.ptr id7 0)] .ready]:=Fp.refl hH
  suffices hs:∃ H',Zku Try.prog (List.length a4) [.agg (Zaw a3),.agg (Zaw a2)] ag (q.2==0) H'/\∃ its',(λ(s:(Bool)×Nat) (its:List ZaL)=>its=[.cel id7 [bv s.1],.cel id5 [iv a4_],.cel id3 [iv a2_],.cel id1 (Z0 a0_)]++[.lp (List.length a4) (lcOf Try.prog i27.nt [19,20] Zdm Zdl) [(5,.ptr id1 0),(7,.ptr id3 0),(9,.ptr id5 0),(10,.ptr id7 0)] (stAt [.ready,.done .ret] s.2)]) q its'/\Fp ag H' [.cel id7 [bv b18],.cel id5 [iv a4_],.cel id3 [iv a2_],.cel id1 (Z0 a0_),.lp (List.length a4) (lcOf Try.prog i27.nt [19,20] Zdm Zdl) [(5,.ptr id1 0),(7,.ptr id3 0),(9,.ptr id5 0),(10,.ptr id7 0)] .ready] its' by
   obtain ⟨H',h1,its',h2,h3⟩:=hs
   exact ⟨H',its',h1,h2,h3⟩
  refine ZlG (id:=(List.length a4)) (args:=[.agg (Zaw a3),.agg (Zaw a2)]) (H:=ag) (n:=i27.nt) (ps:=[19,20]) (fr0:=[(5,.ptr id1 0),(7,.ptr id3 0),(9,.ptr id5 0),(10,.ptr id7 0)]) (ia:=Zdm) (ib:=Zdl) (q.2==0) (λH'=>∃ its',(λ(s:(Bool)×Nat) (its:List ZaL)=>its=[.cel id7 [bv s.1],.cel id5 [iv a4_],.cel id3 [iv a2_],.cel id1 (Z0 a0_)]++[.lp (List.length a4) (lcOf Try.prog i27.nt [19,20] Zdm Zdl) [(5,.ptr id1 0),(7,.ptr id3 0),(9,.ptr id5 0),(10,.ptr id7 0)] (stAt [.ready,.done .ret] s.2)]) q its'/\Fp ag H' [.cel id7 [bv b18],.cel id5 [iv a4_],.cel id3 [iv a2_],.cel id1 (Z0 a0_),.lp (List.length a4) (lcOf Try.prog i27.nt [19,20] Zdm Zdl) [(5,.ptr id1 0),(7,.ptr id3 0),(9,.ptr id5 0),(10,.ptr id7 0)] .ready] its') (Fp.get hH 4 rfl) rfl (by decide +kernel) rfl ?_
  show vc _ _ _ _ ⟨[(5,.ptr id1 0),(7,.ptr id3 0),(9,.ptr id5 0),(10,.ptr id7 0),(19,.agg (Zaw a3)),(20,.agg (Zaw a2))],[],ag⟩
  refine sq (rgS ⟨[(5,.ptr id1 0),(7,.ptr id3 0),(9,.ptr id5 0),(10,.ptr id7 0),(11,.loc 11 0),(20,.agg (Zaw a2))],[(11,(Zaw a3))],ag⟩ Z2.f kr (tq (rgS ⟨[(5,.ptr id1 0),(7,.ptr id3 0),(9,.ptr id5 0),(10,.ptr id7 0),(11,.loc 11 0),(12,.loc 12 0)],[(11,(Zaw a3)),(12,(Zaw a2))],ag⟩ Z2.f kr (ZnV (k:=4) hH rfl ?_))))
  intro a1 hH
  replace hH:Fp _ _ _ [.cel id7 [bv b18],.cel id5 [iv a4_],.cel id3 [iv a2_],.cel id1 (Z0 a0_),.lp (List.length a4) (lcOf Try.prog i27.nt [19,20] Zdm Zdl) [(5,.ptr id1 0),(7,.ptr id3 0),(9,.ptr id5 0),(10,.ptr id7 0)] .busy]:=hH
  show vc _ _ _ _ ⟨[(5,.ptr id1 0),(7,.ptr id3 0),(9,.ptr id5 0),(10,.ptr id7 0),(11,.loc 11 0),(12,.loc 12 0)],[(11,(Zaw a3)),(12,(Zaw a2))],a1⟩
  refine bk (sq (sq (rgS ⟨[(5,.ptr id1 0),(7,.ptr id3 0),(9,.ptr id5 0),(10,.ptr id7 0),(11,.loc 11 0),(12,.loc 12 0),(23,bv ((a3.Stream==a2.Stream)&&((a3.Port==a2.Port)&&((a3.From==a2.From)&&((a3.Long==a2.Long)&&true)))))],[(11,(Zaw a3)),(12,(Zaw a2))],a1⟩ Z2.f kr (tq (it h (λav h=>?_) (λav h=>?_))))))
  ·refine sq ?_
   obtain ⟨aC,ay,hH⟩:=Fp.setCell (k:=0) (off:=0) (cs:=[bv b18]) (vs:=[bv true]) (cs':=[bv true]) hH rfl kr
   replace hH:Fp _ _ _ [.cel id7 [bv true],.cel id5 [iv a4_],.cel id3 [iv a2_],.cel id1 (Z0 a0_),.lp (List.length a4) (lcOf Try.prog i27.nt [19,20] Zdm Zdl) [(5,.ptr id1 0),(7,.ptr id3 0),(9,.ptr id5 0),(10,.ptr id7 0)] .busy]:=hH
   refine rgS ⟨[],[],aC⟩ (Z2.o 0 (Zc2 (H:=a1) (v:=bv true) (hw:=ay)) Z2.f) kr (tq (rt (tr (br ?_))))
   cases h
   exact rbd (k:=4) (.done .ret) hH rfl rfl (λH6 hH=>⟨_,(Eq.refl _),(Fp.pick hH [0,1,2,3,4] rfl)⟩)
  refine sk (tq (kq (sq ?_)))
  have af:=Fp.get hH 3 rfl
  have ae:=Fp.get hH 2 rfl
  obtain ⟨aj,an,h⟩:=bs h
  have ad:=Fp.get hH 3 rfl
  have ac:=Fp.get hH 1 rfl
  obtain ⟨ai,am,h⟩:=bs h
  obtain ⟨aa,al,h⟩:=bs h
  refine rqS ⟨[(10,.ptr id7 0),(13,bv aa.1)],[],a1⟩ (Z2.u 0 (Za5 (ZaF (H:=a1) (id:=id1) (off:=0) (cs:=(Z0 a0_)) (c:=(Z0 a0_)) (r:=.agg (Z0 a0_)) (hl:=af))) (Z2.u 1 (Za5 (ZaF (H:=a1) (id:=id3) (off:=0) (cs:=[iv a2_]) (c:=[iv a2_]) (r:=iv a2_) (hl:=ae))) (Z2.u 0 (ZmU (hc:=Zd7 N a0_ a3 a2_ aj an)) (Z2.u 0 (Za5 (ZaF (H:=a1) (id:=id1) (off:=0) (cs:=(Z0 a0_)) (c:=(Z0 a0_)) (r:=.agg (Z0 a0_)) (hl:=ad))) (Z2.u 1 (Za5 (ZaF (H:=a1) (id:=id5) (off:=0) (cs:=[iv a4_]) (c:=[iv a4_]) (r:=iv a4_) (hl:=ac))) (Z2.v 0 (ZaH (hc:=Zd7 N a0_ a2 a4_ ai am)) (Z2.v 0 (ZaH (hc:=Zgo N aj ai aa al)) Z2.f))))))) kr (tq (sq (rgS ⟨[(10,.ptr id7 0),(37,bv (!aa.1))],[],a1⟩ Z2.f kr (tq (it h (λau h=>?_) (λau h=>?_))))))
  ·refine sq ?_
   obtain ⟨aB,ax,hH⟩:=Fp.setCell (k:=0) (off:=0) (cs:=[bv b18]) (vs:=[bv true]) (cs':=[bv true]) hH rfl kr
   replace hH:Fp _ _ _ [.cel id7 [bv true],.cel id5 [iv a4_],.cel id3 [iv a2_],.cel id1 (Z0 a0_),.lp (List.length a4) (lcOf Try.prog i27.nt [19,20] Zdm Zdl) [(5,.ptr id1 0),(7,.ptr id3 0),(9,.ptr id5 0),(10,.ptr id7 0)] .busy]:=hH
   refine rgS ⟨[],[],aB⟩ (Z2.o 0 (Zc2 (H:=a1) (v:=bv true) (hw:=ax)) Z2.f) kr (tq (rt (br ?_)))
   cases h
   exact rbd (k:=4) (.done .ret) hH rfl rfl (λH6 hH=>⟨_,(Eq.refl _),(Fp.pick hH [0,1,2,3,4] rfl)⟩)
  refine sk (bn ?_)
  cases h
  exact rbd (k:=4) (.ready) hH rfl rfl (λH6 hH=>⟨_,(Eq.refl _),(Fp.pick hH [0,1,2,3,4] rfl)⟩)
 refine ZmN (s:=⟨[(5,.ptr id1 0),(7,.ptr id3 0),(9,.ptr id5 0),(10,.ptr id7 0),(18,.fn 47 [] [.ptr a7 0,.ptr a6 0,.ptr a5 0])],[],a4⟩) [(5,.ptr id1 0),(7,.ptr id3 0),(9,.ptr id5 0),(10,.ptr id7 0)] (FrOK.cons kr kr (FrOK.cons kr kr (FrOK.cons kr kr (FrOK.cons kr kr FrOK.nil)))) kr (λH=>rfl) (capT:=[.cel a7 (Z0 a8.1),.cel a6 [iv a8.2.1],.cel a5 [iv a8.2.2]]) (cells0:=[.cel id7 [bv false],.cel id5 [iv a4_],.cel id3 [iv a2_],.cel id1 (Z0 a0_)]) (rest:=[]) (HP.now (HP.pick hH [0,1,2,3,4,5,6] rfl)) (λ(s:(Bool)×Nat) (its:List ZaL)=>its=[.cel id7 [bv s.1],.cel id5 [iv a4_],.cel id3 [iv a2_],.cel id1 (Z0 a0_)]++[.lp (List.length a4) (lcOf Try.prog i27.nt [19,20] Zdm Zdl) [(5,.ptr id1 0),(7,.ptr id3 0),(9,.ptr id5 0),(10,.ptr id7 0)] (stAt [.ready,.done .ret] s.2)]) (false,0) a0 (by exact (Eq.refl _)) (λH its hT hH=>Zg7 N (λ(s:(Bool)×Nat) (a3:Zam) (a2:Zam)=>ZgK (λv:Bool=>ZaZ N a0_ a2_ a4_ v a3 a2) s) a8.1 a8.2.1 a8.2.2 (false,0) a7 a6 a5 (List.length a4) (λ(s:(Bool)×Nat) (its:List ZaL)=>its=[.cel id7 [bv s.1],.cel id5 [iv a4_],.cel id3 [iv a2_],.cel id1 (Z0 a0_)]++[.lp (List.length a4) (lcOf Try.prog i27.nt [19,20] Zdm Zdl) [(5,.ptr id1 0),(7,.ptr id3 0),(9,.ptr id5 0),(10,.ptr id7 0)] (stAt [.ready,.done .ret] s.2)]) ab H its hT hH a0 ap) ?_
 rintro its hT
 obtain rfl:=hT
 refine ⟨_,_,rfl,?_⟩
 intro a9 hF
 replace hH:HP _ [.cel a7 (Z0 a8.1),.cel a6 [iv a8.2.1],.cel a5 [iv a8.2.2],.cel id7 [bv a0.1],.cel id5 [iv a4_],.cel id3 [iv a2_],.cel id1 (Z0 a0_)]:=HP.after (HP.pick hH [0,1,2,3,4,5,6] rfl) hF
 rcases ZaP h with ⟨ar,h⟩|⟨_,h⟩
 ·refine Zl6 (S:=⟨[(5,.ptr id1 0),(7,.ptr id3 0),(9,.ptr id5 0),(10,.ptr id7 0),(18,.fn 47 [] [.ptr a7 0,.ptr a6 0,.ptr a5 0])],[],a9⟩) (e:=.normal) ar rfl (bn (tq (kq ?_)))
  replace hH:HP _ [.cel id7 [bv a0.1]]:=HP.pick hH [3] rfl
  refine sq ?_
  obtain ⟨az,aw,hH⟩:=HP.setCell (k:=0) (off:=0) (cs:=[bv a0.1]) (vs:=[bv false]) (cs':=[bv false]) hH rfl kr
  replace hH:HP _ [.cel id7 [bv false]]:=hH
  refine rgS ⟨[(10,.ptr id7 0)],[],az⟩ (Z2.o 0 (Zc2 (H:=a9) (v:=bv false) (hw:=aw)) Z2.f) kr (tq (rt ?_))
  obtain rfl:=Zap h
  exact Zj7 (H:=az) (ys:=[bv false]) (xs:=[bv false]) kr (ZkP (r:=.cell 10 1 false) (v:=bv false) (ZkO (id:=id7) (off:=0) (cs:=[bv false]) (c:=[bv false]) kr (HP.get hH 0 rfl) kr kr) ZkQ) (Ze6 rfl ZfK) kr
 rcases ZaP h with ⟨aq,h⟩|⟨_,h⟩
 ·refine Zl6 (S:=⟨[(5,.ptr id1 0),(7,.ptr id3 0),(9,.ptr id5 0),(10,.ptr id7 0),(18,.fn 47 [] [.ptr a7 0,.ptr a6 0,.ptr a5 0])],[],a9⟩) (e:=.ret) aq rfl (br (tr ?_))
  obtain rfl:=Zap h
  exact Zj7 (H:=a9) (ys:=[bv a0.1]) (xs:=[bv a0.1]) kr (ZkP (r:=.cell 10 1 false) (v:=bv a0.1) (ZkO (id:=id7) (off:=0) (cs:=[bv a0.1]) (c:=[bv a0.1]) kr (HP.get hH 3 rfl) kr kr) ZkQ) (Ze6 rfl ZfK) kr
 cases h
theorem Zgs (N:Nat)(a0_:Z1)(a1_:Int)(a2_:Int)(a3_:Int)(a4_:Int)(r:Bool×Int)(h:Zcj N a0_ a1_ a2_ a3_ a4_=some r):Zbk Try.prog 53 [.agg (Z0 a0_),iv a1_,iv a2_,iv a3_,iv a4_] (.tup [bv r.1,iv r.2]):=by
 unfold Zcj at h
 have hH  := hp0
 refine ZaK Ztr rfl rfl (Zaj _ _ _ ?_) rfl
 refine sq (rg Z2.f (tq (sq (sq ?_))))
 obtain ⟨r1,hr1,h⟩:=bs h
 refine rg (Z2.v 1 (ZaH (hc:=ZdT N a0_ r1 hr1)) Z2.f) (tq (sq (rg Z2.f (tq (it h (λhc2 h=>?_) (λhc2 h=>?_))))))
 ·refine sq (rg Z2.f (tq (rt (tr ?_))))
  cases h
  exact Zat kr
 refine sk (tq (kq (sq (sq (rgX ⟨[(1,iv a1_),(2,iv a2_),(3,iv a3_),(4,iv a4_),(5,.loc 5 0),(37,bv ((decide (a1_<0))||((decide (a1_≥((List.length a0_.Periods:Nat):Int)))||((decide (a3_<0))||(decide (a3_≥((List.length a0_.Periods:Nat):Int)))))))],[(5,(Z0 a0_))],[]⟩ ?_ ?_)))))
 ·rcases Bool.eq_false_or_eq_true (decide (a1_<0)) with hc3|hc4
  ·exact (EP.u 1 (Zaa (c:=(decide (a1_<0))) (h:=hc3)) (EP.f (by simp only [hc3];kernel_rfl)))
  refine (EP.u 1 (Zaa (c:=(decide (a1_<0))) (h:=hc4)) (EP.u 4 (Z9 (ys:=[Z5 false a0_.Periods]) (h:=Zaf eI64)) ?_))
  rcases Bool.eq_false_or_eq_true (decide (a1_≥((List.length a0_.Periods:Nat):Int))) with hc5|hc6
  ·exact (EP.u 0 (Zaa (c:=(decide (a1_≥((List.length a0_.Periods:Nat):Int)))) (h:=hc5)) (EP.f (by simp only [hc4,hc5];kernel_rfl)))
  refine (EP.u 0 (Zaa (c:=(decide (a1_≥((List.length a0_.Periods:Nat):Int)))) (h:=hc6)) ?_)
  rcases Bool.eq_false_or_eq_true (decide (a3_<0)) with hc7|hc8
  ·exact (EP.u 3 (Zaa (c:=(decide (a3_<0))) (h:=hc7)) (EP.f (by simp only [hc4,hc6,hc7];kernel_rfl)))
  exact (EP.u 3 (Zaa (c:=(decide (a3_<0))) (h:=hc8)) (EP.u 5 (Z9 (ys:=[Z5 false a0_.Periods]) (h:=Zaf eI64)) (EP.f (by simp only [hc4,hc6,hc8];kernel_rfl))))
 refine tq (it h (λhc9 h=>?_) (λhc9 h=>?_))
 ·refine sq (rg Z2.f (tq (rt (tr ?_))))
  cases h
  exact Zat kr
 refine sk (tq (kq (sq (sq ?_))))
 obtain ⟨ad,hj,h⟩:=bs h
 refine rgR (λs=>s=⟨[(1,iv a1_),(2,iv a2_),(3,iv a3_),(4,iv a4_),(5,.loc 5 0),(59,bv ad)],[(5,(Z0 a0_))],[]⟩) ?_ ?_
 ·clear h
  obtain ⟨a1,a4,hj⟩:=bs hj
  refine (EP.v 3 (ZaH (hc:=Zdv N a0_ a1_ a2_ a1 a4)) ?_)
  rcases ZaP hj with ⟨ab,hj⟩|⟨aa,hj⟩
  ·obtain rfl:=Zap hj
   exact (EP.u 0 (Zaa (c:=(!a1)) (h:=ab)) (EP.f kr))
  refine (EP.u 0 (Zaa (c:=(!a1)) (h:=aa)) ?_)
  obtain ⟨a0,a3,hj⟩:=bs hj
  refine (EP.v 4 (ZaH (hc:=Zdv N a0_ a3_ a4_ a0 a3)) ?_)
  rcases ZaP hj with ⟨a9,hj⟩|⟨a8,hj⟩
  ·obtain rfl:=Zap hj
   exact (EP.u 0 (Zaa (c:=(!a0)) (h:=a9)) (EP.f kr))
  refine (EP.u 0 (Zaa (c:=(!a0)) (h:=a8)) ?_)
  rcases ZaP hj with ⟨a7,hj⟩|⟨a6,hj⟩
  ·obtain rfl:=Zap hj
   exact (EP.u 4 (Zaa (c:=(a1_==a3_)) (h:=a7)) (EP.f kr))
  obtain rfl:=Zap hj
  exact (EP.u 4 (Zaa (c:=(a1_==a3_)) (h:=a6)) (EP.f kr))
 clear hj
 rintro s hR
 obtain rfl:=hR
 refine tq (it h (λa5 h=>?_) (λa5 h=>?_))
 ·refine sq (rg Z2.f (tq (rt (tr ?_))))
  cases h
  exact Zat kr
 refine sk (tq (kq (sq ?_)))
 obtain ⟨ac,a2,h⟩:=bs h
 refine rg (Z2.v 5 (ZaH (hc:=Zd9 N a0_ a1_ a2_ a3_ a4_ ac a2)) Z2.f) (tq (rt ?_))
 cases h
 exact Zat kr
end Go.Sh

