/- Part of the proof. -/
import Derived.Test.YtddgnfnfojoljaaProofMadeSh
import Derived.Test.YtddgnfnfojoljaaProofMadeChk
set_option linter.all false
namespace Go.Sh
open Go Go.Eng Go.Proofs
set_option maxRecDepth 100000
set_option maxHeartbeats 4000000
attribute [local irreducible] vc ev ZeM opsD opsF Zgm upd updH updO
theorem Zez (N:Nat)(a0_:Zbx)(r:Z5)(h:Zbw N a0_=some r):Zbr Try.prog 8 [.agg (ZaN a0_)] (.agg [Zah false r.Periods,Zab false r.Uses]):=by
 unfold Zbw at h
 have hH  := hp0
 refine ZaI chk8 rfl rfl (Zat _ _ _ ?_) rfl
 refine sq (rg Z3.f (tq (sq (rg Z3.f (tq (sq (sq (rg Z3.f (tq (bk ?_))))))))))
 obtain ⟨a5,az,h⟩:=bs h
 refine Za0 ((ZaM (λ(x:Int×(List Int)) s=>∃ (a1:AV) (H2:List HO),s=⟨[(1,.loc 1 0),(2,.loc 2 0),(3,.loc 3 0),(4,iv x.1)],[(1,(ZaN a0_)),(2,[Zah true [],Zab true []]),(3,[a1,Zab true []])],H2⟩/\HP H2 [.arr a1 1 false (List.map eI64 x.2)]) (λx:Int×(List Int)=>ZaY N a0_ x.1 x.2) (λ(p:(List Int)) e s=>e=.exit 0/\(∃ (ak:AV) (ar:List HO),s=⟨[(1,.loc 1 0),(2,.loc 2 0),(3,.loc 3 0)],[(1,(ZaN a0_)),(2,[Zah true [],Zab true []]),(3,[ak,Zab true []])],ar⟩/\HP ar [.arr ak 1 false (List.map eI64 p)])) ?_ N _ a5 _ az ⟨(.p (.sl 1 true [])),[],kr,(HP.pick (HP.nilArr hH 1 false) [0] rfl)⟩).mono ?_)
 ·clear h az
  rintro ⟨i3,l4⟩ o s h hR
  obtain ⟨a1,H2,rfl,hH⟩:=hR
  replace hH:HP _ [.arr a1 1 false (List.map eI64 l4)]:=hH
  have hfa1:=Zbv (HP.get hH 0 rfl)
  replace h:ZaY N a0_ i3 l4=some o:=h
  unfold ZaY at h
  refine sq (sq (rgX ⟨[(1,.loc 1 0),(2,.loc 2 0),(3,.loc 3 0),(4,iv i3),(17,bv ((decide (i3<((List.length a0_.Periods:Nat):Int)))&&(decide (i3<5))))],[(1,(ZaN a0_)),(2,[Zah true [],Zab true []]),(3,[a1,Zab true []])],H2⟩ ?_ ?_))
  ·refine (EP.u 3 (Zac (ys:=[Zk2 false a0_.Periods]) (h:=Zas (eI .u8))) ?_)
   rcases Bool.eq_false_or_eq_true (decide (i3<((List.length a0_.Periods:Nat):Int))) with aD|aC
   ·exact (EP.u 0 (Zad (c:=(decide (i3<((List.length a0_.Periods:Nat):Int)))) (h:=aD)) (EP.f (by simp only [aD];cases hfa1<;>kernel_rfl)))
   exact (EP.u 0 (Zad (c:=(decide (i3<((List.length a0_.Periods:Nat):Int)))) (h:=aC)) (EP.f (by simp only [aC];cases hfa1<;>kernel_rfl)))
  refine tq (it h (λbd h=>?_) (λbd h=>?_))
  ·refine sk (tq (kq (sq (bk ?_))))
   obtain ⟨aV,aB,h⟩:=bs h
   obtain ⟨aU,aA,h⟩:=bs h
   obtain ⟨bi,ba,h⟩:=bs h
   obtain ⟨ay,aW,be,hH⟩:=HP.app (k:=0) (a:=a1) (sz:=1) (frz:=false) eI64 hH rfl ba
   replace hH:HP _ [.arr ay 1 false (List.map eI64 bi)]:=hH
   have af:=Zbv (HP.get hH 0 rfl)
   refine rqS ⟨[(1,.loc 1 0),(2,.loc 2 0),(3,.loc 3 0),(4,iv i3)],[(1,(ZaN a0_)),(2,[Zah true [],Zab true []]),(3,[ay,Zab true []])],aW⟩ (Z3.u (hm:=(by cases hfa1<;>kernel_rfl)) 6 (Zac (ys:=[Zk2 false a0_.Periods,iv i3]) (by cases hfa1<;>kernel_rfl) (Zae (eI .u8) aB)) (Z3.u (hm:=(by cases hfa1<;>kernel_rfl)) 0 (ZaV (Zav (sz:=1) (off:=0) (cs:=[.int .u8 aV]) (r:=.p (.int .u8 aV)) (eI .u8) aB (by cases hfa1<;>kernel_rfl) (by cases hfa1<;>kernel_rfl) (by cases hfa1<;>kernel_rfl)) (by cases hfa1<;>kernel_rfl)) (Z3.u (hm:=(by cases hfa1<;>kernel_rfl)) 1 (Zac (ys:=[Zah true [4,6,8,12,3,5,10,24],.p (.int .u8 (Int.tmod aV 8))]) (by cases hfa1<;>kernel_rfl) (Zae eI64 aA)) (Z3.u (hm:=(by cases hfa1<;>kernel_rfl)) 0 (ZaV (Zav (sz:=1) (off:=0) (cs:=[.int .i64 aU]) (r:=iv aU) eI64 aA (by cases hfa1<;>kernel_rfl) (by cases hfa1<;>kernel_rfl) (by cases hfa1<;>kernel_rfl)) (by cases hfa1<;>kernel_rfl)) (Z3.h (hm:=(by cases hfa1<;>kernel_rfl)) 1 (ZdO (H:=H2) (a:=a1) (b:=Zah true [aU]) (by cases hfa1<;>kernel_rfl) (by cases hfa1<;>kernel_rfl) (by cases hfa1<;>kernel_rfl) (by cases hfa1<;>kernel_rfl) be) (Z3.f (h:=(by cases hfa1<;>cases af<;>kernel_rfl)))))))) (by cases hfa1<;>cases af<;>kernel_rfl) (bn (tq (rgS ⟨[(1,.loc 1 0),(2,.loc 2 0),(3,.loc 3 0),(4,iv (w64 (i3+1)))],[(1,(ZaN a0_)),(2,[Zah true [],Zab true []]),(3,[ay,Zab true []])],aW⟩ Z3.f (by cases af<;>kernel_rfl) ?_)))
   cases h
   exact ⟨_,rfl,⟨ay,aW,(by show _=_;cases af<;>kernel_rfl),(HP.pick hH [0] rfl)⟩⟩
  refine kq (xq (tx ?_))
  cases h
  exact ⟨_,rfl,rfl,⟨a1,H2,(by show _=_;cases hfa1<;>kernel_rfl),(HP.pick hH [0] rfl)⟩⟩
 rintro e s hq
 obtain ⟨rfl,hR⟩:=hq
 obtain ⟨ak,ar,rfl,hH⟩:=hR
 replace hH:HP _ [.arr ak 1 false (List.map eI64 a5)]:=hH
 have ao:=Zbv (HP.get hH 0 rfl)
 refine bx (tq (sq (sq (rgS ⟨[(1,.loc 1 0),(2,.loc 2 0),(3,.loc 3 0),(5,iv 0)],[(1,(ZaN a0_)),(2,[Zah true [],Zab true []]),(3,[ak,Zab true []])],ar⟩ Z3.f (by cases ao<;>kernel_rfl) (tq (bk ?_))))))
 obtain ⟨al,am,h⟩:=bs h
 refine Za0 ((ZaM (λ(x:Int×(List Zaz)) s=>∃ (a3:AV) (aa:AV) (ab:List HO),s=⟨[(1,.loc 1 0),(2,.loc 2 0),(3,.loc 3 0),(5,iv x.1)],[(1,(ZaN a0_)),(2,[Zah true [],Zab true []]),(3,[a3,aa])],ab⟩/\HP ab [.arr a3 1 false (List.map eI64 a5),.arr aa 4 false (List.map ZaB x.2)]) (λx:Int×(List Zaz)=>ZaX N a0_ a5 x.1 x.2) (λ(p:(List Zaz)) e s=>e=.exit 2/\(∃ (ae:AV) (ad:AV) (ag:List HO),s=⟨[(2,.loc 2 0),(3,.loc 3 0)],[(2,[Zah true [],Zab true []]),(3,[ae,ad])],ag⟩/\HP ag [.arr ae 1 false (List.map eI64 a5),.arr ad 4 false (List.map ZaB p)])) ?_ N _ al _ am ⟨ak,(.p (.sl 4 true [])),ar,(by show _=_;cases ao<;>kernel_rfl),(HP.pick (HP.nilArr hH 4 false) [1,0] rfl)⟩).mono ?_)
 ·clear h am
  rintro ⟨a6,b0⟩ o s h hR
  obtain ⟨a3,aa,ab,rfl,hH⟩:=hR
  replace hH:HP _ [.arr a3 1 false (List.map eI64 a5),.arr aa 4 false (List.map ZaB b0)]:=hH
  have a0:=Zbv (HP.get hH 0 rfl)
  have a2:=Zbv (HP.get hH 1 rfl)
  replace h:ZaX N a0_ a5 a6 b0=some o:=h
  unfold ZaX at h
  refine sq (sq ?_)
  obtain ⟨b2,hj,h⟩:=bs h
  refine rgR (λs=>s=⟨[(1,.loc 1 0),(2,.loc 2 0),(3,.loc 3 0),(5,iv a6),(48,bv b2)],[(1,(ZaN a0_)),(2,[Zah true [],Zab true []]),(3,[a3,aa])],ab⟩) ?_ ?_
  ·clear h
   refine (EP.u 3 (Zac (ys:=[Zfr false a0_.Uses]) (h:=Zas Zeb)) ?_)
   rcases ZaJ hj with ⟨aS,hj⟩|⟨aM,hj⟩
   ·refine (EP.u 0 (Zad (c:=(decide (a6<((List.length a0_.Uses:Nat):Int)))) (h:=aS)) ?_)
    rcases ZaJ hj with ⟨aR,hj⟩|⟨aQ,hj⟩
    ·refine (EP.u 2 (Zad (c:=(decide (a6<12))) (h:=aR)) ?_)
     have aw:=HP.len (k:=0) (a:=a3) (sz:=1) (frz:=false) (l:=a5) eI64 hH rfl
     obtain rfl:=Zao hj
     exact (EP.u (hm:=(by cases a0<;>cases a2<;>kernel_rfl)) 4 (Zac (ys:=[a3]) (by cases a0<;>cases a2<;>kernel_rfl) aw) (EP.f (by show _=_;cases a0<;>cases a2<;>kernel_rfl) (h:=(by cases a0<;>cases a2<;>kernel_rfl))))
    obtain rfl:=Zao hj
    exact (EP.u 2 (Zad (c:=(decide (a6<12))) (h:=aQ)) (EP.f (by show _=_;cases a0<;>cases a2<;>kernel_rfl)))
   obtain rfl:=Zao hj
   exact (EP.u 0 (Zad (c:=(decide (a6<((List.length a0_.Uses:Nat):Int)))) (h:=aM)) (EP.f (by show _=_;cases a0<;>cases a2<;>kernel_rfl)))
  clear hj
  rintro s hR
  obtain rfl:=hR
  refine tq (it h (λaL h=>?_) (λaL h=>?_))
  ·refine sk (tq (kq (sq (bk (sq ?_)))))
   obtain ⟨a4,aq,h⟩:=bs h
   refine rgS ⟨[(1,.loc 1 0),(2,.loc 2 0),(3,.loc 3 0),(5,iv a6),(6,.loc 6 0)],[(1,(ZaN a0_)),(2,[Zah true [],Zab true []]),(3,[a3,aa]),(6,(Zf2 a4))],ab⟩ (Z3.u 3 (Zac (ys:=[Zfr false a0_.Uses,iv a6]) (h:=Zae Zeb aq)) (Z3.u 0 (Zav (sz:=4) (off:=0) (cs:=[.int .u8 a4.x0,.int .u8 a4.x1,.int .u8 a4.x2,.int .u8 a4.x3]) (r:=.agg (Zf2 a4)) Zeb aq) Z3.f)) (by cases a0<;>cases a2<;>kernel_rfl) (tq (sq ?_))
   have av:=HP.len (k:=0) (a:=a3) (sz:=1) (frz:=false) (l:=a5) eI64 hH rfl
   obtain ⟨ai,aJ,h⟩:=bs h
   refine rgS ⟨[(1,.loc 1 0),(2,.loc 2 0),(3,.loc 3 0),(5,iv a6),(6,.loc 6 0),(7,iv ai)],[(1,(ZaN a0_)),(2,[Zah true [],Zab true []]),(3,[a3,aa]),(6,(Zf2 a4))],ab⟩ (Z3.u (hm:=(by cases a0<;>cases a2<;>kernel_rfl)) 5 (Zac (ys:=[a3]) (by cases a0<;>cases a2<;>kernel_rfl) av) (Z3.u (hm:=(by cases a0<;>cases a2<;>kernel_rfl)) 0 (Zac (ys:=[iv (w64 (a4.x0)),iv ((List.length a5:Nat):Int)]) (by cases a0<;>cases a2<;>kernel_rfl) (Za3 aJ)) (Z3.f (h:=(by cases a0<;>cases a2<;>kernel_rfl))))) (by cases a0<;>cases a2<;>kernel_rfl) (tq (sq ?_))
   obtain ⟨ac,ap,h⟩:=bs h
   obtain ⟨bj,bf,_,bb,ax,bc,an⟩:=HP.elem (k:=0) (a:=a3) (sz:=1) (frz:=false) eI64 hH rfl ap
   refine rgS ⟨[(1,.loc 1 0),(2,.loc 2 0),(3,.loc 3 0),(5,iv a6),(6,.loc 6 0),(7,iv ai),(8,iv ac)],[(1,(ZaN a0_)),(2,[Zah true [],Zab true []]),(3,[a3,aa]),(6,(Zf2 a4))],ab⟩ (Z3.u (hm:=(by cases a0<;>cases a2<;>kernel_rfl)) 3 (Zac (ys:=[a3,iv ai]) (by cases a0<;>cases a2<;>kernel_rfl) (an .i64)) (Z3.u (hm:=(by cases a0<;>cases a2<;>kernel_rfl)) 0 (Zei (H:=ab) (off:=0) (cs:=[.int .i64 ac]) (r:=iv ac) eI64 ap ax (by cases a0<;>cases a2<;>kernel_rfl) (by cases a0<;>cases a2<;>kernel_rfl) (by cases a0<;>cases a2<;>kernel_rfl) (by cases a0<;>cases a2<;>kernel_rfl)) (Z3.f (h:=(by cases a0<;>cases a2<;>kernel_rfl))))) (by cases a0<;>cases a2<;>kernel_rfl) (tq ?_)
   obtain ⟨aZ,aI,h⟩:=bs h
   obtain ⟨aY,aG,h⟩:=bs h
   obtain ⟨aX,aE,h⟩:=bs h
   obtain ⟨b1,aK,h⟩:=bs h
   obtain ⟨aj,au,aT,hH⟩:=HP.app (k:=1) (a:=aa) (sz:=4) (frz:=false) ZaB hH rfl aK
   replace hH:HP _ [.arr a3 1 false (List.map eI64 a5),.arr aj 4 false (List.map ZaB b1)]:=hH
   have a7:=Zbv (HP.get hH 1 rfl)
   refine rqS ⟨[(1,.loc 1 0),(2,.loc 2 0),(3,.loc 3 0),(5,iv a6)],[(1,(ZaN a0_)),(2,[Zah true [],Zab true []]),(3,[a3,aj])],au⟩ (Z3.u (hm:=(by cases a0<;>cases a2<;>kernel_rfl)) 11 (Zac (ys:=[iv (w64 (a4.x2)),iv ac]) (by cases a0<;>cases a2<;>kernel_rfl) (Za3 aI)) (Z3.u (hm:=(by cases a0<;>cases a2<;>kernel_rfl)) 4 (Zac (ys:=[iv (w64 (a4.x3)),iv ac]) (by cases a0<;>cases a2<;>kernel_rfl) (Za3 aG)) (Z3.u (hm:=(by cases a0<;>cases a2<;>kernel_rfl)) 2 (Zac (ys:=[iv (Int.tmod aY 4),iv ac]) (by cases a0<;>cases a2<;>kernel_rfl) (Za3 aE)) (Z3.h (hm:=(by cases a0<;>cases a2<;>kernel_rfl)) 3 (ZdO (H:=ab) (a:=aa) (b:=Zab true [(Zaz.mk ai (w64 ((Int.tmod a4.x1 4))) aZ (w64 (1+aX)))]) (by cases a0<;>cases a2<;>kernel_rfl) (by cases a0<;>cases a2<;>kernel_rfl) (by cases a0<;>cases a2<;>kernel_rfl) (by cases a0<;>cases a2<;>kernel_rfl) aT) (Z3.f (h:=(by cases a7<;>cases a0<;>cases a2<;>kernel_rfl))))))) (by cases a7<;>cases a0<;>cases a2<;>kernel_rfl) (bn (tq (rgS ⟨[(1,.loc 1 0),(2,.loc 2 0),(3,.loc 3 0),(5,iv (w64 (a6+1)))],[(1,(ZaN a0_)),(2,[Zah true [],Zab true []]),(3,[a3,aj])],au⟩ Z3.f (by cases a7<;>cases a0<;>kernel_rfl) ?_)))
   cases h
   exact ⟨_,rfl,⟨a3,aj,au,(by show _=_;cases a7<;>cases a0<;>kernel_rfl),(HP.pick hH [0,1] rfl)⟩⟩
  refine kq (xq (tx ?_))
  cases h
  exact ⟨_,rfl,rfl,⟨a3,aa,ab,(by show _=_;cases a0<;>cases a2<;>kernel_rfl),(HP.pick hH [0,1] rfl)⟩⟩
 rintro e s hq
 obtain ⟨rfl,hR⟩:=hq
 obtain ⟨ae,ad,ag,rfl,hH⟩:=hR
 replace hH:HP _ [.arr ae 1 false (List.map eI64 a5),.arr ad 4 false (List.map ZaB al)]:=hH
 have a9:=Zbv (HP.get hH 0 rfl)
 have a8:=Zbv (HP.get hH 1 rfl)
 refine bx (tq (sq (rgS ⟨[(2,.loc 2 0)],[(2,[ae,ad])],ag⟩ (Z3.f (h:=(by cases a9<;>cases a8<;>kernel_rfl))) (by cases a9<;>cases a8<;>kernel_rfl) (tq (rt ?_)))))
 obtain rfl:=Zao h
 exact ZeF (H:=ag) (ys:=[.agg [ae,ad]]) (xs:=[.agg [.p (.sl 1 false (List.map eI64 a5)),.p (.sl 4 false (List.map ZaB al))]]) (by cases a9<;>cases a8<;>kernel_rfl) (by cases a9<;>cases a8<;>kernel_rfl) (ZbX (Zj7 (Ze2 (HP.pure (k:=0) (frz:=false) eI64 hH rfl).1 (Ze2 (HP.pure (k:=1) (frz:=false) ZaB hH rfl).1 Zj8))) ZcA) kr
theorem Ziw (N:Nat)(r:Z5)(h:Zfz N=some r):Zbr Try.prog 18 [] (.agg [Zah false r.Periods,Zab false r.Uses]):=by
 unfold Zfz at h
 have hH  := hp0
 refine ZaI ZwE rfl rfl (Zat _ _ _ ?_) rfl
 refine sq (rg Z3.f (tq (sq (rg Z3.f (tq (rt ?_))))))
 cases h
 exact ZaD kr
theorem ZbA (N:Nat)(a0_:Int)(a1_:(List ZaZ))(r:Z4)(h:ZbD N a0_ a1_=some r):Zbr Try.prog 19 [iv a0_,Zbs false a1_] (.agg [iv r.Stream,Zap false r.Arms]):=by
 unfold ZbD at h
 have hH  := hp0
 refine ZaI ZwD rfl rfl (Zat _ _ _ ?_) rfl
 refine sq (rg Z3.f (tq (sq (rg Z3.f (tq (sq (sq (rg Z3.f (tq (bk ?_))))))))))
 obtain ⟨ab,a6,h⟩:=bs h
 refine Za0 ((ZaM (λ(x:Int×(List Zak)) s=>∃ (a1:AV) (H2:List HO),s=⟨[(1,Zbs false a1_),(4,.loc 4 0),(5,.loc 5 0),(6,iv x.1)],[(4,[iv 0,Zap true []]),(5,[iv a0_,a1])],H2⟩/\HP H2 [.arr a1 4 false (List.map Zaj x.2)]) (λx:Int×(List Zak)=>ZcU N a1_ x.1 x.2) (λ(p:(List Zak)) e s=>e=.exit 0/\(∃ (a3:AV) (a4:List HO),s=⟨[(4,.loc 4 0),(5,.loc 5 0)],[(4,[iv 0,Zap true []]),(5,[iv a0_,a3])],a4⟩/\HP a4 [.arr a3 4 false (List.map Zaj p)])) ?_ N _ ab _ a6 ⟨(.p (.sl 4 true [])),[],kr,(HP.pick (HP.nilArr hH 4 false) [0] rfl)⟩).mono ?_)
 ·clear h a6
  rintro ⟨i3,l4⟩ o s h hR
  obtain ⟨a1,H2,rfl,hH⟩:=hR
  replace hH:HP _ [.arr a1 4 false (List.map Zaj l4)]:=hH
  have hfa1:=Zbv (HP.get hH 0 rfl)
  replace h:ZcU N a1_ i3 l4=some o:=h
  unfold ZcU at h
  refine sq (sq (rgS ⟨[(1,Zbs false a1_),(4,.loc 4 0),(5,.loc 5 0),(6,iv i3),(12,bv (decide (i3<((List.length a1_:Nat):Int))))],[(4,[iv 0,Zap true []]),(5,[iv a0_,a1])],H2⟩ (Z3.u 2 (Zac (ys:=[Zbs false a1_]) (h:=Zas Zca)) Z3.f) (by cases hfa1<;>kernel_rfl) (tq (it h (λaj h=>?_) (λaj h=>?_)))))
  ·refine sk (tq (kq (sq (bk ?_))))
   obtain ⟨af,aa,h⟩:=bs h
   obtain ⟨ae,a9,h⟩:=bs h
   obtain ⟨ad,a8,h⟩:=bs h
   obtain ⟨ac,a7,h⟩:=bs h
   obtain ⟨al,ai,h⟩:=bs h
   obtain ⟨a5,ag,ak,hH⟩:=HP.app (k:=0) (a:=a1) (sz:=4) (frz:=false) Zaj hH rfl ai
   replace hH:HP _ [.arr a5 4 false (List.map Zaj al)]:=hH
   have a0:=Zbv (HP.get hH 0 rfl)
   refine rqS ⟨[(1,Zbs false a1_),(4,.loc 4 0),(5,.loc 5 0),(6,iv i3)],[(4,[iv 0,Zap true []]),(5,[iv a0_,a5])],ag⟩ (Z3.u (hm:=(by cases hfa1<;>kernel_rfl)) 4 (Zac (ys:=[Zbs false a1_,iv i3]) (by cases hfa1<;>kernel_rfl) (Zae Zca aa)) (Z3.u (hm:=(by cases hfa1<;>kernel_rfl)) 1 (ZaV (Zav (sz:=4) (off:=0) (cs:=[.int .i64 af.x0]) (r:=iv af.x0) Zca aa (by cases hfa1<;>kernel_rfl) (by cases hfa1<;>kernel_rfl) (by cases hfa1<;>kernel_rfl)) (by cases hfa1<;>kernel_rfl)) (Z3.u (hm:=(by cases hfa1<;>kernel_rfl)) 2 (Zac (ys:=[Zbs false a1_,iv i3]) (by cases hfa1<;>kernel_rfl) (Zae Zca a9)) (Z3.u (hm:=(by cases hfa1<;>kernel_rfl)) 1 (ZaV (Zav (sz:=4) (off:=1) (cs:=[.int .i64 ae.x1]) (r:=iv ae.x1) Zca a9 (by cases hfa1<;>kernel_rfl) (by cases hfa1<;>kernel_rfl) (by cases hfa1<;>kernel_rfl)) (by cases hfa1<;>kernel_rfl)) (Z3.u (hm:=(by cases hfa1<;>kernel_rfl)) 2 (Zac (ys:=[Zbs false a1_,iv i3]) (by cases hfa1<;>kernel_rfl) (Zae Zca a8)) (Z3.u (hm:=(by cases hfa1<;>kernel_rfl)) 1 (ZaV (Zav (sz:=4) (off:=2) (cs:=[.int .i64 ad.x2]) (r:=iv ad.x2) Zca a8 (by cases hfa1<;>kernel_rfl) (by cases hfa1<;>kernel_rfl) (by cases hfa1<;>kernel_rfl)) (by cases hfa1<;>kernel_rfl)) (Z3.u (hm:=(by cases hfa1<;>kernel_rfl)) 2 (Zac (ys:=[Zbs false a1_,iv i3]) (by cases hfa1<;>kernel_rfl) (Zae Zca a7)) (Z3.u (hm:=(by cases hfa1<;>kernel_rfl)) 1 (ZaV (Zav (sz:=4) (off:=3) (cs:=[.int .i64 ac.x3]) (r:=iv ac.x3) Zca a7 (by cases hfa1<;>kernel_rfl) (by cases hfa1<;>kernel_rfl) (by cases hfa1<;>kernel_rfl)) (by cases hfa1<;>kernel_rfl)) (Z3.h (hm:=(by cases hfa1<;>kernel_rfl)) 2 (ZdO (H:=H2) (a:=a1) (b:=Zap true [(Zak.mk af.x0 ae.x1 ad.x2 ac.x3)]) (by cases hfa1<;>kernel_rfl) (by cases hfa1<;>kernel_rfl) (by cases hfa1<;>kernel_rfl) (by cases hfa1<;>kernel_rfl) ak) (Z3.f (h:=(by cases hfa1<;>cases a0<;>kernel_rfl)))))))))))) (by cases hfa1<;>cases a0<;>kernel_rfl) (bn (tq (rgS ⟨[(1,Zbs false a1_),(4,.loc 4 0),(5,.loc 5 0),(6,iv (w64 (i3+1)))],[(4,[iv 0,Zap true []]),(5,[iv a0_,a5])],ag⟩ Z3.f (by cases a0<;>kernel_rfl) ?_)))
   cases h
   exact ⟨_,rfl,⟨a5,ag,(by show _=_;cases a0<;>kernel_rfl),(HP.pick hH [0] rfl)⟩⟩
  refine kq (xq (tx ?_))
  cases h
  exact ⟨_,rfl,rfl,⟨a1,H2,(by show _=_;cases hfa1<;>kernel_rfl),(HP.pick hH [0] rfl)⟩⟩
 rintro e s hq
 obtain ⟨rfl,hR⟩:=hq
 obtain ⟨a3,a4,rfl,hH⟩:=hR
 replace hH:HP _ [.arr a3 4 false (List.map Zaj ab)]:=hH
 have a2:=Zbv (HP.get hH 0 rfl)
 refine bx (tq (sq (rgS ⟨[(4,.loc 4 0)],[(4,[iv a0_,a3])],a4⟩ (Z3.f (h:=(by cases a2<;>kernel_rfl))) (by cases a2<;>kernel_rfl) (tq (rt ?_)))))
 obtain rfl:=Zao h
 exact ZeF (H:=a4) (ys:=[.agg [iv a0_,a3]]) (xs:=[.agg [iv a0_,.p (.sl 4 false (List.map Zaj ab))]]) (by cases a2<;>kernel_rfl) (by cases a2<;>kernel_rfl) (ZbX (Zj7 (Ze2 rfl (Ze2 (HP.pure (k:=0) (frz:=false) Zaj hH rfl).1 Zj8))) ZcA) kr
theorem Zkb (N:Nat)(a0_:Z4)(a1_:Int)(r:Zak)(h:ZhF N a0_ a1_=some r):Zbr Try.prog 30 [.agg (Zdm a0_),iv a1_] (.agg [iv r.From,iv r.To,iv r.By,iv r.Next]):=by
 unfold ZhF at h
 have hH  := hp0
 refine ZaI Zwx rfl rfl (Zat _ _ _ ?_) rfl
 refine sq (rg Z3.f (tq (Zlx (EvI.scope (sq (rg Z3.f (tq (sq (Zly (tq (sq (sq (rg (Z3.u 2 (Zac (ys:=[Zap false a0_.Arms]) (h:=Zas Zaj)) Z3.f) (tq (bk ?_)))))))))))))))
 obtain ⟨a5,a1,h⟩:=bs h
 refine Za0 ((ZaM (λ(x:Int) s=>s=⟨[(1,iv a1_),(4,.loc 4 0),(5,.loc 5 0),(9,Zap false a0_.Arms),(10,iv ((List.length a0_.Arms:Nat):Int)),(11,iv x)],[(4,[iv 0,iv 0,iv 0,iv 0]),(5,[iv 0,iv 0,iv 0,iv 0])],[]⟩) (λx:Int=>ZdT N a0_ a1_ x) (λ(p:Int×Int×Int×Int) e s=>e=.exit 0/\(s=⟨[(4,.loc 4 0),(5,.loc 5 0)],[(4,[iv 0,iv 0,iv 0,iv 0]),(5,[iv p.1,iv p.2.1,iv p.2.2.1,iv p.2.2.2])],[]⟩)) ?_ N _ a5 _ a1 kr).mono ?_)
 ·clear h a1
  rintro i1 o s h hR
  obtain rfl:=hR
  replace h:ZdT N a0_ a1_ i1=some o:=h
  unfold ZdT at h
  refine sq (rg Z3.f (tq (sq (it h (λa4 h=>?_) (λa4 h=>?_)))))
  ·refine sk (tq (kq (sq (bk (sq ?_)))))
   obtain ⟨a0,a2,h⟩:=bs h
   refine rg (Z3.u 0 (Zac (ys:=[Zap false a0_.Arms,iv i1]) (h:=Zae Zaj a2)) (Z3.u 0 (Zav (sz:=4) (off:=0) (cs:=[.int .i64 a0.From,.int .i64 a0.To,.int .i64 a0.By,.int .i64 a0.Next]) (r:=.agg (Zbc a0)) Zaj a2) Z3.f)) (tq (bk (sq (rg Z3.f (tq (it h (λa3 h=>?_) (λa3 h=>?_)))))))
   ·refine sq (rg Z3.f (tq (kq (xq (bo (bo (tx ?_)))))))
    cases h
    exact ⟨_,rfl,rfl,kr⟩
   refine sk (bn (bn (tq (kq (rg Z3.f ?_)))))
   cases h
   exact ⟨_,rfl,kr⟩
  refine kq (xq (tx ?_))
  cases h
  exact ⟨_,rfl,rfl,kr⟩
 rintro e s hq
 obtain ⟨rfl,hR⟩:=hq
 obtain rfl:=hR
 refine bx (tq (sq (rg Z3.f (tq (rt (nr ?_))))))
 cases h
 exact ZaD kr
theorem Zgz (N:Nat)(a0_:Int)(a1_:Int)(r:Int)(h:Zea N a0_ a1_=some r):Zbr Try.prog 31 [iv a0_,iv a1_] (iv r):=by
 unfold Zea at h
 have hH  := hp0
 refine ZaI Zww rfl rfl (Zat _ _ _ ?_) rfl
 refine sq (rg Z3.f (tq (sq ?_)))
 obtain ⟨m1,hm1,h⟩:=bs h
 obtain ⟨m2,hm2,h⟩:=bs h
 refine rg (Z3.u 2 (Zac (ys:=[iv a0_,iv a1_]) (h:=Za3 hm1)) (Z3.u 3 (Zac (ys:=[iv (w64 (m1+a1_)),iv a1_]) (h:=Za3 hm2)) Z3.f)) (tq (rt ?_))
 cases h
 exact ZaD kr
theorem Zfl (N:Nat)(a0_:Z5)(a1_:Int)(a2_:Int)(r:Bool)(h:Zc7 N a0_ a1_ a2_=some r):Zbr Try.prog 35 [.agg (Z2 a0_),iv a1_,iv a2_] (bv r):=by
 unfold Zc7 at h
 have hH  := hp0
 refine ZaI Zwu rfl rfl (Zat _ _ _ ?_) rfl
 refine sq (rg Z3.f (tq (sq ?_)))
 obtain ⟨j4,hj,h⟩:=bs h
 refine rgR (λs=>s=⟨[(6,bv j4)],[],[]⟩) ?_ ?_
 ·clear h
  rcases ZaJ hj with ⟨hc1,hj⟩|⟨hc3,hj⟩
  ·refine (EP.u 1 (Zad (c:=(decide (a2_≥0))) (h:=hc1)) ?_)
   obtain ⟨e2,he2,hj⟩:=bs hj
   obtain rfl:=Zao hj
   exact (EP.u 5 (Zac (ys:=[Zah false a0_.Periods,iv a1_]) (h:=Zae eI64 he2)) (EP.u 0 (Zav (sz:=1) (off:=0) (cs:=[.int .i64 e2]) (r:=iv e2) eI64 he2) (EP.f kr)))
  obtain rfl:=Zao hj
  exact (EP.u 1 (Zad (c:=(decide (a2_≥0))) (h:=hc3)) (EP.f kr))
 clear hj
 rintro s hR
 obtain rfl:=hR
 refine tq (rt ?_)
 cases h
 exact ZaD kr
theorem ZfN (N:Nat)(a0_:Z5)(H:List HO)(r:Z5×(List (Zag×Bool)))(h:ZcO N a0_=some r):∃ (id0_ id1_ m1_:Nat) (H':List HO),Zcb Try.prog 39 [.agg (Z2 a0_)] H (.fn 51 [] [.ptr id0_ 0,.ptr id1_ 0]) H'/\Fp H H' [] [.cel id0_ [Zah false r.1.Periods,Zab false r.1.Uses],.cel id1_ [.map m1_],mpT m1_ 3 (encE Z7 bv r.2)]:=by
 suffices hs:∃ r' H',Zcb Try.prog 39 [.agg (Z2 a0_)] H r' H'/\∃ (id0_ id1_ m1_:Nat),r'=.fn 51 [] [.ptr id0_ 0,.ptr id1_ 0]/\Fp H H' [] [.cel id0_ [Zah false r.1.Periods,Zab false r.1.Uses],.cel id1_ [.map m1_],mpT m1_ 3 (encE Z7 bv r.2)] by
  obtain ⟨_,H',h1,id0_,id1_,m1_,rfl,h2⟩:=hs
  exact ⟨id0_,id1_,m1_,H',h1,h2⟩
 unfold ZcO at h
 have hH:Fp H H [] []:=Fp.refl trivial
 refine Zgp Zwq (λr' H'=>∃ (id0_ id1_ m1_:Nat),r'=.fn 51 [] [.ptr id0_ 0,.ptr id1_ 0]/\Fp H H' [] [.cel id0_ [Zah false r.1.Periods,Zab false r.1.Uses],.cel id1_ [.map m1_],mpT m1_ 3 (encE Z7 bv r.2)]) (λr' H' ⟨_,_,_,e,_⟩=>by rw [e];rfl) rfl rfl (sq ?_)
 obtain ⟨id1,H2,hid1,hH2,hH⟩:=Fp.newCell hH (Z2 a0_)
 replace hH:Fp _ _ _ [.cel id1 (Z2 a0_)]:=hH
 refine rg (Z3.h 0 (Zfq (H:=H) (v:=.agg (Z2 a0_)) (hid:=hid1) (hH:=hH2)) Z3.f) (tq (sq ?_))
 obtain ⟨id3,H4,hid3,hH4,hH⟩:=Fp.newMp hH 3
 replace hH:Fp _ _ _ [mpT id3 3 (encE Z7 bv []),.cel id1 (Z2 a0_)]:=hH
 obtain ⟨id5,H6,hid5,hH6,hH⟩:=Fp.newCell hH [.nl .nilMap]
 replace hH:Fp _ _ _ [.cel id5 [.nl .nilMap],mpT id3 3 (encE Z7 bv []),.cel id1 (Z2 a0_)]:=hH
 obtain ⟨H7,hH7,hH⟩:=Fp.setCell (k:=0) (off:=0) (cs:=[.nl .nilMap]) (vs:=[.map id3]) (cs':=[.map id3]) hH rfl kr
 replace hH:Fp _ _ _ [.cel id5 [.map id3],mpT id3 3 (encE Z7 bv []),.cel id1 (Z2 a0_)]:=hH
 refine rg (Z3.h 0 (st_mkMap' (H:=H2) 3 kr hid3 hH4) (Z3.h 0 (ZkW (H:=H4) kr hid5 hH6) (Z3.o 0 (ZcI (H:=H6) (v:=.map id3) (hw:=hH7)) Z3.f))) (tq (sq (rg Z3.f (tq (rt ?_)))))
 cases h
 exact ⟨[.fn 51 [] [.ptr id1 0,.ptr id5 0]],kr,id1,id5,id3,rfl,Fp.pk hH [2,0,1] rfl⟩
theorem ZgY {σ:Type}(N:Nat)(y_:σ->Int->Int->Int->Int->Option (σ×Bool))(a1_:Int)(a2_:Z8)(a3_:Zak)(s_:σ)(y_f:Nat)(y_p y_c:List AV)(hy_n:(noLocL y_p&&noLocL y_c)=true)(T_:σ->List ZaH->Prop)(hy_:∀ (x0:Int) (x1:Int) (x2:Int) (x3:Int) (s:σ) (r:σ×Bool) (H:List HO) (its:List ZaH),T_ s its->HP H its->y_ s x0 x1 x2 x3=some r->∃ H' its',Zix Try.prog (.fn y_f y_p y_c) [iv x0,iv x1,iv x2,iv x3] H (bv r.2) H'/\T_ r.1 its'/\Fp H H' its its')(H:List HO)(its:List ZaH)(hT:T_ s_ its)(hH:HP H (its))(r:σ×Bool)(h:ZcN N y_ a1_ a2_ a3_ s_=some r):∃ H' its',Zcb Try.prog 41 [.fn y_f y_p y_c,iv a1_,.agg (Zay a2_),.agg (Zbc a3_)] H (bv r.2) H'/\T_ r.1 its'/\Fp H H' (its) (its'):=by
 suffices hs:∃ H',Zcb Try.prog 41 [.fn y_f y_p y_c,iv a1_,.agg (Zay a2_),.agg (Zbc a3_)] H (bv r.2) H'/\∃ its',T_ r.1 its'/\Fp H H' (its) (its') by
  obtain ⟨H',h1,its',h2,h3⟩:=hs
  exact ⟨H',its',h1,h2,h3⟩
 unfold ZcN at h
 replace hH:Fp H H (its) (its):=Fp.refl hH
 refine ZeY Zwp (λH'=>∃ its',T_ r.1 its'/\Fp H H' (its) (its')) rfl (by simpa [noLocL,ZaA.noLocL,ZaA] using hy_n) rfl (sq (rg Z3.f (tq (sq (sq ?_)))))
 obtain ⟨j4,hj,h⟩:=bs h
 refine rgR (λs=>s=⟨[(0,.fn y_f y_p y_c),(1,iv a1_),(6,.loc 6 0),(7,.loc 7 0),(21,bv j4)],[(6,(Zay a2_)),(7,(Zbc a3_))],H⟩) ?_ ?_
 ·clear h
  rcases ZaJ hj with ⟨hc1,hj⟩|⟨hc3,hj⟩
  ·refine (EP.u 3 (Zad (c:=(a3_.By != a1_)) (h:=hc1)) ?_)
   obtain ⟨e2,he2,hj⟩:=bs hj
   obtain rfl:=Zao hj
   exact (EP.u 3 (Zac (ys:=[.loc 6 0,iv a3_.By]) (h:=Zde (l:=a2_.l) he2 rfl)) (EP.o 0 (Zho (t:=6) (off:=0) (cs:=(Zay a2_)) (l:=a2_.l) (λx=>iv x) [] [] he2 kr kr rfl rfl) (EP.f kr)))
  obtain rfl:=Zao hj
  exact (EP.u 3 (Zad (c:=(a3_.By != a1_)) (h:=hc3)) (EP.f kr))
 clear hj
 rintro s hR
 obtain rfl:=hR
 refine tq (it h (λhc5 h=>?_) (λhc5 h=>?_))
 ·refine sq (rg Z3.f (tq (rt (tr ?_))))
  cases h
  exact ⟨[bv false],kr,kr,its,hT,Fp.at hH⟩
 refine sk (tq (kq (sq (sq (rg Z3.f (tq (bk ?_)))))))
 obtain ⟨a8,a3,h⟩:=bs h
 refine Za0 ((ZaM (λ(x:Int×σ) s=>∃ (its6:List ZaH) (H7:List HO),s=⟨[(0,.fn y_f y_p y_c),(1,iv a1_),(6,.loc 6 0),(7,.loc 7 0),(9,iv x.1)],[(6,(Zay a2_)),(7,(Zbc a3_))],H7⟩/\T_ x.2 its6/\Fp H H7 (its) (its6)) (λx:Int×σ=>ZbC N y_ a1_ a2_ a3_ x.1 x.2) (λ(p:(σ)⊕(σ×Bool)) e s=>match p with|(.inl p)=>e=.exit 0/\(∃ (a0:List ZaH) (a7:List HO),s=⟨[],[],a7⟩/\T_ p a0/\Fp H a7 (its) (a0))|(.inr p)=>e=.ret/\∃ xs,rawL s i41.res=some xs/\ZbZ xs=bv p.2/\∃ its',T_ p.1 its'/\Fp H s.H (its) (its')) ?_ N _ a8 _ a3 ⟨its,H,kr,hT,Fp.at hH⟩).mono ?_)
 ·clear h a3
  rintro ⟨i8,g9⟩ o s h hR
  obtain ⟨its6,H7,rfl,hT,hH⟩:=hR
  replace hH:Fp H H7 (its) (its6):=hH
  replace h:ZbC N y_ a1_ a2_ a3_ i8 g9=some o:=h
  unfold ZbC at h
  refine sq (sq (rg Z3.f (tq (it h (λaf h=>?_) (λaf h=>?_)))))
  ·refine sk (tq (kq (sq (bk (sq ?_)))))
   obtain ⟨aj,a9,h⟩:=bs h
   refine rg (Z3.u 2 (Zac (ys:=[.loc 6 0,iv a3_.By]) (h:=Zde (l:=a2_.l) a9 rfl)) (Z3.o 0 (Zho (t:=6) (off:=0) (cs:=(Zay a2_)) (l:=a2_.l) (λx=>iv x) [] [] a9 kr kr rfl rfl) Z3.f)) (tq ?_)
   obtain ⟨a2,a4,h⟩:=bs h
   refine ZfE [0,1,6,7,9,10] (λs=>s=⟨[(0,.fn y_f y_p y_c),(1,iv a1_),(6,.loc 6 0),(7,.loc 7 0),(9,iv i8),(10,iv a2)],[(6,(Zay a2_)),(7,(Zbc a3_))],H7⟩) ?_ ?_
   ·clear h
    have h:=a4
    refine sq (rg Z3.f (tq (it h (λad h=>?_) (λad h=>?_))))
    ·refine rg Z3.f ?_
     cases h
     exact ⟨rfl,kr⟩
    refine sk ?_
    cases h
    exact ⟨rfl,kr⟩
   clear a4
   rintro s hR
   obtain rfl:=hR
   refine sq ?_
   obtain ⟨ae,ab,h⟩:=bs h
   obtain ⟨aa,a1,a5,hT,a6⟩:=hy_ a1_ i8 a3_.By a2 g9 ae H7 its6 hT (Fp.tail (own:=[]) (its:=its6) hH) ab
   replace hH:Fp H aa (its) (a1):=Fp.callT (own:=[]) (its:=its6) hH a6
   refine rg (Z3.v 6 (Zjf (H:=H7) (ys:=[iv a1_,iv i8,iv a3_.By,iv a2]) (hc:=a5)) Z3.f) (tq (it h (λac h=>?_) (λac h=>?_)))
   ·refine sq (rg Z3.f (tq (rt (br (tr ?_)))))
    cases h
    exact ⟨_,rfl,rfl,⟨[bv false],kr,kr,a1,hT,Fp.at hH⟩⟩
   refine sk (bn (tq (kq (rg Z3.f ?_))))
   cases h
   exact ⟨_,rfl,⟨a1,aa,kr,hT,Fp.at hH⟩⟩
  refine kq (xq (tx ?_))
  cases h
  exact ⟨_,rfl,rfl,⟨its6,H7,kr,hT,Fp.at hH⟩⟩
 rintro e s hq
 rcases a8 with ai|ag
 ·dsimp only at h hq
  obtain ⟨rfl,hR⟩:=hq
  obtain ⟨a0,a7,rfl,hT,hH⟩:=hR
  replace hH:Fp H a7 (its) (a0):=hH
  refine bx (tq (sq (rg Z3.f (tq (rt ?_)))))
  cases h
  exact ⟨[bv true],kr,kr,a0,hT,Fp.at hH⟩
 dsimp only at h hq
 obtain ⟨rfl,hq⟩:=hq
 refine br (tr ?_)
 cases h
 exact hq
theorem Zjr (N:Nat)(a0_:Z5)(a1_:Int)(a2_:Int)(H:List HO)(r:Z5×Int×Int)(h:Ze3 N a0_ a1_ a2_=some r):∃ (id0_ id1_ id2_:Nat) (H':List HO),Zcb Try.prog 46 [.agg (Z2 a0_),iv a1_,iv a2_] H (.fn 54 [] [.ptr id0_ 0,.ptr id1_ 0,.ptr id2_ 0]) H'/\Fp H H' [] [.cel id0_ [Zah false r.1.Periods,Zab false r.1.Uses],.cel id1_ [iv r.2.1],.cel id2_ [iv r.2.2]]:=by
 suffices hs:∃ r' H',Zcb Try.prog 46 [.agg (Z2 a0_),iv a1_,iv a2_] H r' H'/\∃ (id0_ id1_ id2_:Nat),r'=.fn 54 [] [.ptr id0_ 0,.ptr id1_ 0,.ptr id2_ 0]/\Fp H H' [] [.cel id0_ [Zah false r.1.Periods,Zab false r.1.Uses],.cel id1_ [iv r.2.1],.cel id2_ [iv r.2.2]] by
  obtain ⟨_,H',h1,id0_,id1_,id2_,rfl,h2⟩:=hs
  exact ⟨id0_,id1_,id2_,H',h1,h2⟩
 unfold Ze3 at h
 have hH:Fp H H [] []:=Fp.refl trivial
 refine Zgp Zwn (λr' H'=>∃ (id0_ id1_ id2_:Nat),r'=.fn 54 [] [.ptr id0_ 0,.ptr id1_ 0,.ptr id2_ 0]/\Fp H H' [] [.cel id0_ [Zah false r.1.Periods,Zab false r.1.Uses],.cel id1_ [iv r.2.1],.cel id2_ [iv r.2.2]]) (λr' H' ⟨_,_,_,e,_⟩=>by rw [e];rfl) rfl rfl (sq ?_)
 obtain ⟨id1,H2,hid1,hH2,hH⟩:=Fp.newCell hH (Z2 a0_)
 replace hH:Fp _ _ _ [.cel id1 (Z2 a0_)]:=hH
 obtain ⟨id3,H4,hid3,hH4,hH⟩:=Fp.newCell hH [iv a1_]
 replace hH:Fp _ _ _ [.cel id3 [iv a1_],.cel id1 (Z2 a0_)]:=hH
 obtain ⟨id5,H6,hid5,hH6,hH⟩:=Fp.newCell hH [iv a2_]
 replace hH:Fp _ _ _ [.cel id5 [iv a2_],.cel id3 [iv a1_],.cel id1 (Z2 a0_)]:=hH
 refine rg (Z3.h 0 (Zfq (H:=H) (v:=.agg (Z2 a0_)) (hid:=hid1) (hH:=hH2)) (Z3.h 0 (Zfq (H:=H2) (v:=iv a1_) (hid:=hid3) (hH:=hH4)) (Z3.h 0 (Zfq (H:=H4) (v:=iv a2_) (hid:=hid5) (hH:=hH6)) Z3.f))) (tq (sq (rg Z3.f (tq (rt ?_)))))
 cases h
 exact ⟨[.fn 54 [] [.ptr id1 0,.ptr id3 0,.ptr id5 0]],kr,id1,id3,id5,rfl,Fp.pk hH [2,1,0] rfl⟩
theorem Zeu (N:Nat)(a0_:Z5)(a1_:Zaz)(a2_:Int)(r:Zaa)(h:Zck N a0_ a1_ a2_=some r):Zbr Try.prog 48 [.agg (Z2 a0_),.agg (ZaK a1_),iv a2_] (.agg [iv r.Period,iv r.From,iv r.Long]):=by
 unfold Zck at h
 have hH  := hp0
 refine ZaI Zwl rfl rfl (Zat _ _ _ ?_) rfl
 refine sq (rg Z3.f (tq (sq ?_)))
 obtain ⟨e1,he1,h⟩:=bs h
 refine rg (Z3.u 4 (Zac (ys:=[Zah false a0_.Periods,iv a1_.Stream]) (h:=Zae eI64 he1)) (Z3.u 0 (Zav (sz:=1) (off:=0) (cs:=[.int .i64 e1]) (r:=iv e1) eI64 he1) Z3.f)) (tq (sq ?_))
 obtain ⟨m2,hm2,h⟩:=bs h
 refine rq (Z3.u 6 (Zac (ys:=[iv (w64 (a1_.From+a2_)),iv e1]) (h:=Za3 hm2)) Z3.f) (tq (rt ?_))
 cases h
 exact ZaD kr
theorem Zgd (N:Nat)(a0_:Z5)(a1_:(List Z4))(a2_:Int)(a3_:Zak)(r:Bool)(h:Zct N a0_ a1_ a2_ a3_=some r):Zbr Try.prog 50 [.agg (Z2 a0_),Z6 false a1_,iv a2_,.agg (Zbc a3_)] (bv r):=by
 unfold Zct at h
 have hH  := hp0
 refine ZaI Zwj rfl rfl (Zat _ _ _ ?_) rfl
 refine sq (rg Z3.f (tq (sq (bk (sq (rg Z3.f (tq (it h (λhc1 h=>?_) (λhc1 h=>?_)))))))))
 ·refine sq (rgX ⟨[(8,bv ((a3_.To==(w64 (a3_.From+1)))&&((decide (a3_.Next>a2_))&&(decide (a3_.Next<((List.length a1_:Nat):Int))))))],[],[]⟩ ?_ ?_)
  ·rcases Bool.eq_false_or_eq_true (a3_.To==(w64 (a3_.From+1))) with hc2|hc5
   ·refine (EP.u 5 (Zad (c:=(a3_.To==(w64 (a3_.From+1)))) (h:=hc2)) ?_)
    rcases Bool.eq_false_or_eq_true (decide (a3_.Next>a2_)) with hc3|hc4
    ·exact (EP.u 4 (Zad (c:=(decide (a3_.Next>a2_))) (h:=hc3)) (EP.u 5 (Zac (ys:=[Z6 false a1_]) (h:=Zas Zai)) (EP.f (by simp only [hc2,hc3];kernel_rfl))))
    exact (EP.u 4 (Zad (c:=(decide (a3_.Next>a2_))) (h:=hc4)) (EP.f (by simp only [hc2,hc4];kernel_rfl)))
   exact (EP.u 5 (Zad (c:=(a3_.To==(w64 (a3_.From+1)))) (h:=hc5)) (EP.f (by simp only [hc5];kernel_rfl)))
  refine tq (rt (br (tr ?_)))
  cases h
  exact ZaD kr
 refine sq (rg Z3.f (tq (it h (λhc6 h=>?_) (λhc6 h=>?_))))
 ·refine sq (rg Z3.f (tq (rt (br (tr ?_)))))
  cases h
  exact ZaD kr
 refine sq (rg Z3.f (tq (it h (λhc7 h=>?_) (λhc7 h=>?_))))
 ·refine sq (rgX ⟨[(8,bv ((a2_==0)&&(a3_.From != 0)))],[],[]⟩ ?_ ?_)
  ·rcases Bool.eq_false_or_eq_true (a2_==0) with hc8|hc9
   ·exact (EP.u 1 (Zad (c:=(a2_==0)) (h:=hc8)) (EP.f (by simp only [hc8];kernel_rfl)))
   exact (EP.u 1 (Zad (c:=(a2_==0)) (h:=hc9)) (EP.f (by simp only [hc9];kernel_rfl)))
  refine tq (rt (br (tr ?_)))
  cases h
  exact ZaD kr
 refine sk (bn (tq (kq (sq (rgX ⟨[(8,bv ((decide (a3_.By≥0))&&(decide (a3_.By<((List.length a0_.Periods:Nat):Int)))))],[],[]⟩ ?_ ?_)))))
 ·rcases Bool.eq_false_or_eq_true (decide (a3_.By≥0)) with a1|a0
  ·exact (EP.u 2 (Zad (c:=(decide (a3_.By≥0))) (h:=a1)) (EP.u 5 (Zac (ys:=[Zah false a0_.Periods]) (h:=Zas eI64)) (EP.f (by simp only [a1];kernel_rfl))))
  exact (EP.u 2 (Zad (c:=(decide (a3_.By≥0))) (h:=a0)) (EP.f (by simp only [a0];kernel_rfl)))
 refine tq (rt ?_)
 cases h
 exact ZaD kr
theorem Zhy (N:Nat)(a0_:Z5)(a1_:Int)(a2_:Int)(r:Zaa)(h:Ze1 N a0_ a1_ a2_=some r):Zbr Try.prog 53 [.agg (Z2 a0_),iv a1_,iv a2_] (.agg [iv r.Period,iv r.From,iv r.Long]):=by
 unfold Ze1 at h
 have hH  := hp0
 refine ZaI Zwg rfl rfl (Zat _ _ _ ?_) rfl
 refine sq (rg Z3.f (tq (sq ?_)))
 obtain ⟨e1,he1,h⟩:=bs h
 obtain ⟨e2,he2,h⟩:=bs h
 refine rq (Z3.u 5 (Zac (ys:=[Zab false a0_.Uses,iv a1_]) (h:=Zae ZaB he1)) (Z3.u 1 (ZaV (Zav (sz:=4) (off:=0) (cs:=[.int .i64 e1.Stream]) (r:=iv e1.Stream) ZaB he1)) (Z3.u 0 (Zac (ys:=[Zah false a0_.Periods,iv e1.Stream]) (h:=Zae eI64 he2)) (Z3.u 0 (ZaV (Zav (sz:=1) (off:=0) (cs:=[.int .i64 e2]) (r:=iv e2) eI64 he2)) Z3.f)))) (tq (sq ?_))
 obtain ⟨e3,he3,h⟩:=bs h
 obtain ⟨m4,hm4,h⟩:=bs h
 obtain ⟨e5,he5,h⟩:=bs h
 refine rq (Z3.u 4 (Zac (ys:=[Zab false a0_.Uses,iv a1_]) (h:=Zae ZaB he3)) (Z3.u 1 (ZaV (Zav (sz:=4) (off:=2) (cs:=[.int .i64 e3.From]) (r:=iv e3.From) ZaB he3)) (Z3.u 3 (Zac (ys:=[iv (w64 (e3.From+a2_)),iv e2]) (h:=Za3 hm4)) (Z3.u 3 (Zac (ys:=[Zab false a0_.Uses,iv a1_]) (h:=Zae ZaB he5)) (Z3.u 1 (ZaV (Zav (sz:=4) (off:=3) (cs:=[.int .i64 e5.Long]) (r:=iv e5.Long) ZaB he5)) Z3.f))))) (tq (rt ?_))
 cases h
 exact ZaD kr
theorem ZhH {σ:Type}(N:Nat)(y_:σ->Zaz->Zaz->Option (σ×Bool))(c0_:Z5)(c1_:Int)(c2_:Int)(s_:σ)(k0_:Nat)(k1_:Nat)(k2_:Nat)(yid_:Nat)(T_:σ->List ZaH->Prop)(hy_:∀ (x0:Zaz) (x1:Zaz) (s:σ) (r:σ×Bool) (H:List HO) (its:List ZaH),T_ s its->HP H its->y_ s x0 x1=some r->∃ H' its',Zlt Try.prog yid_ [.agg [iv x0.Stream,iv x0.Port,iv x0.From,iv x0.Long],.agg [iv x1.Stream,iv x1.Port,iv x1.From,iv x1.Long]] H r.2 H'/\T_ r.1 its'/\Fp H H' its its')(H:List HO)(its:List ZaH)(hT:T_ s_ its)(hH:HP H (.cel k0_ (Z2 c0_)::.cel k1_ [iv c1_]::.cel k2_ [iv c2_]::its))(r:σ)(h:Zdk N y_ c0_ c1_ c2_ s_=some r):∃ H' its',Zcb Try.prog 54 [.yl yid_,.ptr k0_ 0,.ptr k1_ 0,.ptr k2_ 0] H (.tup []) H'/\T_ r its'/\Fp H H' (.cel k0_ (Z2 c0_)::.cel k1_ [iv c1_]::.cel k2_ [iv c2_]::its) (.cel k0_ (Z2 c0_)::.cel k1_ [iv c1_]::.cel k2_ [iv c2_]::its'):=by
 suffices hs:∃ H',Zcb Try.prog 54 [.yl yid_,.ptr k0_ 0,.ptr k1_ 0,.ptr k2_ 0] H (.tup []) H'/\∃ its',T_ r its'/\Fp H H' (.cel k0_ (Z2 c0_)::.cel k1_ [iv c1_]::.cel k2_ [iv c2_]::its) (.cel k0_ (Z2 c0_)::.cel k1_ [iv c1_]::.cel k2_ [iv c2_]::its') by
  obtain ⟨H',h1,its',h2,h3⟩:=hs
  exact ⟨H',its',h1,h2,h3⟩
 unfold Zdk at h
 replace hH:Fp H H (.cel k0_ (Z2 c0_)::.cel k1_ [iv c1_]::.cel k2_ [iv c2_]::its) (.cel k0_ (Z2 c0_)::.cel k1_ [iv c1_]::.cel k2_ [iv c2_]::its):=Fp.refl hH
 refine ZeY Zwf (λH'=>∃ its',T_ r its'/\Fp H H' (.cel k0_ (Z2 c0_)::.cel k1_ [iv c1_]::.cel k2_ [iv c2_]::its) (.cel k0_ (Z2 c0_)::.cel k1_ [iv c1_]::.cel k2_ [iv c2_]::its')) rfl rfl rfl (sq ?_)
 have hlc1:=Fp.get hH 0 rfl
 refine rg (Z3.u 1 (Zbk (H:=H) (id:=k0_) (off:=1) (cs:=(Z2 c0_)) (c:=[Zab false c0_.Uses]) (r:=Zab false c0_.Uses) (hl:=hlc1)) (Z3.u 0 (Zac (ys:=[Zab false c0_.Uses]) (h:=Zas ZaB)) Z3.f)) (tq (bk ?_))
 obtain ⟨ag,a9,h⟩:=bs h
 refine Za0 ((ZaM (λ(x:Int×σ) s=>∃ (its2:List ZaH) (H3:List HO),s=⟨[(0,.yl yid_),(1,.ptr k0_ 0),(2,.ptr k1_ 0),(3,.ptr k2_ 0),(10,Zab false c0_.Uses),(11,iv ((List.length c0_.Uses:Nat):Int)),(12,iv x.1)],[],H3⟩/\T_ x.2 its2/\Fp H H3 (.cel k0_ (Z2 c0_)::.cel k1_ [iv c1_]::.cel k2_ [iv c2_]::its) (.cel k0_ (Z2 c0_)::.cel k1_ [iv c1_]::.cel k2_ [iv c2_]::its2)) (λx:Int×σ=>ZbO N y_ c0_ c1_ c2_ x.1 x.2) (λ(p:(σ)⊕(σ)) e s=>match p with|(.inl p)=>e=.exit 0/\(∃ (a3:List ZaH) (af:List HO),s=⟨[],[],af⟩/\T_ p a3/\Fp H af (.cel k0_ (Z2 c0_)::.cel k1_ [iv c1_]::.cel k2_ [iv c2_]::its) (.cel k0_ (Z2 c0_)::.cel k1_ [iv c1_]::.cel k2_ [iv c2_]::a3))|(.inr p)=>e=.ret/\∃ xs,rawL s i54.res=some xs/\ZbZ xs=.tup []/\∃ its',T_ p its'/\Fp H s.H (.cel k0_ (Z2 c0_)::.cel k1_ [iv c1_]::.cel k2_ [iv c2_]::its) (.cel k0_ (Z2 c0_)::.cel k1_ [iv c1_]::.cel k2_ [iv c2_]::its')) ?_ N _ ag _ a9 ⟨its,H,kr,hT,Fp.at hH⟩).mono ?_)
 ·clear h a9
  rintro ⟨i4,g5⟩ o s h hR
  obtain ⟨its2,H3,rfl,hT,hH⟩:=hR
  replace hH:Fp H H3 (.cel k0_ (Z2 c0_)::.cel k1_ [iv c1_]::.cel k2_ [iv c2_]::its) (.cel k0_ (Z2 c0_)::.cel k1_ [iv c1_]::.cel k2_ [iv c2_]::its2):=hH
  replace h:ZbO N y_ c0_ c1_ c2_ i4 g5=some o:=h
  unfold ZbO at h
  refine sq (rg Z3.f (tq (sq (it h (λaA h=>?_) (λaA h=>?_)))))
  ·refine sk (tq (kq (sq (bk (sq ?_)))))
   obtain ⟨a4,aj,h⟩:=bs h
   refine rg (Z3.u 1 (Zac (ys:=[Zab false c0_.Uses,iv i4]) (h:=Zae ZaB aj)) (Z3.u 0 (Zav (sz:=4) (off:=0) (cs:=[.int .i64 a4.Stream,.int .i64 a4.Port,.int .i64 a4.From,.int .i64 a4.Long]) (r:=.agg (ZaK a4)) ZaB aj) Z3.f)) (tq (sq (sq ?_)))
   have an:=Fp.get hH 1 rfl
   refine rg (Z3.u 2 (Zbk (H:=H3) (id:=k1_) (off:=0) (cs:=[iv c1_]) (c:=[iv c1_]) (r:=iv c1_) (hl:=an)) Z3.f) (tq (it h (λaz h=>?_) (λaz h=>?_)))
   ·refine kq (xq (tx (bx (tq (kq (rg Z3.f ?_))))))
    cases h
    exact ⟨_,rfl,⟨its2,H3,kr,hT,Fp.at hH⟩⟩
   refine sk (tq (kq (sq ?_)))
   have am:=Fp.get hH 0 rfl
   refine rg (Z3.u 1 (Zbk (H:=H3) (id:=k0_) (off:=1) (cs:=(Z2 c0_)) (c:=[Zab false c0_.Uses]) (r:=Zab false c0_.Uses) (hl:=am)) (Z3.u 0 (Zac (ys:=[Zab false c0_.Uses]) (h:=Zas ZaB)) Z3.f)) (tq (bk ?_))
   obtain ⟨ai,aa,h⟩:=bs h
   refine Za0 ((ZaM (λ(x:Int×σ) s=>∃ (a0:List ZaH) (a5:List HO),s=⟨[(0,.yl yid_),(1,.ptr k0_ 0),(2,.ptr k1_ 0),(3,.ptr k2_ 0),(5,iv i4),(6,.loc 6 0),(10,Zab false c0_.Uses),(11,iv ((List.length c0_.Uses:Nat):Int)),(12,iv i4),(22,Zab false c0_.Uses),(23,iv ((List.length c0_.Uses:Nat):Int)),(24,iv x.1)],[(6,(ZaK a4))],a5⟩/\T_ x.2 a0/\Fp H a5 (.cel k0_ (Z2 c0_)::.cel k1_ [iv c1_]::.cel k2_ [iv c2_]::its) (.cel k0_ (Z2 c0_)::.cel k1_ [iv c1_]::.cel k2_ [iv c2_]::a0)) (λx:Int×σ=>ZbN N y_ c0_ c2_ i4 a4 x.1 x.2) (λ(p:(σ)⊕(σ)) e s=>match p with|(.inl p)=>e=.exit 2/\(∃ (a2:List ZaH) (a7:List HO),s=⟨[(0,.yl yid_),(1,.ptr k0_ 0),(2,.ptr k1_ 0),(3,.ptr k2_ 0),(10,Zab false c0_.Uses),(11,iv ((List.length c0_.Uses:Nat):Int)),(12,iv i4)],[],a7⟩/\T_ p a2/\Fp H a7 (.cel k0_ (Z2 c0_)::.cel k1_ [iv c1_]::.cel k2_ [iv c2_]::its) (.cel k0_ (Z2 c0_)::.cel k1_ [iv c1_]::.cel k2_ [iv c2_]::a2))|(.inr p)=>e=.ret/\∃ xs,rawL s i54.res=some xs/\ZbZ xs=.tup []/\∃ its',T_ p its'/\Fp H s.H (.cel k0_ (Z2 c0_)::.cel k1_ [iv c1_]::.cel k2_ [iv c2_]::its) (.cel k0_ (Z2 c0_)::.cel k1_ [iv c1_]::.cel k2_ [iv c2_]::its')) ?_ N _ ai _ aa ⟨its2,H3,kr,hT,Fp.at hH⟩).mono ?_)
   ·clear h aa
    rintro ⟨a8,aB⟩ o s h hR
    obtain ⟨a0,a5,rfl,hT,hH⟩:=hR
    replace hH:Fp H a5 (.cel k0_ (Z2 c0_)::.cel k1_ [iv c1_]::.cel k2_ [iv c2_]::its) (.cel k0_ (Z2 c0_)::.cel k1_ [iv c1_]::.cel k2_ [iv c2_]::a0):=hH
    replace h:ZbN N y_ c0_ c2_ i4 a4 a8 aB=some o:=h
    unfold ZbN at h
    refine sq (rg Z3.f (tq (sq (it h (λaw h=>?_) (λaw h=>?_)))))
    ·refine sk (tq (kq (sq (bk (sq ?_)))))
     obtain ⟨a1,ab,h⟩:=bs h
     refine rg (Z3.u 1 (Zac (ys:=[Zab false c0_.Uses,iv a8]) (h:=Zae ZaB ab)) (Z3.u 0 (Zav (sz:=4) (off:=0) (cs:=[.int .i64 a1.Stream,.int .i64 a1.Port,.int .i64 a1.From,.int .i64 a1.Long]) (r:=.agg (ZaK a1)) ZaB ab) Z3.f)) (tq (sq (sq ?_)))
     obtain ⟨ay,hj,h⟩:=bs h
     refine rgR (λs=>s=⟨[(0,.yl yid_),(1,.ptr k0_ 0),(2,.ptr k1_ 0),(3,.ptr k2_ 0),(5,iv i4),(6,.loc 6 0),(8,.loc 8 0),(10,Zab false c0_.Uses),(11,iv ((List.length c0_.Uses:Nat):Int)),(12,iv i4),(22,Zab false c0_.Uses),(23,iv ((List.length c0_.Uses:Nat):Int)),(24,iv a8),(44,bv ay)],[(6,(ZaK a4)),(8,(ZaK a1))],a5⟩) ?_ ?_
     ·clear h
      rcases ZaJ hj with ⟨av,hj⟩|⟨au,hj⟩
      ·obtain rfl:=Zao hj
       exact (EP.u 2 (Zad (c:=(a8==i4)) (h:=av)) (EP.f kr))
      refine (EP.u 2 (Zad (c:=(a8==i4)) (h:=au)) ?_)
      have ad:=Fp.get hH 2 rfl
      refine (EP.u 3 (Zbk (H:=a5) (id:=k2_) (off:=0) (cs:=[iv c2_]) (c:=[iv c2_]) (r:=iv c2_) (hl:=ad)) ?_)
      rcases ZaJ hj with ⟨ar,hj⟩|⟨aq,hj⟩
      ·obtain rfl:=Zao hj
       exact (EP.u 0 (Zad (c:=(a1.Stream != c2_)) (h:=ar)) (EP.f kr))
      obtain rfl:=Zao hj
      exact (EP.u 0 (Zad (c:=(a1.Stream != c2_)) (h:=aq)) (EP.f kr))
     clear hj
     rintro s hR
     obtain rfl:=hR
     refine tq (it h (λap h=>?_) (λap h=>?_))
     ·refine kq (xq (tx (bx (tq (kq (rg Z3.f ?_))))))
      cases h
      exact ⟨_,rfl,⟨a0,a5,kr,hT,Fp.at hH⟩⟩
     refine sk (tq (kq (sq ?_)))
     obtain ⟨ax,al,h⟩:=bs h
     obtain ⟨ak,a6,ac,hT,ae⟩:=hy_ a4 a1 aB ax a5 a0 hT (Fp.tail (own:=[.cel k0_ (Z2 c0_),.cel k1_ [iv c1_],.cel k2_ [iv c2_]]) (its:=a0) hH) al
     replace hH:Fp H ak (.cel k0_ (Z2 c0_)::.cel k1_ [iv c1_]::.cel k2_ [iv c2_]::its) (.cel k0_ (Z2 c0_)::.cel k1_ [iv c1_]::.cel k2_ [iv c2_]::a6):=Fp.callT (own:=[.cel k0_ (Z2 c0_),.cel k1_ [iv c1_],.cel k2_ [iv c2_]]) (its:=a0) hH ae
     refine rg (Z3.v 3 (ZnX (H:=a5) (id:=yid_) (ys:=[.agg (ZaK a4),.agg (ZaK a1)]) kr kr kr kr ac) Z3.f) (tq (it h (λao h=>?_) (λao h=>?_)))
     ·refine rt (br (tr ?_))
      cases h
      exact ⟨_,rfl,rfl,⟨[],kr,kr,a6,hT,Fp.at hH⟩⟩
     refine sk (bn (tq (kq (rg Z3.f ?_))))
     cases h
     exact ⟨_,rfl,⟨a6,ak,kr,hT,Fp.at hH⟩⟩
    refine kq (xq (tx ?_))
    cases h
    exact ⟨_,rfl,rfl,⟨a0,a5,kr,hT,Fp.at hH⟩⟩
   rintro e s hq
   rcases ai with aG|aE
   ·dsimp only at h hq
    obtain ⟨rfl,hR⟩:=hq
    obtain ⟨a2,a7,rfl,hT,hH⟩:=hR
    replace hH:Fp H a7 (.cel k0_ (Z2 c0_)::.cel k1_ [iv c1_]::.cel k2_ [iv c2_]::its) (.cel k0_ (Z2 c0_)::.cel k1_ [iv c1_]::.cel k2_ [iv c2_]::a2):=hH
    refine bx (bn (tq (kq (rg Z3.f ?_))))
    cases h
    exact ⟨_,rfl,⟨a2,a7,kr,hT,Fp.at hH⟩⟩
   dsimp only at h hq
   obtain ⟨rfl,hq⟩:=hq
   refine br (br (tr ?_))
   cases h
   exact ⟨_,rfl,rfl,hq⟩
  refine kq (xq (tx ?_))
  cases h
  exact ⟨_,rfl,rfl,⟨its2,H3,kr,hT,Fp.at hH⟩⟩
 rintro e s hq
 rcases ag with aD|aC
 ·dsimp only at h hq
  obtain ⟨rfl,hR⟩:=hq
  obtain ⟨a3,af,rfl,hT,hH⟩:=hR
  replace hH:Fp H af (.cel k0_ (Z2 c0_)::.cel k1_ [iv c1_]::.cel k2_ [iv c2_]::its) (.cel k0_ (Z2 c0_)::.cel k1_ [iv c1_]::.cel k2_ [iv c2_]::a3):=hH
  refine bx ?_
  cases h
  exact ⟨[],kr,kr,a3,hT,Fp.at hH⟩
 dsimp only at h hq
 obtain ⟨rfl,hq⟩:=hq
 refine br ?_
 cases h
 exact hq
theorem Zds (N:Nat)(a0_:Zaa)(r:Int)(h:ZbU N a0_=some r):Zbr Try.prog 55 [.agg (Zbf a0_)] (iv r):=by
 unfold ZbU at h
 have hH  := hp0
 refine ZaI Zwe rfl rfl (Zat _ _ _ ?_) rfl
 refine sq (rg Z3.f (tq (sq (sq (rgX ⟨[(1,.loc 1 0),(22,bv ((decide (a0_.Period<1))||((decide (a0_.Period>960))||((decide (a0_.From<0))||(decide (a0_.From≥a0_.Period))))))],[(1,(Zbf a0_))],[]⟩ ?_ ?_)))))
 ·rcases Bool.eq_false_or_eq_true (decide (a0_.Period<1)) with hc1|hc2
  ·exact (EP.u 2 (Zad (c:=(decide (a0_.Period<1))) (h:=hc1)) (EP.f (by simp only [hc1];kernel_rfl)))
  refine (EP.u 2 (Zad (c:=(decide (a0_.Period<1))) (h:=hc2)) ?_)
  rcases Bool.eq_false_or_eq_true (decide (a0_.Period>960)) with hc3|hc4
  ·exact (EP.u 3 (Zad (c:=(decide (a0_.Period>960))) (h:=hc3)) (EP.f (by simp only [hc2,hc3];kernel_rfl)))
  refine (EP.u 3 (Zad (c:=(decide (a0_.Period>960))) (h:=hc4)) ?_)
  rcases Bool.eq_false_or_eq_true (decide (a0_.From<0)) with hc5|hc6
  ·exact (EP.u 4 (Zad (c:=(decide (a0_.From<0))) (h:=hc5)) (EP.f (by simp only [hc2,hc4,hc5];kernel_rfl)))
  exact (EP.u 4 (Zad (c:=(decide (a0_.From<0))) (h:=hc6)) (EP.f (by simp only [hc2,hc4,hc6];kernel_rfl)))
 refine tq (it h (λhc7 h=>?_) (λhc7 h=>?_))
 ·refine sq (rg Z3.f (tq (rt (tr ?_))))
  cases h
  exact ZaD kr
 refine sk (tq (kq (sq (sq (rgX ⟨[(32,bv ((decide (a0_.Long<1))||(decide (a0_.Long>a0_.Period))))],[],[]⟩ ?_ ?_)))))
 ·rcases Bool.eq_false_or_eq_true (decide (a0_.Long<1)) with hc8|hc9
  ·exact (EP.u 2 (Zad (c:=(decide (a0_.Long<1))) (h:=hc8)) (EP.f (by simp only [hc8];kernel_rfl)))
  exact (EP.u 2 (Zad (c:=(decide (a0_.Long<1))) (h:=hc9)) (EP.f (by simp only [hc9];kernel_rfl)))
 refine tq (it h (λa0 h=>?_) (λa0 h=>?_))
 ·refine sq (rg Z3.f (tq (rt (tr ?_))))
  cases h
  exact ZaD kr
 refine sk (tq (kq (sq (rg Z3.f (tq (rt ?_))))))
 cases h
 exact ZaD kr
theorem Zfs (N:Nat)(a0_:(List Zaa))(r:Int)(h:Zb0 N a0_=some r):Zbr Try.prog 57 [ZaO false a0_] (iv r):=by
 unfold Zb0 at h
 have hH  := hp0
 refine ZaI Zwc rfl rfl (Zat _ _ _ ?_) rfl
 refine sq (rg Z3.f (tq (sq (sq (rg (Z3.u 1 (Zac (ys:=[ZaO false a0_]) (h:=Zas ZaR)) Z3.f) (tq (it h (λhc1 h=>?_) (λhc1 h=>?_))))))))
 ·refine sq (rg Z3.f (tq (rt (tr ?_))))
  cases h
  exact ZaD kr
 refine sk (tq (kq (sq (sq (rg (Z3.u 1 (Zac (ys:=[ZaO false a0_]) (h:=Zas ZaR)) Z3.f) (tq (bk ?_)))))))
 obtain ⟨a3,a1,h⟩:=bs h
 refine Za0 ((ZaM (λ(x:Int) s=>s=⟨[(9,ZaO false a0_),(10,iv ((List.length a0_:Nat):Int)),(11,iv x)],[],[]⟩) (λx:Int=>Za1 N a0_ x) (λ(p:(Unit)⊕(Int)) e s=>match p with|(.inl p)=>e=.exit 0/\(s=⟨[],[],[]⟩)|(.inr p)=>e=.ret/\∃ xs,resL s i57.res=some xs/\ZbZ xs=iv p) ?_ N _ a3 _ a1 kr).mono ?_)
 ·clear h a1
  rintro i2 o s h hR
  obtain rfl:=hR
  replace h:Za1 N a0_ i2=some o:=h
  unfold Za1 at h
  refine sq (rg Z3.f (tq (sq (it h (λa6 h=>?_) (λa6 h=>?_)))))
  ·refine sk (tq (kq (sq (bk (sq ?_)))))
   obtain ⟨a0,a2,h⟩:=bs h
   refine rg (Z3.u 0 (Zac (ys:=[ZaO false a0_,iv i2]) (h:=Zae ZaR a2)) (Z3.u 0 (Zav (sz:=3) (off:=0) (cs:=[.int .i64 a0.Period,.int .i64 a0.From,.int .i64 a0.Long]) (r:=.agg (Zbf a0)) ZaR a2) Z3.f)) (tq (sq ?_))
   obtain ⟨a7,a4,h⟩:=bs h
   refine rg (Z3.v 1 (ZaE (hc:=Zds N a0 a7 a4)) Z3.f) (tq (sq (rg Z3.f (tq (it h (λa5 h=>?_) (λa5 h=>?_))))))
   ·refine sq (rg Z3.f (tq (rt (br (tr ?_)))))
    cases h
    exact ⟨_,rfl,rfl,ZaD kr⟩
   refine sk (bn (tq (kq (rg Z3.f ?_))))
   cases h
   exact ⟨_,rfl,kr⟩
  refine kq (xq (tx ?_))
  cases h
  exact ⟨_,rfl,rfl,kr⟩
 rintro e s hq
 rcases a3 with a9|a8
 ·dsimp only at h hq
  obtain ⟨rfl,hR⟩:=hq
  obtain rfl:=hR
  refine bx (tq (sq (rg Z3.f (tq (rt ?_)))))
  cases h
  exact ZaD kr
 dsimp only at h hq
 obtain ⟨rfl,hq⟩:=hq
 refine br (tr ?_)
 cases h
 exact hq
theorem Zj4 (N:Nat)(a0_:Int)(a1_:Int)(r:Int)(h:ZeH N a0_ a1_=some r):Zbr Try.prog 59 [iv a0_,iv a1_] (iv r):=by
 unfold ZeH at h
 have hH  := hp0
 refine ZaI Zwa rfl rfl (Zat _ _ _ ?_) rfl
 refine sq (rg Z3.f (tq (sq (sq (rg Z3.f (tq (bk ?_)))))))
 obtain ⟨a1,a0,h⟩:=bs h
 refine Za0 ((ZaM (λ(x:Int) s=>s=⟨[(0,iv a0_),(1,iv a1_),(5,iv x)],[],[]⟩) (λx:Int=>ZbS N a0_ a1_ x) (λ(p:(Unit)⊕(Int)) e s=>match p with|(.inl p)=>e=.exit 0/\(s=⟨[],[],[]⟩)|(.inr p)=>e=.ret/\∃ xs,resL s i59.res=some xs/\ZbZ xs=iv p) ?_ N _ a1 _ a0 kr).mono ?_)
 ·clear h a0
  rintro i1 o s h hR
  obtain rfl:=hR
  replace h:ZbS N a0_ a1_ i1=some o:=h
  unfold ZbS at h
  refine sq (sq (rg Z3.f (tq (it h (λa8 h=>?_) (λa8 h=>?_)))))
  ·refine sk (tq (kq (sq (bk (sq ?_)))))
   obtain ⟨a9,hj,h⟩:=bs h
   refine rgR (λs=>s=⟨[(0,iv a0_),(1,iv a1_),(5,iv i1),(20,bv a9)],[],[]⟩) ?_ ?_
   ·clear h
    obtain ⟨a2,a4,hj⟩:=bs hj
    refine (EP.u 2 (Zac (ys:=[iv a0_,iv i1]) (h:=Za3 a4)) ?_)
    rcases ZaJ hj with ⟨a7,hj⟩|⟨a6,hj⟩
    ·refine (EP.u 0 (Zad (c:=(a2==0)) (h:=a7)) ?_)
     obtain ⟨ac,a3,hj⟩:=bs hj
     obtain rfl:=Zao hj
     exact (EP.u 3 (Zac (ys:=[iv a1_,iv i1]) (h:=Za3 a3)) (EP.f kr))
    obtain rfl:=Zao hj
    exact (EP.u 0 (Zad (c:=(a2==0)) (h:=a6)) (EP.f kr))
   clear hj
   rintro s hR
   obtain rfl:=hR
   refine tq (it h (λa5 h=>?_) (λa5 h=>?_))
   ·refine sq (rg Z3.f (tq (rt (br (tr ?_)))))
    cases h
    exact ⟨_,rfl,rfl,ZaD kr⟩
   refine sk (bn (tq (kq (rg Z3.f ?_))))
   cases h
   exact ⟨_,rfl,kr⟩
  refine kq (xq (tx ?_))
  cases h
  exact ⟨_,rfl,rfl,kr⟩
 rintro e s hq
 rcases a1 with ab|aa
 ·dsimp only at h hq
  obtain ⟨rfl,hR⟩:=hq
  obtain rfl:=hR
  refine bx (tq (sq (rg Z3.f (tq (rt ?_)))))
  cases h
  exact ZaD kr
 dsimp only at h hq
 obtain ⟨rfl,hq⟩:=hq
 refine br (tr ?_)
 cases h
 exact hq
theorem Zj2 (N:Nat)(a0_:Int)(a1_:Int)(r:Int)(h:ZeG N a0_ a1_=some r):Zbr Try.prog 60 [iv a0_,iv a1_] (iv r):=by
 unfold ZeG at h
 have hH  := hp0
 refine ZaI Zv9 rfl rfl (Zat _ _ _ ?_) rfl
 refine sq (rg Z3.f (tq (sq ?_)))
 obtain ⟨m1,hm1,h⟩:=bs h
 refine rg (Z3.u 2 (Zac (ys:=[iv a0_,iv a1_]) (h:=Za3 hm1)) Z3.f) (tq ?_)
 obtain ⟨a2,a0,h⟩:=bs h
 refine ZfE [5] (λs=>s=⟨[(5,iv a2)],[],[]⟩) ?_ ?_
 ·clear h
  have h:=a0
  refine sq (rg Z3.f (tq (it h (λa1 h=>?_) (λa1 h=>?_))))
  ·refine rg Z3.f ?_
   cases h
   exact ⟨rfl,kr⟩
  refine sk ?_
  cases h
  exact ⟨rfl,kr⟩
 clear a0
 rintro s hR
 obtain rfl:=hR
 refine sq (rg Z3.f (tq (rt ?_)))
 cases h
 exact ZaD kr
theorem Zii (N:Nat)(a0_:Int)(a1_:Int)(r:Int)(h:ZdG N a0_ a1_=some r):Zbr Try.prog 62 [iv a0_,iv a1_] (iv r):=by
 unfold ZdG at h
 have hH  := hp0
 refine ZaI Zv7 rfl rfl (Zat _ _ _ ?_) rfl
 refine sq (rg Z3.f (tq (sq ?_)))
 obtain ⟨m1,hm1,h⟩:=bs h
 obtain ⟨m2,hm2,h⟩:=bs h
 refine rg (Z3.u 2 (Zac (ys:=[iv a0_,iv a1_]) (h:=Za3 hm1)) (Z3.u 3 (Zac (ys:=[iv (w64 (m1+a1_)),iv a1_]) (h:=Za3 hm2)) Z3.f)) (tq (rt ?_))
 cases h
 exact ZaD kr
theorem Zfi (N:Nat)(a0_:Int)(a1_:Int)(r:Int)(h:Zc4 N a0_ a1_=some r):Zbr Try.prog 63 [iv a0_,iv a1_] (iv r):=by
 unfold Zc4 at h
 have hH  := hp0
 refine ZaI Zv6 rfl rfl (Zat _ _ _ ?_) rfl
 refine sq (rg Z3.f (tq (sq (bk ?_))))
 obtain ⟨a3,a0,h⟩:=bs h
 refine Za0 ((ZaM (λ(x:Int×Int) s=>s=⟨[(0,iv x.1),(1,iv x.2)],[],[]⟩) (λx:Int×Int=>ZbE N x.1 x.2) (λ(p:Int) e s=>e=.exit 0/\(s=⟨[(0,iv p)],[],[]⟩)) ?_ N _ a3 _ a0 kr).mono ?_)
 ·clear h a0
  rintro ⟨i1,i2⟩ o s h hR
  obtain rfl:=hR
  replace h:ZbE N i1 i2=some o:=h
  unfold ZbE at h
  refine sq (sq (rg Z3.f (tq (it h (λa2 h=>?_) (λa2 h=>?_)))))
  ·refine sk (tq (kq (bk ?_)))
   obtain ⟨a4,a1,h⟩:=bs h
   refine rq (Z3.u 3 (Zac (ys:=[iv i1,iv i2]) (h:=Za3 a1)) Z3.f) (bn ?_)
   cases h
   exact ⟨_,rfl,kr⟩
  refine kq (xq (tx ?_))
  cases h
  exact ⟨_,rfl,rfl,kr⟩
 rintro e s hq
 obtain ⟨rfl,hR⟩:=hq
 obtain rfl:=hR
 refine bx (tq (sq (rg Z3.f (tq (rt ?_)))))
 cases h
 exact ZaD kr
theorem Ziq (N:Nat)(a0_:Z5)(a1_:(List Z4))(a2_:Int)(r:Bool)(h:ZdI N a0_ a1_ a2_=some r):Zbr Try.prog 38 [.agg (Z2 a0_),Z6 false a1_,iv a2_] (bv r):=by
 unfold ZdI at h
 have hH  := hp0
 refine ZaI Zwr rfl rfl (Zat _ _ _ ?_) rfl
 refine sq (rg Z3.f (tq (sq ?_)))
 obtain ⟨e1,he1,h⟩:=bs h
 obtain ⟨e2,he2,h⟩:=bs h
 refine rq (Z3.u 4 (Zac (ys:=[Z6 false a1_,iv a2_]) (h:=Zae Zai he1)) (Z3.u 1 (ZaV (Zav (sz:=2) (off:=0) (cs:=[.int .i64 e1.Stream]) (r:=iv e1.Stream) Zai he1)) (Z3.u 0 (Zac (ys:=[Zah false a0_.Periods,iv e1.Stream]) (h:=Zae eI64 he2)) (Z3.u 0 (ZaV (Zav (sz:=1) (off:=0) (cs:=[.int .i64 e2]) (r:=iv e2) eI64 he2)) Z3.f)))) (tq (sq (sq ?_)))
 obtain ⟨e3,he3,h⟩:=bs h
 refine rg (Z3.u 2 (Zac (ys:=[Z6 false a1_,iv a2_]) (h:=Zae Zai he3)) (Z3.u 1 (Zav (sz:=2) (off:=1) (cs:=[.sl 4 false (List.map Zaj e3.Arms)]) (r:=Zap false e3.Arms) Zai he3) (Z3.u 0 (Zac (ys:=[Zap false e3.Arms]) (h:=Zas Zaj)) Z3.f))) (tq (bk ?_))
 obtain ⟨a3,a1,h⟩:=bs h
 refine Za0 ((ZaM (λ(x:Int×Int) s=>s=⟨[(1,Z6 false a1_),(2,iv a2_),(3,.loc 3 0),(7,iv e2),(8,iv x.1),(24,Zap false e3.Arms),(25,iv ((List.length e3.Arms:Nat):Int)),(26,iv x.2)],[(3,(Z2 a0_))],[]⟩) (λx:Int×Int=>Zb8 N a0_ a1_ a2_ e2 e3 x.1 x.2) (λ(p:(Int)⊕(Bool)) e s=>match p with|(.inl p)=>e=.exit 0/\(s=⟨[(7,iv e2),(8,iv p)],[],[]⟩)|(.inr p)=>e=.ret/\∃ xs,resL s i38.res=some xs/\ZbZ xs=bv p) ?_ N _ a3 _ a1 kr).mono ?_)
 ·clear h a1
  rintro ⟨i4,i5⟩ o s h hR
  obtain rfl:=hR
  replace h:Zb8 N a0_ a1_ a2_ e2 e3 i4 i5=some o:=h
  unfold Zb8 at h
  refine sq (rg Z3.f (tq (sq (it h (λac h=>?_) (λac h=>?_)))))
  ·refine sk (tq (kq (sq (bk (sq ?_)))))
   obtain ⟨a0,a2,h⟩:=bs h
   refine rg (Z3.u 0 (Zac (ys:=[Zap false e3.Arms,iv i5]) (h:=Zae Zaj a2)) (Z3.u 0 (Zav (sz:=4) (off:=0) (cs:=[.int .i64 a0.From,.int .i64 a0.To,.int .i64 a0.By,.int .i64 a0.Next]) (r:=.agg (Zbc a0)) Zaj a2) Z3.f)) (tq (sq (sq ?_)))
   obtain ⟨ae,hj,h⟩:=bs h
   refine rgR (λs=>s=⟨[(1,Z6 false a1_),(2,iv a2_),(3,.loc 3 0),(7,iv e2),(10,.loc 10 0),(24,Zap false e3.Arms),(25,iv ((List.length e3.Arms:Nat):Int)),(26,iv i5),(54,bv ae)],[(3,(Z2 a0_)),(10,(Zbc a0))],[]⟩) ?_ ?_
   ·clear h
    rcases ZaJ hj with ⟨ab,hj⟩|⟨aa,hj⟩
    ·obtain rfl:=Zao hj
     exact (EP.u 3 (Zad (c:=(a0.From != i4)) (h:=ab)) (EP.f kr))
    refine (EP.u 3 (Zad (c:=(a0.From != i4)) (h:=aa)) ?_)
    rcases ZaJ hj with ⟨a9,hj⟩|⟨a8,hj⟩
    ·obtain rfl:=Zao hj
     exact (EP.u 5 (Zad (c:=(decide (a0.To<=a0.From))) (h:=a9)) (EP.f kr))
    refine (EP.u 5 (Zad (c:=(decide (a0.To<=a0.From))) (h:=a8)) ?_)
    rcases ZaJ hj with ⟨a7,hj⟩|⟨a6,hj⟩
    ·obtain rfl:=Zao hj
     exact (EP.u 5 (Zad (c:=(decide (a0.To>e2))) (h:=a7)) (EP.f kr))
    refine (EP.u 5 (Zad (c:=(decide (a0.To>e2))) (h:=a6)) ?_)
    obtain ⟨ad,a4,hj⟩:=bs hj
    obtain rfl:=Zao hj
    exact (EP.v 6 (ZaE (hc:=Zgd N a0_ a1_ a2_ a0 ad a4)) (EP.f kr))
   clear hj
   rintro s hR
   obtain rfl:=hR
   refine tq (it h (λa5 h=>?_) (λa5 h=>?_))
   ·refine sq (rg Z3.f (tq (rt (tr (br (tr ?_))))))
    cases h
    exact ⟨_,rfl,rfl,ZaD kr⟩
   refine sk (tq (kq (rg Z3.f (bn (tq (kq (rg Z3.f ?_)))))))
   cases h
   exact ⟨_,rfl,kr⟩
  refine kq (xq (tx ?_))
  cases h
  exact ⟨_,rfl,rfl,kr⟩
 rintro e s hq
 rcases a3 with ag|af
 ·dsimp only at h hq
  obtain ⟨rfl,hR⟩:=hq
  obtain rfl:=hR
  refine bx (tq (sq (rg Z3.f (tq (rt ?_)))))
  cases h
  exact ZaD kr
 dsimp only at h hq
 obtain ⟨rfl,hq⟩:=hq
 refine br (tr ?_)
 cases h
 exact hq
theorem Zga (N:Nat)(a0_:Zaa)(a1_:Zaa)(r:Bool)(h:Zb7 N a0_ a1_=some r):Zbr Try.prog 52 [.agg (Zbf a0_),.agg (Zbf a1_)] (bv r):=by
 unfold Zb7 at h
 have hH  := hp0
 refine ZaI Zwh rfl rfl (Zat _ _ _ ?_) rfl
 refine sq (rg Z3.f (tq (sq ?_)))
 obtain ⟨r1,hr1,h⟩:=bs h
 refine rg (Z3.v 4 (ZaE (hc:=Zj4 N a0_.Period a1_.Period r1 hr1)) Z3.f) (tq (sq (sq (rg Z3.f (tq (bk ?_))))))
 obtain ⟨a1,a0,h⟩:=bs h
 refine Za0 ((ZaM (λ(x:Int) s=>s=⟨[(2,.loc 2 0),(3,.loc 3 0),(5,iv r1),(6,iv x)],[(2,(Zbf a0_)),(3,(Zbf a1_))],[]⟩) (λx:Int=>ZaW N a0_ a1_ r1 x) (λ(p:(Unit)⊕(Bool)) e s=>match p with|(.inl p)=>e=.exit 0/\(s=⟨[],[],[]⟩)|(.inr p)=>e=.ret/\∃ xs,resL s i52.res=some xs/\ZbZ xs=bv p) ?_ N _ a1 _ a0 kr).mono ?_)
 ·clear h a0
  rintro i2 o s h hR
  obtain rfl:=hR
  replace h:ZaW N a0_ a1_ r1 i2=some o:=h
  unfold ZaW at h
  refine sq (sq (rg Z3.f (tq (it h (λa4 h=>?_) (λa4 h=>?_)))))
  ·refine sk (tq (kq (sq (bk (sq ?_)))))
   obtain ⟨a5,a2,h⟩:=bs h
   refine rg (Z3.v 8 (ZaE (hc:=Zj2 N (w64 ((w64 (a1_.From-a0_.From))-i2)) r1 a5 a2)) Z3.f) (tq (it h (λa3 h=>?_) (λa3 h=>?_)))
   ·refine sq (rg Z3.f (tq (rt (br (tr ?_)))))
    cases h
    exact ⟨_,rfl,rfl,ZaD kr⟩
   refine sk (bn (tq (kq (rg Z3.f ?_))))
   cases h
   exact ⟨_,rfl,kr⟩
  refine kq (xq (tx ?_))
  cases h
  exact ⟨_,rfl,rfl,kr⟩
 rintro e s hq
 rcases a1 with a7|a6
 ·dsimp only at h hq
  obtain ⟨rfl,hR⟩:=hq
  obtain rfl:=hR
  refine bx (tq (sq (rg Z3.f (tq (rt ?_)))))
  cases h
  exact ZaD kr
 dsimp only at h hq
 obtain ⟨rfl,hq⟩:=hq
 refine br (tr ?_)
 cases h
 exact hq
theorem Zhw (N:Nat)(a0_:Int)(a1_:(List Int))(r:Int)(h:Zdi N a0_ a1_=some r):Zbr Try.prog 58 [iv a0_,Zah false a1_] (iv r):=by
 unfold Zdi at h
 have hH  := hp0
 refine ZaI Zwb rfl rfl (Zat _ _ _ ?_) rfl
 refine sq (rg Z3.f (tq (sq (rg Z3.f (tq (sq (sq (rg (Z3.u 1 (Zac (ys:=[Zah false a1_]) (h:=Zas eI64)) Z3.f) (tq (bk ?_))))))))))
 obtain ⟨a8,a0,h⟩:=bs h
 refine Za0 ((ZaM (λ(x:Int×Int) s=>s=⟨[(0,iv a0_),(5,iv x.1),(8,Zah false a1_),(9,iv ((List.length a1_:Nat):Int)),(10,iv x.2)],[],[]⟩) (λx:Int×Int=>Za4 N a0_ a1_ x.1 x.2) (λ(p:Int) e s=>e=.exit 0/\(s=⟨[(5,iv p)],[],[]⟩)) ?_ N _ a8 _ a0 kr).mono ?_)
 ·clear h a0
  rintro ⟨i1,i2⟩ o s h hR
  obtain rfl:=hR
  replace h:Za4 N a0_ a1_ i1 i2=some o:=h
  unfold Za4 at h
  refine sq (rg Z3.f (tq (sq (it h (λa7 h=>?_) (λa7 h=>?_)))))
  ·refine sk (tq (kq (sq (bk (sq ?_)))))
   obtain ⟨a2,a1,h⟩:=bs h
   refine rg (Z3.u 0 (Zac (ys:=[Zah false a1_,iv i2]) (h:=Zae eI64 a1)) (Z3.u 0 (Zav (sz:=1) (off:=0) (cs:=[.int .i64 a2]) (r:=iv a2) eI64 a1) Z3.f)) (tq (sq ?_))
   obtain ⟨a3,a4,h⟩:=bs h
   obtain ⟨a9,a5,h⟩:=bs h
   refine rg (Z3.v 3 (ZaE (hc:=Zfi N i1 a2 a3 a4)) (Z3.u 0 (Zac (ys:=[iv i1,iv a3]) (h:=ZmH a5)) Z3.f)) (tq (sq (rg Z3.f (tq (it h (λa6 h=>?_) (λa6 h=>?_))))))
   ·refine kq (xq (bo (tx ?_)))
    cases h
    exact ⟨_,rfl,rfl,kr⟩
   refine sk (bn (tq (kq (rg Z3.f ?_))))
   cases h
   exact ⟨_,rfl,kr⟩
  refine kq (xq (tx ?_))
  cases h
  exact ⟨_,rfl,rfl,kr⟩
 rintro e s hq
 obtain ⟨rfl,hR⟩:=hq
 obtain rfl:=hR
 refine bx (tq (sq (rg Z3.f (tq (rt ?_)))))
 cases h
 exact ZaD kr
theorem Zhu (N:Nat)(a0_:Zaa)(a1_:Zaa)(r:Int×Int×Int)(h:Zdh N a0_ a1_=some r):Zbr Try.prog 61 [.agg (Zbf a0_),.agg (Zbf a1_)] (.tup [iv r.1,iv r.2.1,iv r.2.2]):=by
 unfold Zdh at h
 have hH  := hp0
 refine ZaI Zv8 rfl rfl (Zat _ _ _ ?_) rfl
 refine sq (rg Z3.f (tq (sq ?_)))
 obtain ⟨r1,hr1,h⟩:=bs h
 refine rg (Z3.v 4 (ZaE (hc:=Zfi N a0_.Period a1_.Period r1 hr1)) Z3.f) (tq (sq (rq Z3.f (tq (rt ?_)))))
 cases h
 exact ZaD kr
theorem ZhD (N:Nat)(a0_:Z5)(a1_:(List Z4))(r:Bool)(h:Zdj N a0_ a1_=some r):Zbr Try.prog 24 [.agg (Z2 a0_),Z6 false a1_] (bv r):=by
 unfold Zdj at h
 have hH  := hp0
 refine ZaI ZwA rfl rfl (Zat _ _ _ ?_) rfl
 refine sq (rg Z3.f (tq (sq (sq (rgX ⟨[(1,Z6 false a1_),(2,.loc 2 0),(19,bv ((decide (((List.length a1_:Nat):Int)<1))||(decide (((List.length a1_:Nat):Int)>2000))))],[(2,(Z2 a0_))],[]⟩ ?_ ?_)))))
 ·refine (EP.u 1 (Zac (ys:=[Z6 false a1_]) (h:=Zas Zai)) ?_)
  rcases Bool.eq_false_or_eq_true (decide (((List.length a1_:Nat):Int)<1)) with hc1|hc2
  ·exact (EP.u 0 (Zad (c:=(decide (((List.length a1_:Nat):Int)<1))) (h:=hc1)) (EP.f (by simp only [hc1];kernel_rfl)))
  exact (EP.u 0 (Zad (c:=(decide (((List.length a1_:Nat):Int)<1))) (h:=hc2)) (EP.u 2 (Zac (ys:=[Z6 false a1_]) (h:=Zas Zai)) (EP.f (by simp only [hc2];kernel_rfl))))
 refine tq (it h (λhc3 h=>?_) (λhc3 h=>?_))
 ·refine sq (rg Z3.f (tq (rt (tr ?_))))
  cases h
  exact ZaD kr
 refine sk (tq (kq (sq ?_)))
 obtain ⟨l6,hl6,h⟩:=bs h
 obtain ⟨a4,H5,ha4,hH5,ha4b,hH⟩:=HP.make eI64 hH hl6
 replace hH:HP _ [.arr a4 1 false (List.map eI64 l6)]:=hH
 have hfa4:=Zbv (HP.get hH 0 rfl)
 refine rgS ⟨[(1,Z6 false a1_),(2,.loc 2 0),(5,a4)],[(2,(Z2 a0_))],H5⟩ (Z3.u 1 (Zac (ys:=[Z6 false a1_]) (h:=Zas Zai)) (Z3.h 0 (ZkX (H:=[]) (zero:=[.int .i64 0]) (bytes:=8) kr kr kr ha4 hH5 ha4b) Z3.f)) (by cases hfa4<;>kernel_rfl) (tq (sq (sq (rgS ⟨[(1,Z6 false a1_),(2,.loc 2 0),(5,a4),(23,Z6 false a1_),(24,iv ((List.length a1_:Nat):Int)),(25,iv 0)],[(2,(Z2 a0_))],H5⟩ (Z3.u 1 (Zac (ys:=[Z6 false a1_]) (h:=Zas Zai)) Z3.f) (by cases hfa4<;>kernel_rfl) (tq (ZqZ (bk ?_)))))))
 obtain ⟨aD,ak,h⟩:=bs h
 refine Za0 ((ZaM (λ(x:Int×(List Int)) s=>∃ (a7:AV) (H8:List HO),s=⟨[(1,Z6 false a1_),(2,.loc 2 0),(5,a7),(23,Z6 false a1_),(24,iv ((List.length a1_:Nat):Int)),(25,iv x.1)],[(2,(Z2 a0_))],H8⟩/\HP H8 [.arr a7 1 false (List.map eI64 x.2)]) (λx:Int×(List Int)=>Zbz N a0_ a1_ x.1 x.2) (λ(p:((List Int))⊕(Bool)) e s=>match p with|(.inl p)=>e=.exit 0/\(∃ (ae:AV) (aB:List HO),s=⟨[(5,ae)],[],aB⟩/\HP aB [.arr ae 1 false (List.map eI64 p)])|(.inr p)=>e=.ret/\∃ xs,resL s i24.res=some xs/\ZbZ xs=bv p) ?_ N _ aD _ ak ⟨a4,H5,(by show _=_;cases hfa4<;>kernel_rfl),(HP.pick hH [0] rfl)⟩).mono ?_)
 ·clear h ak
  rintro ⟨i9,bt⟩ o s h hR
  obtain ⟨a7,H8,rfl,hH⟩:=hR
  replace hH:HP _ [.arr a7 1 false (List.map eI64 bt)]:=hH
  have hfa7:=Zbv (HP.get hH 0 rfl)
  replace h:Zbz N a0_ a1_ i9 bt=some o:=h
  unfold Zbz at h
  refine sq (rgS ⟨[(1,Z6 false a1_),(2,.loc 2 0),(5,a7),(23,Z6 false a1_),(24,iv ((List.length a1_:Nat):Int)),(25,iv i9),(26,bv (decide (i9<((List.length a1_:Nat):Int))))],[(2,(Z2 a0_))],H8⟩ Z3.f (by cases hfa7<;>kernel_rfl) (tq (sq (it h (λbb h=>?_) (λbb h=>?_)))))
  ·refine sk (tq (kq (sq (bk (sq ?_)))))
   obtain ⟨a0,aJ,h⟩:=bs h
   refine rgS ⟨[(1,Z6 false a1_),(2,.loc 2 0),(5,a7),(6,iv i9),(7,.loc 7 0),(23,Z6 false a1_),(24,iv ((List.length a1_:Nat):Int)),(25,iv i9)],[(2,(Z2 a0_)),(7,(Zdm a0))],H8⟩ (Z3.u 1 (Zac (ys:=[Z6 false a1_,iv i9]) (h:=Zae Zai aJ)) (Z3.u 0 (Zav (sz:=2) (off:=0) (cs:=[.int .i64 a0.Stream,.sl 4 false (List.map Zaj a0.Arms)]) (r:=.agg (Zdm a0)) Zai aJ) (Z3.f (h:=(by cases hfa7<;>kernel_rfl))))) (by cases hfa7<;>kernel_rfl) (tq (sq (sq ?_)))
   obtain ⟨bf,hj,h⟩:=bs h
   refine rgR (λs=>s=⟨[(1,Z6 false a1_),(2,.loc 2 0),(5,a7),(7,.loc 7 0),(23,Z6 false a1_),(24,iv ((List.length a1_:Nat):Int)),(25,iv i9),(47,bv bf)],[(2,(Z2 a0_)),(7,(Zdm a0))],H8⟩) ?_ ?_
   ·clear h
    rcases ZaJ hj with ⟨ba,hj⟩|⟨b2,hj⟩
    ·obtain rfl:=Zao hj
     exact (EP.u 2 (Zad (c:=(decide (a0.Stream<0))) (h:=ba)) (EP.f (by show _=_;cases hfa7<;>kernel_rfl)))
    refine (EP.u 2 (Zad (c:=(decide (a0.Stream<0))) (h:=b2)) (EP.u 5 (Zac (ys:=[Zah false a0_.Periods]) (h:=Zas eI64)) ?_))
    rcases ZaJ hj with ⟨b1,hj⟩|⟨b0,hj⟩
    ·obtain rfl:=Zao hj
     exact (EP.u 0 (Zad (c:=(decide (a0.Stream≥((List.length a0_.Periods:Nat):Int)))) (h:=b1)) (EP.f (by show _=_;cases hfa7<;>kernel_rfl)))
    refine (EP.u 0 (Zad (c:=(decide (a0.Stream≥((List.length a0_.Periods:Nat):Int)))) (h:=b0)) ?_)
    obtain ⟨be,aW,hj⟩:=bs hj
    obtain rfl:=Zao hj
    exact (EP.v 5 (ZaE (hc:=Ziq N a0_ a1_ i9 be aW)) (EP.f (by show _=_;cases hfa7<;>kernel_rfl)))
   clear hj
   rintro s hR
   obtain rfl:=hR
   refine tq (it h (λaZ h=>?_) (λaZ h=>?_))
   ·refine sq (rgS ⟨[(4,bv false)],[],H8⟩ Z3.f (by cases hfa7<;>kernel_rfl) ?_)
    replace hH:HP _ []:=HP.pick hH [] rfl
    refine tq (rt (tr (br (tr ?_))))
    cases h
    exact ⟨_,rfl,rfl,ZaD kr⟩
   refine sk (tq (kq (sq (rgS ⟨[(1,Z6 false a1_),(2,.loc 2 0),(5,a7),(23,Z6 false a1_),(24,iv ((List.length a1_:Nat):Int)),(25,iv i9),(49,Zap false a0.Arms),(50,iv ((List.length a0.Arms:Nat):Int)),(51,iv 0)],[(2,(Z2 a0_))],H8⟩ (Z3.u 2 (Zac (ys:=[Zap false a0.Arms]) (h:=Zas Zaj)) Z3.f) (by cases hfa7<;>kernel_rfl) (tq (bk ?_))))))
   obtain ⟨aE,al,h⟩:=bs h
   refine Za0 ((ZaM (λ(x:Int×(List Int)) s=>∃ (a3:AV) (a6:List HO),s=⟨[(1,Z6 false a1_),(2,.loc 2 0),(5,a3),(23,Z6 false a1_),(24,iv ((List.length a1_:Nat):Int)),(25,iv i9),(49,Zap false a0.Arms),(50,iv ((List.length a0.Arms:Nat):Int)),(51,iv x.1)],[(2,(Z2 a0_))],a6⟩/\HP a6 [.arr a3 1 false (List.map eI64 x.2)]) (λx:Int×(List Int)=>Zby N a0 x.1 x.2) (λ(p:(List Int)) e s=>e=.exit 2/\(∃ (aa:AV) (ad:List HO),s=⟨[(1,Z6 false a1_),(2,.loc 2 0),(5,aa),(23,Z6 false a1_),(24,iv ((List.length a1_:Nat):Int)),(25,iv i9)],[(2,(Z2 a0_))],ad⟩/\HP ad [.arr aa 1 false (List.map eI64 p)])) ?_ N _ aE _ al ⟨a7,H8,(by show _=_;cases hfa7<;>kernel_rfl),(HP.pick hH [0] rfl)⟩).mono ?_)
   ·clear h al
    rintro ⟨ab,aM⟩ o s h hR
    obtain ⟨a3,a6,rfl,hH⟩:=hR
    replace hH:HP _ [.arr a3 1 false (List.map eI64 aM)]:=hH
    have a1:=Zbv (HP.get hH 0 rfl)
    replace h:Zby N a0 ab aM=some o:=h
    unfold Zby at h
    refine sq (rgS ⟨[(1,Z6 false a1_),(2,.loc 2 0),(5,a3),(23,Z6 false a1_),(24,iv ((List.length a1_:Nat):Int)),(25,iv i9),(49,Zap false a0.Arms),(50,iv ((List.length a0.Arms:Nat):Int)),(51,iv ab),(52,bv (decide (ab<((List.length a0.Arms:Nat):Int))))],[(2,(Z2 a0_))],a6⟩ Z3.f (by cases a1<;>kernel_rfl) (tq (sq (it h (λaU h=>?_) (λaU h=>?_)))))
    ·refine sk (tq (kq ?_))
     obtain ⟨aG,am,h⟩:=bs h
     refine ZfE [1,2,5,23,24,25,49,50,51] (λs=>∃ (a9:AV) (ac:List HO),s=⟨[(1,Z6 false a1_),(2,.loc 2 0),(5,a9),(23,Z6 false a1_),(24,iv ((List.length a1_:Nat):Int)),(25,iv i9),(49,Zap false a0.Arms),(50,iv ((List.length a0.Arms:Nat):Int)),(51,iv ab)],[(2,(Z2 a0_))],ac⟩/\HP ac [.arr a9 1 false (List.map eI64 aG)]) ?_ ?_
     ·clear h
      have h:=am
      refine bk (sq ?_)
      obtain ⟨a2,aw,h⟩:=bs h
      refine rgS ⟨[(1,Z6 false a1_),(2,.loc 2 0),(5,a3),(9,.loc 9 0),(23,Z6 false a1_),(24,iv ((List.length a1_:Nat):Int)),(25,iv i9),(49,Zap false a0.Arms),(50,iv ((List.length a0.Arms:Nat):Int)),(51,iv ab)],[(2,(Z2 a0_)),(9,(Zbc a2))],a6⟩ (Z3.u 0 (Zac (ys:=[Zap false a0.Arms,iv ab]) (h:=Zae Zaj aw)) (Z3.u 0 (Zav (sz:=4) (off:=0) (cs:=[.int .i64 a2.From,.int .i64 a2.To,.int .i64 a2.By,.int .i64 a2.Next]) (r:=.agg (Zbc a2)) Zaj aw) (Z3.f (h:=(by cases a1<;>kernel_rfl))))) (by cases a1<;>kernel_rfl) (tq (sq (rgS ⟨[(1,Z6 false a1_),(2,.loc 2 0),(5,a3),(9,.loc 9 0),(23,Z6 false a1_),(24,iv ((List.length a1_:Nat):Int)),(25,iv i9),(49,Zap false a0.Arms),(50,iv ((List.length a0.Arms:Nat):Int)),(51,iv ab),(57,bv (a2.By==(-1)))],[(2,(Z2 a0_)),(9,(Zbc a2))],a6⟩ Z3.f (by cases a1<;>kernel_rfl) (tq (it h (λaT h=>?_) (λaT h=>?_))))))
      ·obtain ⟨a5,av,h⟩:=bs h
       obtain ⟨bj,bd,_,aX,aA,aY,aq⟩:=HP.elem (k:=0) (a:=a3) (sz:=1) (frz:=false) eI64 hH rfl av
       obtain ⟨bu,au,h⟩:=bs h
       obtain ⟨bi,bc,_,ao,az,ap,an⟩:=HP.elem (k:=0) (a:=a3) (sz:=1) (frz:=false) eI64 hH rfl au
       obtain ⟨aL,aV,hH⟩:=HP.setRow (k:=0) (off:=0) (cs:=[iv (w64 (a5+1))]) (ps:=[.int .i64 (w64 (a5+1))]) (e':=(w64 (a5+1))) eI64 hH rfl ap az (ao rfl) au kr kr
       replace hH:HP _ [.arr a3 1 false (List.map eI64 (List.set aM (Int.toNat a2.Next) (w64 (a5+1))))]:=hH
       refine rgS ⟨[(1,Z6 false a1_),(2,.loc 2 0),(5,a3),(23,Z6 false a1_),(24,iv ((List.length a1_:Nat):Int)),(25,iv i9),(49,Zap false a0.Arms),(50,iv ((List.length a0.Arms:Nat):Int)),(51,iv ab)],[(2,(Z2 a0_))],aL⟩ (Z3.u 3 (Zac (ys:=[a3,iv a2.Next]) (by cases a1<;>kernel_rfl) (aq .i64)) (Z3.u 0 (Zei (H:=a6) (off:=0) (cs:=[.int .i64 a5]) (r:=iv a5) eI64 av aA) (Z3.u 1 (Zac (ys:=[a3,iv a2.Next]) (by cases a1<;>kernel_rfl) (an .i64)) (Z3.o 0 (ZcI (H:=a6) (v:=iv (w64 (a5+1))) (hw:=aV)) Z3.f)))) (by cases a1<;>kernel_rfl) (bn ?_)
       cases h
       exact ⟨rfl,⟨a3,aL,(by show _=_;cases a1<;>kernel_rfl),(HP.pick hH [0] rfl)⟩⟩
      refine sk (bn ?_)
      cases h
      exact ⟨rfl,⟨a3,a6,(by show _=_;cases a1<;>kernel_rfl),(HP.pick hH [0] rfl)⟩⟩
     clear am
     rintro s hR
     obtain ⟨a9,ac,rfl,hH⟩:=hR
     replace hH:HP _ [.arr a9 1 false (List.map eI64 aG)]:=hH
     have ag:=Zbv (HP.get hH 0 rfl)
     refine rgS ⟨[(1,Z6 false a1_),(2,.loc 2 0),(5,a9),(23,Z6 false a1_),(24,iv ((List.length a1_:Nat):Int)),(25,iv i9),(49,Zap false a0.Arms),(50,iv ((List.length a0.Arms:Nat):Int)),(51,iv (w64 (ab+1)))],[(2,(Z2 a0_))],ac⟩ Z3.f (by cases ag<;>kernel_rfl) ?_
     cases h
     exact ⟨_,rfl,⟨a9,ac,(by show _=_;cases ag<;>kernel_rfl),(HP.pick hH [0] rfl)⟩⟩
    refine kq (xq (tx ?_))
    cases h
    exact ⟨_,rfl,rfl,⟨a3,a6,(by show _=_;cases a1<;>kernel_rfl),(HP.pick hH [0] rfl)⟩⟩
   rintro e s hq
   obtain ⟨rfl,hR⟩:=hq
   obtain ⟨aa,ad,rfl,hH⟩:=hR
   replace hH:HP _ [.arr aa 1 false (List.map eI64 aE)]:=hH
   have ai:=Zbv (HP.get hH 0 rfl)
   refine bx (bn (tq (kq (rgS ⟨[(1,Z6 false a1_),(2,.loc 2 0),(5,aa),(23,Z6 false a1_),(24,iv ((List.length a1_:Nat):Int)),(25,iv (w64 (i9+1)))],[(2,(Z2 a0_))],ad⟩ Z3.f (by cases ai<;>kernel_rfl) ?_))))
   cases h
   exact ⟨_,rfl,⟨aa,ad,(by show _=_;cases ai<;>kernel_rfl),(HP.pick hH [0] rfl)⟩⟩
  refine kq (xq (tx ?_))
  cases h
  exact ⟨_,rfl,rfl,⟨a7,H8,(by show _=_;cases hfa7<;>kernel_rfl),(HP.pick hH [0] rfl)⟩⟩
 rintro e s hq
 rcases aD with af|bm
 ·dsimp only at h hq
  obtain ⟨rfl,hR⟩:=hq
  obtain ⟨ae,aB,rfl,hH⟩:=hR
  replace hH:HP _ [.arr ae 1 false (List.map eI64 af)]:=hH
  have bl:=Zbv (HP.get hH 0 rfl)
  refine bx ?_
  obtain ⟨ax,_,ay,hH⟩:=HP.frz (k:=0) (a:=ae) (sz:=1) (frz:=false) eI64 hH rfl
  replace hH:HP _ [.arr ae 1 true (List.map eI64 af)]:=hH
  refine ⟨⟨[(5,Zah false af)],[],ax⟩,(Zl9 5 (H:=aB) (a:=ae) (by decide) kr kr ay kr),?_⟩
  replace hH:HP _ []:=HP.pick hH [] rfl
  refine tq (sq (sq ?_))
  obtain ⟨a8,aQ,h⟩:=bs h
  refine rg (Z3.u 1 (Zac (ys:=[Zah false af,iv 1]) (h:=Zi4 eI64 aQ)) (Z3.u 0 (Zac (ys:=[Zah false a8]) (h:=Zas eI64)) Z3.f)) (tq (bk ?_))
  obtain ⟨aC,aj,h⟩:=bs h
  refine Za0 ((ZaM (λ(x:Int) s=>s=⟨[(68,Zah false a8),(69,iv ((List.length a8:Nat):Int)),(70,iv x)],[],ax⟩) (λx:Int=>ZbM N a8 x) (λ(p:(Unit)⊕(Bool)) e s=>match p with|(.inl p)=>e=.exit 4/\(s=⟨[],[],ax⟩)|(.inr p)=>e=.ret/\∃ xs,resL s i24.res=some xs/\ZbZ xs=bv p) ?_ N _ aC _ aj kr).mono ?_)
  ·clear h aj
   rintro aI o s h hR
   obtain rfl:=hR
   replace h:ZbM N a8 aI=some o:=h
   unfold ZbM at h
   refine sq (rg Z3.f (tq (sq (it h (λaS h=>?_) (λaS h=>?_)))))
   ·refine sk (tq (kq (sq (bk (sq ?_)))))
    obtain ⟨aK,ar,h⟩:=bs h
    refine rg (Z3.u 0 (Zac (ys:=[Zah false a8,iv aI]) (h:=Zae eI64 ar)) (Z3.u 0 (Zav (sz:=1) (off:=0) (cs:=[.int .i64 aK]) (r:=iv aK) eI64 ar) Z3.f)) (tq (sq (rg Z3.f (tq (it h (λaR h=>?_) (λaR h=>?_))))))
    ·refine sq (rg Z3.f (tq (rt (br (tr ?_)))))
     cases h
     exact ⟨_,rfl,rfl,ZaD kr⟩
    refine sk (bn (tq (kq (rg Z3.f ?_))))
    cases h
    exact ⟨_,rfl,kr⟩
   refine kq (xq (tx ?_))
   cases h
   exact ⟨_,rfl,rfl,kr⟩
  rintro e s hq
  rcases aC with bq|bp
  ·dsimp only at h hq
   obtain ⟨rfl,hR⟩:=hq
   obtain rfl:=hR
   refine bx (tq (sq (rg Z3.f (tq (rt ?_)))))
   cases h
   exact ZaD kr
  dsimp only at h hq
  obtain ⟨rfl,hq⟩:=hq
  refine br (tr ?_)
  cases h
  exact hq
 dsimp only at h hq
 obtain ⟨rfl,hq⟩:=hq
 refine br (pur (tr ?_))
 cases h
 exact hq
theorem Zim (N:Nat)(a0_:Z5)(a1_:Int)(a2_:Int)(a3_:Int)(a4_:Int)(r:Bool)(h:Zc6 N a0_ a1_ a2_ a3_ a4_=some r):Zbr Try.prog 44 [.agg (Z2 a0_),iv a1_,iv a2_,iv a3_,iv a4_] (bv r):=by
 unfold Zc6 at h
 have hH  := hp0
 refine ZaI Zwo rfl rfl (Zat _ _ _ ?_) rfl
 refine sq (rg Z3.f (tq (sq (sq (rg Z3.f (tq (bk ?_)))))))
 obtain ⟨ad,a5,h⟩:=bs h
 refine Za0 ((ZaM (λ(x:Int) s=>s=⟨[(1,iv a1_),(2,iv a2_),(3,iv a3_),(4,iv a4_),(5,.loc 5 0),(11,iv x)],[(5,(Z2 a0_))],[]⟩) (λx:Int=>Zb6 N a0_ a1_ a2_ a3_ a4_ x) (λ(p:(Unit)⊕(Bool)) e s=>match p with|(.inl p)=>e=.exit 0/\(s=⟨[],[],[]⟩)|(.inr p)=>e=.ret/\∃ xs,resL s i44.res=some xs/\ZbZ xs=bv p) ?_ N _ ad _ a5 kr).mono ?_)
 ·clear h a5
  rintro i1 o s h hR
  obtain rfl:=hR
  replace h:Zb6 N a0_ a1_ a2_ a3_ a4_ i1=some o:=h
  unfold Zb6 at h
  refine sq (sq (rg (Z3.u 3 (Zac (ys:=[Zab false a0_.Uses]) (h:=Zas ZaB)) Z3.f) (tq (it h (λax h=>?_) (λax h=>?_)))))
  ·refine sk (tq (kq (sq (bk (sq (rg Z3.f (tq (bk ?_))))))))
   obtain ⟨ae,a6,h⟩:=bs h
   refine Za0 ((ZaM (λ(x:Int) s=>s=⟨[(1,iv a1_),(2,iv a2_),(3,iv a3_),(4,iv a4_),(5,.loc 5 0),(11,iv i1),(12,iv x)],[(5,(Z2 a0_))],[]⟩) (λx:Int=>Zb5 N a0_ a1_ a2_ a3_ a4_ i1 x) (λ(p:(Unit)⊕(Bool)) e s=>match p with|(.inl p)=>e=.exit 2/\(s=⟨[(1,iv a1_),(2,iv a2_),(3,iv a3_),(4,iv a4_),(5,.loc 5 0),(11,iv i1)],[(5,(Z2 a0_))],[]⟩)|(.inr p)=>e=.ret/\∃ xs,resL s i44.res=some xs/\ZbZ xs=bv p) ?_ N _ ae _ a6 kr).mono ?_)
   ·clear h a6
    rintro a0 o s h hR
    obtain rfl:=hR
    replace h:Zb5 N a0_ a1_ a2_ a3_ a4_ i1 a0=some o:=h
    unfold Zb5 at h
    refine sq (sq (rg (Z3.u 3 (Zac (ys:=[Zab false a0_.Uses]) (h:=Zas ZaB)) Z3.f) (tq (it h (λau h=>?_) (λau h=>?_)))))
    ·refine sk (tq (kq (sq (bk (sq ?_)))))
     obtain ⟨aw,hj,h⟩:=bs h
     refine rqR (λs=>s=⟨[(1,iv a1_),(2,iv a2_),(3,iv a3_),(4,iv a4_),(5,.loc 5 0),(11,iv i1),(12,iv a0),(76,bv aw)],[(5,(Z2 a0_))],[]⟩) ?_ ?_
     ·clear h
      rcases ZaJ hj with ⟨ar,hj⟩|⟨ak,hj⟩
      ·refine (EP.u 2 (Zad (c:=(i1 != a0)) (h:=ar)) ?_)
       obtain ⟨a4,aa,hj⟩:=bs hj
       refine (EP.u 4 (Zac (ys:=[Zab false a0_.Uses,iv i1]) (h:=Zae ZaB aa)) (EP.u 1 (ZaV (Zav (sz:=4) (off:=0) (cs:=[.int .i64 a4.Stream]) (r:=iv a4.Stream) ZaB aa)) ?_))
       rcases ZaJ hj with ⟨aq,hj⟩|⟨al,hj⟩
       ·refine (EP.u 1 (Zad (c:=(a4.Stream==a1_)) (h:=aq)) ?_)
        obtain ⟨a3,a9,hj⟩:=bs hj
        refine (EP.u 5 (Zac (ys:=[Zab false a0_.Uses,iv a0]) (h:=Zae ZaB a9)) (EP.u 1 (ZaV (Zav (sz:=4) (off:=0) (cs:=[.int .i64 a3.Stream]) (r:=iv a3.Stream) ZaB a9)) ?_))
        rcases ZaJ hj with ⟨ap,hj⟩|⟨am,hj⟩
        ·refine (EP.u 1 (Zad (c:=(a3.Stream==a3_)) (h:=ap)) ?_)
         obtain ⟨a2,a8,hj⟩:=bs hj
         refine (EP.u 5 (Zac (ys:=[Zab false a0_.Uses,iv i1]) (h:=Zae ZaB a8)) (EP.u 1 (ZaV (Zav (sz:=4) (off:=1) (cs:=[.int .i64 a2.Port]) (r:=iv a2.Port) ZaB a8)) ?_))
         obtain ⟨a1,a7,hj⟩:=bs hj
         refine (EP.u 3 (Zac (ys:=[Zab false a0_.Uses,iv a0]) (h:=Zae ZaB a7)) (EP.u 1 (ZaV (Zav (sz:=4) (off:=1) (cs:=[.int .i64 a1.Port]) (r:=iv a1.Port) ZaB a7)) ?_))
         rcases ZaJ hj with ⟨ao,hj⟩|⟨an,hj⟩
         ·refine (EP.u 0 (Zad (c:=(a2.Port==a1.Port)) (h:=ao)) ?_)
          obtain ⟨ac,ai,hj⟩:=bs hj
          refine (EP.u 5 (ZfI (hc:=Zhy N a0_ i1 a2_ ac ai)) ?_)
          obtain ⟨ab,ag,hj⟩:=bs hj
          refine (EP.u 3 (ZfI (hc:=Zhy N a0_ a0 a4_ ab ag)) ?_)
          obtain ⟨av,af,hj⟩:=bs hj
          obtain rfl:=Zao hj
          exact (EP.u 0 (ZfI (hc:=Zga N ac ab av af)) (EP.f kr))
         obtain rfl:=Zao hj
         exact (EP.u 0 (Zad (c:=(a2.Port==a1.Port)) (h:=an)) (EP.f kr))
        obtain rfl:=Zao hj
        exact (EP.u 1 (Zad (c:=(a3.Stream==a3_)) (h:=am)) (EP.f kr))
       obtain rfl:=Zao hj
       exact (EP.u 1 (Zad (c:=(a4.Stream==a1_)) (h:=al)) (EP.f kr))
      obtain rfl:=Zao hj
      exact (EP.u 2 (Zad (c:=(i1 != a0)) (h:=ak)) (EP.f kr))
     clear hj
     rintro s hR
     obtain rfl:=hR
     refine tq (it h (λaj h=>?_) (λaj h=>?_))
     ·refine sq (rg Z3.f (tq (rt (br (tr ?_)))))
      cases h
      exact ⟨_,rfl,rfl,ZaD kr⟩
     refine sk (bn (tq (kq (rg Z3.f ?_))))
     cases h
     exact ⟨_,rfl,kr⟩
    refine kq (xq (tx ?_))
    cases h
    exact ⟨_,rfl,rfl,kr⟩
   rintro e s hq
   rcases ae with aB|aA
   ·dsimp only at h hq
    obtain ⟨rfl,hR⟩:=hq
    obtain rfl:=hR
    refine bx (bn (tq (rg Z3.f ?_)))
    cases h
    exact ⟨_,rfl,kr⟩
   dsimp only at h hq
   obtain ⟨rfl,hq⟩:=hq
   refine br (br (tr ?_))
   cases h
   exact ⟨_,rfl,rfl,hq⟩
  refine kq (xq (tx ?_))
  cases h
  exact ⟨_,rfl,rfl,kr⟩
 rintro e s hq
 rcases ad with az|ay
 ·dsimp only at h hq
  obtain ⟨rfl,hR⟩:=hq
  obtain rfl:=hR
  refine bx (tq (sq (rg Z3.f (tq (rt ?_)))))
  cases h
  exact ZaD kr
 dsimp only at h hq
 obtain ⟨rfl,hq⟩:=hq
 refine br (tr ?_)
 cases h
 exact hq
theorem ZgT (N:Nat)(a0_:(List Zaa))(r:Int×Int)(h:ZcK N a0_=some r):Zbr Try.prog 49 [ZaO false a0_] (.tup [iv r.1,iv r.2]):=by
 unfold ZcK at h
 have hH  := hp0
 refine ZaI Zwk rfl rfl (Zat _ _ _ ?_) rfl
 refine sq (rg Z3.f (tq (sq (sq ?_))))
 obtain ⟨r1,hr1,h⟩:=bs h
 refine rg (Z3.v 1 (ZaE (hc:=Zfs N a0_ r1 hr1)) Z3.f) (tq (sq (rg Z3.f (tq (it h (λhc2 h=>?_) (λhc2 h=>?_))))))
 ·refine sq (rg Z3.f (tq (rt (tr ?_))))
  cases h
  exact ZaD kr
 refine sk (tq (kq (sq ?_)))
 obtain ⟨l5,hl5,h⟩:=bs h
 obtain ⟨a3,H4,ha3,hH4,ha3b,hH⟩:=HP.make eI64 hH hl5
 replace hH:HP _ [.arr a3 1 false (List.map eI64 l5)]:=hH
 have hfa3:=Zbv (HP.get hH 0 rfl)
 refine rgS ⟨[(0,ZaO false a0_),(5,a3)],[],H4⟩ (Z3.u 1 (Zac (ys:=[ZaO false a0_]) (h:=Zas ZaR)) (Z3.h 0 (ZkX (H:=[]) (zero:=[.int .i64 0]) (bytes:=8) kr kr kr ha3 hH4 ha3b) Z3.f)) (by cases hfa3<;>kernel_rfl) (tq (sq (sq (rgS ⟨[(5,a3),(17,ZaO false a0_),(18,iv ((List.length a0_:Nat):Int)),(19,iv 0)],[],H4⟩ (Z3.u 1 (Zac (ys:=[ZaO false a0_]) (h:=Zas ZaR)) Z3.f) (by cases hfa3<;>kernel_rfl) (tq (bk ?_))))))
 obtain ⟨a4,ab,h⟩:=bs h
 refine Za0 ((ZaM (λ(x:Int×(List Int)) s=>∃ (a6:AV) (H7:List HO),s=⟨[(5,a6),(17,ZaO false a0_),(18,iv ((List.length a0_:Nat):Int)),(19,iv x.1)],[],H7⟩/\HP H7 [.arr a6 1 false (List.map eI64 x.2)]) (λx:Int×(List Int)=>Zbl N a0_ x.1 x.2) (λ(p:(List Int)) e s=>e=.exit 0/\(∃ (a1:AV) (aa:List HO),s=⟨[(5,a1)],[],aa⟩/\HP aa [.arr a1 1 false (List.map eI64 p)])) ?_ N _ a4 _ ab ⟨a3,H4,(by show _=_;cases hfa3<;>kernel_rfl),(HP.pick hH [0] rfl)⟩).mono ?_)
 ·clear h ab
  rintro ⟨i8,l9⟩ o s h hR
  obtain ⟨a6,H7,rfl,hH⟩:=hR
  replace hH:HP _ [.arr a6 1 false (List.map eI64 l9)]:=hH
  have hfa6:=Zbv (HP.get hH 0 rfl)
  replace h:Zbl N a0_ i8 l9=some o:=h
  unfold Zbl at h
  refine sq (rgS ⟨[(5,a6),(17,ZaO false a0_),(18,iv ((List.length a0_:Nat):Int)),(19,iv i8),(20,bv (decide (i8<((List.length a0_:Nat):Int))))],[],H7⟩ Z3.f (by cases hfa6<;>kernel_rfl) (tq (sq (it h (λak h=>?_) (λak h=>?_)))))
  ·refine sk (tq (kq (sq (bk (sq ?_)))))
   obtain ⟨a0,ad,h⟩:=bs h
   refine rgS ⟨[(5,a6),(6,iv i8),(7,.loc 7 0),(17,ZaO false a0_),(18,iv ((List.length a0_:Nat):Int)),(19,iv i8)],[(7,(Zbf a0))],H7⟩ (Z3.u 1 (Zac (ys:=[ZaO false a0_,iv i8]) (h:=Zae ZaR ad)) (Z3.u 0 (Zav (sz:=3) (off:=0) (cs:=[.int .i64 a0.Period,.int .i64 a0.From,.int .i64 a0.Long]) (r:=.agg (Zbf a0)) ZaR ad) (Z3.f (h:=(by cases hfa6<;>kernel_rfl))))) (by cases hfa6<;>kernel_rfl) (tq ?_)
   obtain ⟨aq,ac,h⟩:=bs h
   obtain ⟨ap,am,_,a8,ae,a9,a7⟩:=HP.elem (k:=0) (a:=a6) (sz:=1) (frz:=false) eI64 hH rfl ac
   obtain ⟨af,al,hH⟩:=HP.setRow (k:=0) (off:=0) (cs:=[iv a0.Period]) (ps:=[.int .i64 a0.Period]) (e':=a0.Period) eI64 hH rfl a9 ae (a8 rfl) ac kr kr
   replace hH:HP _ [.arr a6 1 false (List.map eI64 (List.set l9 (Int.toNat i8) a0.Period))]:=hH
   refine rgS ⟨[(5,a6),(17,ZaO false a0_),(18,iv ((List.length a0_:Nat):Int)),(19,iv i8)],[],af⟩ (Z3.u 4 (Zac (ys:=[a6,iv i8]) (by cases hfa6<;>kernel_rfl) (a7 .i64)) (Z3.o 0 (ZcI (H:=H7) (v:=iv a0.Period) (hw:=al)) Z3.f)) (by cases hfa6<;>kernel_rfl) (bn (tq (rgS ⟨[(5,a6),(17,ZaO false a0_),(18,iv ((List.length a0_:Nat):Int)),(19,iv (w64 (i8+1)))],[],af⟩ Z3.f (by cases hfa6<;>kernel_rfl) ?_)))
   cases h
   exact ⟨_,rfl,⟨a6,af,(by show _=_;cases hfa6<;>kernel_rfl),(HP.pick hH [0] rfl)⟩⟩
  refine kq (xq (tx ?_))
  cases h
  exact ⟨_,rfl,rfl,⟨a6,H7,(by show _=_;cases hfa6<;>kernel_rfl),(HP.pick hH [0] rfl)⟩⟩
 rintro e s hq
 obtain ⟨rfl,hR⟩:=hq
 obtain ⟨a1,aa,rfl,hH⟩:=hR
 replace hH:HP _ [.arr a1 1 false (List.map eI64 a4)]:=hH
 have a2:=Zbv (HP.get hH 0 rfl)
 refine bx (tq (sq ?_))
 obtain ⟨ag,ai,h⟩:=bs h
 obtain ⟨ao,an,a5,hH⟩:=HP.frz (k:=0) (a:=a1) (sz:=1) (frz:=false) eI64 hH rfl
 replace hH:HP _ [.arr a1 1 true (List.map eI64 a4)]:=hH
 refine rgS ⟨[(8,iv ag)],[],ao⟩ (Z3.v 1 (Zji (H:=aa) (ys:=[iv 960,a1]) (by cases a2<;>kernel_rfl) (by cases a2<;>kernel_rfl) (ZeS rfl (ZeS a5 ZjE)) (Zhw N 960 a4 ag ai)) Z3.f) kr ?_
 replace hH:HP _ []:=HP.pick hH [] rfl
 refine tq (sq (sq (rg Z3.f (tq (it h (λaj h=>?_) (λaj h=>?_))))))
 ·refine sq (rg Z3.f (tq (rt (tr ?_))))
  cases h
  exact ZaD kr
 refine sk (tq (kq (sq (rg Z3.f (tq (rt ?_))))))
 cases h
 exact ZaD kr
theorem ZgR (N:Nat)(a0_:Zaa)(a1_:Zaa)(r:Bool)(h:ZcJ N a0_ a1_=some r):Zbr Try.prog 56 [.agg (Zbf a0_),.agg (Zbf a1_)] (bv r):=by
 unfold ZcJ at h
 have hH  := hp0
 refine ZaI Zwd rfl rfl (Zat _ _ _ ?_) rfl
 refine sq (rg Z3.f (tq (sq (sq (rg Z3.f (tq (it h (λhc1 h=>?_) (λhc1 h=>?_))))))))
 ·refine sq (rg Z3.f (tq (rt (tr ?_))))
  cases h
  exact ZaD kr
 refine sk (tq (kq (sq ?_)))
 obtain ⟨r2,hr2,h⟩:=bs h
 refine rg (Z3.v 2 (ZaE (hc:=Zhu N a0_ a1_ r2 hr2)) Z3.f) (tq (sq ?_))
 obtain ⟨r3,hr3,h⟩:=bs h
 refine rg (Z3.v 6 (ZaE (hc:=Zii N (w64 (a1_.From-a0_.From)) r2.2.2 r3 hr3)) Z3.f) (tq (sq (rgX ⟨[(4,bv ((decide (r2.1<=r3))&&(decide (r3<=r2.2.1))))],[],[]⟩ ?_ ?_)))
 ·rcases Bool.eq_false_or_eq_true (decide (r2.1<=r3)) with hc4|hc5
  ·exact (EP.u 2 (Zad (c:=(decide (r2.1<=r3))) (h:=hc4)) (EP.f (by simp only [hc4];kernel_rfl)))
  exact (EP.u 2 (Zad (c:=(decide (r2.1<=r3))) (h:=hc5)) (EP.f (by simp only [hc5];kernel_rfl)))
 refine tq (rt ?_)
 cases h
 exact ZaD kr
def dpC (c:Z4):Int×List (List PC):=(c.Stream,c.Arms.map Zaj)
theorem ZeV {H:List HO}{a:AV}{sz:Nat}{u:Bool}{cs:List PC}{f:List Z4}(h:Lies H (.deep a sz u cs (f.map dpC))):Zax .len [a]=some (iv ((List.length f:Nat):Int)):=by
 have:=Zog h
 rwa [ZE] at this
theorem ZeX {α:Type}{bytes:Nat}{l m r:List α}(h:appI bytes l m=some r):r=l++m/\(l.length+m.length)*bytes<=140737488355328/\l.length+m.length<=140737488355328:=by
 unfold appI at h
 split at h
 ·rename_i hc
  cases h
  exact ⟨rfl,hc.1,hc.2⟩
 cases h
theorem ZbH {α β:Type}(g:α->β){l:List α}{i:Int}{e:α}(h:idx l i=some e):idx (l.map g) i=some (g e):=by
 unfold idx at h ⊢
 split at h
 ·rename_i h0
  rw [Z0 h0,Zy,h]
  rfl
 cases h
abbrev ZoX (P:Program) (rec_:Z5->List Z4->List Int->Option (List Z4×Bool)):Prop :=
 ∀ (p:Z5) (f:List Z4) (given:List Int) (r:List Z4×Bool) (a:AV) (cs:List PC) (H:List HO),HP H [.deep a 4 true cs (f.map dpC)]->rec_ p f given=some r →
  ∃ (a':AV) (cs':List PC) (H':List HO),Zcb P 34 [.agg (Z2 p),a,Zah false given] H (.tup [a',bv r.2]) H'/\Fp H H' [.deep a 4 true cs (f.map dpC)] [.deep a' 4 true cs' (r.1.map dpC)]/\(r.2=true->cs <+: cs')
theorem hp1 {H:List HO}{i:ZaH}(h:Lies H i):HP H [i]:=HP.cons (HP.any H) h (λ_ _ j hj=>by cases hj)
theorem Zm0 {α:Type}{l m:List α}{i:Nat}(x:α)(h:l <+: m)(hi:l.length<=i):l <+: m.set i x:=by
 obtain ⟨t,rfl⟩:=h
 rw [ZP _ _ hi]
 exact ⟨_,rfl⟩
theorem ZoL {α:Type}{l m:List α}{i:Nat}{x:α}(h:l <+: m)(hi:l[i]?=some x):m[i]?=some x:=by
 obtain ⟨t,rfl⟩:=h
 rw [Zr (List.getElem?_eq_some_iff.1 hi).1]
 exact hi
theorem Zkx {H H1:List HO}{f0:List ZaH}{a1 bb:AV}{cs1:List PC}{f1:List Z4}{given:List Int}{p:Z5}{i c x y b nx:Int}{fd:Z4}{cc:PC}{l:List Zak}{Q:Exit->St->Prop}
  (hF:Fp H H1 f0 [.deep a1 4 true cs1 (f1.map dpC)]) (hfd:idx f1 c=some fd) (hcc:cs1[c.toNat]?=some cc) (hbb:up cc=bb) (hl:appI 32 fd.Arms [⟨x,y,b,nx⟩]=some l)
  (hQ:∀ H2 cx,Fp H H2 f0 [.deep a1 4 true (cs1.set c.toNat cx) ((f1.set c.toNat ⟨fd.Stream,l⟩).map dpC)]->Q .normal ⟨[(1,a1),(2,Zah false given),(3,.loc 3 0),(8,iv i),(9,iv c),(10,iv x)],[(3,Z2 p)],H2⟩) :
  vc Try.prog i34.nt (Ro Zot [1,2,3,8,9,10]) Q ⟨[(1,a1),(2,Zah false given),(3,.loc 3 0),(8,iv i),(9,iv c),(10,iv x),(14,bb),(15,.loc 15 0)],[(3,Z2 p),(15,[iv x,iv y,iv b,iv nx])],H1⟩:=by
 obtain ⟨rfl,hb1,hb2⟩:=ZeX hl
 obtain ⟨id9,ver9,cc9,bb9,hid9a,hcc9,hbb9,hid9v,hfbb9,_⟩:=Zed (Fp.get hF 0 rfl) (ZbH dpC hfd)
 rw [hcc] at hcc9
 cases hcc9
 rw [hbb] at hbb9
 cases hbb9
 obtain ⟨q9,v9,H9,a5,a4,a6,hap9,a0,a2,a3⟩:=Fp.deepIn (k:=0) (bytes:=32) (m:=[Zaj ⟨x,y,b,nx⟩]) hF rfl (ZbH dpC hfd) hcc hbb (by simp) (by simpa [dpC] using hb1) (by simpa [dpC] using hb2)
 rw [hid9a] at a0
 cases a0
 subst hid9a
 refine rgS ⟨[(1,.osl 2 id9 ver9 0 (f1.map dpC).length),(2,Zah false given),(3,.loc 3 0),(8,iv i),(9,iv c),(10,iv x)],[(3,Z2 p)],a6⟩
  (Z3.h (hm:=by cases hfbb9<;>kernel_rfl) 5 (ZdO (H:=H1) (a:=bb) (b:=Zap true [⟨x,y,b,nx⟩]) (by cases hfbb9<;>kernel_rfl) (by cases hfbb9<;>kernel_rfl) (by cases hfbb9<;>kernel_rfl) kr hap9)
  (Z3.u (hm:=by cases hfbb9<;>kernel_rfl) 0 (Zac (ys:=[.osl 2 id9 ver9 0 (f1.map dpC).length,iv c]) (by cases hfbb9<;>kernel_rfl) (hid9v .i64))
  (Z3.o (hm:=by cases hfbb9<;>kernel_rfl) 1 (ZbK (H:=H9) (v:=.osl 4 q9 v9 0 ((dpC fd).2++[Zaj ⟨x,y,b,nx⟩]).length) (p:=.optr 2 id9 ver9 (0+c.toNat) 1) rfl (by cases hfbb9<;>kernel_rfl) (by cases hfbb9<;>kernel_rfl) (by cases hfbb9<;>kernel_rfl) rfl a2)
  (Z3.f (h:=by cases hfbb9<;>kernel_rfl))))) (by cases hfbb9<;>kernel_rfl) ?_
 refine hQ _ (.ow 4 q9 v9 ((dpC fd).2++[Zaj ⟨x,y,b,nx⟩]).length) ?_
 rw [ZM]
 have e:dpC ⟨fd.Stream,fd.Arms++[⟨x,y,b,nx⟩]⟩=((dpC fd).1,(dpC fd).2++[Zaj ⟨x,y,b,nx⟩]):=by simp [dpC]
 rw [e]
 exact a3
theorem Zhx (N:Nat)(rec_:Z5->List Z4->List Int->Option (List Z4×Bool))(hrec_:ZoX Try.prog rec_):ZoX Try.prog (Zce N rec_):=by
 intro a0_ a1_ a2_ r a cs H hH h
 suffices hs:∃ r' H',Zcb Try.prog 34 [.agg (Z2 a0_),a,Zah false a2_] H r' H'/\∃ (a':AV) (cs':List PC),r'=.tup [a',bv r.2]/\Fp H H' [.deep a 4 true cs (a1_.map dpC)] [.deep a' 4 true cs' (r.1.map dpC)]/\(r.2=true->cs <+: cs') by
  obtain ⟨_,H',h1,a',cs',he,h2⟩:=hs
  exact ⟨a',cs',H',he ▸ h1,h2⟩
 unfold Zce at h
 replace hH:=Fp.refl hH
 have hfa:=ZdK (Fp.get hH 0 rfl)
 have hlen:=(Fp.get hH 0 rfl).1
 rw [ZE] at hlen
 refine Zgp Zwv (λr' H'=>∃ (a':AV) (cs':List PC),r'=.tup [a',bv r.2]/\Fp H H' [.deep a 4 true cs (a1_.map dpC)] [.deep a' 4 true cs' (r.1.map dpC)]/\(r.2=true->cs <+: cs')) (λr' H' q=>by obtain ⟨a',cs',e,hp,_⟩:=q;subst e;have hf:=ZdK (Fp.get hp 0 rfl);show ZaA _=true;cases hf<;>rfl) rfl (by cases hfa<;>kernel_rfl) (sq (rgS ⟨[(1,a),(2,Zah false a2_),(3,.loc 3 0)],[(3,Z2 a0_)],H⟩ (Z3.f (h:=by cases hfa<;>kernel_rfl)) (by cases hfa<;>kernel_rfl) (tq (sq (rgS ⟨[(1,a),(2,Zah false a2_),(3,.loc 3 0),(8,iv ((List.length a2_:Nat):Int))],[(3,Z2 a0_)],H⟩ (Z3.u (hm:=by cases hfa<;>kernel_rfl) 1 (Zac (ys:=[Zah false a2_]) (by cases hfa<;>kernel_rfl) (Zas eI64)) (Z3.f (h:=by cases hfa<;>kernel_rfl))) (by cases hfa<;>kernel_rfl) (tq (sq (sq (rgX ⟨[(1,a),(2,Zah false a2_),(3,.loc 3 0),(8,iv ((List.length a2_:Nat):Int)),(29,bv ((((List.length a2_:Nat):Int)==((List.length a0_.Periods:Nat):Int))||(decide (((List.length a1_:Nat):Int)≥2000))))],[(3,Z2 a0_)],H⟩ ?_ ?_)))))))))
 ·refine (EP.u (hm:=by cases hfa<;>kernel_rfl) 3 (Zac (ys:=[Zah false a0_.Periods]) (by cases hfa<;>kernel_rfl) (Zas eI64)) ?_)
  rcases Bool.eq_false_or_eq_true (((List.length a2_:Nat):Int)==((List.length a0_.Periods:Nat):Int)) with hc|hc
  ·exact (EP.u (hm:=by cases hfa<;>kernel_rfl) 0 (Zad (c:=(((List.length a2_:Nat):Int)==((List.length a0_.Periods:Nat):Int))) (by cases hfa<;>kernel_rfl) hc) (EP.f (h:=by cases hfa<;>kernel_rfl) (by simp only [hc];cases hfa<;>kernel_rfl)))
  exact (EP.u (hm:=by cases hfa<;>kernel_rfl) 0 (Zad (c:=(((List.length a2_:Nat):Int)==((List.length a0_.Periods:Nat):Int))) (by cases hfa<;>kernel_rfl) hc) (EP.u (hm:=by cases hfa<;>kernel_rfl) 2 (Zac (ys:=[a]) (by cases hfa<;>kernel_rfl) (ZeV (Fp.get hH 0 rfl))) (EP.f (h:=by cases hfa<;>kernel_rfl) (by simp only [hc];cases hfa<;>kernel_rfl))))
 refine tq (it h (λa4 h=>?_) (λa4 h=>?_) (hx:=by cases hfa<;>kernel_rfl))
 ·refine sq (rgS ⟨[(6,.p (.sl 2 true [])),(7,bv false)],[],H⟩ (Z3.f (h:=by cases hfa<;>kernel_rfl)) (by cases hfa<;>kernel_rfl) (tq (rt (tr ?_))))
  cases h
  exact ⟨[.p (.sl 2 true []),bv false],kr,.p (.sl 2 true []),[],rfl,Fp.pk (Fp.deepNil hH 4) [0] rfl,λe=>by cases e⟩
 refine sk (tq (kq (sq (rgS ⟨[(1,a),(2,Zah false a2_),(3,.loc 3 0),(8,iv ((List.length a2_:Nat):Int)),(9,iv ((List.length a1_:Nat):Int))],[(3,Z2 a0_)],H⟩ (Z3.u (hm:=by cases hfa<;>kernel_rfl) 1 (Zac (ys:=[a]) (by cases hfa<;>kernel_rfl) (ZeV (Fp.get hH 0 rfl))) (Z3.f (h:=by cases hfa<;>kernel_rfl))) (by cases hfa<;>kernel_rfl) (tq (sq ?_))))))
 obtain ⟨f1,hf1,h⟩:=bs h
 obtain ⟨rfl,hb1,hb2⟩:=ZeX hf1
 obtain ⟨c1,a1,H1,hrw,hap,hF1⟩:=Fp.deepApp (k:=1) (j:=0) (bytes:=32) (Fp.nilArr hH 4 false) rfl rfl (by decide) ((List.length a2_:Nat):Int) (by simpa using hb1) (by simpa using hb2)
 replace hF1:Fp H H1 [.deep a 4 true cs (a1_.map dpC)] [.deep a1 4 true (cs++[c1]) ((a1_++[Z4.mk ((List.length a2_:Nat):Int) []]).map dpC)]:=by
  have:=Fp.pick hF1 [1] rfl
  rw [ZJ]
  exact this
 have hfa1:=ZdK (Fp.get hF1 0 rfl)
 refine rgS ⟨[(1,a1),(2,Zah false a2_),(3,.loc 3 0),(8,iv ((List.length a2_:Nat):Int)),(9,iv ((List.length a1_:Nat):Int))],[(3,Z2 a0_)],H1⟩ (Z3.h (hm:=by cases hfa<;>kernel_rfl) 3 (ZkY (H:=H) (ys:=[.agg [iv ((List.length a2_:Nat):Int),.p (.sl 4 true [])]]) (by cases hfa<;>kernel_rfl) (by cases hfa<;>kernel_rfl) hrw rfl rfl) (Z3.h (hm:=by cases hfa<;>kernel_rfl) 0 (ZdO (H:=H++[.arr 2 0 false [[.int .i64 ((List.length a2_:Nat):Int),c1]]]) (a:=a) (b:=.osl 2 H.length 0 0 1) (by cases hfa<;>kernel_rfl) (by cases hfa<;>kernel_rfl) (by cases hfa<;>kernel_rfl) (ZhX _ _) hap) (Z3.f (h:=by cases hfa<;>cases hfa1<;>kernel_rfl)))) (by cases hfa<;>cases hfa1<;>kernel_rfl) (tq (sq (sq (rgS ⟨[(1,a1),(2,Zah false a2_),(3,.loc 3 0),(8,iv ((List.length a2_:Nat):Int)),(9,iv ((List.length a1_:Nat):Int)),(10,iv 0)],[(3,Z2 a0_)],H1⟩ (Z3.f (h:=by cases hfa1<;>kernel_rfl)) (by cases hfa1<;>kernel_rfl) (tq (bk ?_))))))
 obtain ⟨o1,ho1,h⟩:=bs h
 clear hrw hap hf1 hb1 hb2
 refine Za0 ((ZaM (λ(x:Int×List Z4) s=>∃ (b:AV) (ds:List PC) (H2:List HO),s=⟨[(1,b),(2,Zah false a2_),(3,.loc 3 0),(8,iv ((List.length a2_:Nat):Int)),(9,iv ((List.length a1_:Nat):Int)),(10,iv x.1)],[(3,Z2 a0_)],H2⟩/\Fp H H2 [.deep a 4 true cs (a1_.map dpC)] [.deep b 4 true ds (x.2.map dpC)]/\cs <+: ds)
  (λx:Int×List Z4=>ZbW N rec_ a0_ a2_ ((List.length a2_:Nat):Int) ((List.length a1_:Nat):Int) x.1 x.2)
  (λ(p:List Z4⊕(List Z4×Bool)) e s=>match p with
   | .inl f2=>e=.exit 0/\∃ (b:AV) (ds:List PC) (H2:List HO),s=⟨[(1,b)],[],H2⟩/\Fp H H2 [.deep a 4 true cs (a1_.map dpC)] [.deep b 4 true ds (f2.map dpC)]/\cs <+: ds
   | .inr q=>e=.ret/\∃ (b:AV) (ds:List PC) (H2:List HO),s=⟨[(6,b),(7,bv q.2)],[],H2⟩/\Fp H H2 [.deep a 4 true cs (a1_.map dpC)] [.deep b 4 true ds (q.1.map dpC)]/\(q.2=true->cs <+: ds)) ?_ N _ o1 _ ho1 ⟨a1,cs++[c1],H1,by show _=_;cases hfa1<;>kernel_rfl,hF1,List.prefix_append _ _⟩).mono ?_)
 ·clear h ho1 hF1 hfa1 H1 a1 c1
  rintro ⟨i1,f1⟩ o s h hR
  obtain ⟨a1,cs1,H1,rfl,hF1,hpre⟩:=hR
  have hfa1:=ZdK (Fp.get hF1 0 rfl)
  replace h:ZbW N rec_ a0_ a2_ ((List.length a2_:Nat):Int) ((List.length a1_:Nat):Int) i1 f1=some o:=h
  unfold ZbW at h
  refine sq (sq ?_)
  obtain ⟨e1,he1,h⟩:=bs h
  refine rgS ⟨[(1,a1),(2,Zah false a2_),(3,.loc 3 0),(8,iv ((List.length a2_:Nat):Int)),(9,iv ((List.length a1_:Nat):Int)),(10,iv i1),(43,bv (decide (i1<e1)))],[(3,Z2 a0_)],H1⟩ (Z3.u (hm:=by cases hfa1<;>kernel_rfl) 4 (Zac (ys:=[Zah false a0_.Periods,iv ((List.length a2_:Nat):Int)]) (by cases hfa1<;>kernel_rfl) (Zae eI64 he1)) (Z3.u (hm:=by cases hfa1<;>kernel_rfl) 0 (Zav (sz:=1) (off:=0) (cs:=[.int .i64 e1]) (r:=iv e1) eI64 he1 (by cases hfa1<;>kernel_rfl) kr kr) (Z3.f (h:=by cases hfa1<;>kernel_rfl)))) (by cases hfa1<;>kernel_rfl) (tq (it h (λhc1 h=>?_) (λhc1 h=>?_) (hx:=by cases hfa1<;>kernel_rfl)))
  ·refine sk (tq (kq (sq (bk (sq ?_)))))
   obtain ⟨g,hg,h⟩:=bs h
   obtain ⟨all,hall,h⟩:=bs h
   obtain ⟨a2,H2,ha2,hF2⟩:=ZjL (sz:=1) eI64 hF1 hg
   have hfa2:=Zbv (Fp.get hF2 0 rfl)
   obtain ⟨a3,H3,ha3,hF3⟩:=Fp.app (k:=0) (a:=a2) (sz:=1) (frz:=false) eI64 hF2 rfl hall
   replace hF3:Fp H H3 [.deep a 4 true cs (a1_.map dpC)] [.arr a3 1 false (all.map eI64),.deep a1 4 true cs1 (f1.map dpC)]:=hF3
   have hfa3:=Zbv (Fp.get hF3 0 rfl)
   refine rgS ⟨[(1,a1),(2,Zah false a2_),(3,.loc 3 0),(8,iv ((List.length a2_:Nat):Int)),(9,iv ((List.length a1_:Nat):Int)),(10,iv i1),(11,a3)],[(3,Z2 a0_)],H3⟩ (Z3.h (hm:=by cases hfa1<;>kernel_rfl) 2 (ZdO (H:=H1) (a:=Zah true []) (b:=Zah false a2_) (by cases hfa1<;>kernel_rfl) (by cases hfa1<;>kernel_rfl) (by cases hfa1<;>kernel_rfl) kr ha2) (Z3.h (hm:=by cases hfa1<;>kernel_rfl) 2 (ZdO (H:=H2) (a:=a2) (b:=Zah true [i1]) (by cases hfa1<;>kernel_rfl) (by cases hfa1<;>kernel_rfl) (by cases hfa1<;>kernel_rfl) kr ha3) (Z3.f (h:=by cases hfa1<;>kernel_rfl)))) (by cases hfa1<;>cases hfa3<;>kernel_rfl) (tq (sq (rgS ⟨[(1,a1),(2,Zah false a2_),(3,.loc 3 0),(8,iv ((List.length a2_:Nat):Int)),(9,iv ((List.length a1_:Nat):Int)),(10,iv i1),(11,a3),(12,iv (-1))],[(3,Z2 a0_)],H3⟩ (Z3.f (h:=by cases hfa1<;>cases hfa3<;>kernel_rfl)) (by cases hfa1<;>cases hfa3<;>kernel_rfl) (tq (sq (sq (rgS ⟨[(1,a1),(2,Zah false a2_),(3,.loc 3 0),(8,iv ((List.length a2_:Nat):Int)),(9,iv ((List.length a1_:Nat):Int)),(10,iv i1),(11,a3),(12,iv (-1)),(13,iv 0)],[(3,Z2 a0_)],H3⟩ (Z3.f (h:=by cases hfa1<;>cases hfa3<;>kernel_rfl)) (by cases hfa1<;>cases hfa3<;>kernel_rfl) (tq (bk ?_)))))))))
   obtain ⟨b0,hb0,h⟩:=bs h
   clear ha2 ha3 hF2 hfa2 hF1 hg
   refine Za0 ((ZaM (λ(y:Int×Int) s=>s=⟨[(1,a1),(2,Zah false a2_),(3,.loc 3 0),(8,iv ((List.length a2_:Nat):Int)),(9,iv ((List.length a1_:Nat):Int)),(10,iv i1),(11,a3),(12,iv y.2),(13,iv y.1)],[(3,Z2 a0_)],H3⟩)
    (λy:Int×Int=>ZbV N a0_ ((List.length a2_:Nat):Int) i1 all y.1 y.2)
    (λ(b:Int) e s=>e=.exit 2/\s=⟨[(1,a1),(2,Zah false a2_),(3,.loc 3 0),(8,iv ((List.length a2_:Nat):Int)),(9,iv ((List.length a1_:Nat):Int)),(10,iv i1),(11,a3),(12,iv b)],[(3,Z2 a0_)],H3⟩) ?_ N _ b0 _ hb0 (by show _=_;cases hfa1<;>cases hfa3<;>kernel_rfl)).mono ?_)
   ·clear h hb0
    rintro ⟨j,b⟩ o s h hR
    obtain rfl:=hR
    replace h:ZbV N a0_ ((List.length a2_:Nat):Int) i1 all j b=some o:=h
    unfold ZbV at h
    refine sq (sq (rgX ⟨[(1,a1),(2,Zah false a2_),(3,.loc 3 0),(8,iv ((List.length a2_:Nat):Int)),(9,iv ((List.length a1_:Nat):Int)),(10,iv i1),(11,a3),(12,iv b),(13,iv j),(58,bv ((decide (j<=((List.length a2_:Nat):Int)))&&(b == -1)))],[(3,Z2 a0_)],H3⟩ ?_ ?_))
    ·rcases Bool.eq_false_or_eq_true (decide (j<=((List.length a2_:Nat):Int))) with hc|hc
     ·exact (EP.u (hm:=by cases hfa1<;>cases hfa3<;>kernel_rfl) 2 (Zad (c:=(decide (j<=((List.length a2_:Nat):Int)))) (by cases hfa1<;>cases hfa3<;>kernel_rfl) hc) (EP.f (h:=by cases hfa1<;>cases hfa3<;>kernel_rfl) (by simp only [hc];cases hfa1<;>cases hfa3<;>kernel_rfl)))
     exact (EP.u (hm:=by cases hfa1<;>cases hfa3<;>kernel_rfl) 2 (Zad (c:=(decide (j<=((List.length a2_:Nat):Int)))) (by cases hfa1<;>cases hfa3<;>kernel_rfl) hc) (EP.f (h:=by cases hfa1<;>cases hfa3<;>kernel_rfl) (by simp only [hc];cases hfa1<;>cases hfa3<;>kernel_rfl)))
    refine tq (it h (λhc2 h=>?_) (λhc2 h=>?_) (hx:=by cases hfa1<;>cases hfa3<;>kernel_rfl))
    ·refine sk (tq (kq (sq (bk (sq ?_)))))
     obtain ⟨e2,he2,h⟩:=bs h
     obtain ⟨m2,hm2,h⟩:=bs h
     obtain ⟨id2,ver2,_,hid2f,hid2,hid2a,hid2v⟩:=Fp.elem (k:=0) (a:=a3) (sz:=1) (frz:=false) eI64 hF3 rfl he2
     refine rqS (hs:=(by cases hfa1<;>cases hfa3<;>kernel_rfl)) ⟨[(1,a1),(2,Zah false a2_),(3,.loc 3 0),(8,iv ((List.length a2_:Nat):Int)),(9,iv ((List.length a1_:Nat):Int)),(10,iv i1),(11,a3),(12,iv b),(13,iv j),(69,bv m2)],[(3,Z2 a0_)],H3⟩ (Z3.u (hm:=by cases hfa1<;>cases hfa3<;>kernel_rfl) 6 (Zac (ys:=[a3,iv j]) (by cases hfa1<;>cases hfa3<;>kernel_rfl) (hid2v .i64)) (Z3.u (hm:=by cases hfa1<;>cases hfa3<;>kernel_rfl) 0 (ZaV (Zei (H:=H3) (off:=0) (cs:=[.int .i64 e2]) (r:=iv e2) eI64 he2 hid2 (by cases hfa1<;>cases hfa3<;>kernel_rfl) (by cases hfa1<;>cases hfa3<;>kernel_rfl) kr kr) (by cases hfa1<;>cases hfa3<;>kernel_rfl)) (Z3.v (hm:=by cases hfa1<;>cases hfa3<;>kernel_rfl) 0 (ZaE (by cases hfa1<;>cases hfa3<;>kernel_rfl) (Zim N a0_ ((List.length a2_:Nat):Int) i1 j e2 m2 hm2)) (Z3.f (h:=by cases hfa1<;>cases hfa3<;>kernel_rfl))))) (by cases hfa1<;>cases hfa3<;>kernel_rfl) (tq ?_)
     obtain ⟨b',hb',h⟩:=bs h
     refine it hb' (λhc3 hb'=>?_) (λhc3 hb'=>?_) (hx:=by cases hfa1<;>cases hfa3<;>kernel_rfl)
     ·obtain rfl:=Zao hb'
      refine rgS ⟨[(1,a1),(2,Zah false a2_),(3,.loc 3 0),(8,iv ((List.length a2_:Nat):Int)),(9,iv ((List.length a1_:Nat):Int)),(10,iv i1),(11,a3),(12,iv j),(13,iv j)],[(3,Z2 a0_)],H3⟩ (Z3.f (h:=by cases hfa1<;>cases hfa3<;>kernel_rfl)) (by cases hfa1<;>cases hfa3<;>kernel_rfl) (bn (tq (kq (rgS ⟨[(1,a1),(2,Zah false a2_),(3,.loc 3 0),(8,iv ((List.length a2_:Nat):Int)),(9,iv ((List.length a1_:Nat):Int)),(10,iv i1),(11,a3),(12,iv j),(13,iv (w64 (j+1)))],[(3,Z2 a0_)],H3⟩ (Z3.f (h:=by cases hfa1<;>cases hfa3<;>kernel_rfl)) (by cases hfa1<;>cases hfa3<;>kernel_rfl) ?_))))
      cases h
      exact ⟨_,rfl,(by show _=_;cases hfa1<;>cases hfa3<;>kernel_rfl)⟩
     obtain rfl:=Zao hb'
     refine sk (bn (tq (kq (rgS ⟨[(1,a1),(2,Zah false a2_),(3,.loc 3 0),(8,iv ((List.length a2_:Nat):Int)),(9,iv ((List.length a1_:Nat):Int)),(10,iv i1),(11,a3),(12,iv b),(13,iv (w64 (j+1)))],[(3,Z2 a0_)],H3⟩ (Z3.f (h:=by cases hfa1<;>cases hfa3<;>kernel_rfl)) (by cases hfa1<;>cases hfa3<;>kernel_rfl) ?_))))
     cases h
     exact ⟨_,rfl,(by show _=_;cases hfa1<;>cases hfa3<;>kernel_rfl)⟩
    refine kq (xq (tx ?_))
    cases h
    exact ⟨_,rfl,rfl,(by show _=_;cases hfa1<;>cases hfa3<;>kernel_rfl)⟩
   rintro e s hq
   obtain ⟨rfl,rfl⟩:=hq
   refine bx (tq ?_)
   clear hb0
   obtain ⟨b,hb,h⟩:=bs h
   refine ZfE [1,2,3,8,9,10,11,12] (λs=>s=⟨[(1,a1),(2,Zah false a2_),(3,.loc 3 0),(8,iv ((List.length a2_:Nat):Int)),(9,iv ((List.length a1_:Nat):Int)),(10,iv i1),(11,a3),(12,iv b)],[(3,Z2 a0_)],H3⟩) ?_ ?_
   ·clear h
    refine sq (rgX ⟨[(1,a1),(2,Zah false a2_),(3,.loc 3 0),(8,iv ((List.length a2_:Nat):Int)),(9,iv ((List.length a1_:Nat):Int)),(10,iv i1),(11,a3),(12,iv b0),(76,bv ((((List.length a1_:Nat):Int)==0)&&(decide (i1>0))))],[(3,Z2 a0_)],H3⟩ ?_ ?_)
    ·rcases Bool.eq_false_or_eq_true (((List.length a1_:Nat):Int)==0) with hc|hc
     ·exact (EP.u (hm:=by cases hfa1<;>cases hfa3<;>kernel_rfl) 1 (Zad (c:=(((List.length a1_:Nat):Int)==0)) (by cases hfa1<;>cases hfa3<;>kernel_rfl) hc) (EP.f (h:=by cases hfa1<;>cases hfa3<;>kernel_rfl) (by simp only [hc];cases hfa1<;>cases hfa3<;>kernel_rfl)))
     exact (EP.u (hm:=by cases hfa1<;>cases hfa3<;>kernel_rfl) 1 (Zad (c:=(((List.length a1_:Nat):Int)==0)) (by cases hfa1<;>cases hfa3<;>kernel_rfl) hc) (EP.f (h:=by cases hfa1<;>cases hfa3<;>kernel_rfl) (by simp only [hc];cases hfa1<;>cases hfa3<;>kernel_rfl)))
    refine tq (it hb (λhc hb=>?_) (λhc hb=>?_) (hx:=by cases hfa1<;>cases hfa3<;>kernel_rfl))
    ·obtain rfl:=Zao hb
     exact rgS ⟨[(1,a1),(2,Zah false a2_),(3,.loc 3 0),(8,iv ((List.length a2_:Nat):Int)),(9,iv ((List.length a1_:Nat):Int)),(10,iv i1),(11,a3),(12,iv (-2))],[(3,Z2 a0_)],H3⟩ (Z3.f (h:=by cases hfa1<;>cases hfa3<;>kernel_rfl)) (by cases hfa1<;>cases hfa3<;>kernel_rfl) (⟨rfl,(by show _=_;cases hfa1<;>cases hfa3<;>kernel_rfl)⟩)
    obtain rfl:=Zao hb
    exact sk (⟨rfl,(by show _=_;cases hfa1<;>cases hfa3<;>kernel_rfl)⟩)
   rintro s hR
   obtain rfl:=hR
   clear hb
   obtain ⟨fc,hfc,h⟩:=bs h
   obtain ⟨la,hla,h⟩:=bs h
   obtain ⟨id4,ver4,cc,bb,hid4a,hcc,hbb,hid4v,hfbb,hlbb,hr0,hr1,hr2⟩:=Zed (Fp.get hF3 1 rfl) (ZbH dpC hfc)
   refine sq (rgS ⟨[(1,a1),(2,Zah false a2_),(3,.loc 3 0),(8,iv ((List.length a2_:Nat):Int)),(9,iv ((List.length a1_:Nat):Int)),(10,iv i1),(11,a3),(12,iv b),(14,bb)],[(3,Z2 a0_)],H3⟩ (Z3.u (hm:=by cases hfa1<;>cases hfa3<;>kernel_rfl) 2 (Zac (ys:=[a1,iv ((List.length a1_:Nat):Int)]) (by cases hfa1<;>cases hfa3<;>kernel_rfl) (hid4v .i64)) (Z3.u (hm:=by cases hfa1<;>cases hfa3<;>kernel_rfl) 1 (Zcj (H:=H3) (r:=bb) (p:=.optr 2 id4 ver4 (0+(((List.length a1_:Nat):Int)).toNat) 1) (by cases hfa1<;>cases hfa3<;>kernel_rfl) (by cases hfa1<;>cases hfa3<;>kernel_rfl) hr1 (by cases hfbb<;>kernel_rfl) (by cases hfbb<;>kernel_rfl)) (Z3.f (h:=by cases hfa1<;>cases hfa3<;>kernel_rfl)))) (by cases hfbb<;>cases hfa1<;>cases hfa3<;>kernel_rfl) (tq (sq ?_)))
   have hpb:HP H3 [.arr bb 4 false (fc.Arms.map Zaj)]:=hp1 hlbb
   refine sq (rgX ⟨[(1,a1),(2,Zah false a2_),(3,.loc 3 0),(8,iv ((List.length a2_:Nat):Int)),(9,iv ((List.length a1_:Nat):Int)),(10,iv i1),(11,a3),(12,iv b),(14,bb),(99,bv la)],[(3,Z2 a0_)],H3⟩ ?_ ?_)
   ·clear h
    unfold ZcM at hla
    rcases ZaJ hla with ⟨hc,hla⟩|⟨hc,hla⟩
    ·refine EP.u (hm:=by cases hfa1<;>cases hfa3<;>cases hfbb<;>kernel_rfl) 1 (Zad (c:=(b != -1)) (by cases hfa1<;>cases hfa3<;>cases hfbb<;>kernel_rfl) hc) (EP.u (hm:=by cases hfa1<;>cases hfa3<;>cases hfbb<;>kernel_rfl) 2 (Zac (ys:=[bb]) (by cases hfa1<;>cases hfa3<;>cases hfbb<;>kernel_rfl) (HP.len (k:=0) (frz:=false) Zaj hpb rfl)) ?_)
     rcases ZaJ hla with ⟨hc',hla⟩|⟨hc',hla⟩
     ·refine EP.u (hm:=by cases hfa1<;>cases hfa3<;>cases hfbb<;>kernel_rfl) 0 (Zad (c:=(decide (((List.length fc.Arms:Nat):Int)>0))) (by cases hfa1<;>cases hfa3<;>cases hfbb<;>kernel_rfl) hc') ?_
      obtain ⟨e5,he5,hla⟩:=bs hla
      obtain rfl:=Zao hla
      obtain ⟨id5,ver5,_,hid5f,hid5,hid5a,hid5v⟩:=HP.elem (k:=0) (frz:=false) Zaj hpb rfl he5
      exact EP.u (hm:=by cases hfa1<;>cases hfa3<;>cases hfbb<;>kernel_rfl) 4 (Zac (ys:=[bb]) (by cases hfa1<;>cases hfa3<;>cases hfbb<;>kernel_rfl) (HP.len (k:=0) (frz:=false) Zaj hpb rfl)) (EP.u (hm:=by cases hfa1<;>cases hfa3<;>cases hfbb<;>kernel_rfl) 1 (Zac (ys:=[bb,iv (w64 (((List.length fc.Arms:Nat):Int)-1))]) (by cases hfa1<;>cases hfa3<;>cases hfbb<;>kernel_rfl) (hid5v .i64)) (EP.u (hm:=by cases hfa1<;>cases hfa3<;>cases hfbb<;>kernel_rfl) 1 (Zei (H:=H3) (off:=2) (cs:=[.int .i64 e5.By]) (r:=iv e5.By) Zaj he5 hid5 (by cases hfa1<;>cases hfa3<;>cases hfbb<;>kernel_rfl) (by cases hfa1<;>cases hfa3<;>cases hfbb<;>kernel_rfl) kr kr) (EP.f (h:=by cases hfa1<;>cases hfa3<;>cases hfbb<;>kernel_rfl) (by cases hfa1<;>cases hfa3<;>cases hfbb<;>kernel_rfl))))
     obtain rfl:=Zao hla
     exact EP.u (hm:=by cases hfa1<;>cases hfa3<;>cases hfbb<;>kernel_rfl) 0 (Zad (c:=(decide (((List.length fc.Arms:Nat):Int)>0))) (by cases hfa1<;>cases hfa3<;>cases hfbb<;>kernel_rfl) hc') (EP.f (h:=by cases hfa1<;>cases hfa3<;>cases hfbb<;>kernel_rfl) (by cases hfa1<;>cases hfa3<;>cases hfbb<;>kernel_rfl))
    obtain rfl:=Zao hla
    exact EP.u (hm:=by cases hfa1<;>cases hfa3<;>cases hfbb<;>kernel_rfl) 1 (Zad (c:=(b != -1)) (by cases hfa1<;>cases hfa3<;>cases hfbb<;>kernel_rfl) hc) (EP.f (h:=by cases hfa1<;>cases hfa3<;>cases hfbb<;>kernel_rfl) (by cases hfa1<;>cases hfa3<;>cases hfbb<;>kernel_rfl))
   refine tq (it h (λhc6 h=>?_) (λhc6 h=>?_) (hx:=by cases hfa1<;>cases hfa3<;>cases hfbb<;>kernel_rfl))
   ·obtain ⟨e7,he7,h⟩:=bs h
    obtain ⟨id7,ver7,H7,hid7a,hid7v,hw7,hF7⟩:=Fp.deepRow (k:=1) (vs:=[iv (w64 (i1+1))]) (off:=1) (e':=Zaj { e7 with To:=w64 (i1+1) }) hF3 rfl (ZbH dpC hfc) hcc hbb (ZbH Zaj he7) rfl rfl
    replace hF7:Fp H H7 [.deep a 4 true cs (a1_.map dpC)] [.deep a1 4 true cs1 ((f1.set ((List.length a1_:Nat):Int).toNat ⟨fc.Stream,fc.Arms.set (w64 (((List.length fc.Arms:Nat):Int)-1)).toNat { e7 with To:=w64 (i1+1) }⟩).map dpC)]:=by
     have:=Fp.pick hF7 [1] rfl
     rw [ZM]
     simp only [dpC,ZM]
     exact this
    refine sq (rgS ⟨[(1,a1),(2,Zah false a2_),(3,.loc 3 0),(8,iv ((List.length a2_:Nat):Int)),(9,iv ((List.length a1_:Nat):Int)),(10,iv i1)],[(3,Z2 a0_)],H7⟩ (Z3.u (hm:=by cases hfa1<;>cases hfa3<;>cases hfbb<;>kernel_rfl) 2 (Zac (ys:=[bb]) (by cases hfa1<;>cases hfa3<;>cases hfbb<;>kernel_rfl) (HP.len (k:=0) (frz:=false) Zaj hpb rfl)) (Z3.u (hm:=by cases hfa1<;>cases hfa3<;>cases hfbb<;>kernel_rfl) 3 (Zac (ys:=[bb,iv (w64 (((List.length fc.Arms:Nat):Int)-1))]) (by cases hfa1<;>cases hfa3<;>cases hfbb<;>kernel_rfl) (hid7v .i64)) (Z3.o (hm:=by cases hfa1<;>cases hfa3<;>cases hfbb<;>kernel_rfl) 1 (ZbK (H:=H3) (v:=iv (w64 (i1+1))) (cs:=[iv (w64 (i1+1))]) (p:=.optr 4 id7 ver7 (0+(w64 (((List.length fc.Arms:Nat):Int)-1)).toNat) 1) rfl (by cases hfa1<;>cases hfa3<;>cases hfbb<;>kernel_rfl) (by cases hfa1<;>cases hfa3<;>cases hfbb<;>kernel_rfl) (by cases hfa1<;>cases hfa3<;>cases hfbb<;>kernel_rfl) rfl hw7) (Z3.f (h:=by cases hfa1<;>cases hfa3<;>cases hfbb<;>kernel_rfl))))) (by cases hfa1<;>cases hfa3<;>cases hfbb<;>kernel_rfl) (tq (kq (xq (tx (bx (tq (kq (rgS ⟨[(1,a1),(2,Zah false a2_),(3,.loc 3 0),(8,iv ((List.length a2_:Nat):Int)),(9,iv ((List.length a1_:Nat):Int)),(10,iv (w64 (i1+1)))],[(3,Z2 a0_)],H7⟩ (Z3.f (h:=by cases hfa1<;>kernel_rfl)) (by cases hfa1<;>kernel_rfl) ?_)))))))))
    cases h
    exact ⟨_,rfl,a1,cs1,H7,(by show _=_;cases hfa1<;>kernel_rfl),hF7,hpre⟩
   refine sk (tq (kq (sq (rgS ⟨[(1,a1),(2,Zah false a2_),(3,.loc 3 0),(8,iv ((List.length a2_:Nat):Int)),(9,iv ((List.length a1_:Nat):Int)),(10,iv i1),(11,a3),(12,iv b),(14,bb),(15,.loc 15 0)],[(3,Z2 a0_),(15,[iv i1,iv (w64 (i1+1)),iv b,iv 0])],H3⟩ (Z3.f (h:=by cases hfa1<;>cases hfa3<;>cases hfbb<;>kernel_rfl)) (by cases hfa1<;>cases hfa3<;>cases hfbb<;>kernel_rfl) (tq (sq ?_))))))
   obtain ⟨q,hq,h⟩:=bs h
   refine sq (rgS ⟨[(1,a1),(2,Zah false a2_),(3,.loc 3 0),(8,iv ((List.length a2_:Nat):Int)),(9,iv ((List.length a1_:Nat):Int)),(10,iv i1),(11,a3),(14,bb),(15,.loc 15 0),(114,bv (b == -1))],[(3,Z2 a0_),(15,[iv i1,iv (w64 (i1+1)),iv b,iv 0])],H3⟩ (Z3.f (h:=by cases hfa1<;>cases hfa3<;>cases hfbb<;>kernel_rfl)) (by cases hfa1<;>cases hfa3<;>cases hfbb<;>kernel_rfl) (tq (it hq (λhc8 hq=>?_) (λhc8 hq=>?_) (hx:=by cases hfa1<;>cases hfa3<;>cases hfbb<;>kernel_rfl))))
   ·refine sq (rgS ⟨[(1,a1),(2,Zah false a2_),(3,.loc 3 0),(8,iv ((List.length a2_:Nat):Int)),(9,iv ((List.length a1_:Nat):Int)),(10,iv i1),(11,a3),(14,bb),(15,.loc 15 0)],[(3,Z2 a0_),(15,[iv i1,iv (w64 (i1+1)),iv b,iv ((List.length f1:Nat):Int)])],H3⟩ (Z3.u (hm:=by cases hfa1<;>cases hfa3<;>cases hfbb<;>kernel_rfl) 1 (Zac (ys:=[a1]) (by cases hfa1<;>cases hfa3<;>cases hfbb<;>kernel_rfl) (ZeV (Fp.get hF3 1 rfl))) (Z3.f (h:=by cases hfa1<;>cases hfa3<;>cases hfbb<;>kernel_rfl))) (by cases hfa1<;>cases hfa3<;>cases hfbb<;>kernel_rfl) (tq (sq ?_)))
    obtain ⟨r9,hr9,hq⟩:=bs hq
    obtain ⟨H4,hz1,hz2,hF4⟩:=Fp.frz (k:=0) eI64 hF3 rfl
    replace hF4:Fp H H4 [.deep a 4 true cs (a1_.map dpC)] ([.deep a1 4 true cs1 (f1.map dpC)]++[]):=Fp.pick hF4 [1] rfl
    obtain ⟨a9,cs9,H9,hc9,hF9,hp9⟩:=hrec_ a0_ f1 all r9 a1 cs1 H4 hF4.now hr9
    replace hF9:Fp H H9 [.deep a 4 true cs (a1_.map dpC)] [.deep a9 4 true cs9 (r9.1.map dpC)]:=Fp.callee hF4 hF9
    have hfa9:=ZdK (Fp.get hF9 0 rfl)
    refine rgS ⟨[(2,Zah false a2_),(3,.loc 3 0),(8,iv ((List.length a2_:Nat):Int)),(9,iv ((List.length a1_:Nat):Int)),(10,iv i1),(14,bb),(15,.loc 15 0),(16,a9),(17,bv r9.2)],[(3,Z2 a0_),(15,[iv i1,iv (w64 (i1+1)),iv b,iv ((List.length f1:Nat):Int)])],H9⟩ (Z3.v (hm:=by cases hfa1<;>cases hfa3<;>cases hfbb<;>kernel_rfl) 3 (Zjg (H:=H3) (ys:=[.agg (Z2 a0_),a1,a3]) (args:=[.agg (Z2 a0_),a1,Zah false all]) (by cases hfa1<;>cases hfa3<;>cases hfbb<;>kernel_rfl) (by cases hfa1<;>cases hfa3<;>cases hfbb<;>kernel_rfl) [[],[true],[]] (Ze4 (H1:=H3) kr (Ze4 (by cases hfa1<;>kernel_rfl) (Ze4 (Zkf hz2) passL_nil'))) hc9) (Z3.f (h:=by cases hfa1<;>cases hfa3<;>cases hfbb<;>cases hfa9<;>kernel_rfl))) (by cases hfa1<;>cases hfa3<;>cases hfbb<;>cases hfa9<;>kernel_rfl) (tq (sq (sq (rgS ⟨[(2,Zah false a2_),(3,.loc 3 0),(8,iv ((List.length a2_:Nat):Int)),(9,iv ((List.length a1_:Nat):Int)),(10,iv i1),(14,bb),(15,.loc 15 0),(16,a9),(126,bv (!r9.2))],[(3,Z2 a0_),(15,[iv i1,iv (w64 (i1+1)),iv b,iv ((List.length f1:Nat):Int)])],H9⟩ (Z3.f (h:=by cases hfa9<;>cases hfbb<;>kernel_rfl)) (by cases hfa9<;>cases hfbb<;>kernel_rfl) (tq (it hq (λhc9 hq=>?_) (λhc9 hq=>?_) (hx:=by cases hfa9<;>cases hfbb<;>kernel_rfl)))))))
    ·obtain rfl:=Zao hq
     dsimp only at h
     cases h
     exact sq (rgS ⟨[(6,.p (.sl 2 true [])),(7,bv false)],[],H9⟩ (Z3.f (h:=by cases hfa9<;>cases hfbb<;>kernel_rfl)) (by cases hfa9<;>cases hfbb<;>kernel_rfl) (tq (rt (tr (tr (br (tr (⟨_,rfl,rfl,.p (.sl 2 true []),[],H9,rfl,Fp.pk (Fp.deepNil hF9 4) [0] rfl,λe=>by cases e⟩))))))))
    obtain rfl:=Zao hq
    dsimp only at h
    obtain ⟨fd,hfd,h⟩:=bs h
    obtain ⟨l9,hl9,h⟩:=bs h
    refine sk (tq (kq (rgS ⟨[(1,a9),(2,Zah false a2_),(3,.loc 3 0),(8,iv ((List.length a2_:Nat):Int)),(9,iv ((List.length a1_:Nat):Int)),(10,iv i1),(14,bb),(15,.loc 15 0)],[(3,Z2 a0_),(15,[iv i1,iv (w64 (i1+1)),iv b,iv ((List.length f1:Nat):Int)])],H9⟩ (Z3.f (h:=by cases hfa9<;>cases hfbb<;>kernel_rfl)) (by cases hfa9<;>cases hfbb<;>kernel_rfl) (tq (kq ?_)))))
    have hpre9:cs1 <+: cs9:=hp9 (by simpa using hc9)
    have hcc9:cs9[((List.length a1_:Nat):Int).toNat]?=some cc:=ZoL hpre9 hcc
    refine Eq.mp (congrArg _ (show ⟨[(1,a9),(2,Zah false a2_),(3,.loc 3 0),(8,iv ((List.length a2_:Nat):Int)),(9,iv ((List.length a1_:Nat):Int)),(10,iv i1),(14,bb),(15,.loc 15 0)],[(3,Z2 a0_),(15,[iv i1,iv (w64 (i1+1)),iv b,iv ((List.length f1:Nat):Int)])],H9⟩=_ by cases hfa9<;>cases hfbb<;>kernel_rfl)) (Zkx hF9 hfd hcc9 hbb hl9 λa5 cx a0=>(bn (tq (kq (rgS ⟨[(1,a9),(2,Zah false a2_),(3,.loc 3 0),(8,iv ((List.length a2_:Nat):Int)),(9,iv ((List.length a1_:Nat):Int)),(10,iv (w64 (i1+1)))],[(3,Z2 a0_)],a5⟩ (Z3.f (h:=by cases hfa9<;>kernel_rfl)) (by cases hfa9<;>kernel_rfl) ?_)))))
    cases h
    exact ⟨_,rfl,a9,_,a5,(by show _=_;cases hfa9<;>kernel_rfl),a0,Zm0 _ (List.IsPrefix.trans hpre hpre9) (by simp [hlen])⟩
   obtain rfl:=Zao hq
   dsimp only at h
   obtain ⟨fd,hfd,h⟩:=bs h
   obtain ⟨l9,hl9,h⟩:=bs h
   rw [hfc] at hfd
   cases hfd
   refine sk (tq (kq (Eq.mp (congrArg _ (show ⟨[(1,a1),(2,Zah false a2_),(3,.loc 3 0),(8,iv ((List.length a2_:Nat):Int)),(9,iv ((List.length a1_:Nat):Int)),(10,iv i1),(14,bb),(15,.loc 15 0)],[(3,Z2 a0_),(15,[iv i1,iv (w64 (i1+1)),iv b,iv 0])],H3⟩=_ by cases hfa1<;>cases hfa3<;>cases hfbb<;>kernel_rfl)) (Zkx (Fp.pick hF3 [1] rfl) hfc hcc hbb hl9 λa5 cx a0=>(bn (tq (kq (rgS ⟨[(1,a1),(2,Zah false a2_),(3,.loc 3 0),(8,iv ((List.length a2_:Nat):Int)),(9,iv ((List.length a1_:Nat):Int)),(10,iv (w64 (i1+1)))],[(3,Z2 a0_)],a5⟩ (Z3.f (h:=by cases hfa1<;>kernel_rfl)) (by cases hfa1<;>kernel_rfl) ?_))))))))
   cases h
   exact ⟨_,rfl,a1,_,a5,(by show _=_;cases hfa1<;>kernel_rfl),a0,Zm0 _ hpre (by simp [hlen])⟩
  refine kq (xq (tx ?_))
  cases h
  exact ⟨_,rfl,rfl,a1,cs1,H1,(by show _=_;cases hfa1<;>kernel_rfl),hF1,hpre⟩
 rintro e s hq
 rcases o1 with f2|q
 ·dsimp only at h hq
  obtain ⟨rfl,a2,cs2,H2,rfl,hF2,hpre⟩:=hq
  have hfa2:=ZdK (Fp.get hF2 0 rfl)
  refine bx (tq (sq (rgS ⟨[(6,a2),(7,bv true)],[],H2⟩ (Z3.f (h:=by cases hfa2<;>kernel_rfl)) (by cases hfa2<;>kernel_rfl) (tq (rt ?_)))))
  cases h
  exact ⟨[a2,bv true],(by cases hfa2<;>kernel_rfl),a2,cs2,rfl,hF2,λ_=>hpre⟩
 dsimp only at h hq
 obtain ⟨rfl,a2,cs2,H2,rfl,hF2,hpre⟩:=hq
 have hfa2:=ZdK (Fp.get hF2 0 rfl)
 refine br (tr ?_)
 have hqr:=Zao h
 subst hqr
 exact ⟨[a2,bv q.2],(by cases hfa2<;>kernel_rfl),a2,cs2,rfl,hF2,hpre⟩
theorem ZfL:∀ N:Nat,ZoX Try.prog (Zc5 N)
 | 0=>λ_ _ _ _ _ _ _ _ h=>by cases h
 | N+1=>Zhx N (Zc5 N) (ZfL N)
theorem Zns (l:List Z4):(l.map dpC).map (λr=>[PC.int .i64 r.1,.sl 4 false r.2])=l.map Zai:=by
 rw [List.map_map];rfl
theorem Zjo (N:Nat)(a0_:Z5)(r:List Z4×Bool)(h:Zd9 N a0_=some r):Zbr Try.prog 16 [.agg (Z2 a0_)] (.tup [Z6 false r.1,bv r.2]):=by
 unfold Zd9 at h
 have hH  := hp0
 refine ZaI ZwG rfl rfl (Zat _ _ _ ?_) rfl
 refine sq (rg Z3.f (tq (sq (sq (rgS ⟨[(1,.loc 1 0),(7,bv (((List.length a0_.Periods:Nat):Int)==0))],[(1,Z2 a0_)],[]⟩ (Z3.u 2 (Zac (ys:=[Zah false a0_.Periods]) (h:=Zas eI64)) Z3.f) kr (tq (it h (λhc h=>?_) (λhc h=>?_))))))))
 ·refine sq (rg Z3.f (tq (rt (tr ?_))))
  cases h
  exact ZaD kr
 refine sk (tq (kq (sq ?_)))
 obtain ⟨r1,hr1,h⟩:=bs h
 cases h
 have hF:=Fp.deepNil (Fp.refl hH) 4
 obtain ⟨a,cs,H1,hc1,hF1,_⟩:=ZfL N a0_ [] [] r1 _ _ _ hF.now hr1
 have hfa:=ZdK (Fp.get hF1 0 rfl)
 obtain ⟨H2,hs2,hF2⟩:=Fp.deepSeal (k:=0) hF1 rfl
 replace hF2:HP H2 [.arr a 2 false (r1.1.map Zai)]:=by
  have:=hF2.now
  rw [Zns] at this
  exact this
 refine rgS ⟨[(2,a),(3,bv r1.2)],[],H2⟩ (Z3.v 1 (Zjg (H:=[]) (ys:=[.agg (Z2 a0_),.p (.sl 2 true []),.p (.sl 1 true [])]) (args:=[.agg (Z2 a0_),.p (.sl 2 true []),Zah false []]) kr kr [[],[true],[]] kr hc1)
  (Z3.h (hm:=by cases hfa<;>kernel_rfl) 2 (Zje (H:=H1) (b:=a) (by cases hfa<;>kernel_rfl) (by cases hfa<;>kernel_rfl) (by cases hfa<;>rfl) hs2) (Z3.f (h:=by cases hfa<;>kernel_rfl)))) (by cases hfa<;>kernel_rfl) ?_
 exact tq (rt (ZeF (H:=H2) (ys:=[a,bv r1.2]) (xs:=[Z6 false r1.1,bv r1.2]) (by cases hfa<;>kernel_rfl) (by cases hfa<;>kernel_rfl) (ZbX (HP.pure (k:=0) (frz:=false) Zai hF2 rfl).2 (ZbX kr ZcA)) kr))
end Go.Sh

