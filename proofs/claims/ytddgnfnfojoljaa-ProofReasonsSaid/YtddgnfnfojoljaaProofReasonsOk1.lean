/- Part of the proof. -/
import Derived.Test.YtddgnfnfojoljaaProofReasonsSh
import Derived.Test.YtddgnfnfojoljaaProofReasonsChk
set_option linter.all false
namespace Go.Sh
open Go Go.Eng Go.Proofs
set_option maxRecDepth 100000
set_option maxHeartbeats 4000000
attribute [local irreducible] vc ev ZfE opsD opsF ZgP upd updH updO
theorem Zfo (N:Nat)(a0_:ZbG)(r:Z8)(h:ZbF N a0_=some r):Za9 Try.prog 8 [.agg (ZaW a0_)] (.agg [Zaf false r.Periods,Zai false r.Uses]):=by
 unfold ZbF at h
 have hH  := hp0
 refine ZaC chk8 rfl rfl (Zat _ _ _ ?_) rfl
 refine sq (rg Z6.f (tq (sq (rg Z6.f (tq (sq (sq (rg Z6.f (tq (bk ?_))))))))))
 obtain ⟨a5,az,h⟩:=bs h
 refine ZaN ((ZaA (λ(x:Int×(List Int)) s=>∃ (a1:AV) (H2:List HO),s=⟨[(1,.loc 1 0),(2,.loc 2 0),(3,.loc 3 0),(4,iv x.1)],[(1,(ZaW a0_)),(2,[Zaf true [],Zai true []]),(3,[a1,Zai true []])],H2⟩/\HP H2 [.arr a1 1 false (List.map eI64 x.2)]) (λx:Int×(List Int)=>Za4 N a0_ x.1 x.2) (λ(p:(List Int)) e s=>e=.exit 0/\(∃ (ak:AV) (ar:List HO),s=⟨[(1,.loc 1 0),(2,.loc 2 0),(3,.loc 3 0)],[(1,(ZaW a0_)),(2,[Zaf true [],Zai true []]),(3,[ak,Zai true []])],ar⟩/\HP ar [.arr ak 1 false (List.map eI64 p)])) ?_ N _ a5 _ az ⟨(.p (.sl 1 true [])),[],kr,(HP.pick (HP.nilArr hH 1 false) [0] rfl)⟩).mono ?_)
 ·clear h az
  rintro ⟨i3,l4⟩ o s h hR
  obtain ⟨a1,H2,rfl,hH⟩:=hR
  replace hH:HP _ [.arr a1 1 false (List.map eI64 l4)]:=hH
  have hfa1:=Za8 (HP.get hH 0 rfl)
  replace h:Za4 N a0_ i3 l4=some o:=h
  unfold Za4 at h
  refine sq (sq (rgX ⟨[(1,.loc 1 0),(2,.loc 2 0),(3,.loc 3 0),(4,iv i3),(17,bv ((decide (i3<((List.length a0_.Periods:Nat):Int)))&&(decide (i3<5))))],[(1,(ZaW a0_)),(2,[Zaf true [],Zai true []]),(3,[a1,Zai true []])],H2⟩ ?_ ?_))
  ·refine (EP.u 3 (Zac (ys:=[ZbE false a0_.Periods]) (h:=Zap (eI .u8))) ?_)
   rcases Bool.eq_false_or_eq_true (decide (i3<((List.length a0_.Periods:Nat):Int))) with aD|aC
   ·exact (EP.u 0 (Z9 (c:=(decide (i3<((List.length a0_.Periods:Nat):Int)))) (h:=aD)) (EP.f (by simp only [aD];cases hfa1<;>kernel_rfl)))
   exact (EP.u 0 (Z9 (c:=(decide (i3<((List.length a0_.Periods:Nat):Int)))) (h:=aC)) (EP.f (by simp only [aC];cases hfa1<;>kernel_rfl)))
  refine tq (it h (λbd h=>?_) (λbd h=>?_))
  ·refine sk (tq (kq (sq (bk ?_))))
   obtain ⟨aV,aB,h⟩:=bs h
   obtain ⟨aU,aA,h⟩:=bs h
   obtain ⟨bi,ba,h⟩:=bs h
   obtain ⟨ay,aW,be,hH⟩:=HP.app (k:=0) (a:=a1) (sz:=1) (frz:=false) eI64 hH rfl ba
   replace hH:HP _ [.arr ay 1 false (List.map eI64 bi)]:=hH
   have af:=Za8 (HP.get hH 0 rfl)
   refine rqS ⟨[(1,.loc 1 0),(2,.loc 2 0),(3,.loc 3 0),(4,iv i3)],[(1,(ZaW a0_)),(2,[Zaf true [],Zai true []]),(3,[ay,Zai true []])],aW⟩ (Z6.u (hm:=(by cases hfa1<;>kernel_rfl)) 6 (Zac (ys:=[ZbE false a0_.Periods,iv i3]) (by cases hfa1<;>kernel_rfl) (Zaa (eI .u8) aB)) (Z6.u (hm:=(by cases hfa1<;>kernel_rfl)) 0 (ZaK (Zao (sz:=1) (off:=0) (cs:=[.int .u8 aV]) (r:=.p (.int .u8 aV)) (eI .u8) aB (by cases hfa1<;>kernel_rfl) (by cases hfa1<;>kernel_rfl) (by cases hfa1<;>kernel_rfl)) (by cases hfa1<;>kernel_rfl)) (Z6.u (hm:=(by cases hfa1<;>kernel_rfl)) 1 (Zac (ys:=[Zaf true [4,6,8,12,3,5,10,24],.p (.int .u8 (Int.tmod aV 8))]) (by cases hfa1<;>kernel_rfl) (Zaa eI64 aA)) (Z6.u (hm:=(by cases hfa1<;>kernel_rfl)) 0 (ZaK (Zao (sz:=1) (off:=0) (cs:=[.int .i64 aU]) (r:=iv aU) eI64 aA (by cases hfa1<;>kernel_rfl) (by cases hfa1<;>kernel_rfl) (by cases hfa1<;>kernel_rfl)) (by cases hfa1<;>kernel_rfl)) (Z6.h (hm:=(by cases hfa1<;>kernel_rfl)) 1 (Zee (H:=H2) (a:=a1) (b:=Zaf true [aU]) (by cases hfa1<;>kernel_rfl) (by cases hfa1<;>kernel_rfl) (by cases hfa1<;>kernel_rfl) (by cases hfa1<;>kernel_rfl) be) (Z6.f (h:=(by cases hfa1<;>cases af<;>kernel_rfl)))))))) (by cases hfa1<;>cases af<;>kernel_rfl) (bn (tq (rgS ⟨[(1,.loc 1 0),(2,.loc 2 0),(3,.loc 3 0),(4,iv (w64 (i3+1)))],[(1,(ZaW a0_)),(2,[Zaf true [],Zai true []]),(3,[ay,Zai true []])],aW⟩ Z6.f (by cases af<;>kernel_rfl) ?_)))
   cases h
   exact ⟨_,rfl,⟨ay,aW,(by show _=_;cases af<;>kernel_rfl),(HP.pick hH [0] rfl)⟩⟩
  refine kq (xq (tx ?_))
  cases h
  exact ⟨_,rfl,rfl,⟨a1,H2,(by show _=_;cases hfa1<;>kernel_rfl),(HP.pick hH [0] rfl)⟩⟩
 rintro e s hq
 obtain ⟨rfl,hR⟩:=hq
 obtain ⟨ak,ar,rfl,hH⟩:=hR
 replace hH:HP _ [.arr ak 1 false (List.map eI64 a5)]:=hH
 have ao:=Za8 (HP.get hH 0 rfl)
 refine bx (tq (sq (sq (rgS ⟨[(1,.loc 1 0),(2,.loc 2 0),(3,.loc 3 0),(5,iv 0)],[(1,(ZaW a0_)),(2,[Zaf true [],Zai true []]),(3,[ak,Zai true []])],ar⟩ Z6.f (by cases ao<;>kernel_rfl) (tq (bk ?_))))))
 obtain ⟨al,am,h⟩:=bs h
 refine ZaN ((ZaA (λ(x:Int×(List ZaJ)) s=>∃ (a3:AV) (aa:AV) (ab:List HO),s=⟨[(1,.loc 1 0),(2,.loc 2 0),(3,.loc 3 0),(5,iv x.1)],[(1,(ZaW a0_)),(2,[Zaf true [],Zai true []]),(3,[a3,aa])],ab⟩/\HP ab [.arr a3 1 false (List.map eI64 a5),.arr aa 4 false (List.map ZaF x.2)]) (λx:Int×(List ZaJ)=>Za3 N a0_ a5 x.1 x.2) (λ(p:(List ZaJ)) e s=>e=.exit 2/\(∃ (ae:AV) (ad:AV) (ag:List HO),s=⟨[(2,.loc 2 0),(3,.loc 3 0)],[(2,[Zaf true [],Zai true []]),(3,[ae,ad])],ag⟩/\HP ag [.arr ae 1 false (List.map eI64 a5),.arr ad 4 false (List.map ZaF p)])) ?_ N _ al _ am ⟨ak,(.p (.sl 4 true [])),ar,(by show _=_;cases ao<;>kernel_rfl),(HP.pick (HP.nilArr hH 4 false) [1,0] rfl)⟩).mono ?_)
 ·clear h am
  rintro ⟨a6,b0⟩ o s h hR
  obtain ⟨a3,aa,ab,rfl,hH⟩:=hR
  replace hH:HP _ [.arr a3 1 false (List.map eI64 a5),.arr aa 4 false (List.map ZaF b0)]:=hH
  have a0:=Za8 (HP.get hH 0 rfl)
  have a2:=Za8 (HP.get hH 1 rfl)
  replace h:Za3 N a0_ a5 a6 b0=some o:=h
  unfold Za3 at h
  refine sq (sq ?_)
  obtain ⟨b2,hj,h⟩:=bs h
  refine rgR (λs=>s=⟨[(1,.loc 1 0),(2,.loc 2 0),(3,.loc 3 0),(5,iv a6),(48,bv b2)],[(1,(ZaW a0_)),(2,[Zaf true [],Zai true []]),(3,[a3,aa])],ab⟩) ?_ ?_
  ·clear h
   refine (EP.u 3 (Zac (ys:=[Zgi false a0_.Uses]) (h:=Zap Ze4)) ?_)
   rcases ZaD hj with ⟨aS,hj⟩|⟨aM,hj⟩
   ·refine (EP.u 0 (Z9 (c:=(decide (a6<((List.length a0_.Uses:Nat):Int)))) (h:=aS)) ?_)
    rcases ZaD hj with ⟨aR,hj⟩|⟨aQ,hj⟩
    ·refine (EP.u 2 (Z9 (c:=(decide (a6<12))) (h:=aR)) ?_)
     have aw:=HP.len (k:=0) (a:=a3) (sz:=1) (frz:=false) (l:=a5) eI64 hH rfl
     obtain rfl:=Zan hj
     exact (EP.u (hm:=(by cases a0<;>cases a2<;>kernel_rfl)) 4 (Zac (ys:=[a3]) (by cases a0<;>cases a2<;>kernel_rfl) aw) (EP.f (by show _=_;cases a0<;>cases a2<;>kernel_rfl) (h:=(by cases a0<;>cases a2<;>kernel_rfl))))
    obtain rfl:=Zan hj
    exact (EP.u 2 (Z9 (c:=(decide (a6<12))) (h:=aQ)) (EP.f (by show _=_;cases a0<;>cases a2<;>kernel_rfl)))
   obtain rfl:=Zan hj
   exact (EP.u 0 (Z9 (c:=(decide (a6<((List.length a0_.Uses:Nat):Int)))) (h:=aM)) (EP.f (by show _=_;cases a0<;>cases a2<;>kernel_rfl)))
  clear hj
  rintro s hR
  obtain rfl:=hR
  refine tq (it h (λaL h=>?_) (λaL h=>?_))
  ·refine sk (tq (kq (sq (bk (sq ?_)))))
   obtain ⟨a4,aq,h⟩:=bs h
   refine rgS ⟨[(1,.loc 1 0),(2,.loc 2 0),(3,.loc 3 0),(5,iv a6),(6,.loc 6 0)],[(1,(ZaW a0_)),(2,[Zaf true [],Zai true []]),(3,[a3,aa]),(6,(ZgT a4))],ab⟩ (Z6.u 3 (Zac (ys:=[Zgi false a0_.Uses,iv a6]) (h:=Zaa Ze4 aq)) (Z6.u 0 (Zao (sz:=4) (off:=0) (cs:=[.int .u8 a4.x0,.int .u8 a4.x1,.int .u8 a4.x2,.int .u8 a4.x3]) (r:=.agg (ZgT a4)) Ze4 aq) Z6.f)) (by cases a0<;>cases a2<;>kernel_rfl) (tq (sq ?_))
   have av:=HP.len (k:=0) (a:=a3) (sz:=1) (frz:=false) (l:=a5) eI64 hH rfl
   obtain ⟨ai,aJ,h⟩:=bs h
   refine rgS ⟨[(1,.loc 1 0),(2,.loc 2 0),(3,.loc 3 0),(5,iv a6),(6,.loc 6 0),(7,iv ai)],[(1,(ZaW a0_)),(2,[Zaf true [],Zai true []]),(3,[a3,aa]),(6,(ZgT a4))],ab⟩ (Z6.u (hm:=(by cases a0<;>cases a2<;>kernel_rfl)) 5 (Zac (ys:=[a3]) (by cases a0<;>cases a2<;>kernel_rfl) av) (Z6.u (hm:=(by cases a0<;>cases a2<;>kernel_rfl)) 0 (Zac (ys:=[iv (w64 (a4.x0)),iv ((List.length a5:Nat):Int)]) (by cases a0<;>cases a2<;>kernel_rfl) (Za6 aJ)) (Z6.f (h:=(by cases a0<;>cases a2<;>kernel_rfl))))) (by cases a0<;>cases a2<;>kernel_rfl) (tq (sq ?_))
   obtain ⟨ac,ap,h⟩:=bs h
   obtain ⟨bj,bf,_,bb,ax,bc,an⟩:=HP.elem (k:=0) (a:=a3) (sz:=1) (frz:=false) eI64 hH rfl ap
   refine rgS ⟨[(1,.loc 1 0),(2,.loc 2 0),(3,.loc 3 0),(5,iv a6),(6,.loc 6 0),(7,iv ai),(8,iv ac)],[(1,(ZaW a0_)),(2,[Zaf true [],Zai true []]),(3,[a3,aa]),(6,(ZgT a4))],ab⟩ (Z6.u (hm:=(by cases a0<;>cases a2<;>kernel_rfl)) 3 (Zac (ys:=[a3,iv ai]) (by cases a0<;>cases a2<;>kernel_rfl) (an .i64)) (Z6.u (hm:=(by cases a0<;>cases a2<;>kernel_rfl)) 0 (Zc7 (H:=ab) (off:=0) (cs:=[.int .i64 ac]) (r:=iv ac) eI64 ap ax (by cases a0<;>cases a2<;>kernel_rfl) (by cases a0<;>cases a2<;>kernel_rfl) (by cases a0<;>cases a2<;>kernel_rfl) (by cases a0<;>cases a2<;>kernel_rfl)) (Z6.f (h:=(by cases a0<;>cases a2<;>kernel_rfl))))) (by cases a0<;>cases a2<;>kernel_rfl) (tq ?_)
   obtain ⟨aZ,aI,h⟩:=bs h
   obtain ⟨aY,aG,h⟩:=bs h
   obtain ⟨aX,aE,h⟩:=bs h
   obtain ⟨b1,aK,h⟩:=bs h
   obtain ⟨aj,au,aT,hH⟩:=HP.app (k:=1) (a:=aa) (sz:=4) (frz:=false) ZaF hH rfl aK
   replace hH:HP _ [.arr a3 1 false (List.map eI64 a5),.arr aj 4 false (List.map ZaF b1)]:=hH
   have a7:=Za8 (HP.get hH 1 rfl)
   refine rqS ⟨[(1,.loc 1 0),(2,.loc 2 0),(3,.loc 3 0),(5,iv a6)],[(1,(ZaW a0_)),(2,[Zaf true [],Zai true []]),(3,[a3,aj])],au⟩ (Z6.u (hm:=(by cases a0<;>cases a2<;>kernel_rfl)) 11 (Zac (ys:=[iv (w64 (a4.x2)),iv ac]) (by cases a0<;>cases a2<;>kernel_rfl) (Za6 aI)) (Z6.u (hm:=(by cases a0<;>cases a2<;>kernel_rfl)) 4 (Zac (ys:=[iv (w64 (a4.x3)),iv ac]) (by cases a0<;>cases a2<;>kernel_rfl) (Za6 aG)) (Z6.u (hm:=(by cases a0<;>cases a2<;>kernel_rfl)) 2 (Zac (ys:=[iv (Int.tmod aY 4),iv ac]) (by cases a0<;>cases a2<;>kernel_rfl) (Za6 aE)) (Z6.h (hm:=(by cases a0<;>cases a2<;>kernel_rfl)) 3 (Zee (H:=ab) (a:=aa) (b:=Zai true [(ZaJ.mk ai (w64 ((Int.tmod a4.x1 4))) aZ (w64 (1+aX)))]) (by cases a0<;>cases a2<;>kernel_rfl) (by cases a0<;>cases a2<;>kernel_rfl) (by cases a0<;>cases a2<;>kernel_rfl) (by cases a0<;>cases a2<;>kernel_rfl) aT) (Z6.f (h:=(by cases a7<;>cases a0<;>cases a2<;>kernel_rfl))))))) (by cases a7<;>cases a0<;>cases a2<;>kernel_rfl) (bn (tq (rgS ⟨[(1,.loc 1 0),(2,.loc 2 0),(3,.loc 3 0),(5,iv (w64 (a6+1)))],[(1,(ZaW a0_)),(2,[Zaf true [],Zai true []]),(3,[a3,aj])],au⟩ Z6.f (by cases a7<;>cases a0<;>kernel_rfl) ?_)))
   cases h
   exact ⟨_,rfl,⟨a3,aj,au,(by show _=_;cases a7<;>cases a0<;>kernel_rfl),(HP.pick hH [0,1] rfl)⟩⟩
  refine kq (xq (tx ?_))
  cases h
  exact ⟨_,rfl,rfl,⟨a3,aa,ab,(by show _=_;cases a0<;>cases a2<;>kernel_rfl),(HP.pick hH [0,1] rfl)⟩⟩
 rintro e s hq
 obtain ⟨rfl,hR⟩:=hq
 obtain ⟨ae,ad,ag,rfl,hH⟩:=hR
 replace hH:HP _ [.arr ae 1 false (List.map eI64 a5),.arr ad 4 false (List.map ZaF al)]:=hH
 have a9:=Za8 (HP.get hH 0 rfl)
 have a8:=Za8 (HP.get hH 1 rfl)
 refine bx (tq (sq (rgS ⟨[(2,.loc 2 0)],[(2,[ae,ad])],ag⟩ (Z6.f (h:=(by cases a9<;>cases a8<;>kernel_rfl))) (by cases a9<;>cases a8<;>kernel_rfl) (tq (rt ?_)))))
 obtain rfl:=Zan h
 exact ZeS (H:=ag) (ys:=[.agg [ae,ad]]) (xs:=[.agg [.p (.sl 1 false (List.map eI64 a5)),.p (.sl 4 false (List.map ZaF al))]]) (by cases a9<;>cases a8<;>kernel_rfl) (by cases a9<;>cases a8<;>kernel_rfl) (ZbI (Zle (ZfR (HP.pure (k:=0) (frz:=false) eI64 hH rfl).1 (ZfR (HP.pure (k:=1) (frz:=false) ZaF hH rfl).1 Zlf))) ZcB) kr
theorem Zeg (N:Nat)(a0_:Z8)(a1_:(List Int))(r:(List Int))(h:Zdc N a0_ a1_=some r):Za9 Try.prog 13 [.agg (Z4 a0_),ZbE false a1_] (Zaf false r):=by
 unfold Zdc at h
 have hH  := hp0
 refine ZaC ZAG rfl rfl (Zat _ _ _ ?_) rfl
 refine sq (rg Z6.f (tq (sq (rg Z6.f (tq (sq (sq (rg Z6.f (tq (bk ?_))))))))))
 obtain ⟨a5,a6,h⟩:=bs h
 refine ZaN ((ZaA (λ(x:Int×(List Int)) s=>∃ (a1:AV) (H2:List HO),s=⟨[(1,ZbE false a1_),(2,.loc 2 0),(5,a1),(6,iv x.1)],[(2,(Z4 a0_))],H2⟩/\HP H2 [.arr a1 1 false (List.map eI64 x.2)]) (λx:Int×(List Int)=>ZcV N a0_ a1_ x.1 x.2) (λ(p:(List Int)) e s=>e=.exit 0/\(∃ (a4:AV) (ac:List HO),s=⟨[(5,a4)],[],ac⟩/\HP ac [.arr a4 1 false (List.map eI64 p)])) ?_ N _ a5 _ a6 ⟨(.p (.sl 1 true [])),[],kr,(HP.pick (HP.nilArr hH 1 false) [0] rfl)⟩).mono ?_)
 ·clear h a6
  rintro ⟨i3,l4⟩ o s h hR
  obtain ⟨a1,H2,rfl,hH⟩:=hR
  replace hH:HP _ [.arr a1 1 false (List.map eI64 l4)]:=hH
  have hfa1:=Za8 (HP.get hH 0 rfl)
  replace h:ZcV N a0_ a1_ i3 l4=some o:=h
  unfold ZcV at h
  refine sq (sq (rgS ⟨[(1,ZbE false a1_),(2,.loc 2 0),(5,a1),(6,iv i3),(12,bv (decide (i3<((List.length a0_.Periods:Nat):Int))))],[(2,(Z4 a0_))],H2⟩ (Z6.u 3 (Zac (ys:=[Zaf false a0_.Periods]) (h:=Zap eI64)) Z6.f) (by cases hfa1<;>kernel_rfl) (tq (it h (λam h=>?_) (λam h=>?_)))))
  ·refine sk (tq (kq (sq (bk (sq (rgS ⟨[(1,ZbE false a1_),(2,.loc 2 0),(5,a1),(6,iv i3),(7,iv 0)],[(2,(Z4 a0_))],H2⟩ Z6.f (by cases hfa1<;>kernel_rfl) (tq ?_)))))))
   obtain ⟨ae,a7,h⟩:=bs h
   refine ZdQ [1,2,5,6,7] (λs=>s=⟨[(1,ZbE false a1_),(2,.loc 2 0),(5,a1),(6,iv i3),(7,iv ae)],[(2,(Z4 a0_))],H2⟩) ?_ ?_
   ·clear h
    have h:=a7
    refine sq (rgS ⟨[(1,ZbE false a1_),(2,.loc 2 0),(5,a1),(6,iv i3),(7,iv 0),(18,bv (decide (i3<((List.length a1_:Nat):Int))))],[(2,(Z4 a0_))],H2⟩ (Z6.u 2 (Zac (ys:=[ZbE false a1_]) (h:=Zap (eI .u8))) Z6.f) (by cases hfa1<;>kernel_rfl) (tq (it h (λai h=>?_) (λai h=>?_))))
    ·obtain ⟨ab,a9,h⟩:=bs h
     obtain ⟨aa,a8,h⟩:=bs h
     obtain ⟨ak,af,h⟩:=bs h
     refine rqS ⟨[(1,ZbE false a1_),(2,.loc 2 0),(5,a1),(6,iv i3),(7,iv ak)],[(2,(Z4 a0_))],H2⟩ (Z6.u 2 (Zac (ys:=[ZbE false a1_,iv i3]) (h:=Zaa (eI .u8) a9)) (Z6.u 0 (ZaK (Zao (sz:=1) (off:=0) (cs:=[.int .u8 ab]) (r:=.p (.int .u8 ab)) (eI .u8) a9)) (Z6.u 4 (Zac (ys:=[Zaf false a0_.Periods,iv i3]) (h:=Zaa eI64 a8)) (Z6.u 0 (ZaK (Zao (sz:=1) (off:=0) (cs:=[.int .i64 aa]) (r:=iv aa) eI64 a8)) (Z6.u 0 (Zac (ys:=[iv (w64 (ab)),iv aa]) (h:=Za6 af)) Z6.f))))) (by cases hfa1<;>kernel_rfl) ?_
     cases h
     exact ⟨rfl,(by show _=_;cases hfa1<;>kernel_rfl)⟩
    refine sk ?_
    cases h
    exact ⟨rfl,(by show _=_;cases hfa1<;>kernel_rfl)⟩
   clear a7
   rintro s hR
   obtain rfl:=hR
   obtain ⟨al,ag,h⟩:=bs h
   obtain ⟨a3,ad,aj,hH⟩:=HP.app (k:=0) (a:=a1) (sz:=1) (frz:=false) eI64 hH rfl ag
   replace hH:HP _ [.arr a3 1 false (List.map eI64 al)]:=hH
   have a0:=Za8 (HP.get hH 0 rfl)
   refine rgS ⟨[(1,ZbE false a1_),(2,.loc 2 0),(5,a3),(6,iv i3)],[(2,(Z4 a0_))],ad⟩ (Z6.h 3 (Zee (H:=H2) (a:=a1) (b:=Zaf true [ae]) (by cases hfa1<;>kernel_rfl) (by cases hfa1<;>kernel_rfl) (by cases hfa1<;>kernel_rfl) (by cases hfa1<;>kernel_rfl) aj) Z6.f) (by cases hfa1<;>cases a0<;>kernel_rfl) (bn (tq (kq (rgS ⟨[(1,ZbE false a1_),(2,.loc 2 0),(5,a3),(6,iv (w64 (i3+1)))],[(2,(Z4 a0_))],ad⟩ Z6.f (by cases a0<;>kernel_rfl) ?_))))
   cases h
   exact ⟨_,rfl,⟨a3,ad,(by show _=_;cases a0<;>kernel_rfl),(HP.pick hH [0] rfl)⟩⟩
  refine kq (xq (tx ?_))
  cases h
  exact ⟨_,rfl,rfl,⟨a1,H2,(by show _=_;cases hfa1<;>kernel_rfl),(HP.pick hH [0] rfl)⟩⟩
 rintro e s hq
 obtain ⟨rfl,hR⟩:=hq
 obtain ⟨a4,ac,rfl,hH⟩:=hR
 replace hH:HP _ [.arr a4 1 false (List.map eI64 a5)]:=hH
 have a2:=Za8 (HP.get hH 0 rfl)
 refine bx (tq (sq (rgS ⟨[(4,a4)],[],ac⟩ Z6.f (by cases a2<;>kernel_rfl) (tq (rt ?_)))))
 obtain rfl:=Zan h
 exact ZeS (H:=ac) (ys:=[a4]) (xs:=[.p (.sl 1 false (List.map eI64 a5))]) (by cases a2<;>kernel_rfl) (by cases a2<;>kernel_rfl) (ZbI (HP.pure (k:=0) (frz:=false) eI64 hH rfl).2 ZcB) kr
theorem Zjy (N:Nat)(r:Z8)(h:Zgp N=some r):Za9 Try.prog 18 [] (.agg [Zaf false r.Periods,Zai false r.Uses]):=by
 unfold Zgp at h
 have hH  := hp0
 refine ZaC ZAB rfl rfl (Zat _ _ _ ?_) rfl
 refine sq (rg Z6.f (tq (sq (rg Z6.f (tq (rt ?_))))))
 cases h
 exact Zar kr
theorem ZbL (N:Nat)(a0_:Int)(a1_:(List Zba))(r:Z7)(h:ZbU N a0_ a1_=some r):Za9 Try.prog 19 [iv a0_,Zbz false a1_] (.agg [iv r.Stream,Zak false r.Arms]):=by
 unfold ZbU at h
 have hH  := hp0
 refine ZaC ZAA rfl rfl (Zat _ _ _ ?_) rfl
 refine sq (rg Z6.f (tq (sq (rg Z6.f (tq (sq (sq (rg Z6.f (tq (bk ?_))))))))))
 obtain ⟨ab,a6,h⟩:=bs h
 refine ZaN ((ZaA (λ(x:Int×(List Zax)) s=>∃ (a1:AV) (H2:List HO),s=⟨[(1,Zbz false a1_),(4,.loc 4 0),(5,.loc 5 0),(6,iv x.1)],[(4,[iv 0,Zak true []]),(5,[iv a0_,a1])],H2⟩/\HP H2 [.arr a1 4 false (List.map Zah x.2)]) (λx:Int×(List Zax)=>ZdB N a1_ x.1 x.2) (λ(p:(List Zax)) e s=>e=.exit 0/\(∃ (a3:AV) (a4:List HO),s=⟨[(4,.loc 4 0),(5,.loc 5 0)],[(4,[iv 0,Zak true []]),(5,[iv a0_,a3])],a4⟩/\HP a4 [.arr a3 4 false (List.map Zah p)])) ?_ N _ ab _ a6 ⟨(.p (.sl 4 true [])),[],kr,(HP.pick (HP.nilArr hH 4 false) [0] rfl)⟩).mono ?_)
 ·clear h a6
  rintro ⟨i3,l4⟩ o s h hR
  obtain ⟨a1,H2,rfl,hH⟩:=hR
  replace hH:HP _ [.arr a1 4 false (List.map Zah l4)]:=hH
  have hfa1:=Za8 (HP.get hH 0 rfl)
  replace h:ZdB N a1_ i3 l4=some o:=h
  unfold ZdB at h
  refine sq (sq (rgS ⟨[(1,Zbz false a1_),(4,.loc 4 0),(5,.loc 5 0),(6,iv i3),(12,bv (decide (i3<((List.length a1_:Nat):Int))))],[(4,[iv 0,Zak true []]),(5,[iv a0_,a1])],H2⟩ (Z6.u 2 (Zac (ys:=[Zbz false a1_]) (h:=Zap ZcE)) Z6.f) (by cases hfa1<;>kernel_rfl) (tq (it h (λaj h=>?_) (λaj h=>?_)))))
  ·refine sk (tq (kq (sq (bk ?_))))
   obtain ⟨af,aa,h⟩:=bs h
   obtain ⟨ae,a9,h⟩:=bs h
   obtain ⟨ad,a8,h⟩:=bs h
   obtain ⟨ac,a7,h⟩:=bs h
   obtain ⟨al,ai,h⟩:=bs h
   obtain ⟨a5,ag,ak,hH⟩:=HP.app (k:=0) (a:=a1) (sz:=4) (frz:=false) Zah hH rfl ai
   replace hH:HP _ [.arr a5 4 false (List.map Zah al)]:=hH
   have a0:=Za8 (HP.get hH 0 rfl)
   refine rqS ⟨[(1,Zbz false a1_),(4,.loc 4 0),(5,.loc 5 0),(6,iv i3)],[(4,[iv 0,Zak true []]),(5,[iv a0_,a5])],ag⟩ (Z6.u (hm:=(by cases hfa1<;>kernel_rfl)) 4 (Zac (ys:=[Zbz false a1_,iv i3]) (by cases hfa1<;>kernel_rfl) (Zaa ZcE aa)) (Z6.u (hm:=(by cases hfa1<;>kernel_rfl)) 1 (ZaK (Zao (sz:=4) (off:=0) (cs:=[.int .i64 af.x0]) (r:=iv af.x0) ZcE aa (by cases hfa1<;>kernel_rfl) (by cases hfa1<;>kernel_rfl) (by cases hfa1<;>kernel_rfl)) (by cases hfa1<;>kernel_rfl)) (Z6.u (hm:=(by cases hfa1<;>kernel_rfl)) 2 (Zac (ys:=[Zbz false a1_,iv i3]) (by cases hfa1<;>kernel_rfl) (Zaa ZcE a9)) (Z6.u (hm:=(by cases hfa1<;>kernel_rfl)) 1 (ZaK (Zao (sz:=4) (off:=1) (cs:=[.int .i64 ae.x1]) (r:=iv ae.x1) ZcE a9 (by cases hfa1<;>kernel_rfl) (by cases hfa1<;>kernel_rfl) (by cases hfa1<;>kernel_rfl)) (by cases hfa1<;>kernel_rfl)) (Z6.u (hm:=(by cases hfa1<;>kernel_rfl)) 2 (Zac (ys:=[Zbz false a1_,iv i3]) (by cases hfa1<;>kernel_rfl) (Zaa ZcE a8)) (Z6.u (hm:=(by cases hfa1<;>kernel_rfl)) 1 (ZaK (Zao (sz:=4) (off:=2) (cs:=[.int .i64 ad.x2]) (r:=iv ad.x2) ZcE a8 (by cases hfa1<;>kernel_rfl) (by cases hfa1<;>kernel_rfl) (by cases hfa1<;>kernel_rfl)) (by cases hfa1<;>kernel_rfl)) (Z6.u (hm:=(by cases hfa1<;>kernel_rfl)) 2 (Zac (ys:=[Zbz false a1_,iv i3]) (by cases hfa1<;>kernel_rfl) (Zaa ZcE a7)) (Z6.u (hm:=(by cases hfa1<;>kernel_rfl)) 1 (ZaK (Zao (sz:=4) (off:=3) (cs:=[.int .i64 ac.x3]) (r:=iv ac.x3) ZcE a7 (by cases hfa1<;>kernel_rfl) (by cases hfa1<;>kernel_rfl) (by cases hfa1<;>kernel_rfl)) (by cases hfa1<;>kernel_rfl)) (Z6.h (hm:=(by cases hfa1<;>kernel_rfl)) 2 (Zee (H:=H2) (a:=a1) (b:=Zak true [(Zax.mk af.x0 ae.x1 ad.x2 ac.x3)]) (by cases hfa1<;>kernel_rfl) (by cases hfa1<;>kernel_rfl) (by cases hfa1<;>kernel_rfl) (by cases hfa1<;>kernel_rfl) ak) (Z6.f (h:=(by cases hfa1<;>cases a0<;>kernel_rfl)))))))))))) (by cases hfa1<;>cases a0<;>kernel_rfl) (bn (tq (rgS ⟨[(1,Zbz false a1_),(4,.loc 4 0),(5,.loc 5 0),(6,iv (w64 (i3+1)))],[(4,[iv 0,Zak true []]),(5,[iv a0_,a5])],ag⟩ Z6.f (by cases a0<;>kernel_rfl) ?_)))
   cases h
   exact ⟨_,rfl,⟨a5,ag,(by show _=_;cases a0<;>kernel_rfl),(HP.pick hH [0] rfl)⟩⟩
  refine kq (xq (tx ?_))
  cases h
  exact ⟨_,rfl,rfl,⟨a1,H2,(by show _=_;cases hfa1<;>kernel_rfl),(HP.pick hH [0] rfl)⟩⟩
 rintro e s hq
 obtain ⟨rfl,hR⟩:=hq
 obtain ⟨a3,a4,rfl,hH⟩:=hR
 replace hH:HP _ [.arr a3 4 false (List.map Zah ab)]:=hH
 have a2:=Za8 (HP.get hH 0 rfl)
 refine bx (tq (sq (rgS ⟨[(4,.loc 4 0)],[(4,[iv a0_,a3])],a4⟩ (Z6.f (h:=(by cases a2<;>kernel_rfl))) (by cases a2<;>kernel_rfl) (tq (rt ?_)))))
 obtain rfl:=Zan h
 exact ZeS (H:=a4) (ys:=[.agg [iv a0_,a3]]) (xs:=[.agg [iv a0_,.p (.sl 4 false (List.map Zah ab))]]) (by cases a2<;>kernel_rfl) (by cases a2<;>kernel_rfl) (ZbI (Zle (ZfR rfl (ZfR (HP.pure (k:=0) (frz:=false) Zah hH rfl).1 Zlf))) ZcB) kr
theorem ZhC (N:Nat)(a0_:(List Z7))(r:(List Z7))(h:Zez N a0_=some r):Za9 Try.prog 22 [Z5 false a0_] (Z5 false r):=by
 unfold Zez at h
 have hH  := hp0
 refine ZaC ZAy rfl rfl (Zat _ _ _ ?_) rfl
 refine sq (rg Z6.f (tq (sq (rg Z6.f (tq (sq (sq (rg Z6.f (tq (bk ?_))))))))))
 obtain ⟨ad,a7,h⟩:=bs h
 refine ZaN ((ZaA (λ(x:Int×(List Z7)) s=>∃ (a1:AV) (H2:List HO),s=⟨[(0,Z5 false a0_),(3,a1),(4,iv x.1)],[],H2⟩/\HP H2 [.arr a1 2 false (List.map Zab x.2)]) (λx:Int×(List Z7)=>Zdf N a0_ x.1 x.2) (λ(p:(List Z7)) e s=>e=.exit 0/\(∃ (a3:AV) (a5:List HO),s=⟨[(3,a3)],[],a5⟩/\HP a5 [.arr a3 2 false (List.map Zab p)])) ?_ N _ ad _ a7 ⟨(.p (.sl 2 true [])),[],kr,(HP.pick (HP.nilArr hH 2 false) [0] rfl)⟩).mono ?_)
 ·clear h a7
  rintro ⟨i3,l4⟩ o s h hR
  obtain ⟨a1,H2,rfl,hH⟩:=hR
  replace hH:HP _ [.arr a1 2 false (List.map Zab l4)]:=hH
  have hfa1:=Za8 (HP.get hH 0 rfl)
  replace h:Zdf N a0_ i3 l4=some o:=h
  unfold Zdf at h
  refine sq (sq (rgX ⟨[(0,Z5 false a0_),(3,a1),(4,iv i3),(12,bv ((decide (i3<((List.length a0_:Nat):Int)))&&(decide (i3<40))))],[],H2⟩ ?_ ?_))
  ·refine (EP.u 2 (Zac (ys:=[Z5 false a0_]) (h:=Zap Zab)) ?_)
   rcases Bool.eq_false_or_eq_true (decide (i3<((List.length a0_:Nat):Int))) with ac|ab
   ·exact (EP.u 0 (Z9 (c:=(decide (i3<((List.length a0_:Nat):Int)))) (h:=ac)) (EP.f (by simp only [ac];cases hfa1<;>kernel_rfl)))
   exact (EP.u 0 (Z9 (c:=(decide (i3<((List.length a0_:Nat):Int)))) (h:=ab)) (EP.f (by simp only [ab];cases hfa1<;>kernel_rfl)))
  refine tq (it h (λak h=>?_) (λak h=>?_))
  ·refine sk (tq (kq (sq (bk ?_))))
   obtain ⟨af,aa,h⟩:=bs h
   obtain ⟨ae,a9,h⟩:=bs h
   obtain ⟨a4,a8,h⟩:=bs h
   obtain ⟨an,aj,h⟩:=bs h
   obtain ⟨am,ai,h⟩:=bs h
   obtain ⟨a6,ag,al,hH⟩:=HP.app (k:=0) (a:=a1) (sz:=2) (frz:=false) Zab hH rfl ai
   replace hH:HP _ [.arr a6 2 false (List.map Zab am)]:=hH
   have a0:=Za8 (HP.get hH 0 rfl)
   refine rqS ⟨[(0,Z5 false a0_),(3,a6),(4,iv i3)],[],ag⟩ (Z6.u 3 (Zac (ys:=[Z5 false a0_,iv i3]) (h:=Zaa Zab aa)) (Z6.u 1 (ZaK (Zao (sz:=2) (off:=0) (cs:=[.int .i64 af.Stream]) (r:=iv af.Stream) Zab aa)) (Z6.u 2 (Zac (ys:=[Z5 false a0_,iv i3]) (h:=Zaa Zab a9)) (Z6.u 1 (ZaK (Zao (sz:=2) (off:=1) (cs:=[.sl 4 false (List.map Zah ae.Arms)]) (r:=Zak false ae.Arms) Zab a9)) (Z6.u 2 (Zac (ys:=[Z5 false a0_,iv i3]) (h:=Zaa Zab a8)) (Z6.u 1 (ZaK (Zao (sz:=2) (off:=1) (cs:=[.sl 4 false (List.map Zah a4.Arms)]) (r:=Zak false a4.Arms) Zab a8)) (Z6.u 0 (Zac (ys:=[Zak false a4.Arms]) (h:=Zap Zah)) (Z6.u 1 (Zac (ys:=[Zak false ae.Arms,iv (if 30<((List.length a4.Arms:Nat):Int) then 30 else ((List.length a4.Arms:Nat):Int))]) (h:=Zj5 Zah aj)) (Z6.h 2 (Zee (H:=H2) (a:=a1) (b:=Z5 true [(Z7.mk af.Stream an)]) (by cases hfa1<;>kernel_rfl) (by cases hfa1<;>kernel_rfl) (by cases hfa1<;>kernel_rfl) (by cases hfa1<;>kernel_rfl) al) Z6.f))))))))) (by cases hfa1<;>cases a0<;>kernel_rfl) (bn (tq (rgS ⟨[(0,Z5 false a0_),(3,a6),(4,iv (w64 (i3+1)))],[],ag⟩ Z6.f (by cases a0<;>kernel_rfl) ?_)))
   cases h
   exact ⟨_,rfl,⟨a6,ag,(by show _=_;cases a0<;>kernel_rfl),(HP.pick hH [0] rfl)⟩⟩
  refine kq (xq (tx ?_))
  cases h
  exact ⟨_,rfl,rfl,⟨a1,H2,(by show _=_;cases hfa1<;>kernel_rfl),(HP.pick hH [0] rfl)⟩⟩
 rintro e s hq
 obtain ⟨rfl,hR⟩:=hq
 obtain ⟨a3,a5,rfl,hH⟩:=hR
 replace hH:HP _ [.arr a3 2 false (List.map Zab ad)]:=hH
 have a2:=Za8 (HP.get hH 0 rfl)
 refine bx (tq (sq (rgS ⟨[(2,a3)],[],a5⟩ Z6.f (by cases a2<;>kernel_rfl) (tq (rt ?_)))))
 obtain rfl:=Zan h
 exact ZeS (H:=a5) (ys:=[a3]) (xs:=[.p (.sl 2 false (List.map Zab ad))]) (by cases a2<;>kernel_rfl) (by cases a2<;>kernel_rfl) (ZbI (HP.pure (k:=0) (frz:=false) Zab hH rfl).2 ZcB) kr
theorem Zlh (N:Nat)(a0_:Z7)(a1_:Int)(r:Zax)(h:Zfz N a0_ a1_=some r):Za9 Try.prog 30 [.agg (ZbB a0_),iv a1_] (.agg [iv r.From,iv r.To,iv r.By,iv r.Next]):=by
 unfold Zfz at h
 have hH  := hp0
 refine ZaC ZAq rfl rfl (Zat _ _ _ ?_) rfl
 refine sq (rg Z6.f (tq (Zmw (EvI.scope (sq (rg Z6.f (tq (sq (Zmx (tq (sq (sq (rg (Z6.u 2 (Zac (ys:=[Zak false a0_.Arms]) (h:=Zap Zah)) Z6.f) (tq (bk ?_)))))))))))))))
 obtain ⟨a5,a1,h⟩:=bs h
 refine ZaN ((ZaA (λ(x:Int) s=>s=⟨[(1,iv a1_),(4,.loc 4 0),(5,.loc 5 0),(9,Zak false a0_.Arms),(10,iv ((List.length a0_.Arms:Nat):Int)),(11,iv x)],[(4,[iv 0,iv 0,iv 0,iv 0]),(5,[iv 0,iv 0,iv 0,iv 0])],[]⟩) (λx:Int=>Zdd N a0_ a1_ x) (λ(p:Int×Int×Int×Int) e s=>e=.exit 0/\(s=⟨[(4,.loc 4 0),(5,.loc 5 0)],[(4,[iv 0,iv 0,iv 0,iv 0]),(5,[iv p.1,iv p.2.1,iv p.2.2.1,iv p.2.2.2])],[]⟩)) ?_ N _ a5 _ a1 kr).mono ?_)
 ·clear h a1
  rintro i1 o s h hR
  obtain rfl:=hR
  replace h:Zdd N a0_ a1_ i1=some o:=h
  unfold Zdd at h
  refine sq (rg Z6.f (tq (sq (it h (λa4 h=>?_) (λa4 h=>?_)))))
  ·refine sk (tq (kq (sq (bk (sq ?_)))))
   obtain ⟨a0,a2,h⟩:=bs h
   refine rg (Z6.u 0 (Zac (ys:=[Zak false a0_.Arms,iv i1]) (h:=Zaa Zah a2)) (Z6.u 0 (Zao (sz:=4) (off:=0) (cs:=[.int .i64 a0.From,.int .i64 a0.To,.int .i64 a0.By,.int .i64 a0.Next]) (r:=.agg (ZaH a0)) Zah a2) Z6.f)) (tq (bk (sq (rg Z6.f (tq (it h (λa3 h=>?_) (λa3 h=>?_)))))))
   ·refine sq (rg Z6.f (tq (kq (xq (bo (bo (tx ?_)))))))
    cases h
    exact ⟨_,rfl,rfl,kr⟩
   refine sk (bn (bn (tq (kq (rg Z6.f ?_)))))
   cases h
   exact ⟨_,rfl,kr⟩
  refine kq (xq (tx ?_))
  cases h
  exact ⟨_,rfl,rfl,kr⟩
 rintro e s hq
 obtain ⟨rfl,hR⟩:=hq
 obtain rfl:=hR
 refine bx (tq (sq (rg Z6.f (tq (rt (nr ?_))))))
 cases h
 exact Zar kr
theorem Zhu (N:Nat)(a0_:Int)(a1_:Int)(r:Int)(h:ZeZ N a0_ a1_=some r):Za9 Try.prog 31 [iv a0_,iv a1_] (iv r):=by
 unfold ZeZ at h
 have hH  := hp0
 refine ZaC ZAp rfl rfl (Zat _ _ _ ?_) rfl
 refine sq (rg Z6.f (tq (sq ?_)))
 obtain ⟨m1,hm1,h⟩:=bs h
 obtain ⟨m2,hm2,h⟩:=bs h
 refine rg (Z6.u 2 (Zac (ys:=[iv a0_,iv a1_]) (h:=Za6 hm1)) (Z6.u 3 (Zac (ys:=[iv (w64 (m1+a1_)),iv a1_]) (h:=Za6 hm2)) Z6.f)) (tq (rt ?_))
 cases h
 exact Zar kr
theorem Zhp (N:Nat)(a0_:Z7)(a1_:Int)(r:Zax)(h:Zet N a0_ a1_=some r):Za9 Try.prog 33 [.agg (ZbB a0_),iv a1_] (.agg [iv r.From,iv r.To,iv r.By,iv r.Next]):=by
 unfold Zet at h
 have hH  := hp0
 refine ZaC ZAn rfl rfl (Zat _ _ _ ?_) rfl
 refine sq (rg Z6.f (tq (sq (rg Z6.f (tq (sq (bk ?_)))))))
 obtain ⟨a4,a1,h⟩:=bs h
 refine ZaN ((ZaA (λ(x:Int) s=>s=⟨[(1,iv a1_),(2,.loc 2 0),(4,.loc 4 0),(5,iv x)],[(2,(ZbB a0_)),(4,[iv 0,iv 0,iv 0,iv 0])],[]⟩) (λx:Int=>Zdb N a0_ a1_ x) (λ(p:Int) e s=>e=.exit 0/\(s=⟨[(2,.loc 2 0),(4,.loc 4 0),(5,iv p)],[(2,(ZbB a0_)),(4,[iv 0,iv 0,iv 0,iv 0])],[]⟩)) ?_ N _ a4 _ a1 kr).mono ?_)
 ·clear h a1
  rintro i1 o s h hR
  obtain rfl:=hR
  replace h:Zdb N a0_ a1_ i1=some o:=h
  unfold Zdb at h
  refine sq (sq ?_)
  obtain ⟨a6,a3,h⟩:=bs h
  refine rg (Z6.u 3 (Zac (ys:=[Zak false a0_.Arms,iv i1]) (h:=Zaa Zah a3)) (Z6.u 1 (Zao (sz:=4) (off:=1) (cs:=[.int .i64 a6.To]) (r:=iv a6.To) Zah a3) Z6.f)) (tq (it h (λa5 h=>?_) (λa5 h=>?_)))
  ·refine sk (tq (kq (bk (rg Z6.f (bn ?_)))))
   cases h
   exact ⟨_,rfl,kr⟩
  refine kq (xq (tx ?_))
  cases h
  exact ⟨_,rfl,rfl,kr⟩
 rintro e s hq
 obtain ⟨rfl,hR⟩:=hq
 obtain rfl:=hR
 refine bx (tq (sq ?_))
 obtain ⟨a0,a2,h⟩:=bs h
 refine rg (Z6.u 3 (Zac (ys:=[Zak false a0_.Arms,iv a4]) (h:=Zaa Zah a2)) (Z6.u 0 (Zao (sz:=4) (off:=0) (cs:=[.int .i64 a0.From,.int .i64 a0.To,.int .i64 a0.By,.int .i64 a0.Next]) (r:=.agg (ZaH a0)) Zah a2) Z6.f)) (tq (rt ?_))
 cases h
 exact Zar kr
theorem Zgb (N:Nat)(a0_:Z8)(a1_:Int)(a2_:Int)(r:Bool)(h:ZdP N a0_ a1_ a2_=some r):Za9 Try.prog 35 [.agg (Z4 a0_),iv a1_,iv a2_] (bv r):=by
 unfold ZdP at h
 have hH  := hp0
 refine ZaC ZAl rfl rfl (Zat _ _ _ ?_) rfl
 refine sq (rg Z6.f (tq (sq ?_)))
 obtain ⟨j4,hj,h⟩:=bs h
 refine rgR (λs=>s=⟨[(6,bv j4)],[],[]⟩) ?_ ?_
 ·clear h
  rcases ZaD hj with ⟨hc1,hj⟩|⟨hc3,hj⟩
  ·refine (EP.u 1 (Z9 (c:=(decide (a2_≥0))) (h:=hc1)) ?_)
   obtain ⟨e2,he2,hj⟩:=bs hj
   obtain rfl:=Zan hj
   exact (EP.u 5 (Zac (ys:=[Zaf false a0_.Periods,iv a1_]) (h:=Zaa eI64 he2)) (EP.u 0 (Zao (sz:=1) (off:=0) (cs:=[.int .i64 e2]) (r:=iv e2) eI64 he2) (EP.f kr)))
  obtain rfl:=Zan hj
  exact (EP.u 1 (Z9 (c:=(decide (a2_≥0))) (h:=hc3)) (EP.f kr))
 clear hj
 rintro s hR
 obtain rfl:=hR
 refine tq (rt ?_)
 cases h
 exact Zar kr
theorem ZgD (N:Nat)(a0_:Z8)(H:List HO)(r:Z8×(List (Zam×Bool)))(h:Zdv N a0_=some r):∃ (id0_ id1_ m1_:Nat) (H':List HO),ZcF Try.prog 39 [.agg (Z4 a0_)] H (.fn 51 [] [.ptr id0_ 0,.ptr id1_ 0]) H'/\Fp H H' [] [.cel id0_ [Zaf false r.1.Periods,Zai false r.1.Uses],.cel id1_ [.map m1_],mpT m1_ 3 (encE Zae bv r.2)]:=by
 suffices hs:∃ r' H',ZcF Try.prog 39 [.agg (Z4 a0_)] H r' H'/\∃ (id0_ id1_ m1_:Nat),r'=.fn 51 [] [.ptr id0_ 0,.ptr id1_ 0]/\Fp H H' [] [.cel id0_ [Zaf false r.1.Periods,Zai false r.1.Uses],.cel id1_ [.map m1_],mpT m1_ 3 (encE Zae bv r.2)] by
  obtain ⟨_,H',h1,id0_,id1_,m1_,rfl,h2⟩:=hs
  exact ⟨id0_,id1_,m1_,H',h1,h2⟩
 unfold Zdv at h
 have hH:Fp H H [] []:=Fp.refl trivial
 refine Zhi ZAh (λr' H'=>∃ (id0_ id1_ m1_:Nat),r'=.fn 51 [] [.ptr id0_ 0,.ptr id1_ 0]/\Fp H H' [] [.cel id0_ [Zaf false r.1.Periods,Zai false r.1.Uses],.cel id1_ [.map m1_],mpT m1_ 3 (encE Zae bv r.2)]) (λr' H' ⟨_,_,_,e,_⟩=>by rw [e];rfl) rfl rfl (sq ?_)
 obtain ⟨id1,H2,hid1,hH2,hH⟩:=Fp.newCell hH (Z4 a0_)
 replace hH:Fp _ _ _ [.cel id1 (Z4 a0_)]:=hH
 refine rg (Z6.h 0 (Zgh (H:=H) (v:=.agg (Z4 a0_)) (hid:=hid1) (hH:=hH2)) Z6.f) (tq (sq ?_))
 obtain ⟨id3,H4,hid3,hH4,hH⟩:=Fp.newMp hH 3
 replace hH:Fp _ _ _ [mpT id3 3 (encE Zae bv []),.cel id1 (Z4 a0_)]:=hH
 obtain ⟨id5,H6,hid5,hH6,hH⟩:=Fp.newCell hH [.nl .nilMap]
 replace hH:Fp _ _ _ [.cel id5 [.nl .nilMap],mpT id3 3 (encE Zae bv []),.cel id1 (Z4 a0_)]:=hH
 obtain ⟨H7,hH7,hH⟩:=Fp.setCell (k:=0) (off:=0) (cs:=[.nl .nilMap]) (vs:=[.map id3]) (cs':=[.map id3]) hH rfl kr
 replace hH:Fp _ _ _ [.cel id5 [.map id3],mpT id3 3 (encE Zae bv []),.cel id1 (Z4 a0_)]:=hH
 refine rg (Z6.h 0 (st_mkMap' (H:=H2) 3 kr hid3 hH4) (Z6.h 0 (ZlX (H:=H4) kr hid5 hH6) (Z6.o 0 (ZcI (H:=H6) (v:=.map id3) (hw:=hH7)) Z6.f))) (tq (sq (rg Z6.f (tq (rt ?_)))))
 cases h
 exact ⟨[.fn 51 [] [.ptr id1 0,.ptr id5 0]],kr,id1,id5,id3,rfl,Fp.pk hH [2,0,1] rfl⟩
theorem ZhY {σ:Type}(N:Nat)(y_:σ->Int->Int->Int->Int->Option (σ×Bool))(a1_:Int)(a2_:Zad)(a3_:Zax)(s_:σ)(y_f:Nat)(y_p y_c:List AV)(hy_n:(noLocL y_p&&noLocL y_c)=true)(T_:σ->List ZaR->Prop)(hy_:∀ (x0:Int) (x1:Int) (x2:Int) (x3:Int) (s:σ) (r:σ×Bool) (H:List HO) (its:List ZaR),T_ s its->HP H its->y_ s x0 x1 x2 x3=some r->∃ H' its',Zjz Try.prog (.fn y_f y_p y_c) [iv x0,iv x1,iv x2,iv x3] H (bv r.2) H'/\T_ r.1 its'/\Fp H H' its its')(H:List HO)(its:List ZaR)(hT:T_ s_ its)(hH:HP H (its))(r:σ×Bool)(h:Zdu N y_ a1_ a2_ a3_ s_=some r):∃ H' its',ZcF Try.prog 41 [.fn y_f y_p y_c,iv a1_,.agg (Zaq a2_),.agg (ZaH a3_)] H (bv r.2) H'/\T_ r.1 its'/\Fp H H' (its) (its'):=by
 suffices hs:∃ H',ZcF Try.prog 41 [.fn y_f y_p y_c,iv a1_,.agg (Zaq a2_),.agg (ZaH a3_)] H (bv r.2) H'/\∃ its',T_ r.1 its'/\Fp H H' (its) (its') by
  obtain ⟨H',h1,its',h2,h3⟩:=hs
  exact ⟨H',its',h1,h2,h3⟩
 unfold Zdu at h
 replace hH:Fp H H (its) (its):=Fp.refl hH
 refine ZfM ZAg (λH'=>∃ its',T_ r.1 its'/\Fp H H' (its) (its')) rfl (by simpa [noLocL,ZaL.noLocL,ZaL] using hy_n) rfl (sq (rg Z6.f (tq (sq (sq ?_)))))
 obtain ⟨j4,hj,h⟩:=bs h
 refine rgR (λs=>s=⟨[(0,.fn y_f y_p y_c),(1,iv a1_),(6,.loc 6 0),(7,.loc 7 0),(21,bv j4)],[(6,(Zaq a2_)),(7,(ZaH a3_))],H⟩) ?_ ?_
 ·clear h
  rcases ZaD hj with ⟨hc1,hj⟩|⟨hc3,hj⟩
  ·refine (EP.u 3 (Z9 (c:=(a3_.By != a1_)) (h:=hc1)) ?_)
   obtain ⟨e2,he2,hj⟩:=bs hj
   obtain rfl:=Zan hj
   exact (EP.u 3 (Zac (ys:=[.loc 6 0,iv a3_.By]) (h:=ZbQ (l:=a2_.l) he2 rfl)) (EP.o 0 (Zft (t:=6) (off:=0) (cs:=(Zaq a2_)) (l:=a2_.l) (λx=>iv x) [] [] he2 kr kr rfl rfl) (EP.f kr)))
  obtain rfl:=Zan hj
  exact (EP.u 3 (Z9 (c:=(a3_.By != a1_)) (h:=hc3)) (EP.f kr))
 clear hj
 rintro s hR
 obtain rfl:=hR
 refine tq (it h (λhc5 h=>?_) (λhc5 h=>?_))
 ·refine sq (rg Z6.f (tq (rt (tr ?_))))
  cases h
  exact ⟨[bv false],kr,kr,its,hT,Fp.at hH⟩
 refine sk (tq (kq (sq (sq (rg Z6.f (tq (bk ?_)))))))
 obtain ⟨a8,a3,h⟩:=bs h
 refine ZaN ((ZaA (λ(x:Int×σ) s=>∃ (its6:List ZaR) (H7:List HO),s=⟨[(0,.fn y_f y_p y_c),(1,iv a1_),(6,.loc 6 0),(7,.loc 7 0),(9,iv x.1)],[(6,(Zaq a2_)),(7,(ZaH a3_))],H7⟩/\T_ x.2 its6/\Fp H H7 (its) (its6)) (λx:Int×σ=>ZbP N y_ a1_ a2_ a3_ x.1 x.2) (λ(p:(σ)⊕(σ×Bool)) e s=>match p with|(.inl p)=>e=.exit 0/\(∃ (a0:List ZaR) (a7:List HO),s=⟨[],[],a7⟩/\T_ p a0/\Fp H a7 (its) (a0))|(.inr p)=>e=.ret/\∃ xs,rawL s i41.res=some xs/\ZbC xs=bv p.2/\∃ its',T_ p.1 its'/\Fp H s.H (its) (its')) ?_ N _ a8 _ a3 ⟨its,H,kr,hT,Fp.at hH⟩).mono ?_)
 ·clear h a3
  rintro ⟨i8,g9⟩ o s h hR
  obtain ⟨its6,H7,rfl,hT,hH⟩:=hR
  replace hH:Fp H H7 (its) (its6):=hH
  replace h:ZbP N y_ a1_ a2_ a3_ i8 g9=some o:=h
  unfold ZbP at h
  refine sq (sq (rg Z6.f (tq (it h (λaf h=>?_) (λaf h=>?_)))))
  ·refine sk (tq (kq (sq (bk (sq ?_)))))
   obtain ⟨aj,a9,h⟩:=bs h
   refine rg (Z6.u 2 (Zac (ys:=[.loc 6 0,iv a3_.By]) (h:=ZbQ (l:=a2_.l) a9 rfl)) (Z6.o 0 (Zft (t:=6) (off:=0) (cs:=(Zaq a2_)) (l:=a2_.l) (λx=>iv x) [] [] a9 kr kr rfl rfl) Z6.f)) (tq ?_)
   obtain ⟨a2,a4,h⟩:=bs h
   refine ZdQ [0,1,6,7,9,10] (λs=>s=⟨[(0,.fn y_f y_p y_c),(1,iv a1_),(6,.loc 6 0),(7,.loc 7 0),(9,iv i8),(10,iv a2)],[(6,(Zaq a2_)),(7,(ZaH a3_))],H7⟩) ?_ ?_
   ·clear h
    have h:=a4
    refine sq (rg Z6.f (tq (it h (λad h=>?_) (λad h=>?_))))
    ·refine rg Z6.f ?_
     cases h
     exact ⟨rfl,kr⟩
    refine sk ?_
    cases h
    exact ⟨rfl,kr⟩
   clear a4
   rintro s hR
   obtain rfl:=hR
   refine sq ?_
   obtain ⟨ae,ab,h⟩:=bs h
   obtain ⟨aa,a1,a5,hT,a6⟩:=hy_ a1_ i8 a3_.By a2 g9 ae H7 its6 hT (Fp.tail (own:=[]) (its:=its6) hH) ab
   replace hH:Fp H aa (its) (a1):=Fp.callT (own:=[]) (its:=its6) hH a6
   refine rg (Z6.v 6 (Zke (H:=H7) (ys:=[iv a1_,iv i8,iv a3_.By,iv a2]) (hc:=a5)) Z6.f) (tq (it h (λac h=>?_) (λac h=>?_)))
   ·refine sq (rg Z6.f (tq (rt (br (tr ?_)))))
    cases h
    exact ⟨_,rfl,rfl,⟨[bv false],kr,kr,a1,hT,Fp.at hH⟩⟩
   refine sk (bn (tq (kq (rg Z6.f ?_))))
   cases h
   exact ⟨_,rfl,⟨a1,aa,kr,hT,Fp.at hH⟩⟩
  refine kq (xq (tx ?_))
  cases h
  exact ⟨_,rfl,rfl,⟨its6,H7,kr,hT,Fp.at hH⟩⟩
 rintro e s hq
 rcases a8 with ai|ag
 ·dsimp only at h hq
  obtain ⟨rfl,hR⟩:=hq
  obtain ⟨a0,a7,rfl,hT,hH⟩:=hR
  replace hH:Fp H a7 (its) (a0):=hH
  refine bx (tq (sq (rg Z6.f (tq (rt ?_)))))
  cases h
  exact ⟨[bv true],kr,kr,a0,hT,Fp.at hH⟩
 dsimp only at h hq
 obtain ⟨rfl,hq⟩:=hq
 refine br (tr ?_)
 cases h
 exact hq
theorem Zk8 (N:Nat)(a0_:(List Int))(r:Int)(h:Zfw N a0_=some r):Za9 Try.prog 42 [Zaf false a0_] (iv r):=by
 unfold Zfw at h
 have hH  := hp0
 refine ZaC ZAf rfl rfl (Zat _ _ _ ?_) rfl
 refine sq (rg Z6.f (tq (sq (sq (rg Z6.f (tq (bk ?_)))))))
 obtain ⟨a4,a0,h⟩:=bs h
 refine ZaN ((ZaA (λ(x:Int) s=>s=⟨[(0,Zaf false a0_),(3,iv x)],[],[]⟩) (λx:Int=>Zcc N a0_ x) (λ(p:(Unit)⊕(Int)) e s=>match p with|(.inl p)=>e=.exit 0/\(s=⟨[],[],[]⟩)|(.inr p)=>e=.ret/\∃ xs,resL s i42.res=some xs/\ZbC xs=iv p) ?_ N _ a4 _ a0 kr).mono ?_)
 ·clear h a0
  rintro i1 o s h hR
  obtain rfl:=hR
  replace h:Zcc N a0_ i1=some o:=h
  unfold Zcc at h
  refine sq (sq (rg Z6.f (tq (it h (λai h=>?_) (λai h=>?_)))))
  ·refine sk (tq (kq (sq (bk (sq (rg Z6.f (tq (sq (sq (rg Z6.f (tq (bk ?_))))))))))))
   obtain ⟨af,a1,h⟩:=bs h
   refine ZaN ((ZaA (λ(x:Bool×Int) s=>s=⟨[(0,Zaf false a0_),(3,iv i1),(4,bv x.1),(5,iv x.2)],[],[]⟩) (λx:Bool×Int=>ZcL N a0_ i1 x.1 x.2) (λ(p:Bool) e s=>e=.exit 2/\(s=⟨[(0,Zaf false a0_),(3,iv i1),(4,bv p)],[],[]⟩)) ?_ N _ af _ a1 kr).mono ?_)
   ·clear h a1
    rintro ⟨ae,a6⟩ o s h hR
    obtain rfl:=hR
    replace h:ZcL N a0_ i1 ae a6=some o:=h
    unfold ZcL at h
    refine sq (sq (rg (Z6.u 2 (Zac (ys:=[Zaf false a0_]) (h:=Zap eI64)) Z6.f) (tq (it h (λad h=>?_) (λad h=>?_)))))
    ·refine sk (tq (kq (sq (bk ?_))))
     obtain ⟨ag,hj,h⟩:=bs h
     refine rgR (λs=>s=⟨[(0,Zaf false a0_),(3,iv i1),(4,bv ag),(5,iv a6)],[],[]⟩) ?_ ?_
     ·clear h
      rcases ZaD hj with ⟨ac,hj⟩|⟨a9,hj⟩
      ·refine (EP.u 0 (Z9 (c:=ae) (h:=ac)) ?_)
       obtain ⟨a3,a2,hj⟩:=bs hj
       refine (EP.u 4 (Zac (ys:=[Zaf false a0_,iv a6]) (h:=Zaa eI64 a2)) (EP.u 0 (Zao (sz:=1) (off:=0) (cs:=[.int .i64 a3]) (r:=iv a3) eI64 a2) ?_))
       obtain ⟨a5,a7,hj⟩:=bs hj
       refine (EP.u 0 (Zac (ys:=[iv i1,iv a3]) (h:=Za6 a7)) ?_)
       rcases ZaD hj with ⟨ab,hj⟩|⟨aa,hj⟩
       ·obtain rfl:=Zan hj
        exact (EP.u 2 (Z9 (c:=(a5==0)) (h:=ab)) (EP.f kr))
       obtain rfl:=Zan hj
       exact (EP.u 2 (Z9 (c:=(a5==0)) (h:=aa)) (EP.f kr))
      obtain rfl:=Zan hj
      exact (EP.u 0 (Z9 (c:=ae) (h:=a9)) (EP.f kr))
     clear hj
     rintro s hR
     obtain rfl:=hR
     refine bn (tq (rg Z6.f ?_))
     cases h
     exact ⟨_,rfl,kr⟩
    refine kq (xq (tx ?_))
    cases h
    exact ⟨_,rfl,rfl,kr⟩
   rintro e s hq
   obtain ⟨rfl,hR⟩:=hq
   obtain rfl:=hR
   refine bx (tq (sq (rg Z6.f (tq (it h (λa8 h=>?_) (λa8 h=>?_))))))
   ·refine sq (rg Z6.f (tq (rt (br (tr ?_)))))
    cases h
    exact ⟨_,rfl,rfl,Zar kr⟩
   refine sk (bn (tq (kq (rg Z6.f ?_))))
   cases h
   exact ⟨_,rfl,kr⟩
  refine kq (xq (tx ?_))
  cases h
  exact ⟨_,rfl,rfl,kr⟩
 rintro e s hq
 rcases a4 with ak|aj
 ·dsimp only at h hq
  obtain ⟨rfl,hR⟩:=hq
  obtain rfl:=hR
  refine bx (tq (sq (rg Z6.f (tq (rt ?_)))))
  cases h
  exact Zar kr
 dsimp only at h hq
 obtain ⟨rfl,hq⟩:=hq
 refine br (tr ?_)
 cases h
 exact hq
theorem Zkm (N:Nat)(a0_:Z8)(a1_:(List Z7))(a2_:Int)(r:Bool)(h:ZeW N a0_ a1_ a2_=some r):Za9 Try.prog 43 [.agg (Z4 a0_),Z5 false a1_,iv a2_] (bv r):=by
 unfold ZeW at h
 have hH  := hp0
 refine ZaC ZAe rfl rfl (Zat _ _ _ ?_) rfl
 refine sq (rg Z6.f (tq (sq ?_)))
 obtain ⟨e1,he1,h⟩:=bs h
 refine rg (Z6.u 2 (Zac (ys:=[Z5 false a1_,iv a2_]) (h:=Zaa Zab he1)) (Z6.u 1 (Zao (sz:=2) (off:=1) (cs:=[.sl 4 false (List.map Zah e1.Arms)]) (r:=Zak false e1.Arms) Zab he1) Z6.f)) (tq (sq (rg Z6.f (tq (sq (sq (rg Z6.f (tq (bk ?_)))))))))
 obtain ⟨aj,a4,h⟩:=bs h
 refine ZaN ((ZaA (λ(x:Int×Int) s=>s=⟨[(1,Z5 false a1_),(2,iv a2_),(3,.loc 3 0),(7,Zak false e1.Arms),(8,iv x.1),(9,iv x.2)],[(3,(Z4 a0_))],[]⟩) (λx:Int×Int=>ZcT N a0_ a1_ a2_ e1 x.1 x.2) (λ(p:(Int)⊕(Bool)) e s=>match p with|(.inl p)=>e=.exit 0/\(s=⟨[(1,Z5 false a1_),(2,iv a2_),(3,.loc 3 0),(7,Zak false e1.Arms),(8,iv p)],[(3,(Z4 a0_))],[]⟩)|(.inr p)=>e=.ret/\∃ xs,resL s i43.res=some xs/\ZbC xs=bv p) ?_ N _ aj _ a4 kr).mono ?_)
 ·clear h a4
  rintro ⟨i2,i3⟩ o s h hR
  obtain rfl:=hR
  replace h:ZcT N a0_ a1_ a2_ e1 i2 i3=some o:=h
  unfold ZcT at h
  refine sq (sq (rg (Z6.u 2 (Zac (ys:=[Zak false e1.Arms]) (h:=Zap Zah)) Z6.f) (tq (it h (λaC h=>?_) (λaC h=>?_)))))
  ·refine sk (tq (kq (sq (bk (sq ?_)))))
   obtain ⟨a0,a9,h⟩:=bs h
   refine rg (Z6.u 2 (Zac (ys:=[Zak false e1.Arms,iv i3]) (h:=Zaa Zah a9)) (Z6.u 0 (Zao (sz:=4) (off:=0) (cs:=[.int .i64 a0.From,.int .i64 a0.To,.int .i64 a0.By,.int .i64 a0.Next]) (r:=.agg (ZaH a0)) Zah a9) Z6.f)) (tq (sq (sq ?_)))
   obtain ⟨aG,hj,h⟩:=bs h
   refine rqR (λs=>s=⟨[(1,Z5 false a1_),(2,iv a2_),(3,.loc 3 0),(7,Zak false e1.Arms),(9,iv i3),(10,.loc 10 0),(63,bv aG)],[(3,(Z4 a0_)),(10,(ZaH a0))],[]⟩) ?_ ?_
   ·clear h
    rcases ZaD hj with ⟨aB,hj⟩|⟨aA,hj⟩
    ·obtain rfl:=Zan hj
     exact (EP.u 3 (Z9 (c:=(a0.From != i2)) (h:=aB)) (EP.f kr))
    refine (EP.u 3 (Z9 (c:=(a0.From != i2)) (h:=aA)) ?_)
    rcases ZaD hj with ⟨az,hj⟩|⟨ay,hj⟩
    ·obtain rfl:=Zan hj
     exact (EP.u 5 (Z9 (c:=(decide (a0.To<=a0.From))) (h:=az)) (EP.f kr))
    refine (EP.u 5 (Z9 (c:=(decide (a0.To<=a0.From))) (h:=ay)) ?_)
    obtain ⟨ai,a8,hj⟩:=bs hj
    refine (EP.u 8 (Zac (ys:=[Z5 false a1_,iv a2_]) (h:=Zaa Zab a8)) (EP.u 1 (ZaK (Zao (sz:=2) (off:=0) (cs:=[.int .i64 ai.Stream]) (r:=iv ai.Stream) Zab a8)) ?_))
    obtain ⟨a3,a7,hj⟩:=bs hj
    refine (EP.u 0 (Zac (ys:=[Zaf false a0_.Periods,iv ai.Stream]) (h:=Zaa eI64 a7)) (EP.u 0 (ZaK (Zao (sz:=1) (off:=0) (cs:=[.int .i64 a3]) (r:=iv a3) eI64 a7)) ?_))
    rcases ZaD hj with ⟨ax,hj⟩|⟨aw,hj⟩
    ·obtain rfl:=Zan hj
     exact (EP.u 0 (Z9 (c:=(decide (a0.To>a3))) (h:=ax)) (EP.f kr))
    refine (EP.u 0 (Z9 (c:=(decide (a0.To>a3))) (h:=aw)) ?_)
    rcases ZaD hj with ⟨av,hj⟩|⟨au,hj⟩
    ·obtain rfl:=Zan hj
     exact (EP.u 4 (Z9 (c:=(decide (a0.By<(-2)))) (h:=av)) (EP.f kr))
    obtain rfl:=Zan hj
    exact (EP.u 4 (Z9 (c:=(decide (a0.By<(-2)))) (h:=au)) (EP.u 6 (Zac (ys:=[Zaf false a0_.Periods]) (h:=Zap eI64)) (EP.f kr)))
   clear hj
   rintro s hR
   obtain rfl:=hR
   refine tq (it h (λar h=>?_) (λar h=>?_))
   ·refine sq (rg Z6.f (tq (rt (tr (br (tr ?_))))))
    cases h
    exact ⟨_,rfl,rfl,Zar kr⟩
   refine sk (tq (kq (sq (sq (rg Z6.f (tq (bk (sq (rg Z6.f (tq (it h (λaq h=>?_) (λaq h=>?_))))))))))))
   ·refine sq (rgX ⟨[(1,Z5 false a1_),(2,iv a2_),(3,.loc 3 0),(7,Zak false e1.Arms),(9,iv i3),(10,.loc 10 0),(89,bv ((a0.To != (w64 (a0.From+1)))||((decide (a0.Next<=a2_))||(decide (a0.Next≥((List.length a1_:Nat):Int))))))],[(3,(Z4 a0_)),(10,(ZaH a0))],[]⟩ ?_ ?_)
    ·rcases Bool.eq_false_or_eq_true (a0.To != (w64 (a0.From+1))) with af|a2
     ·exact (EP.u 5 (Z9 (c:=(a0.To != (w64 (a0.From+1)))) (h:=af)) (EP.f (by simp only [af];kernel_rfl)))
     refine (EP.u 5 (Z9 (c:=(a0.To != (w64 (a0.From+1)))) (h:=a2)) ?_)
     rcases Bool.eq_false_or_eq_true (decide (a0.Next<=a2_)) with ae|ad
     ·exact (EP.u 4 (Z9 (c:=(decide (a0.Next<=a2_))) (h:=ae)) (EP.f (by simp only [a2,ae];kernel_rfl)))
     exact (EP.u 4 (Z9 (c:=(decide (a0.Next<=a2_))) (h:=ad)) (EP.u 5 (Zac (ys:=[Z5 false a1_]) (h:=Zap Zab)) (EP.f (by simp only [a2,ad];kernel_rfl))))
    refine tq (it h (λap h=>?_) (λap h=>?_))
    ·refine sq (rg Z6.f (tq (rt (br (tr (br (tr ?_)))))))
     cases h
     exact ⟨_,rfl,rfl,Zar kr⟩
    refine sk (bn (tq (kq (rg Z6.f (bn (tq (kq (rg Z6.f ?_))))))))
    cases h
    exact ⟨_,rfl,kr⟩
   refine sq (rg Z6.f (tq (it h (λao h=>?_) (λao h=>?_))))
   ·refine sq (rgX ⟨[(1,Z5 false a1_),(2,iv a2_),(3,.loc 3 0),(7,Zak false e1.Arms),(9,iv i3),(10,.loc 10 0),(103,bv ((a2_ != 0)||((a0.From==0)||(a0.Next != 0))))],[(3,(Z4 a0_)),(10,(ZaH a0))],[]⟩ ?_ ?_)
    ·rcases Bool.eq_false_or_eq_true (a2_ != 0) with ac|a1
     ·exact (EP.u 1 (Z9 (c:=(a2_ != 0)) (h:=ac)) (EP.f (by simp only [ac];kernel_rfl)))
     refine (EP.u 1 (Z9 (c:=(a2_ != 0)) (h:=a1)) ?_)
     rcases Bool.eq_false_or_eq_true (a0.From==0) with ab|aa
     ·exact (EP.u 3 (Z9 (c:=(a0.From==0)) (h:=ab)) (EP.f (by simp only [a1,ab];kernel_rfl)))
     exact (EP.u 3 (Z9 (c:=(a0.From==0)) (h:=aa)) (EP.f (by simp only [a1,aa];kernel_rfl)))
    refine tq (it h (λan h=>?_) (λan h=>?_))
    ·refine sq (rg Z6.f (tq (rt (br (tr (br (tr ?_)))))))
     cases h
     exact ⟨_,rfl,rfl,Zar kr⟩
    refine sk (bn (tq (kq (rg Z6.f (bn (tq (kq (rg Z6.f ?_))))))))
    cases h
    exact ⟨_,rfl,kr⟩
   refine sq (rg Z6.f (tq (it h (λam h=>?_) (λam h=>?_))))
   ·refine sq (rg Z6.f (tq (rt (br (tr (br (tr ?_)))))))
    cases h
    exact ⟨_,rfl,rfl,Zar kr⟩
   refine sk (bn (tq (kq (rg Z6.f (bn (tq (kq (rg Z6.f ?_))))))))
   cases h
   exact ⟨_,rfl,kr⟩
  refine kq (xq (tx ?_))
  cases h
  exact ⟨_,rfl,rfl,kr⟩
 rintro e s hq
 rcases aj with aJ|aI
 ·dsimp only at h hq
  obtain ⟨rfl,hR⟩:=hq
  obtain rfl:=hR
  refine bx (tq (sq ?_))
  obtain ⟨aE,hj,h⟩:=bs h
  refine rqR (λs=>s=⟨[(6,bv aE)],[],[]⟩) ?_ ?_
  ·clear h
   refine (EP.u 1 (Zac (ys:=[Zak false e1.Arms]) (h:=Zap Zah)) ?_)
   rcases ZaD hj with ⟨al,hj⟩|⟨ak,hj⟩
   ·refine (EP.u 0 (Z9 (c:=(decide (((List.length e1.Arms:Nat):Int)>0))) (h:=al)) ?_)
    obtain ⟨ag,a6,hj⟩:=bs hj
    refine (EP.u 6 (Zac (ys:=[Z5 false a1_,iv a2_]) (h:=Zaa Zab a6)) (EP.u 1 (ZaK (Zao (sz:=2) (off:=0) (cs:=[.int .i64 ag.Stream]) (r:=iv ag.Stream) Zab a6)) ?_))
    obtain ⟨aD,a5,hj⟩:=bs hj
    obtain rfl:=Zan hj
    exact (EP.u 0 (Zac (ys:=[Zaf false a0_.Periods,iv ag.Stream]) (h:=Zaa eI64 a5)) (EP.u 0 (ZaK (Zao (sz:=1) (off:=0) (cs:=[.int .i64 aD]) (r:=iv aD) eI64 a5)) (EP.f kr)))
   obtain rfl:=Zan hj
   exact (EP.u 0 (Z9 (c:=(decide (((List.length e1.Arms:Nat):Int)>0))) (h:=ak)) (EP.f kr))
  clear hj
  rintro s hR
  obtain rfl:=hR
  refine tq (rt ?_)
  cases h
  exact Zar kr
 dsimp only at h hq
 obtain ⟨rfl,hq⟩:=hq
 refine br (tr ?_)
 cases h
 exact hq
theorem Zir (N:Nat)(a0_:Z8)(a1_:Int)(a2_:Int)(r:Bool)(h:ZdY N a0_ a1_ a2_=some r):Za9 Try.prog 45 [.agg (Z4 a0_),iv a1_,iv a2_] (bv r):=by
 unfold ZdY at h
 have hH  := hp0
 refine ZaC ZAc rfl rfl (Zat _ _ _ ?_) rfl
 refine sq (rg Z6.f (tq (sq ?_)))
 obtain ⟨j8,hj,h⟩:=bs h
 refine rgR (λs=>s=⟨[(6,bv j8)],[],[]⟩) ?_ ?_
 ·clear h
  rcases ZaD hj with ⟨hc1,hj⟩|⟨hc7,hj⟩
  ·refine (EP.u 1 (Z9 (c:=(decide (a1_≥0))) (h:=hc1)) (EP.u 4 (Zac (ys:=[Zaf false a0_.Periods]) (h:=Zap eI64)) ?_))
   rcases ZaD hj with ⟨hc2,hj⟩|⟨hc6,hj⟩
   ·refine (EP.u 0 (Z9 (c:=(decide (a1_<((List.length a0_.Periods:Nat):Int)))) (h:=hc2)) ?_)
    rcases ZaD hj with ⟨hc3,hj⟩|⟨hc5,hj⟩
    ·refine (EP.u 3 (Z9 (c:=(decide (a2_≥0))) (h:=hc3)) ?_)
     obtain ⟨e4,he4,hj⟩:=bs hj
     obtain rfl:=Zan hj
     exact (EP.u 6 (Zac (ys:=[Zaf false a0_.Periods,iv a1_]) (h:=Zaa eI64 he4)) (EP.u 0 (Zao (sz:=1) (off:=0) (cs:=[.int .i64 e4]) (r:=iv e4) eI64 he4) (EP.f kr)))
    obtain rfl:=Zan hj
    exact (EP.u 3 (Z9 (c:=(decide (a2_≥0))) (h:=hc5)) (EP.f kr))
   obtain rfl:=Zan hj
   exact (EP.u 0 (Z9 (c:=(decide (a1_<((List.length a0_.Periods:Nat):Int)))) (h:=hc6)) (EP.f kr))
  obtain rfl:=Zan hj
  exact (EP.u 1 (Z9 (c:=(decide (a1_≥0))) (h:=hc7)) (EP.f kr))
 clear hj
 rintro s hR
 obtain rfl:=hR
 refine tq (rt ?_)
 cases h
 exact Zar kr
theorem Zkv (N:Nat)(a0_:Z8)(a1_:Int)(a2_:Int)(H:List HO)(r:Z8×Int×Int)(h:ZfS N a0_ a1_ a2_=some r):∃ (id0_ id1_ id2_:Nat) (H':List HO),ZcF Try.prog 46 [.agg (Z4 a0_),iv a1_,iv a2_] H (.fn 54 [] [.ptr id0_ 0,.ptr id1_ 0,.ptr id2_ 0]) H'/\Fp H H' [] [.cel id0_ [Zaf false r.1.Periods,Zai false r.1.Uses],.cel id1_ [iv r.2.1],.cel id2_ [iv r.2.2]]:=by
 suffices hs:∃ r' H',ZcF Try.prog 46 [.agg (Z4 a0_),iv a1_,iv a2_] H r' H'/\∃ (id0_ id1_ id2_:Nat),r'=.fn 54 [] [.ptr id0_ 0,.ptr id1_ 0,.ptr id2_ 0]/\Fp H H' [] [.cel id0_ [Zaf false r.1.Periods,Zai false r.1.Uses],.cel id1_ [iv r.2.1],.cel id2_ [iv r.2.2]] by
  obtain ⟨_,H',h1,id0_,id1_,id2_,rfl,h2⟩:=hs
  exact ⟨id0_,id1_,id2_,H',h1,h2⟩
 unfold ZfS at h
 have hH:Fp H H [] []:=Fp.refl trivial
 refine Zhi ZAb (λr' H'=>∃ (id0_ id1_ id2_:Nat),r'=.fn 54 [] [.ptr id0_ 0,.ptr id1_ 0,.ptr id2_ 0]/\Fp H H' [] [.cel id0_ [Zaf false r.1.Periods,Zai false r.1.Uses],.cel id1_ [iv r.2.1],.cel id2_ [iv r.2.2]]) (λr' H' ⟨_,_,_,e,_⟩=>by rw [e];rfl) rfl rfl (sq ?_)
 obtain ⟨id1,H2,hid1,hH2,hH⟩:=Fp.newCell hH (Z4 a0_)
 replace hH:Fp _ _ _ [.cel id1 (Z4 a0_)]:=hH
 obtain ⟨id3,H4,hid3,hH4,hH⟩:=Fp.newCell hH [iv a1_]
 replace hH:Fp _ _ _ [.cel id3 [iv a1_],.cel id1 (Z4 a0_)]:=hH
 obtain ⟨id5,H6,hid5,hH6,hH⟩:=Fp.newCell hH [iv a2_]
 replace hH:Fp _ _ _ [.cel id5 [iv a2_],.cel id3 [iv a1_],.cel id1 (Z4 a0_)]:=hH
 refine rg (Z6.h 0 (Zgh (H:=H) (v:=.agg (Z4 a0_)) (hid:=hid1) (hH:=hH2)) (Z6.h 0 (Zgh (H:=H2) (v:=iv a1_) (hid:=hid3) (hH:=hH4)) (Z6.h 0 (Zgh (H:=H4) (v:=iv a2_) (hid:=hid5) (hH:=hH6)) Z6.f))) (tq (sq (rg Z6.f (tq (rt ?_)))))
 cases h
 exact ⟨[.fn 54 [] [.ptr id1 0,.ptr id3 0,.ptr id5 0]],kr,id1,id3,id5,rfl,Fp.pk hH [2,1,0] rfl⟩
theorem Zfi (N:Nat)(a0_:Z8)(a1_:ZaJ)(a2_:Int)(r:Zaj)(h:ZcW N a0_ a1_ a2_=some r):Za9 Try.prog 48 [.agg (Z4 a0_),.agg (ZaT a1_),iv a2_] (.agg [iv r.Period,iv r.From,iv r.Long]):=by
 unfold ZcW at h
 have hH  := hp0
 refine ZaC Zz9 rfl rfl (Zat _ _ _ ?_) rfl
 refine sq (rg Z6.f (tq (sq ?_)))
 obtain ⟨e1,he1,h⟩:=bs h
 refine rg (Z6.u 4 (Zac (ys:=[Zaf false a0_.Periods,iv a1_.Stream]) (h:=Zaa eI64 he1)) (Z6.u 0 (Zao (sz:=1) (off:=0) (cs:=[.int .i64 e1]) (r:=iv e1) eI64 he1) Z6.f)) (tq (sq ?_))
 obtain ⟨m2,hm2,h⟩:=bs h
 refine rq (Z6.u 6 (Zac (ys:=[iv (w64 (a1_.From+a2_)),iv e1]) (h:=Za6 hm2)) Z6.f) (tq (rt ?_))
 cases h
 exact Zar kr
theorem Zg4 (N:Nat)(a0_:Z8)(a1_:(List Z7))(a2_:Int)(a3_:Zax)(r:Bool)(h:Zc4 N a0_ a1_ a2_ a3_=some r):Za9 Try.prog 50 [.agg (Z4 a0_),Z5 false a1_,iv a2_,.agg (ZaH a3_)] (bv r):=by
 unfold Zc4 at h
 have hH  := hp0
 refine ZaC Zz7 rfl rfl (Zat _ _ _ ?_) rfl
 refine sq (rg Z6.f (tq (sq (bk (sq (rg Z6.f (tq (it h (λhc1 h=>?_) (λhc1 h=>?_)))))))))
 ·refine sq (rgX ⟨[(8,bv ((a3_.To==(w64 (a3_.From+1)))&&((decide (a3_.Next>a2_))&&(decide (a3_.Next<((List.length a1_:Nat):Int))))))],[],[]⟩ ?_ ?_)
  ·rcases Bool.eq_false_or_eq_true (a3_.To==(w64 (a3_.From+1))) with hc2|hc5
   ·refine (EP.u 5 (Z9 (c:=(a3_.To==(w64 (a3_.From+1)))) (h:=hc2)) ?_)
    rcases Bool.eq_false_or_eq_true (decide (a3_.Next>a2_)) with hc3|hc4
    ·exact (EP.u 4 (Z9 (c:=(decide (a3_.Next>a2_))) (h:=hc3)) (EP.u 5 (Zac (ys:=[Z5 false a1_]) (h:=Zap Zab)) (EP.f (by simp only [hc2,hc3];kernel_rfl))))
    exact (EP.u 4 (Z9 (c:=(decide (a3_.Next>a2_))) (h:=hc4)) (EP.f (by simp only [hc2,hc4];kernel_rfl)))
   exact (EP.u 5 (Z9 (c:=(a3_.To==(w64 (a3_.From+1)))) (h:=hc5)) (EP.f (by simp only [hc5];kernel_rfl)))
  refine tq (rt (br (tr ?_)))
  cases h
  exact Zar kr
 refine sq (rg Z6.f (tq (it h (λhc6 h=>?_) (λhc6 h=>?_))))
 ·refine sq (rg Z6.f (tq (rt (br (tr ?_)))))
  cases h
  exact Zar kr
 refine sq (rg Z6.f (tq (it h (λhc7 h=>?_) (λhc7 h=>?_))))
 ·refine sq (rgX ⟨[(8,bv ((a2_==0)&&(a3_.From != 0)))],[],[]⟩ ?_ ?_)
  ·rcases Bool.eq_false_or_eq_true (a2_==0) with hc8|hc9
   ·exact (EP.u 1 (Z9 (c:=(a2_==0)) (h:=hc8)) (EP.f (by simp only [hc8];kernel_rfl)))
   exact (EP.u 1 (Z9 (c:=(a2_==0)) (h:=hc9)) (EP.f (by simp only [hc9];kernel_rfl)))
  refine tq (rt (br (tr ?_)))
  cases h
  exact Zar kr
 refine sk (bn (tq (kq (sq (rgX ⟨[(8,bv ((decide (a3_.By≥0))&&(decide (a3_.By<((List.length a0_.Periods:Nat):Int)))))],[],[]⟩ ?_ ?_)))))
 ·rcases Bool.eq_false_or_eq_true (decide (a3_.By≥0)) with a1|a0
  ·exact (EP.u 2 (Z9 (c:=(decide (a3_.By≥0))) (h:=a1)) (EP.u 5 (Zac (ys:=[Zaf false a0_.Periods]) (h:=Zap eI64)) (EP.f (by simp only [a1];kernel_rfl))))
  exact (EP.u 2 (Z9 (c:=(decide (a3_.By≥0))) (h:=a0)) (EP.f (by simp only [a0];kernel_rfl)))
 refine tq (rt ?_)
 cases h
 exact Zar kr
theorem Zit (N:Nat)(a0_:Z8)(a1_:Int)(a2_:Int)(r:Zaj)(h:ZfQ N a0_ a1_ a2_=some r):Za9 Try.prog 53 [.agg (Z4 a0_),iv a1_,iv a2_] (.agg [iv r.Period,iv r.From,iv r.Long]):=by
 unfold ZfQ at h
 have hH  := hp0
 refine ZaC Zz4 rfl rfl (Zat _ _ _ ?_) rfl
 refine sq (rg Z6.f (tq (sq ?_)))
 obtain ⟨e1,he1,h⟩:=bs h
 obtain ⟨e2,he2,h⟩:=bs h
 refine rq (Z6.u 5 (Zac (ys:=[Zai false a0_.Uses,iv a1_]) (h:=Zaa ZaF he1)) (Z6.u 1 (ZaK (Zao (sz:=4) (off:=0) (cs:=[.int .i64 e1.Stream]) (r:=iv e1.Stream) ZaF he1)) (Z6.u 0 (Zac (ys:=[Zaf false a0_.Periods,iv e1.Stream]) (h:=Zaa eI64 he2)) (Z6.u 0 (ZaK (Zao (sz:=1) (off:=0) (cs:=[.int .i64 e2]) (r:=iv e2) eI64 he2)) Z6.f)))) (tq (sq ?_))
 obtain ⟨e3,he3,h⟩:=bs h
 obtain ⟨m4,hm4,h⟩:=bs h
 obtain ⟨e5,he5,h⟩:=bs h
 refine rq (Z6.u 4 (Zac (ys:=[Zai false a0_.Uses,iv a1_]) (h:=Zaa ZaF he3)) (Z6.u 1 (ZaK (Zao (sz:=4) (off:=2) (cs:=[.int .i64 e3.From]) (r:=iv e3.From) ZaF he3)) (Z6.u 3 (Zac (ys:=[iv (w64 (e3.From+a2_)),iv e2]) (h:=Za6 hm4)) (Z6.u 3 (Zac (ys:=[Zai false a0_.Uses,iv a1_]) (h:=Zaa ZaF he5)) (Z6.u 1 (ZaK (Zao (sz:=4) (off:=3) (cs:=[.int .i64 e5.Long]) (r:=iv e5.Long) ZaF he5)) Z6.f))))) (tq (rt ?_))
 cases h
 exact Zar kr
theorem ZiA {σ:Type}(N:Nat)(y_:σ->ZaJ->ZaJ->Option (σ×Bool))(c0_:Z8)(c1_:Int)(c2_:Int)(s_:σ)(k0_:Nat)(k1_:Nat)(k2_:Nat)(yid_:Nat)(T_:σ->List ZaR->Prop)(hy_:∀ (x0:ZaJ) (x1:ZaJ) (s:σ) (r:σ×Bool) (H:List HO) (its:List ZaR),T_ s its->HP H its->y_ s x0 x1=some r->∃ H' its',Zmr Try.prog yid_ [.agg [iv x0.Stream,iv x0.Port,iv x0.From,iv x0.Long],.agg [iv x1.Stream,iv x1.Port,iv x1.From,iv x1.Long]] H r.2 H'/\T_ r.1 its'/\Fp H H' its its')(H:List HO)(its:List ZaR)(hT:T_ s_ its)(hH:HP H (.cel k0_ (Z4 c0_)::.cel k1_ [iv c1_]::.cel k2_ [iv c2_]::its))(r:σ)(h:Zd0 N y_ c0_ c1_ c2_ s_=some r):∃ H' its',ZcF Try.prog 54 [.yl yid_,.ptr k0_ 0,.ptr k1_ 0,.ptr k2_ 0] H (.tup []) H'/\T_ r its'/\Fp H H' (.cel k0_ (Z4 c0_)::.cel k1_ [iv c1_]::.cel k2_ [iv c2_]::its) (.cel k0_ (Z4 c0_)::.cel k1_ [iv c1_]::.cel k2_ [iv c2_]::its'):=by
 suffices hs:∃ H',ZcF Try.prog 54 [.yl yid_,.ptr k0_ 0,.ptr k1_ 0,.ptr k2_ 0] H (.tup []) H'/\∃ its',T_ r its'/\Fp H H' (.cel k0_ (Z4 c0_)::.cel k1_ [iv c1_]::.cel k2_ [iv c2_]::its) (.cel k0_ (Z4 c0_)::.cel k1_ [iv c1_]::.cel k2_ [iv c2_]::its') by
  obtain ⟨H',h1,its',h2,h3⟩:=hs
  exact ⟨H',its',h1,h2,h3⟩
 unfold Zd0 at h
 replace hH:Fp H H (.cel k0_ (Z4 c0_)::.cel k1_ [iv c1_]::.cel k2_ [iv c2_]::its) (.cel k0_ (Z4 c0_)::.cel k1_ [iv c1_]::.cel k2_ [iv c2_]::its):=Fp.refl hH
 refine ZfM Zz3 (λH'=>∃ its',T_ r its'/\Fp H H' (.cel k0_ (Z4 c0_)::.cel k1_ [iv c1_]::.cel k2_ [iv c2_]::its) (.cel k0_ (Z4 c0_)::.cel k1_ [iv c1_]::.cel k2_ [iv c2_]::its')) rfl rfl rfl (sq ?_)
 have hlc1:=Fp.get hH 0 rfl
 refine rg (Z6.u 1 (Zbr (H:=H) (id:=k0_) (off:=1) (cs:=(Z4 c0_)) (c:=[Zai false c0_.Uses]) (r:=Zai false c0_.Uses) (hl:=hlc1)) (Z6.u 0 (Zac (ys:=[Zai false c0_.Uses]) (h:=Zap ZaF)) Z6.f)) (tq (bk ?_))
 obtain ⟨ag,a9,h⟩:=bs h
 refine ZaN ((ZaA (λ(x:Int×σ) s=>∃ (its2:List ZaR) (H3:List HO),s=⟨[(0,.yl yid_),(1,.ptr k0_ 0),(2,.ptr k1_ 0),(3,.ptr k2_ 0),(10,Zai false c0_.Uses),(11,iv ((List.length c0_.Uses:Nat):Int)),(12,iv x.1)],[],H3⟩/\T_ x.2 its2/\Fp H H3 (.cel k0_ (Z4 c0_)::.cel k1_ [iv c1_]::.cel k2_ [iv c2_]::its) (.cel k0_ (Z4 c0_)::.cel k1_ [iv c1_]::.cel k2_ [iv c2_]::its2)) (λx:Int×σ=>Zb5 N y_ c0_ c1_ c2_ x.1 x.2) (λ(p:(σ)⊕(σ)) e s=>match p with|(.inl p)=>e=.exit 0/\(∃ (a3:List ZaR) (af:List HO),s=⟨[],[],af⟩/\T_ p a3/\Fp H af (.cel k0_ (Z4 c0_)::.cel k1_ [iv c1_]::.cel k2_ [iv c2_]::its) (.cel k0_ (Z4 c0_)::.cel k1_ [iv c1_]::.cel k2_ [iv c2_]::a3))|(.inr p)=>e=.ret/\∃ xs,rawL s i54.res=some xs/\ZbC xs=.tup []/\∃ its',T_ p its'/\Fp H s.H (.cel k0_ (Z4 c0_)::.cel k1_ [iv c1_]::.cel k2_ [iv c2_]::its) (.cel k0_ (Z4 c0_)::.cel k1_ [iv c1_]::.cel k2_ [iv c2_]::its')) ?_ N _ ag _ a9 ⟨its,H,kr,hT,Fp.at hH⟩).mono ?_)
 ·clear h a9
  rintro ⟨i4,g5⟩ o s h hR
  obtain ⟨its2,H3,rfl,hT,hH⟩:=hR
  replace hH:Fp H H3 (.cel k0_ (Z4 c0_)::.cel k1_ [iv c1_]::.cel k2_ [iv c2_]::its) (.cel k0_ (Z4 c0_)::.cel k1_ [iv c1_]::.cel k2_ [iv c2_]::its2):=hH
  replace h:Zb5 N y_ c0_ c1_ c2_ i4 g5=some o:=h
  unfold Zb5 at h
  refine sq (rg Z6.f (tq (sq (it h (λaA h=>?_) (λaA h=>?_)))))
  ·refine sk (tq (kq (sq (bk (sq ?_)))))
   obtain ⟨a4,aj,h⟩:=bs h
   refine rg (Z6.u 1 (Zac (ys:=[Zai false c0_.Uses,iv i4]) (h:=Zaa ZaF aj)) (Z6.u 0 (Zao (sz:=4) (off:=0) (cs:=[.int .i64 a4.Stream,.int .i64 a4.Port,.int .i64 a4.From,.int .i64 a4.Long]) (r:=.agg (ZaT a4)) ZaF aj) Z6.f)) (tq (sq (sq ?_)))
   have an:=Fp.get hH 1 rfl
   refine rg (Z6.u 2 (Zbr (H:=H3) (id:=k1_) (off:=0) (cs:=[iv c1_]) (c:=[iv c1_]) (r:=iv c1_) (hl:=an)) Z6.f) (tq (it h (λaz h=>?_) (λaz h=>?_)))
   ·refine kq (xq (tx (bx (tq (kq (rg Z6.f ?_))))))
    cases h
    exact ⟨_,rfl,⟨its2,H3,kr,hT,Fp.at hH⟩⟩
   refine sk (tq (kq (sq ?_)))
   have am:=Fp.get hH 0 rfl
   refine rg (Z6.u 1 (Zbr (H:=H3) (id:=k0_) (off:=1) (cs:=(Z4 c0_)) (c:=[Zai false c0_.Uses]) (r:=Zai false c0_.Uses) (hl:=am)) (Z6.u 0 (Zac (ys:=[Zai false c0_.Uses]) (h:=Zap ZaF)) Z6.f)) (tq (bk ?_))
   obtain ⟨ai,aa,h⟩:=bs h
   refine ZaN ((ZaA (λ(x:Int×σ) s=>∃ (a0:List ZaR) (a5:List HO),s=⟨[(0,.yl yid_),(1,.ptr k0_ 0),(2,.ptr k1_ 0),(3,.ptr k2_ 0),(5,iv i4),(6,.loc 6 0),(10,Zai false c0_.Uses),(11,iv ((List.length c0_.Uses:Nat):Int)),(12,iv i4),(22,Zai false c0_.Uses),(23,iv ((List.length c0_.Uses:Nat):Int)),(24,iv x.1)],[(6,(ZaT a4))],a5⟩/\T_ x.2 a0/\Fp H a5 (.cel k0_ (Z4 c0_)::.cel k1_ [iv c1_]::.cel k2_ [iv c2_]::its) (.cel k0_ (Z4 c0_)::.cel k1_ [iv c1_]::.cel k2_ [iv c2_]::a0)) (λx:Int×σ=>Zb4 N y_ c0_ c2_ i4 a4 x.1 x.2) (λ(p:(σ)⊕(σ)) e s=>match p with|(.inl p)=>e=.exit 2/\(∃ (a2:List ZaR) (a7:List HO),s=⟨[(0,.yl yid_),(1,.ptr k0_ 0),(2,.ptr k1_ 0),(3,.ptr k2_ 0),(10,Zai false c0_.Uses),(11,iv ((List.length c0_.Uses:Nat):Int)),(12,iv i4)],[],a7⟩/\T_ p a2/\Fp H a7 (.cel k0_ (Z4 c0_)::.cel k1_ [iv c1_]::.cel k2_ [iv c2_]::its) (.cel k0_ (Z4 c0_)::.cel k1_ [iv c1_]::.cel k2_ [iv c2_]::a2))|(.inr p)=>e=.ret/\∃ xs,rawL s i54.res=some xs/\ZbC xs=.tup []/\∃ its',T_ p its'/\Fp H s.H (.cel k0_ (Z4 c0_)::.cel k1_ [iv c1_]::.cel k2_ [iv c2_]::its) (.cel k0_ (Z4 c0_)::.cel k1_ [iv c1_]::.cel k2_ [iv c2_]::its')) ?_ N _ ai _ aa ⟨its2,H3,kr,hT,Fp.at hH⟩).mono ?_)
   ·clear h aa
    rintro ⟨a8,aB⟩ o s h hR
    obtain ⟨a0,a5,rfl,hT,hH⟩:=hR
    replace hH:Fp H a5 (.cel k0_ (Z4 c0_)::.cel k1_ [iv c1_]::.cel k2_ [iv c2_]::its) (.cel k0_ (Z4 c0_)::.cel k1_ [iv c1_]::.cel k2_ [iv c2_]::a0):=hH
    replace h:Zb4 N y_ c0_ c2_ i4 a4 a8 aB=some o:=h
    unfold Zb4 at h
    refine sq (rg Z6.f (tq (sq (it h (λaw h=>?_) (λaw h=>?_)))))
    ·refine sk (tq (kq (sq (bk (sq ?_)))))
     obtain ⟨a1,ab,h⟩:=bs h
     refine rg (Z6.u 1 (Zac (ys:=[Zai false c0_.Uses,iv a8]) (h:=Zaa ZaF ab)) (Z6.u 0 (Zao (sz:=4) (off:=0) (cs:=[.int .i64 a1.Stream,.int .i64 a1.Port,.int .i64 a1.From,.int .i64 a1.Long]) (r:=.agg (ZaT a1)) ZaF ab) Z6.f)) (tq (sq (sq ?_)))
     obtain ⟨ay,hj,h⟩:=bs h
     refine rgR (λs=>s=⟨[(0,.yl yid_),(1,.ptr k0_ 0),(2,.ptr k1_ 0),(3,.ptr k2_ 0),(5,iv i4),(6,.loc 6 0),(8,.loc 8 0),(10,Zai false c0_.Uses),(11,iv ((List.length c0_.Uses:Nat):Int)),(12,iv i4),(22,Zai false c0_.Uses),(23,iv ((List.length c0_.Uses:Nat):Int)),(24,iv a8),(44,bv ay)],[(6,(ZaT a4)),(8,(ZaT a1))],a5⟩) ?_ ?_
     ·clear h
      rcases ZaD hj with ⟨av,hj⟩|⟨au,hj⟩
      ·obtain rfl:=Zan hj
       exact (EP.u 2 (Z9 (c:=(a8==i4)) (h:=av)) (EP.f kr))
      refine (EP.u 2 (Z9 (c:=(a8==i4)) (h:=au)) ?_)
      have ad:=Fp.get hH 2 rfl
      refine (EP.u 3 (Zbr (H:=a5) (id:=k2_) (off:=0) (cs:=[iv c2_]) (c:=[iv c2_]) (r:=iv c2_) (hl:=ad)) ?_)
      rcases ZaD hj with ⟨ar,hj⟩|⟨aq,hj⟩
      ·obtain rfl:=Zan hj
       exact (EP.u 0 (Z9 (c:=(a1.Stream != c2_)) (h:=ar)) (EP.f kr))
      obtain rfl:=Zan hj
      exact (EP.u 0 (Z9 (c:=(a1.Stream != c2_)) (h:=aq)) (EP.f kr))
     clear hj
     rintro s hR
     obtain rfl:=hR
     refine tq (it h (λap h=>?_) (λap h=>?_))
     ·refine kq (xq (tx (bx (tq (kq (rg Z6.f ?_))))))
      cases h
      exact ⟨_,rfl,⟨a0,a5,kr,hT,Fp.at hH⟩⟩
     refine sk (tq (kq (sq ?_)))
     obtain ⟨ax,al,h⟩:=bs h
     obtain ⟨ak,a6,ac,hT,ae⟩:=hy_ a4 a1 aB ax a5 a0 hT (Fp.tail (own:=[.cel k0_ (Z4 c0_),.cel k1_ [iv c1_],.cel k2_ [iv c2_]]) (its:=a0) hH) al
     replace hH:Fp H ak (.cel k0_ (Z4 c0_)::.cel k1_ [iv c1_]::.cel k2_ [iv c2_]::its) (.cel k0_ (Z4 c0_)::.cel k1_ [iv c1_]::.cel k2_ [iv c2_]::a6):=Fp.callT (own:=[.cel k0_ (Z4 c0_),.cel k1_ [iv c1_],.cel k2_ [iv c2_]]) (its:=a0) hH ae
     refine rg (Z6.v 3 (ZoL (H:=a5) (id:=yid_) (ys:=[.agg (ZaT a4),.agg (ZaT a1)]) kr kr kr kr ac) Z6.f) (tq (it h (λao h=>?_) (λao h=>?_)))
     ·refine rt (br (tr ?_))
      cases h
      exact ⟨_,rfl,rfl,⟨[],kr,kr,a6,hT,Fp.at hH⟩⟩
     refine sk (bn (tq (kq (rg Z6.f ?_))))
     cases h
     exact ⟨_,rfl,⟨a6,ak,kr,hT,Fp.at hH⟩⟩
    refine kq (xq (tx ?_))
    cases h
    exact ⟨_,rfl,rfl,⟨a0,a5,kr,hT,Fp.at hH⟩⟩
   rintro e s hq
   rcases ai with aG|aE
   ·dsimp only at h hq
    obtain ⟨rfl,hR⟩:=hq
    obtain ⟨a2,a7,rfl,hT,hH⟩:=hR
    replace hH:Fp H a7 (.cel k0_ (Z4 c0_)::.cel k1_ [iv c1_]::.cel k2_ [iv c2_]::its) (.cel k0_ (Z4 c0_)::.cel k1_ [iv c1_]::.cel k2_ [iv c2_]::a2):=hH
    refine bx (bn (tq (kq (rg Z6.f ?_))))
    cases h
    exact ⟨_,rfl,⟨a2,a7,kr,hT,Fp.at hH⟩⟩
   dsimp only at h hq
   obtain ⟨rfl,hq⟩:=hq
   refine br (br (tr ?_))
   cases h
   exact ⟨_,rfl,rfl,hq⟩
  refine kq (xq (tx ?_))
  cases h
  exact ⟨_,rfl,rfl,⟨its2,H3,kr,hT,Fp.at hH⟩⟩
 rintro e s hq
 rcases ag with aD|aC
 ·dsimp only at h hq
  obtain ⟨rfl,hR⟩:=hq
  obtain ⟨a3,af,rfl,hT,hH⟩:=hR
  replace hH:Fp H af (.cel k0_ (Z4 c0_)::.cel k1_ [iv c1_]::.cel k2_ [iv c2_]::its) (.cel k0_ (Z4 c0_)::.cel k1_ [iv c1_]::.cel k2_ [iv c2_]::a3):=hH
  refine bx ?_
  cases h
  exact ⟨[],kr,kr,a3,hT,Fp.at hH⟩
 dsimp only at h hq
 obtain ⟨rfl,hq⟩:=hq
 refine br ?_
 cases h
 exact hq
theorem Zd9 (N:Nat)(a0_:Zaj)(r:Int)(h:Zcf N a0_=some r):Za9 Try.prog 55 [.agg (Zbm a0_)] (iv r):=by
 unfold Zcf at h
 have hH  := hp0
 refine ZaC Zz2 rfl rfl (Zat _ _ _ ?_) rfl
 refine sq (rg Z6.f (tq (sq (sq (rgX ⟨[(1,.loc 1 0),(22,bv ((decide (a0_.Period<1))||((decide (a0_.Period>960))||((decide (a0_.From<0))||(decide (a0_.From≥a0_.Period))))))],[(1,(Zbm a0_))],[]⟩ ?_ ?_)))))
 ·rcases Bool.eq_false_or_eq_true (decide (a0_.Period<1)) with hc1|hc2
  ·exact (EP.u 2 (Z9 (c:=(decide (a0_.Period<1))) (h:=hc1)) (EP.f (by simp only [hc1];kernel_rfl)))
  refine (EP.u 2 (Z9 (c:=(decide (a0_.Period<1))) (h:=hc2)) ?_)
  rcases Bool.eq_false_or_eq_true (decide (a0_.Period>960)) with hc3|hc4
  ·exact (EP.u 3 (Z9 (c:=(decide (a0_.Period>960))) (h:=hc3)) (EP.f (by simp only [hc2,hc3];kernel_rfl)))
  refine (EP.u 3 (Z9 (c:=(decide (a0_.Period>960))) (h:=hc4)) ?_)
  rcases Bool.eq_false_or_eq_true (decide (a0_.From<0)) with hc5|hc6
  ·exact (EP.u 4 (Z9 (c:=(decide (a0_.From<0))) (h:=hc5)) (EP.f (by simp only [hc2,hc4,hc5];kernel_rfl)))
  exact (EP.u 4 (Z9 (c:=(decide (a0_.From<0))) (h:=hc6)) (EP.f (by simp only [hc2,hc4,hc6];kernel_rfl)))
 refine tq (it h (λhc7 h=>?_) (λhc7 h=>?_))
 ·refine sq (rg Z6.f (tq (rt (tr ?_))))
  cases h
  exact Zar kr
 refine sk (tq (kq (sq (sq (rgX ⟨[(32,bv ((decide (a0_.Long<1))||(decide (a0_.Long>a0_.Period))))],[],[]⟩ ?_ ?_)))))
 ·rcases Bool.eq_false_or_eq_true (decide (a0_.Long<1)) with hc8|hc9
  ·exact (EP.u 2 (Z9 (c:=(decide (a0_.Long<1))) (h:=hc8)) (EP.f (by simp only [hc8];kernel_rfl)))
  exact (EP.u 2 (Z9 (c:=(decide (a0_.Long<1))) (h:=hc9)) (EP.f (by simp only [hc9];kernel_rfl)))
 refine tq (it h (λa0 h=>?_) (λa0 h=>?_))
 ·refine sq (rg Z6.f (tq (rt (tr ?_))))
  cases h
  exact Zar kr
 refine sk (tq (kq (sq (rg Z6.f (tq (rt ?_))))))
 cases h
 exact Zar kr
theorem Zgj (N:Nat)(a0_:(List Zaj))(r:Int)(h:Zco N a0_=some r):Za9 Try.prog 57 [ZaX false a0_] (iv r):=by
 unfold Zco at h
 have hH  := hp0
 refine ZaC Zz0 rfl rfl (Zat _ _ _ ?_) rfl
 refine sq (rg Z6.f (tq (sq (sq (rg (Z6.u 1 (Zac (ys:=[ZaX false a0_]) (h:=Zap ZaZ)) Z6.f) (tq (it h (λhc1 h=>?_) (λhc1 h=>?_))))))))
 ·refine sq (rg Z6.f (tq (rt (tr ?_))))
  cases h
  exact Zar kr
 refine sk (tq (kq (sq (sq (rg (Z6.u 1 (Zac (ys:=[ZaX false a0_]) (h:=Zap ZaZ)) Z6.f) (tq (bk ?_)))))))
 obtain ⟨a3,a1,h⟩:=bs h
 refine ZaN ((ZaA (λ(x:Int) s=>s=⟨[(9,ZaX false a0_),(10,iv ((List.length a0_:Nat):Int)),(11,iv x)],[],[]⟩) (λx:Int=>Zbb N a0_ x) (λ(p:(Unit)⊕(Int)) e s=>match p with|(.inl p)=>e=.exit 0/\(s=⟨[],[],[]⟩)|(.inr p)=>e=.ret/\∃ xs,resL s i57.res=some xs/\ZbC xs=iv p) ?_ N _ a3 _ a1 kr).mono ?_)
 ·clear h a1
  rintro i2 o s h hR
  obtain rfl:=hR
  replace h:Zbb N a0_ i2=some o:=h
  unfold Zbb at h
  refine sq (rg Z6.f (tq (sq (it h (λa6 h=>?_) (λa6 h=>?_)))))
  ·refine sk (tq (kq (sq (bk (sq ?_)))))
   obtain ⟨a0,a2,h⟩:=bs h
   refine rg (Z6.u 0 (Zac (ys:=[ZaX false a0_,iv i2]) (h:=Zaa ZaZ a2)) (Z6.u 0 (Zao (sz:=3) (off:=0) (cs:=[.int .i64 a0.Period,.int .i64 a0.From,.int .i64 a0.Long]) (r:=.agg (Zbm a0)) ZaZ a2) Z6.f)) (tq (sq ?_))
   obtain ⟨a7,a4,h⟩:=bs h
   refine rg (Z6.v 1 (Zaw (hc:=Zd9 N a0 a7 a4)) Z6.f) (tq (sq (rg Z6.f (tq (it h (λa5 h=>?_) (λa5 h=>?_))))))
   ·refine sq (rg Z6.f (tq (rt (br (tr ?_)))))
    cases h
    exact ⟨_,rfl,rfl,Zar kr⟩
   refine sk (bn (tq (kq (rg Z6.f ?_))))
   cases h
   exact ⟨_,rfl,kr⟩
  refine kq (xq (tx ?_))
  cases h
  exact ⟨_,rfl,rfl,kr⟩
 rintro e s hq
 rcases a3 with a9|a8
 ·dsimp only at h hq
  obtain ⟨rfl,hR⟩:=hq
  obtain rfl:=hR
  refine bx (tq (sq (rg Z6.f (tq (rt ?_)))))
  cases h
  exact Zar kr
 dsimp only at h hq
 obtain ⟨rfl,hq⟩:=hq
 refine br (tr ?_)
 cases h
 exact hq
theorem Zlc (N:Nat)(a0_:Int)(a1_:Int)(r:Int)(h:Zfy N a0_ a1_=some r):Za9 Try.prog 59 [iv a0_,iv a1_] (iv r):=by
 unfold Zfy at h
 have hH  := hp0
 refine ZaC ZzY rfl rfl (Zat _ _ _ ?_) rfl
 refine sq (rg Z6.f (tq (sq (sq (rg Z6.f (tq (bk ?_)))))))
 obtain ⟨a1,a0,h⟩:=bs h
 refine ZaN ((ZaA (λ(x:Int) s=>s=⟨[(0,iv a0_),(1,iv a1_),(5,iv x)],[],[]⟩) (λx:Int=>Zcd N a0_ a1_ x) (λ(p:(Unit)⊕(Int)) e s=>match p with|(.inl p)=>e=.exit 0/\(s=⟨[],[],[]⟩)|(.inr p)=>e=.ret/\∃ xs,resL s i59.res=some xs/\ZbC xs=iv p) ?_ N _ a1 _ a0 kr).mono ?_)
 ·clear h a0
  rintro i1 o s h hR
  obtain rfl:=hR
  replace h:Zcd N a0_ a1_ i1=some o:=h
  unfold Zcd at h
  refine sq (sq (rg Z6.f (tq (it h (λa8 h=>?_) (λa8 h=>?_)))))
  ·refine sk (tq (kq (sq (bk (sq ?_)))))
   obtain ⟨a9,hj,h⟩:=bs h
   refine rgR (λs=>s=⟨[(0,iv a0_),(1,iv a1_),(5,iv i1),(20,bv a9)],[],[]⟩) ?_ ?_
   ·clear h
    obtain ⟨a2,a4,hj⟩:=bs hj
    refine (EP.u 2 (Zac (ys:=[iv a0_,iv i1]) (h:=Za6 a4)) ?_)
    rcases ZaD hj with ⟨a7,hj⟩|⟨a6,hj⟩
    ·refine (EP.u 0 (Z9 (c:=(a2==0)) (h:=a7)) ?_)
     obtain ⟨ac,a3,hj⟩:=bs hj
     obtain rfl:=Zan hj
     exact (EP.u 3 (Zac (ys:=[iv a1_,iv i1]) (h:=Za6 a3)) (EP.f kr))
    obtain rfl:=Zan hj
    exact (EP.u 0 (Z9 (c:=(a2==0)) (h:=a6)) (EP.f kr))
   clear hj
   rintro s hR
   obtain rfl:=hR
   refine tq (it h (λa5 h=>?_) (λa5 h=>?_))
   ·refine sq (rg Z6.f (tq (rt (br (tr ?_)))))
    cases h
    exact ⟨_,rfl,rfl,Zar kr⟩
   refine sk (bn (tq (kq (rg Z6.f ?_))))
   cases h
   exact ⟨_,rfl,kr⟩
  refine kq (xq (tx ?_))
  cases h
  exact ⟨_,rfl,rfl,kr⟩
 rintro e s hq
 rcases a1 with ab|aa
 ·dsimp only at h hq
  obtain ⟨rfl,hR⟩:=hq
  obtain rfl:=hR
  refine bx (tq (sq (rg Z6.f (tq (rt ?_)))))
  cases h
  exact Zar kr
 dsimp only at h hq
 obtain ⟨rfl,hq⟩:=hq
 refine br (tr ?_)
 cases h
 exact hq
theorem Zla (N:Nat)(a0_:Int)(a1_:Int)(r:Int)(h:Zfx N a0_ a1_=some r):Za9 Try.prog 60 [iv a0_,iv a1_] (iv r):=by
 unfold Zfx at h
 have hH  := hp0
 refine ZaC ZzX rfl rfl (Zat _ _ _ ?_) rfl
 refine sq (rg Z6.f (tq (sq ?_)))
 obtain ⟨m1,hm1,h⟩:=bs h
 refine rg (Z6.u 2 (Zac (ys:=[iv a0_,iv a1_]) (h:=Za6 hm1)) Z6.f) (tq ?_)
 obtain ⟨a2,a0,h⟩:=bs h
 refine ZdQ [5] (λs=>s=⟨[(5,iv a2)],[],[]⟩) ?_ ?_
 ·clear h
  have h:=a0
  refine sq (rg Z6.f (tq (it h (λa1 h=>?_) (λa1 h=>?_))))
  ·refine rg Z6.f ?_
   cases h
   exact ⟨rfl,kr⟩
  refine sk ?_
  cases h
  exact ⟨rfl,kr⟩
 clear a0
 rintro s hR
 obtain rfl:=hR
 refine sq (rg Z6.f (tq (rt ?_)))
 cases h
 exact Zar kr
theorem Zjh (N:Nat)(a0_:Int)(a1_:Int)(r:Int)(h:Zes N a0_ a1_=some r):Za9 Try.prog 62 [iv a0_,iv a1_] (iv r):=by
 unfold Zes at h
 have hH  := hp0
 refine ZaC ZzV rfl rfl (Zat _ _ _ ?_) rfl
 refine sq (rg Z6.f (tq (sq ?_)))
 obtain ⟨m1,hm1,h⟩:=bs h
 obtain ⟨m2,hm2,h⟩:=bs h
 refine rg (Z6.u 2 (Zac (ys:=[iv a0_,iv a1_]) (h:=Za6 hm1)) (Z6.u 3 (Zac (ys:=[iv (w64 (m1+a1_)),iv a1_]) (h:=Za6 hm2)) Z6.f)) (tq (rt ?_))
 cases h
 exact Zar kr
theorem Zf6 (N:Nat)(a0_:Int)(a1_:Int)(r:Int)(h:ZdK N a0_ a1_=some r):Za9 Try.prog 63 [iv a0_,iv a1_] (iv r):=by
 unfold ZdK at h
 have hH  := hp0
 refine ZaC ZzU rfl rfl (Zat _ _ _ ?_) rfl
 refine sq (rg Z6.f (tq (sq (bk ?_))))
 obtain ⟨a3,a0,h⟩:=bs h
 refine ZaN ((ZaA (λ(x:Int×Int) s=>s=⟨[(0,iv x.1),(1,iv x.2)],[],[]⟩) (λx:Int×Int=>ZbV N x.1 x.2) (λ(p:Int) e s=>e=.exit 0/\(s=⟨[(0,iv p)],[],[]⟩)) ?_ N _ a3 _ a0 kr).mono ?_)
 ·clear h a0
  rintro ⟨i1,i2⟩ o s h hR
  obtain rfl:=hR
  replace h:ZbV N i1 i2=some o:=h
  unfold ZbV at h
  refine sq (sq (rg Z6.f (tq (it h (λa2 h=>?_) (λa2 h=>?_)))))
  ·refine sk (tq (kq (bk ?_)))
   obtain ⟨a4,a1,h⟩:=bs h
   refine rq (Z6.u 3 (Zac (ys:=[iv i1,iv i2]) (h:=Za6 a1)) Z6.f) (bn ?_)
   cases h
   exact ⟨_,rfl,kr⟩
  refine kq (xq (tx ?_))
  cases h
  exact ⟨_,rfl,rfl,kr⟩
 rintro e s hq
 obtain ⟨rfl,hR⟩:=hq
 obtain rfl:=hR
 refine bx (tq (sq (rg Z6.f (tq (rt ?_)))))
 cases h
 exact Zar kr
theorem Zjm (N:Nat)(a0_:Z8)(r:Bool)(h:Zeu N a0_=some r):Za9 Try.prog 26 [.agg (Z4 a0_)] (bv r):=by
 unfold Zeu at h
 have hH  := hp0
 refine ZaC ZAu rfl rfl (Zat _ _ _ ?_) rfl
 refine sq (rg Z6.f (tq (sq (sq (rgX ⟨[(1,.loc 1 0),(15,bv ((decide (((List.length a0_.Periods:Nat):Int)>12))||(decide (((List.length a0_.Uses:Nat):Int)>192))))],[(1,(Z4 a0_))],[]⟩ ?_ ?_)))))
 ·refine (EP.u 2 (Zac (ys:=[Zaf false a0_.Periods]) (h:=Zap eI64)) ?_)
  rcases Bool.eq_false_or_eq_true (decide (((List.length a0_.Periods:Nat):Int)>12)) with hc1|hc2
  ·exact (EP.u 0 (Z9 (c:=(decide (((List.length a0_.Periods:Nat):Int)>12))) (h:=hc1)) (EP.f (by simp only [hc1];kernel_rfl)))
  exact (EP.u 0 (Z9 (c:=(decide (((List.length a0_.Periods:Nat):Int)>12))) (h:=hc2)) (EP.u 3 (Zac (ys:=[Zai false a0_.Uses]) (h:=Zap ZaF)) (EP.f (by simp only [hc2];kernel_rfl))))
 refine tq (it h (λhc3 h=>?_) (λhc3 h=>?_))
 ·refine sq (rg Z6.f (tq (rt (tr ?_))))
  cases h
  exact Zar kr
 refine sk (tq (kq (sq (sq (rg Z6.f (tq (bk ?_)))))))
 obtain ⟨ax,af,h⟩:=bs h
 refine ZaN ((ZaA (λ(x:Int) s=>s=⟨[(1,.loc 1 0),(3,iv x)],[(1,(Z4 a0_))],[]⟩) (λx:Int=>Zcx N a0_ x) (λ(p:(Unit)⊕(Bool)) e s=>match p with|(.inl p)=>e=.exit 0/\(s=⟨[(1,.loc 1 0)],[(1,(Z4 a0_))],[]⟩)|(.inr p)=>e=.ret/\∃ xs,resL s i26.res=some xs/\ZbC xs=bv p) ?_ N _ ax _ af kr).mono ?_)
 ·clear h af
  rintro i4 o s h hR
  obtain rfl:=hR
  replace h:Zcx N a0_ i4=some o:=h
  unfold Zcx at h
  refine sq (sq (rg (Z6.u 3 (Zac (ys:=[Zaf false a0_.Periods]) (h:=Zap eI64)) Z6.f) (tq (it h (λaC h=>?_) (λaC h=>?_)))))
  ·refine sk (tq (kq (sq (bk (sq ?_)))))
   obtain ⟨aE,hj,h⟩:=bs h
   refine rgR (λs=>s=⟨[(1,.loc 1 0),(3,iv i4),(36,bv aE)],[(1,(Z4 a0_))],[]⟩) ?_ ?_
   ·clear h
    obtain ⟨ad,ai,hj⟩:=bs hj
    refine (EP.u 3 (Zac (ys:=[Zaf false a0_.Periods,iv i4]) (h:=Zaa eI64 ai)) (EP.u 0 (Zao (sz:=1) (off:=0) (cs:=[.int .i64 ad]) (r:=iv ad) eI64 ai) ?_))
    rcases ZaD hj with ⟨aB,hj⟩|⟨aA,hj⟩
    ·obtain rfl:=Zan hj
     exact (EP.u 0 (Z9 (c:=(decide (ad<1))) (h:=aB)) (EP.f kr))
    refine (EP.u 0 (Z9 (c:=(decide (ad<1))) (h:=aA)) ?_)
    obtain ⟨aD,ag,hj⟩:=bs hj
    obtain rfl:=Zan hj
    exact (EP.u 4 (Zac (ys:=[Zaf false a0_.Periods,iv i4]) (h:=Zaa eI64 ag)) (EP.u 0 (Zao (sz:=1) (off:=0) (cs:=[.int .i64 aD]) (r:=iv aD) eI64 ag) (EP.f kr)))
   clear hj
   rintro s hR
   obtain rfl:=hR
   refine tq (it h (λaz h=>?_) (λaz h=>?_))
   ·refine sq (rg Z6.f (tq (rt (br (tr ?_)))))
    cases h
    exact ⟨_,rfl,rfl,Zar kr⟩
   refine sk (bn (tq (kq (rg Z6.f ?_))))
   cases h
   exact ⟨_,rfl,kr⟩
  refine kq (xq (tx ?_))
  cases h
  exact ⟨_,rfl,rfl,kr⟩
 rintro e s hq
 rcases ax with aK|aG
 ·dsimp only at h hq
  obtain ⟨rfl,hR⟩:=hq
  obtain rfl:=hR
  refine bx (tq (sq (sq (rg Z6.f (tq (bk ?_))))))
  obtain ⟨ae,a4,h⟩:=bs h
  refine ZaN ((ZaA (λ(x:Int) s=>s=⟨[(1,.loc 1 0),(4,iv x)],[(1,(Z4 a0_))],[]⟩) (λx:Int=>Zcw N a0_ x) (λ(p:(Unit)⊕(Bool)) e s=>match p with|(.inl p)=>e=.exit 2/\(s=⟨[(1,.loc 1 0)],[(1,(Z4 a0_))],[]⟩)|(.inr p)=>e=.ret/\∃ xs,resL s i26.res=some xs/\ZbC xs=bv p) ?_ N _ ae _ a4 kr).mono ?_)
  ·clear h a4
   rintro ac o s h hR
   obtain rfl:=hR
   replace h:Zcw N a0_ ac=some o:=h
   unfold Zcw at h
   refine sq (sq (rg (Z6.u 3 (Zac (ys:=[Zai false a0_.Uses]) (h:=Zap ZaF)) Z6.f) (tq (it h (λav h=>?_) (λav h=>?_)))))
   ·refine sk (tq (kq (sq (bk (sq ?_)))))
    obtain ⟨a0,a7,h⟩:=bs h
    refine rg (Z6.u 3 (Zac (ys:=[Zai false a0_.Uses,iv ac]) (h:=Zaa ZaF a7)) (Z6.u 0 (Zao (sz:=4) (off:=0) (cs:=[.int .i64 a0.Stream,.int .i64 a0.Port,.int .i64 a0.From,.int .i64 a0.Long]) (r:=.agg (ZaT a0)) ZaF a7) Z6.f)) (tq (sq (sq (rgX ⟨[(1,.loc 1 0),(4,iv ac),(5,.loc 5 0),(69,bv ((decide (a0.Stream<0))||((decide (a0.Stream≥((List.length a0_.Periods:Nat):Int)))||((decide (a0.Port<0))||(decide (a0.Port≥48))))))],[(1,(Z4 a0_)),(5,(ZaT a0))],[]⟩ ?_ ?_))))
    ·rcases Bool.eq_false_or_eq_true (decide (a0.Stream<0)) with ab|a1
     ·exact (EP.u 2 (Z9 (c:=(decide (a0.Stream<0))) (h:=ab)) (EP.f (by simp only [ab];kernel_rfl)))
     refine (EP.u 2 (Z9 (c:=(decide (a0.Stream<0))) (h:=a1)) (EP.u 5 (Zac (ys:=[Zaf false a0_.Periods]) (h:=Zap eI64)) ?_))
     rcases Bool.eq_false_or_eq_true (decide (a0.Stream≥((List.length a0_.Periods:Nat):Int))) with aa|a2
     ·exact (EP.u 0 (Z9 (c:=(decide (a0.Stream≥((List.length a0_.Periods:Nat):Int)))) (h:=aa)) (EP.f (by simp only [a1,aa];kernel_rfl)))
     refine (EP.u 0 (Z9 (c:=(decide (a0.Stream≥((List.length a0_.Periods:Nat):Int)))) (h:=a2)) ?_)
     rcases Bool.eq_false_or_eq_true (decide (a0.Port<0)) with a9|a8
     ·exact (EP.u 4 (Z9 (c:=(decide (a0.Port<0))) (h:=a9)) (EP.f (by simp only [a1,a2,a9];kernel_rfl)))
     exact (EP.u 4 (Z9 (c:=(decide (a0.Port<0))) (h:=a8)) (EP.f (by simp only [a1,a2,a8];kernel_rfl)))
    refine tq (it h (λau h=>?_) (λau h=>?_))
    ·refine sq (rg Z6.f (tq (rt (tr (br (tr ?_))))))
     cases h
     exact ⟨_,rfl,rfl,Zar kr⟩
    refine sk (tq (kq (sq ?_)))
    obtain ⟨ay,hj,h⟩:=bs h
    refine rqR (λs=>s=⟨[(1,.loc 1 0),(4,iv ac),(99,bv ay)],[(1,(Z4 a0_))],[]⟩) ?_ ?_
    ·clear h
     rcases ZaD hj with ⟨ar,hj⟩|⟨aq,hj⟩
     ·obtain rfl:=Zan hj
      exact (EP.u 2 (Z9 (c:=(decide (a0.From<0))) (h:=ar)) (EP.f kr))
     refine (EP.u 2 (Z9 (c:=(decide (a0.From<0))) (h:=aq)) ?_)
     obtain ⟨a3,a6,hj⟩:=bs hj
     refine (EP.u 7 (Zac (ys:=[Zaf false a0_.Periods,iv a0.Stream]) (h:=Zaa eI64 a6)) (EP.u 0 (ZaK (Zao (sz:=1) (off:=0) (cs:=[.int .i64 a3]) (r:=iv a3) eI64 a6)) ?_))
     rcases ZaD hj with ⟨ap,hj⟩|⟨ao,hj⟩
     ·obtain rfl:=Zan hj
      exact (EP.u 0 (Z9 (c:=(decide (a0.From≥a3))) (h:=ap)) (EP.f kr))
     refine (EP.u 0 (Z9 (c:=(decide (a0.From≥a3))) (h:=ao)) ?_)
     rcases ZaD hj with ⟨an,hj⟩|⟨am,hj⟩
     ·obtain rfl:=Zan hj
      exact (EP.u 4 (Z9 (c:=(decide (a0.Long<1))) (h:=an)) (EP.f kr))
     refine (EP.u 4 (Z9 (c:=(decide (a0.Long<1))) (h:=am)) ?_)
     obtain ⟨aj,a5,hj⟩:=bs hj
     obtain rfl:=Zan hj
     exact (EP.u 8 (Zac (ys:=[Zaf false a0_.Periods,iv a0.Stream]) (h:=Zaa eI64 a5)) (EP.u 0 (ZaK (Zao (sz:=1) (off:=0) (cs:=[.int .i64 aj]) (r:=iv aj) eI64 a5)) (EP.f kr)))
    clear hj
    rintro s hR
    obtain rfl:=hR
    refine tq (it h (λal h=>?_) (λal h=>?_))
    ·refine sq (rg Z6.f (tq (rt (br (tr ?_)))))
     cases h
     exact ⟨_,rfl,rfl,Zar kr⟩
    refine sk (bn (tq (kq (rg Z6.f ?_))))
    cases h
    exact ⟨_,rfl,kr⟩
   refine kq (xq (tx ?_))
   cases h
   exact ⟨_,rfl,rfl,kr⟩
  rintro e s hq
  rcases ae with aJ|aI
  ·dsimp only at h hq
   obtain ⟨rfl,hR⟩:=hq
   obtain rfl:=hR
   refine bx (tq (sq ?_))
   obtain ⟨aw,ak,h⟩:=bs h
   refine rg (Z6.v 2 (Zaw (hc:=Zk8 N a0_.Periods aw ak)) Z6.f) (tq (rt ?_))
   cases h
   exact Zar kr
  dsimp only at h hq
  obtain ⟨rfl,hq⟩:=hq
  refine br (tr ?_)
  cases h
  exact hq
 dsimp only at h hq
 obtain ⟨rfl,hq⟩:=hq
 refine br (tr ?_)
 cases h
 exact hq
theorem Zkq (N:Nat)(a0_:Z8)(a1_:(List Z7))(r:Bool)(h:ZeY N a0_ a1_=some r):Za9 Try.prog 27 [.agg (Z4 a0_),Z5 false a1_] (bv r):=by
 unfold ZeY at h
 have hH  := hp0
 refine ZaC ZAt rfl rfl (Zat _ _ _ ?_) rfl
 refine sq (rg Z6.f (tq (sq (sq (rgX ⟨[(1,Z5 false a1_),(2,.loc 2 0),(17,bv ((decide (((List.length a1_:Nat):Int)<1))||(decide (((List.length a1_:Nat):Int)>2000))))],[(2,(Z4 a0_))],[]⟩ ?_ ?_)))))
 ·refine (EP.u 1 (Zac (ys:=[Z5 false a1_]) (h:=Zap Zab)) ?_)
  rcases Bool.eq_false_or_eq_true (decide (((List.length a1_:Nat):Int)<1)) with hc1|hc2
  ·exact (EP.u 0 (Z9 (c:=(decide (((List.length a1_:Nat):Int)<1))) (h:=hc1)) (EP.f (by simp only [hc1];kernel_rfl)))
  exact (EP.u 0 (Z9 (c:=(decide (((List.length a1_:Nat):Int)<1))) (h:=hc2)) (EP.u 2 (Zac (ys:=[Z5 false a1_]) (h:=Zap Zab)) (EP.f (by simp only [hc2];kernel_rfl))))
 refine tq (it h (λhc3 h=>?_) (λhc3 h=>?_))
 ·refine sq (rg Z6.f (tq (rt (tr ?_))))
  cases h
  exact Zar kr
 refine sk (tq (kq (sq (sq (rg Z6.f (tq (bk ?_)))))))
 obtain ⟨bm,b0,h⟩:=bs h
 refine ZaN ((ZaA (λ(x:Int) s=>s=⟨[(1,Z5 false a1_),(2,.loc 2 0),(5,iv x)],[(2,(Z4 a0_))],[]⟩) (λx:Int=>ZcU N a0_ a1_ x) (λ(p:(Unit)⊕(Bool)) e s=>match p with|(.inl p)=>e=.exit 0/\(s=⟨[(1,Z5 false a1_)],[],[]⟩)|(.inr p)=>e=.ret/\∃ xs,resL s i27.res=some xs/\ZbC xs=bv p) ?_ N _ bm _ b0 kr).mono ?_)
 ·clear h b0
  rintro i4 o s h hR
  obtain rfl:=hR
  replace h:ZcU N a0_ a1_ i4=some o:=h
  unfold ZcU at h
  refine sq (sq (rg (Z6.u 2 (Zac (ys:=[Z5 false a1_]) (h:=Zap Zab)) Z6.f) (tq (it h (λbI h=>?_) (λbI h=>?_)))))
  ·refine sk (tq (kq (sq (bk (sq ?_)))))
   obtain ⟨bU,hj,h⟩:=bs h
   refine rqR (λs=>s=⟨[(1,Z5 false a1_),(2,.loc 2 0),(5,iv i4),(47,bv bU)],[(2,(Z4 a0_))],[]⟩) ?_ ?_
   ·clear h
    obtain ⟨aV,b2,hj⟩:=bs hj
    refine (EP.u 2 (Zac (ys:=[Z5 false a1_,iv i4]) (h:=Zaa Zab b2)) (EP.u 1 (ZaK (Zao (sz:=2) (off:=0) (cs:=[.int .i64 aV.Stream]) (r:=iv aV.Stream) Zab b2)) ?_))
    rcases ZaD hj with ⟨bG,hj⟩|⟨bE,hj⟩
    ·obtain rfl:=Zan hj
     exact (EP.u 0 (Z9 (c:=(decide (aV.Stream<0))) (h:=bG)) (EP.f kr))
    refine (EP.u 0 (Z9 (c:=(decide (aV.Stream<0))) (h:=bE)) ?_)
    obtain ⟨aU,b1,hj⟩:=bs hj
    refine (EP.u 3 (Zac (ys:=[Z5 false a1_,iv i4]) (h:=Zaa Zab b1)) (EP.u 1 (ZaK (Zao (sz:=2) (off:=0) (cs:=[.int .i64 aU.Stream]) (r:=iv aU.Stream) Zab b1)) (EP.u 2 (Zac (ys:=[Zaf false a0_.Periods]) (h:=Zap eI64)) ?_)))
    rcases ZaD hj with ⟨bD,hj⟩|⟨bC,hj⟩
    ·obtain rfl:=Zan hj
     exact (EP.u 0 (Z9 (c:=(decide (aU.Stream≥((List.length a0_.Periods:Nat):Int)))) (h:=bD)) (EP.f kr))
    refine (EP.u 0 (Z9 (c:=(decide (aU.Stream≥((List.length a0_.Periods:Nat):Int)))) (h:=bC)) ?_)
    obtain ⟨bR,bq,hj⟩:=bs hj
    obtain rfl:=Zan hj
    exact (EP.u 5 (Zdn (hc:=Zkm N a0_ a1_ i4 bR bq)) (EP.f kr))
   clear hj
   rintro s hR
   obtain rfl:=hR
   refine tq (it h (λbB h=>?_) (λbB h=>?_))
   ·refine sq (rg Z6.f (tq (rt (br (tr ?_)))))
    cases h
    exact ⟨_,rfl,rfl,Zar kr⟩
   refine sk (bn (tq (kq (rg Z6.f ?_))))
   cases h
   exact ⟨_,rfl,kr⟩
  refine kq (xq (tx ?_))
  cases h
  exact ⟨_,rfl,rfl,kr⟩
 rintro e s hq
 rcases bm with c2|bY
 ·dsimp only at h hq
  obtain ⟨rfl,hR⟩:=hq
  obtain rfl:=hR
  refine bx (tq (sq ?_))
  obtain ⟨bT,bt,h⟩:=bs h
  obtain ⟨aW,bl,bJ,bK,bi,hH⟩:=HP.make eI64 hH bt
  replace hH:HP _ [.arr aW 1 false (List.map eI64 bT)]:=hH
  have ai:=Za8 (HP.get hH 0 rfl)
  refine rgS ⟨[(1,Z5 false a1_),(6,aW)],[],bl⟩ (Z6.u 1 (Zac (ys:=[Z5 false a1_]) (h:=Zap Zab)) (Z6.h 0 (Zkd (H:=[]) (zero:=[.int .i64 0]) (bytes:=8) kr kr kr bJ bK bi) Z6.f)) (by cases ai<;>kernel_rfl) (tq (sq (sq (rgS ⟨[(1,Z5 false a1_),(6,aW),(7,iv 0)],[],bl⟩ Z6.f (by cases ai<;>kernel_rfl) (tq (bk ?_))))))
  obtain ⟨ak,aq,h⟩:=bs h
  refine ZaN ((ZaA (λ(x:Int×(List Int)) s=>∃ (ae:AV) (aj:List HO),s=⟨[(1,Z5 false a1_),(6,ae),(7,iv x.1)],[],aj⟩/\HP aj [.arr ae 1 false (List.map eI64 x.2)]) (λx:Int×(List Int)=>Zck N a1_ x.1 x.2) (λ(p:(List Int)) e s=>e=.exit 2/\(∃ (a4:AV) (a5:List HO),s=⟨[(1,Z5 false a1_),(6,a4)],[],a5⟩/\HP a5 [.arr a4 1 false (List.map eI64 p)])) ?_ N _ ak _ aq ⟨aW,bl,(by show _=_;cases ai<;>kernel_rfl),(HP.pick hH [0] rfl)⟩).mono ?_)
  ·clear h aq
   rintro ⟨a3,bp⟩ o s h hR
   obtain ⟨ae,aj,rfl,hH⟩:=hR
   replace hH:HP _ [.arr ae 1 false (List.map eI64 bp)]:=hH
   have ac:=Za8 (HP.get hH 0 rfl)
   replace h:Zck N a1_ a3 bp=some o:=h
   unfold Zck at h
   refine sq (sq (rgS ⟨[(1,Z5 false a1_),(6,ae),(7,iv a3),(54,bv (decide (a3<((List.length a1_:Nat):Int))))],[],aj⟩ (Z6.u 2 (Zac (ys:=[Z5 false a1_]) (h:=Zap Zab)) Z6.f) (by cases ac<;>kernel_rfl) (tq (it h (λbf h=>?_) (λbf h=>?_)))))
   ·refine sk (tq (kq (sq (bk (sq (rgS ⟨[(1,Z5 false a1_),(6,ae),(7,iv a3),(8,iv 0)],[],aj⟩ Z6.f (by cases ac<;>kernel_rfl) (tq (bk ?_))))))))
    obtain ⟨aY,ar,h⟩:=bs h
    refine ZaN ((ZaA (λ(x:Int×(List Int)) s=>∃ (a0:AV) (a7:List HO),s=⟨[(1,Z5 false a1_),(6,a0),(7,iv a3),(8,iv x.1)],[],a7⟩/\HP a7 [.arr a0 1 false (List.map eI64 x.2)]) (λx:Int×(List Int)=>Zcj N a1_ a3 x.1 x.2) (λ(p:(List Int)) e s=>e=.exit 4/\(∃ (ab:AV) (ag:List HO),s=⟨[(1,Z5 false a1_),(6,ab),(7,iv a3)],[],ag⟩/\HP ag [.arr ab 1 false (List.map eI64 p)])) ?_ N _ aY _ ar ⟨ae,aj,(by show _=_;cases ac<;>kernel_rfl),(HP.pick hH [0] rfl)⟩).mono ?_)
    ·clear h ar
     rintro ⟨a6,ao⟩ o s h hR
     obtain ⟨a0,a7,rfl,hH⟩:=hR
     replace hH:HP _ [.arr a0 1 false (List.map eI64 ao)]:=hH
     have a1:=Za8 (HP.get hH 0 rfl)
     replace h:Zcj N a1_ a3 a6 ao=some o:=h
     unfold Zcj at h
     refine sq (sq ?_)
     obtain ⟨an,aJ,h⟩:=bs h
     refine rgS ⟨[(1,Z5 false a1_),(6,a0),(7,iv a3),(8,iv a6),(64,bv (decide (a6<((List.length an.Arms:Nat):Int))))],[],a7⟩ (Z6.u 3 (Zac (ys:=[Z5 false a1_,iv a3]) (h:=Zaa Zab aJ)) (Z6.u 1 (Zao (sz:=2) (off:=1) (cs:=[.sl 4 false (List.map Zah an.Arms)]) (r:=Zak false an.Arms) Zab aJ) (Z6.u 0 (Zac (ys:=[Zak false an.Arms]) (h:=Zap Zah)) Z6.f))) (by cases a1<;>kernel_rfl) (tq (it h (λbe h=>?_) (λbe h=>?_)))
     ·refine sk (tq (kq ?_))
      obtain ⟨aZ,au,h⟩:=bs h
      refine ZdQ [1,6,7,8] (λs=>∃ (aa:AV) (af:List HO),s=⟨[(1,Z5 false a1_),(6,aa),(7,iv a3),(8,iv a6)],[],af⟩/\HP af [.arr aa 1 false (List.map eI64 aZ)]) ?_ ?_
      ·clear h
       have h:=au
       refine bk (sq ?_)
       obtain ⟨aQ,aI,h⟩:=bs h
       obtain ⟨aM,aG,h⟩:=bs h
       refine rgS ⟨[(1,Z5 false a1_),(6,a0),(7,iv a3),(8,iv a6),(76,bv (aM.By==(-1)))],[],a7⟩ (Z6.u 2 (Zac (ys:=[Z5 false a1_,iv a3]) (h:=Zaa Zab aI)) (Z6.u 1 (Zao (sz:=2) (off:=1) (cs:=[.sl 4 false (List.map Zah aQ.Arms)]) (r:=Zak false aQ.Arms) Zab aI) (Z6.u 1 (Zac (ys:=[Zak false aQ.Arms,iv a6]) (h:=Zaa Zah aG)) (Z6.u 1 (Zao (sz:=4) (off:=2) (cs:=[.int .i64 aM.By]) (r:=iv aM.By) Zah aG) Z6.f)))) (by cases a1<;>kernel_rfl) (tq (it h (λbd h=>?_) (λbd h=>?_)))
       ·obtain ⟨aL,aE,h⟩:=bs h
        obtain ⟨ad,aD,h⟩:=bs h
        obtain ⟨a8,aC,h⟩:=bs h
        obtain ⟨bX,bQ,_,bz,aT,bA,az⟩:=HP.elem (k:=0) (a:=a0) (sz:=1) (frz:=false) eI64 hH rfl aC
        obtain ⟨c1,aB,h⟩:=bs h
        obtain ⟨bW,bM,_,ax,aS,ay,aw⟩:=HP.elem (k:=0) (a:=a0) (sz:=1) (frz:=false) eI64 hH rfl aB
        obtain ⟨ba,bj,hH⟩:=HP.setRow (k:=0) (off:=0) (cs:=[iv (w64 (a8+1))]) (ps:=[.int .i64 (w64 (a8+1))]) (e':=(w64 (a8+1))) eI64 hH rfl ay aS (ax rfl) aB kr kr
        replace hH:HP _ [.arr a0 1 false (List.map eI64 (List.set ao (Int.toNat ad.Next) (w64 (a8+1))))]:=hH
        refine rgS ⟨[(1,Z5 false a1_),(6,a0),(7,iv a3),(8,iv a6)],[],ba⟩ (Z6.u 3 (Zac (ys:=[Z5 false a1_,iv a3]) (h:=Zaa Zab aE)) (Z6.u 1 (Zao (sz:=2) (off:=1) (cs:=[.sl 4 false (List.map Zah aL.Arms)]) (r:=Zak false aL.Arms) Zab aE) (Z6.u 1 (Zac (ys:=[Zak false aL.Arms,iv a6]) (h:=Zaa Zah aD)) (Z6.u 1 (Zao (sz:=4) (off:=3) (cs:=[.int .i64 ad.Next]) (r:=iv ad.Next) Zah aD) (Z6.u 0 (Zac (ys:=[a0,iv ad.Next]) (by cases a1<;>kernel_rfl) (az .i64)) (Z6.u 0 (Zc7 (H:=a7) (off:=0) (cs:=[.int .i64 a8]) (r:=iv a8) eI64 aC aT) (Z6.u 1 (Zac (ys:=[a0,iv ad.Next]) (by cases a1<;>kernel_rfl) (aw .i64)) (Z6.o 0 (ZcI (H:=a7) (v:=iv (w64 (a8+1))) (hw:=bj)) Z6.f)))))))) (by cases a1<;>kernel_rfl) (bn ?_)
        cases h
        exact ⟨rfl,⟨a0,ba,(by show _=_;cases a1<;>kernel_rfl),(HP.pick hH [0] rfl)⟩⟩
       refine sk (bn ?_)
       cases h
       exact ⟨rfl,⟨a0,a7,(by show _=_;cases a1<;>kernel_rfl),(HP.pick hH [0] rfl)⟩⟩
      clear au
      rintro s hR
      obtain ⟨aa,af,rfl,hH⟩:=hR
      replace hH:HP _ [.arr aa 1 false (List.map eI64 aZ)]:=hH
      have al:=Za8 (HP.get hH 0 rfl)
      refine rgS ⟨[(1,Z5 false a1_),(6,aa),(7,iv a3),(8,iv (w64 (a6+1)))],[],af⟩ Z6.f (by cases al<;>kernel_rfl) ?_
      cases h
      exact ⟨_,rfl,⟨aa,af,(by show _=_;cases al<;>kernel_rfl),(HP.pick hH [0] rfl)⟩⟩
     refine kq (xq (tx ?_))
     cases h
     exact ⟨_,rfl,rfl,⟨a0,a7,(by show _=_;cases a1<;>kernel_rfl),(HP.pick hH [0] rfl)⟩⟩
    rintro e s hq
    obtain ⟨rfl,hR⟩:=hq
    obtain ⟨ab,ag,rfl,hH⟩:=hR
    replace hH:HP _ [.arr ab 1 false (List.map eI64 aY)]:=hH
    have am:=Za8 (HP.get hH 0 rfl)
    refine bx (bn (tq (rgS ⟨[(1,Z5 false a1_),(6,ab),(7,iv (w64 (a3+1)))],[],ag⟩ Z6.f (by cases am<;>kernel_rfl) ?_)))
    cases h
    exact ⟨_,rfl,⟨ab,ag,(by show _=_;cases am<;>kernel_rfl),(HP.pick hH [0] rfl)⟩⟩
   refine kq (xq (tx ?_))
   cases h
   exact ⟨_,rfl,rfl,⟨ae,aj,(by show _=_;cases ac<;>kernel_rfl),(HP.pick hH [0] rfl)⟩⟩
  rintro e s hq
  obtain ⟨rfl,hR⟩:=hq
  obtain ⟨a4,a5,rfl,hH⟩:=hR
  replace hH:HP _ [.arr a4 1 false (List.map eI64 ak)]:=hH
  have a2:=Za8 (HP.get hH 0 rfl)
  refine bx (tq (sq (sq (rgS ⟨[(1,Z5 false a1_),(6,a4),(9,iv 1)],[],a5⟩ Z6.f (by cases a2<;>kernel_rfl) (tq (bk ?_))))))
  obtain ⟨aX,ap,h⟩:=bs h
  refine ZaN ((ZaA (λ(x:Int) s=>s=⟨[(1,Z5 false a1_),(6,a4),(9,iv x)],[],a5⟩) (λx:Int=>Zci N a1_ ak x) (λ(p:(Unit)⊕(Bool)) e s=>match p with|(.inl p)=>e=.exit 6/\(s=⟨[],[],a5⟩)|(.inr p)=>e=.ret/\∃ xs,resL s i27.res=some xs/\ZbC xs=bv p) ?_ N _ aX _ ap (by show _=_;cases a2<;>kernel_rfl)).mono ?_)
  ·clear h ap
   rintro a9 o s h hR
   obtain rfl:=hR
   replace h:Zci N a1_ ak a9=some o:=h
   unfold Zci at h
   refine sq (sq (rgS ⟨[(1,Z5 false a1_),(6,a4),(9,iv a9),(94,bv (decide (a9<((List.length a1_:Nat):Int))))],[],a5⟩ (Z6.u 2 (Zac (ys:=[Z5 false a1_]) (h:=Zap Zab)) Z6.f) (by cases a2<;>kernel_rfl) (tq (it h (λbc h=>?_) (λbc h=>?_)))))
   ·refine sk (tq (kq (sq (bk (sq ?_)))))
    obtain ⟨aK,aA,h⟩:=bs h
    obtain ⟨bV,bL,_,bu,aR,bw,av⟩:=HP.elem (k:=0) (a:=a4) (sz:=1) (frz:=false) eI64 hH rfl aA
    refine rgS ⟨[(1,Z5 false a1_),(6,a4),(9,iv a9),(101,bv (aK != 1))],[],a5⟩ (Z6.u 2 (Zac (ys:=[a4,iv a9]) (by cases a2<;>kernel_rfl) (av .i64)) (Z6.u 0 (Zc7 (H:=a5) (off:=0) (cs:=[.int .i64 aK]) (r:=iv aK) eI64 aA aR) Z6.f)) (by cases a2<;>kernel_rfl) (tq (it h (λbb h=>?_) (λbb h=>?_)))
    ·refine sq (rgS ⟨[(4,bv false)],[],a5⟩ Z6.f kr ?_)
     replace hH:HP _ []:=HP.pick hH [] rfl
     refine tq (rt (br (tr ?_)))
     cases h
     exact ⟨_,rfl,rfl,Zar kr⟩
    refine sk (bn (tq (kq (rgS ⟨[(1,Z5 false a1_),(6,a4),(9,iv (w64 (a9+1)))],[],a5⟩ Z6.f (by cases a2<;>kernel_rfl) ?_))))
    cases h
    exact ⟨_,rfl,(by show _=_;cases a2<;>kernel_rfl)⟩
   refine kq ?_
   replace hH:HP _ []:=HP.pick hH [] rfl
   refine xq (tx ?_)
   cases h
   exact ⟨_,rfl,rfl,kr⟩
  rintro e s hq
  rcases aX with c0|bZ
  ·dsimp only at h hq
   obtain ⟨rfl,hR⟩:=hq
   obtain rfl:=hR
   replace hH:HP _ []:=HP.pick hH [] rfl
   refine bx (tq (sq (rg Z6.f (tq (rt ?_)))))
   cases h
   exact Zar kr
  dsimp only at h hq
  obtain ⟨rfl,hq⟩:=hq
  refine br (tr ?_)
  cases h
  exact hq
 dsimp only at h hq
 obtain ⟨rfl,hq⟩:=hq
 refine br (tr ?_)
 cases h
 exact hq
theorem ZhV (N:Nat)(a0_:Z8)(a1_:(List Int))(r:Bool)(h:Zdt N a0_ a1_=some r):Za9 Try.prog 32 [.agg (Z4 a0_),Zaf false a1_] (bv r):=by
 unfold Zdt at h
 have hH  := hp0
 refine ZaC ZAo rfl rfl (Zat _ _ _ ?_) rfl
 refine sq (rg Z6.f (tq (sq (sq (rg (Z6.u 1 (Zac (ys:=[Zaf false a1_]) (h:=Zap eI64)) (Z6.u 2 (Zac (ys:=[Zaf false a0_.Periods]) (h:=Zap eI64)) Z6.f)) (tq (it h (λhc1 h=>?_) (λhc1 h=>?_))))))))
 ·refine sq (rg Z6.f (tq (rt (tr ?_))))
  cases h
  exact Zar kr
 refine sk (tq (kq (sq (sq (rg Z6.f (tq (bk ?_)))))))
 obtain ⟨a3,a0,h⟩:=bs h
 refine ZaN ((ZaA (λ(x:Int) s=>s=⟨[(1,Zaf false a1_),(2,.loc 2 0),(5,iv x)],[(2,(Z4 a0_))],[]⟩) (λx:Int=>ZbO N a0_ a1_ x) (λ(p:(Unit)⊕(Bool)) e s=>match p with|(.inl p)=>e=.exit 0/\(s=⟨[],[],[]⟩)|(.inr p)=>e=.ret/\∃ xs,resL s i32.res=some xs/\ZbC xs=bv p) ?_ N _ a3 _ a0 kr).mono ?_)
 ·clear h a0
  rintro i2 o s h hR
  obtain rfl:=hR
  replace h:ZbO N a0_ a1_ i2=some o:=h
  unfold ZbO at h
  refine sq (sq (rg (Z6.u 2 (Zac (ys:=[Zaf false a1_]) (h:=Zap eI64)) Z6.f) (tq (it h (λa6 h=>?_) (λa6 h=>?_)))))
  ·refine sk (tq (kq (sq (bk (sq ?_)))))
   obtain ⟨a2,a1,h⟩:=bs h
   obtain ⟨a7,a4,h⟩:=bs h
   refine rq (Z6.u 4 (Zac (ys:=[Zaf false a1_,iv i2]) (h:=Zaa eI64 a1)) (Z6.u 0 (ZaK (Zao (sz:=1) (off:=0) (cs:=[.int .i64 a2]) (r:=iv a2) eI64 a1)) (Z6.v 0 (Zaw (hc:=Zir N a0_ i2 a2 a7 a4)) Z6.f))) (tq (it h (λa5 h=>?_) (λa5 h=>?_)))
   ·refine sq (rg Z6.f (tq (rt (br (tr ?_)))))
    cases h
    exact ⟨_,rfl,rfl,Zar kr⟩
   refine sk (bn (tq (kq (rg Z6.f ?_))))
   cases h
   exact ⟨_,rfl,kr⟩
  refine kq (xq (tx ?_))
  cases h
  exact ⟨_,rfl,rfl,kr⟩
 rintro e s hq
 rcases a3 with a9|a8
 ·dsimp only at h hq
  obtain ⟨rfl,hR⟩:=hq
  obtain rfl:=hR
  refine bx (tq (sq (rg Z6.f (tq (rt ?_)))))
  cases h
  exact Zar kr
 dsimp only at h hq
 obtain ⟨rfl,hq⟩:=hq
 refine br (tr ?_)
 cases h
 exact hq
theorem Zjs (N:Nat)(a0_:Z8)(a1_:(List Z7))(a2_:Int)(r:Bool)(h:Zew N a0_ a1_ a2_=some r):Za9 Try.prog 38 [.agg (Z4 a0_),Z5 false a1_,iv a2_] (bv r):=by
 unfold Zew at h
 have hH  := hp0
 refine ZaC ZAi rfl rfl (Zat _ _ _ ?_) rfl
 refine sq (rg Z6.f (tq (sq ?_)))
 obtain ⟨e1,he1,h⟩:=bs h
 obtain ⟨e2,he2,h⟩:=bs h
 refine rq (Z6.u 4 (Zac (ys:=[Z5 false a1_,iv a2_]) (h:=Zaa Zab he1)) (Z6.u 1 (ZaK (Zao (sz:=2) (off:=0) (cs:=[.int .i64 e1.Stream]) (r:=iv e1.Stream) Zab he1)) (Z6.u 0 (Zac (ys:=[Zaf false a0_.Periods,iv e1.Stream]) (h:=Zaa eI64 he2)) (Z6.u 0 (ZaK (Zao (sz:=1) (off:=0) (cs:=[.int .i64 e2]) (r:=iv e2) eI64 he2)) Z6.f)))) (tq (sq (sq ?_)))
 obtain ⟨e3,he3,h⟩:=bs h
 refine rg (Z6.u 2 (Zac (ys:=[Z5 false a1_,iv a2_]) (h:=Zaa Zab he3)) (Z6.u 1 (Zao (sz:=2) (off:=1) (cs:=[.sl 4 false (List.map Zah e3.Arms)]) (r:=Zak false e3.Arms) Zab he3) (Z6.u 0 (Zac (ys:=[Zak false e3.Arms]) (h:=Zap Zah)) Z6.f))) (tq (bk ?_))
 obtain ⟨a3,a1,h⟩:=bs h
 refine ZaN ((ZaA (λ(x:Int×Int) s=>s=⟨[(1,Z5 false a1_),(2,iv a2_),(3,.loc 3 0),(7,iv e2),(8,iv x.1),(24,Zak false e3.Arms),(25,iv ((List.length e3.Arms:Nat):Int)),(26,iv x.2)],[(3,(Z4 a0_))],[]⟩) (λx:Int×Int=>ZcC N a0_ a1_ a2_ e2 e3 x.1 x.2) (λ(p:(Int)⊕(Bool)) e s=>match p with|(.inl p)=>e=.exit 0/\(s=⟨[(7,iv e2),(8,iv p)],[],[]⟩)|(.inr p)=>e=.ret/\∃ xs,resL s i38.res=some xs/\ZbC xs=bv p) ?_ N _ a3 _ a1 kr).mono ?_)
 ·clear h a1
  rintro ⟨i4,i5⟩ o s h hR
  obtain rfl:=hR
  replace h:ZcC N a0_ a1_ a2_ e2 e3 i4 i5=some o:=h
  unfold ZcC at h
  refine sq (rg Z6.f (tq (sq (it h (λac h=>?_) (λac h=>?_)))))
  ·refine sk (tq (kq (sq (bk (sq ?_)))))
   obtain ⟨a0,a2,h⟩:=bs h
   refine rg (Z6.u 0 (Zac (ys:=[Zak false e3.Arms,iv i5]) (h:=Zaa Zah a2)) (Z6.u 0 (Zao (sz:=4) (off:=0) (cs:=[.int .i64 a0.From,.int .i64 a0.To,.int .i64 a0.By,.int .i64 a0.Next]) (r:=.agg (ZaH a0)) Zah a2) Z6.f)) (tq (sq (sq ?_)))
   obtain ⟨ae,hj,h⟩:=bs h
   refine rgR (λs=>s=⟨[(1,Z5 false a1_),(2,iv a2_),(3,.loc 3 0),(7,iv e2),(10,.loc 10 0),(24,Zak false e3.Arms),(25,iv ((List.length e3.Arms:Nat):Int)),(26,iv i5),(54,bv ae)],[(3,(Z4 a0_)),(10,(ZaH a0))],[]⟩) ?_ ?_
   ·clear h
    rcases ZaD hj with ⟨ab,hj⟩|⟨aa,hj⟩
    ·obtain rfl:=Zan hj
     exact (EP.u 3 (Z9 (c:=(a0.From != i4)) (h:=ab)) (EP.f kr))
    refine (EP.u 3 (Z9 (c:=(a0.From != i4)) (h:=aa)) ?_)
    rcases ZaD hj with ⟨a9,hj⟩|⟨a8,hj⟩
    ·obtain rfl:=Zan hj
     exact (EP.u 5 (Z9 (c:=(decide (a0.To<=a0.From))) (h:=a9)) (EP.f kr))
    refine (EP.u 5 (Z9 (c:=(decide (a0.To<=a0.From))) (h:=a8)) ?_)
    rcases ZaD hj with ⟨a7,hj⟩|⟨a6,hj⟩
    ·obtain rfl:=Zan hj
     exact (EP.u 5 (Z9 (c:=(decide (a0.To>e2))) (h:=a7)) (EP.f kr))
    refine (EP.u 5 (Z9 (c:=(decide (a0.To>e2))) (h:=a6)) ?_)
    obtain ⟨ad,a4,hj⟩:=bs hj
    obtain rfl:=Zan hj
    exact (EP.v 6 (Zaw (hc:=Zg4 N a0_ a1_ a2_ a0 ad a4)) (EP.f kr))
   clear hj
   rintro s hR
   obtain rfl:=hR
   refine tq (it h (λa5 h=>?_) (λa5 h=>?_))
   ·refine sq (rg Z6.f (tq (rt (tr (br (tr ?_))))))
    cases h
    exact ⟨_,rfl,rfl,Zar kr⟩
   refine sk (tq (kq (rg Z6.f (bn (tq (kq (rg Z6.f ?_)))))))
   cases h
   exact ⟨_,rfl,kr⟩
  refine kq (xq (tx ?_))
  cases h
  exact ⟨_,rfl,rfl,kr⟩
 rintro e s hq
 rcases a3 with ag|af
 ·dsimp only at h hq
  obtain ⟨rfl,hR⟩:=hq
  obtain rfl:=hR
  refine bx (tq (sq (rg Z6.f (tq (rt ?_)))))
  cases h
  exact Zar kr
 dsimp only at h hq
 obtain ⟨rfl,hq⟩:=hq
 refine br (tr ?_)
 cases h
 exact hq
theorem Zg1 (N:Nat)(a0_:Zaj)(a1_:Zaj)(r:Bool)(h:ZcA N a0_ a1_=some r):Za9 Try.prog 52 [.agg (Zbm a0_),.agg (Zbm a1_)] (bv r):=by
 unfold ZcA at h
 have hH  := hp0
 refine ZaC Zz5 rfl rfl (Zat _ _ _ ?_) rfl
 refine sq (rg Z6.f (tq (sq ?_)))
 obtain ⟨r1,hr1,h⟩:=bs h
 refine rg (Z6.v 4 (Zaw (hc:=Zlc N a0_.Period a1_.Period r1 hr1)) Z6.f) (tq (sq (sq (rg Z6.f (tq (bk ?_))))))
 obtain ⟨a1,a0,h⟩:=bs h
 refine ZaN ((ZaA (λ(x:Int) s=>s=⟨[(2,.loc 2 0),(3,.loc 3 0),(5,iv r1),(6,iv x)],[(2,(Zbm a0_)),(3,(Zbm a1_))],[]⟩) (λx:Int=>Za1 N a0_ a1_ r1 x) (λ(p:(Unit)⊕(Bool)) e s=>match p with|(.inl p)=>e=.exit 0/\(s=⟨[],[],[]⟩)|(.inr p)=>e=.ret/\∃ xs,resL s i52.res=some xs/\ZbC xs=bv p) ?_ N _ a1 _ a0 kr).mono ?_)
 ·clear h a0
  rintro i2 o s h hR
  obtain rfl:=hR
  replace h:Za1 N a0_ a1_ r1 i2=some o:=h
  unfold Za1 at h
  refine sq (sq (rg Z6.f (tq (it h (λa4 h=>?_) (λa4 h=>?_)))))
  ·refine sk (tq (kq (sq (bk (sq ?_)))))
   obtain ⟨a5,a2,h⟩:=bs h
   refine rg (Z6.v 8 (Zaw (hc:=Zla N (w64 ((w64 (a1_.From-a0_.From))-i2)) r1 a5 a2)) Z6.f) (tq (it h (λa3 h=>?_) (λa3 h=>?_)))
   ·refine sq (rg Z6.f (tq (rt (br (tr ?_)))))
    cases h
    exact ⟨_,rfl,rfl,Zar kr⟩
   refine sk (bn (tq (kq (rg Z6.f ?_))))
   cases h
   exact ⟨_,rfl,kr⟩
  refine kq (xq (tx ?_))
  cases h
  exact ⟨_,rfl,rfl,kr⟩
 rintro e s hq
 rcases a1 with a7|a6
 ·dsimp only at h hq
  obtain ⟨rfl,hR⟩:=hq
  obtain rfl:=hR
  refine bx (tq (sq (rg Z6.f (tq (rt ?_)))))
  cases h
  exact Zar kr
 dsimp only at h hq
 obtain ⟨rfl,hq⟩:=hq
 refine br (tr ?_)
 cases h
 exact hq
theorem Zip (N:Nat)(a0_:Int)(a1_:(List Int))(r:Int)(h:ZdX N a0_ a1_=some r):Za9 Try.prog 58 [iv a0_,Zaf false a1_] (iv r):=by
 unfold ZdX at h
 have hH  := hp0
 refine ZaC ZzZ rfl rfl (Zat _ _ _ ?_) rfl
 refine sq (rg Z6.f (tq (sq (rg Z6.f (tq (sq (sq (rg (Z6.u 1 (Zac (ys:=[Zaf false a1_]) (h:=Zap eI64)) Z6.f) (tq (bk ?_))))))))))
 obtain ⟨a8,a0,h⟩:=bs h
 refine ZaN ((ZaA (λ(x:Int×Int) s=>s=⟨[(0,iv a0_),(5,iv x.1),(8,Zaf false a1_),(9,iv ((List.length a1_:Nat):Int)),(10,iv x.2)],[],[]⟩) (λx:Int×Int=>Zbf N a0_ a1_ x.1 x.2) (λ(p:Int) e s=>e=.exit 0/\(s=⟨[(5,iv p)],[],[]⟩)) ?_ N _ a8 _ a0 kr).mono ?_)
 ·clear h a0
  rintro ⟨i1,i2⟩ o s h hR
  obtain rfl:=hR
  replace h:Zbf N a0_ a1_ i1 i2=some o:=h
  unfold Zbf at h
  refine sq (rg Z6.f (tq (sq (it h (λa7 h=>?_) (λa7 h=>?_)))))
  ·refine sk (tq (kq (sq (bk (sq ?_)))))
   obtain ⟨a2,a1,h⟩:=bs h
   refine rg (Z6.u 0 (Zac (ys:=[Zaf false a1_,iv i2]) (h:=Zaa eI64 a1)) (Z6.u 0 (Zao (sz:=1) (off:=0) (cs:=[.int .i64 a2]) (r:=iv a2) eI64 a1) Z6.f)) (tq (sq ?_))
   obtain ⟨a3,a4,h⟩:=bs h
   obtain ⟨a9,a5,h⟩:=bs h
   refine rg (Z6.v 3 (Zaw (hc:=Zf6 N i1 a2 a3 a4)) (Z6.u 0 (Zac (ys:=[iv i1,iv a3]) (h:=ZnE a5)) Z6.f)) (tq (sq (rg Z6.f (tq (it h (λa6 h=>?_) (λa6 h=>?_))))))
   ·refine kq (xq (bo (tx ?_)))
    cases h
    exact ⟨_,rfl,rfl,kr⟩
   refine sk (bn (tq (kq (rg Z6.f ?_))))
   cases h
   exact ⟨_,rfl,kr⟩
  refine kq (xq (tx ?_))
  cases h
  exact ⟨_,rfl,rfl,kr⟩
 rintro e s hq
 obtain ⟨rfl,hR⟩:=hq
 obtain rfl:=hR
 refine bx (tq (sq (rg Z6.f (tq (rt ?_)))))
 cases h
 exact Zar kr
theorem Zin (N:Nat)(a0_:Zaj)(a1_:Zaj)(r:Int×Int×Int)(h:ZdW N a0_ a1_=some r):Za9 Try.prog 61 [.agg (Zbm a0_),.agg (Zbm a1_)] (.tup [iv r.1,iv r.2.1,iv r.2.2]):=by
 unfold ZdW at h
 have hH  := hp0
 refine ZaC ZzW rfl rfl (Zat _ _ _ ?_) rfl
 refine sq (rg Z6.f (tq (sq ?_)))
 obtain ⟨r1,hr1,h⟩:=bs h
 refine rg (Z6.v 4 (Zaw (hc:=Zf6 N a0_.Period a1_.Period r1 hr1)) Z6.f) (tq (sq (rq Z6.f (tq (rt ?_)))))
 cases h
 exact Zar kr
theorem Ziy (N:Nat)(a0_:Z8)(a1_:(List Z7))(r:Bool)(h:ZdZ N a0_ a1_=some r):Za9 Try.prog 24 [.agg (Z4 a0_),Z5 false a1_] (bv r):=by
 unfold ZdZ at h
 have hH  := hp0
 refine ZaC ZAw rfl rfl (Zat _ _ _ ?_) rfl
 refine sq (rg Z6.f (tq (sq (sq (rgX ⟨[(1,Z5 false a1_),(2,.loc 2 0),(19,bv ((decide (((List.length a1_:Nat):Int)<1))||(decide (((List.length a1_:Nat):Int)>2000))))],[(2,(Z4 a0_))],[]⟩ ?_ ?_)))))
 ·refine (EP.u 1 (Zac (ys:=[Z5 false a1_]) (h:=Zap Zab)) ?_)
  rcases Bool.eq_false_or_eq_true (decide (((List.length a1_:Nat):Int)<1)) with hc1|hc2
  ·exact (EP.u 0 (Z9 (c:=(decide (((List.length a1_:Nat):Int)<1))) (h:=hc1)) (EP.f (by simp only [hc1];kernel_rfl)))
  exact (EP.u 0 (Z9 (c:=(decide (((List.length a1_:Nat):Int)<1))) (h:=hc2)) (EP.u 2 (Zac (ys:=[Z5 false a1_]) (h:=Zap Zab)) (EP.f (by simp only [hc2];kernel_rfl))))
 refine tq (it h (λhc3 h=>?_) (λhc3 h=>?_))
 ·refine sq (rg Z6.f (tq (rt (tr ?_))))
  cases h
  exact Zar kr
 refine sk (tq (kq (sq ?_)))
 obtain ⟨l6,hl6,h⟩:=bs h
 obtain ⟨a4,H5,ha4,hH5,ha4b,hH⟩:=HP.make eI64 hH hl6
 replace hH:HP _ [.arr a4 1 false (List.map eI64 l6)]:=hH
 have hfa4:=Za8 (HP.get hH 0 rfl)
 refine rgS ⟨[(1,Z5 false a1_),(2,.loc 2 0),(5,a4)],[(2,(Z4 a0_))],H5⟩ (Z6.u 1 (Zac (ys:=[Z5 false a1_]) (h:=Zap Zab)) (Z6.h 0 (Zkd (H:=[]) (zero:=[.int .i64 0]) (bytes:=8) kr kr kr ha4 hH5 ha4b) Z6.f)) (by cases hfa4<;>kernel_rfl) (tq (sq (sq (rgS ⟨[(1,Z5 false a1_),(2,.loc 2 0),(5,a4),(23,Z5 false a1_),(24,iv ((List.length a1_:Nat):Int)),(25,iv 0)],[(2,(Z4 a0_))],H5⟩ (Z6.u 1 (Zac (ys:=[Z5 false a1_]) (h:=Zap Zab)) Z6.f) (by cases hfa4<;>kernel_rfl) (tq (ZsO (bk ?_)))))))
 obtain ⟨aD,ak,h⟩:=bs h
 refine ZaN ((ZaA (λ(x:Int×(List Int)) s=>∃ (a7:AV) (H8:List HO),s=⟨[(1,Z5 false a1_),(2,.loc 2 0),(5,a7),(23,Z5 false a1_),(24,iv ((List.length a1_:Nat):Int)),(25,iv x.1)],[(2,(Z4 a0_))],H8⟩/\HP H8 [.arr a7 1 false (List.map eI64 x.2)]) (λx:Int×(List Int)=>ZbK N a0_ a1_ x.1 x.2) (λ(p:((List Int))⊕(Bool)) e s=>match p with|(.inl p)=>e=.exit 0/\(∃ (ae:AV) (aB:List HO),s=⟨[(5,ae)],[],aB⟩/\HP aB [.arr ae 1 false (List.map eI64 p)])|(.inr p)=>e=.ret/\∃ xs,resL s i24.res=some xs/\ZbC xs=bv p) ?_ N _ aD _ ak ⟨a4,H5,(by show _=_;cases hfa4<;>kernel_rfl),(HP.pick hH [0] rfl)⟩).mono ?_)
 ·clear h ak
  rintro ⟨i9,bt⟩ o s h hR
  obtain ⟨a7,H8,rfl,hH⟩:=hR
  replace hH:HP _ [.arr a7 1 false (List.map eI64 bt)]:=hH
  have hfa7:=Za8 (HP.get hH 0 rfl)
  replace h:ZbK N a0_ a1_ i9 bt=some o:=h
  unfold ZbK at h
  refine sq (rgS ⟨[(1,Z5 false a1_),(2,.loc 2 0),(5,a7),(23,Z5 false a1_),(24,iv ((List.length a1_:Nat):Int)),(25,iv i9),(26,bv (decide (i9<((List.length a1_:Nat):Int))))],[(2,(Z4 a0_))],H8⟩ Z6.f (by cases hfa7<;>kernel_rfl) (tq (sq (it h (λbb h=>?_) (λbb h=>?_)))))
  ·refine sk (tq (kq (sq (bk (sq ?_)))))
   obtain ⟨a0,aJ,h⟩:=bs h
   refine rgS ⟨[(1,Z5 false a1_),(2,.loc 2 0),(5,a7),(6,iv i9),(7,.loc 7 0),(23,Z5 false a1_),(24,iv ((List.length a1_:Nat):Int)),(25,iv i9)],[(2,(Z4 a0_)),(7,(ZbB a0))],H8⟩ (Z6.u 1 (Zac (ys:=[Z5 false a1_,iv i9]) (h:=Zaa Zab aJ)) (Z6.u 0 (Zao (sz:=2) (off:=0) (cs:=[.int .i64 a0.Stream,.sl 4 false (List.map Zah a0.Arms)]) (r:=.agg (ZbB a0)) Zab aJ) (Z6.f (h:=(by cases hfa7<;>kernel_rfl))))) (by cases hfa7<;>kernel_rfl) (tq (sq (sq ?_)))
   obtain ⟨bf,hj,h⟩:=bs h
   refine rgR (λs=>s=⟨[(1,Z5 false a1_),(2,.loc 2 0),(5,a7),(7,.loc 7 0),(23,Z5 false a1_),(24,iv ((List.length a1_:Nat):Int)),(25,iv i9),(47,bv bf)],[(2,(Z4 a0_)),(7,(ZbB a0))],H8⟩) ?_ ?_
   ·clear h
    rcases ZaD hj with ⟨ba,hj⟩|⟨b2,hj⟩
    ·obtain rfl:=Zan hj
     exact (EP.u 2 (Z9 (c:=(decide (a0.Stream<0))) (h:=ba)) (EP.f (by show _=_;cases hfa7<;>kernel_rfl)))
    refine (EP.u 2 (Z9 (c:=(decide (a0.Stream<0))) (h:=b2)) (EP.u 5 (Zac (ys:=[Zaf false a0_.Periods]) (h:=Zap eI64)) ?_))
    rcases ZaD hj with ⟨b1,hj⟩|⟨b0,hj⟩
    ·obtain rfl:=Zan hj
     exact (EP.u 0 (Z9 (c:=(decide (a0.Stream≥((List.length a0_.Periods:Nat):Int)))) (h:=b1)) (EP.f (by show _=_;cases hfa7<;>kernel_rfl)))
    refine (EP.u 0 (Z9 (c:=(decide (a0.Stream≥((List.length a0_.Periods:Nat):Int)))) (h:=b0)) ?_)
    obtain ⟨be,aW,hj⟩:=bs hj
    obtain rfl:=Zan hj
    exact (EP.v 5 (Zaw (hc:=Zjs N a0_ a1_ i9 be aW)) (EP.f (by show _=_;cases hfa7<;>kernel_rfl)))
   clear hj
   rintro s hR
   obtain rfl:=hR
   refine tq (it h (λaZ h=>?_) (λaZ h=>?_))
   ·refine sq (rgS ⟨[(4,bv false)],[],H8⟩ Z6.f (by cases hfa7<;>kernel_rfl) ?_)
    replace hH:HP _ []:=HP.pick hH [] rfl
    refine tq (rt (tr (br (tr ?_))))
    cases h
    exact ⟨_,rfl,rfl,Zar kr⟩
   refine sk (tq (kq (sq (rgS ⟨[(1,Z5 false a1_),(2,.loc 2 0),(5,a7),(23,Z5 false a1_),(24,iv ((List.length a1_:Nat):Int)),(25,iv i9),(49,Zak false a0.Arms),(50,iv ((List.length a0.Arms:Nat):Int)),(51,iv 0)],[(2,(Z4 a0_))],H8⟩ (Z6.u 2 (Zac (ys:=[Zak false a0.Arms]) (h:=Zap Zah)) Z6.f) (by cases hfa7<;>kernel_rfl) (tq (bk ?_))))))
   obtain ⟨aE,al,h⟩:=bs h
   refine ZaN ((ZaA (λ(x:Int×(List Int)) s=>∃ (a3:AV) (a6:List HO),s=⟨[(1,Z5 false a1_),(2,.loc 2 0),(5,a3),(23,Z5 false a1_),(24,iv ((List.length a1_:Nat):Int)),(25,iv i9),(49,Zak false a0.Arms),(50,iv ((List.length a0.Arms:Nat):Int)),(51,iv x.1)],[(2,(Z4 a0_))],a6⟩/\HP a6 [.arr a3 1 false (List.map eI64 x.2)]) (λx:Int×(List Int)=>ZbJ N a0 x.1 x.2) (λ(p:(List Int)) e s=>e=.exit 2/\(∃ (aa:AV) (ad:List HO),s=⟨[(1,Z5 false a1_),(2,.loc 2 0),(5,aa),(23,Z5 false a1_),(24,iv ((List.length a1_:Nat):Int)),(25,iv i9)],[(2,(Z4 a0_))],ad⟩/\HP ad [.arr aa 1 false (List.map eI64 p)])) ?_ N _ aE _ al ⟨a7,H8,(by show _=_;cases hfa7<;>kernel_rfl),(HP.pick hH [0] rfl)⟩).mono ?_)
   ·clear h al
    rintro ⟨ab,aM⟩ o s h hR
    obtain ⟨a3,a6,rfl,hH⟩:=hR
    replace hH:HP _ [.arr a3 1 false (List.map eI64 aM)]:=hH
    have a1:=Za8 (HP.get hH 0 rfl)
    replace h:ZbJ N a0 ab aM=some o:=h
    unfold ZbJ at h
    refine sq (rgS ⟨[(1,Z5 false a1_),(2,.loc 2 0),(5,a3),(23,Z5 false a1_),(24,iv ((List.length a1_:Nat):Int)),(25,iv i9),(49,Zak false a0.Arms),(50,iv ((List.length a0.Arms:Nat):Int)),(51,iv ab),(52,bv (decide (ab<((List.length a0.Arms:Nat):Int))))],[(2,(Z4 a0_))],a6⟩ Z6.f (by cases a1<;>kernel_rfl) (tq (sq (it h (λaU h=>?_) (λaU h=>?_)))))
    ·refine sk (tq (kq ?_))
     obtain ⟨aG,am,h⟩:=bs h
     refine ZdQ [1,2,5,23,24,25,49,50,51] (λs=>∃ (a9:AV) (ac:List HO),s=⟨[(1,Z5 false a1_),(2,.loc 2 0),(5,a9),(23,Z5 false a1_),(24,iv ((List.length a1_:Nat):Int)),(25,iv i9),(49,Zak false a0.Arms),(50,iv ((List.length a0.Arms:Nat):Int)),(51,iv ab)],[(2,(Z4 a0_))],ac⟩/\HP ac [.arr a9 1 false (List.map eI64 aG)]) ?_ ?_
     ·clear h
      have h:=am
      refine bk (sq ?_)
      obtain ⟨a2,aw,h⟩:=bs h
      refine rgS ⟨[(1,Z5 false a1_),(2,.loc 2 0),(5,a3),(9,.loc 9 0),(23,Z5 false a1_),(24,iv ((List.length a1_:Nat):Int)),(25,iv i9),(49,Zak false a0.Arms),(50,iv ((List.length a0.Arms:Nat):Int)),(51,iv ab)],[(2,(Z4 a0_)),(9,(ZaH a2))],a6⟩ (Z6.u 0 (Zac (ys:=[Zak false a0.Arms,iv ab]) (h:=Zaa Zah aw)) (Z6.u 0 (Zao (sz:=4) (off:=0) (cs:=[.int .i64 a2.From,.int .i64 a2.To,.int .i64 a2.By,.int .i64 a2.Next]) (r:=.agg (ZaH a2)) Zah aw) (Z6.f (h:=(by cases a1<;>kernel_rfl))))) (by cases a1<;>kernel_rfl) (tq (sq (rgS ⟨[(1,Z5 false a1_),(2,.loc 2 0),(5,a3),(9,.loc 9 0),(23,Z5 false a1_),(24,iv ((List.length a1_:Nat):Int)),(25,iv i9),(49,Zak false a0.Arms),(50,iv ((List.length a0.Arms:Nat):Int)),(51,iv ab),(57,bv (a2.By==(-1)))],[(2,(Z4 a0_)),(9,(ZaH a2))],a6⟩ Z6.f (by cases a1<;>kernel_rfl) (tq (it h (λaT h=>?_) (λaT h=>?_))))))
      ·obtain ⟨a5,av,h⟩:=bs h
       obtain ⟨bj,bd,_,aX,aA,aY,aq⟩:=HP.elem (k:=0) (a:=a3) (sz:=1) (frz:=false) eI64 hH rfl av
       obtain ⟨bu,au,h⟩:=bs h
       obtain ⟨bi,bc,_,ao,az,ap,an⟩:=HP.elem (k:=0) (a:=a3) (sz:=1) (frz:=false) eI64 hH rfl au
       obtain ⟨aL,aV,hH⟩:=HP.setRow (k:=0) (off:=0) (cs:=[iv (w64 (a5+1))]) (ps:=[.int .i64 (w64 (a5+1))]) (e':=(w64 (a5+1))) eI64 hH rfl ap az (ao rfl) au kr kr
       replace hH:HP _ [.arr a3 1 false (List.map eI64 (List.set aM (Int.toNat a2.Next) (w64 (a5+1))))]:=hH
       refine rgS ⟨[(1,Z5 false a1_),(2,.loc 2 0),(5,a3),(23,Z5 false a1_),(24,iv ((List.length a1_:Nat):Int)),(25,iv i9),(49,Zak false a0.Arms),(50,iv ((List.length a0.Arms:Nat):Int)),(51,iv ab)],[(2,(Z4 a0_))],aL⟩ (Z6.u 3 (Zac (ys:=[a3,iv a2.Next]) (by cases a1<;>kernel_rfl) (aq .i64)) (Z6.u 0 (Zc7 (H:=a6) (off:=0) (cs:=[.int .i64 a5]) (r:=iv a5) eI64 av aA) (Z6.u 1 (Zac (ys:=[a3,iv a2.Next]) (by cases a1<;>kernel_rfl) (an .i64)) (Z6.o 0 (ZcI (H:=a6) (v:=iv (w64 (a5+1))) (hw:=aV)) Z6.f)))) (by cases a1<;>kernel_rfl) (bn ?_)
       cases h
       exact ⟨rfl,⟨a3,aL,(by show _=_;cases a1<;>kernel_rfl),(HP.pick hH [0] rfl)⟩⟩
      refine sk (bn ?_)
      cases h
      exact ⟨rfl,⟨a3,a6,(by show _=_;cases a1<;>kernel_rfl),(HP.pick hH [0] rfl)⟩⟩
     clear am
     rintro s hR
     obtain ⟨a9,ac,rfl,hH⟩:=hR
     replace hH:HP _ [.arr a9 1 false (List.map eI64 aG)]:=hH
     have ag:=Za8 (HP.get hH 0 rfl)
     refine rgS ⟨[(1,Z5 false a1_),(2,.loc 2 0),(5,a9),(23,Z5 false a1_),(24,iv ((List.length a1_:Nat):Int)),(25,iv i9),(49,Zak false a0.Arms),(50,iv ((List.length a0.Arms:Nat):Int)),(51,iv (w64 (ab+1)))],[(2,(Z4 a0_))],ac⟩ Z6.f (by cases ag<;>kernel_rfl) ?_
     cases h
     exact ⟨_,rfl,⟨a9,ac,(by show _=_;cases ag<;>kernel_rfl),(HP.pick hH [0] rfl)⟩⟩
    refine kq (xq (tx ?_))
    cases h
    exact ⟨_,rfl,rfl,⟨a3,a6,(by show _=_;cases a1<;>kernel_rfl),(HP.pick hH [0] rfl)⟩⟩
   rintro e s hq
   obtain ⟨rfl,hR⟩:=hq
   obtain ⟨aa,ad,rfl,hH⟩:=hR
   replace hH:HP _ [.arr aa 1 false (List.map eI64 aE)]:=hH
   have ai:=Za8 (HP.get hH 0 rfl)
   refine bx (bn (tq (kq (rgS ⟨[(1,Z5 false a1_),(2,.loc 2 0),(5,aa),(23,Z5 false a1_),(24,iv ((List.length a1_:Nat):Int)),(25,iv (w64 (i9+1)))],[(2,(Z4 a0_))],ad⟩ Z6.f (by cases ai<;>kernel_rfl) ?_))))
   cases h
   exact ⟨_,rfl,⟨aa,ad,(by show _=_;cases ai<;>kernel_rfl),(HP.pick hH [0] rfl)⟩⟩
  refine kq (xq (tx ?_))
  cases h
  exact ⟨_,rfl,rfl,⟨a7,H8,(by show _=_;cases hfa7<;>kernel_rfl),(HP.pick hH [0] rfl)⟩⟩
 rintro e s hq
 rcases aD with af|bm
 ·dsimp only at h hq
  obtain ⟨rfl,hR⟩:=hq
  obtain ⟨ae,aB,rfl,hH⟩:=hR
  replace hH:HP _ [.arr ae 1 false (List.map eI64 af)]:=hH
  have bl:=Za8 (HP.get hH 0 rfl)
  refine bx ?_
  obtain ⟨ax,_,ay,hH⟩:=HP.frz (k:=0) (a:=ae) (sz:=1) (frz:=false) eI64 hH rfl
  replace hH:HP _ [.arr ae 1 true (List.map eI64 af)]:=hH
  refine ⟨⟨[(5,Zaf false af)],[],ax⟩,(Znb 5 (H:=aB) (a:=ae) (by decide) kr kr ay kr),?_⟩
  replace hH:HP _ []:=HP.pick hH [] rfl
  refine tq (sq (sq ?_))
  obtain ⟨a8,aQ,h⟩:=bs h
  refine rg (Z6.u 1 (Zac (ys:=[Zaf false af,iv 1]) (h:=Zj4 eI64 aQ)) (Z6.u 0 (Zac (ys:=[Zaf false a8]) (h:=Zap eI64)) Z6.f)) (tq (bk ?_))
  obtain ⟨aC,aj,h⟩:=bs h
  refine ZaN ((ZaA (λ(x:Int) s=>s=⟨[(68,Zaf false a8),(69,iv ((List.length a8:Nat):Int)),(70,iv x)],[],ax⟩) (λx:Int=>Zb2 N a8 x) (λ(p:(Unit)⊕(Bool)) e s=>match p with|(.inl p)=>e=.exit 4/\(s=⟨[],[],ax⟩)|(.inr p)=>e=.ret/\∃ xs,resL s i24.res=some xs/\ZbC xs=bv p) ?_ N _ aC _ aj kr).mono ?_)
  ·clear h aj
   rintro aI o s h hR
   obtain rfl:=hR
   replace h:Zb2 N a8 aI=some o:=h
   unfold Zb2 at h
   refine sq (rg Z6.f (tq (sq (it h (λaS h=>?_) (λaS h=>?_)))))
   ·refine sk (tq (kq (sq (bk (sq ?_)))))
    obtain ⟨aK,ar,h⟩:=bs h
    refine rg (Z6.u 0 (Zac (ys:=[Zaf false a8,iv aI]) (h:=Zaa eI64 ar)) (Z6.u 0 (Zao (sz:=1) (off:=0) (cs:=[.int .i64 aK]) (r:=iv aK) eI64 ar) Z6.f)) (tq (sq (rg Z6.f (tq (it h (λaR h=>?_) (λaR h=>?_))))))
    ·refine sq (rg Z6.f (tq (rt (br (tr ?_)))))
     cases h
     exact ⟨_,rfl,rfl,Zar kr⟩
    refine sk (bn (tq (kq (rg Z6.f ?_))))
    cases h
    exact ⟨_,rfl,kr⟩
   refine kq (xq (tx ?_))
   cases h
   exact ⟨_,rfl,rfl,kr⟩
  rintro e s hq
  rcases aC with bq|bp
  ·dsimp only at h hq
   obtain ⟨rfl,hR⟩:=hq
   obtain rfl:=hR
   refine bx (tq (sq (rg Z6.f (tq (rt ?_)))))
   cases h
   exact Zar kr
  dsimp only at h hq
  obtain ⟨rfl,hq⟩:=hq
  refine br (tr ?_)
  cases h
  exact hq
 dsimp only at h hq
 obtain ⟨rfl,hq⟩:=hq
 refine br (pur (tr ?_))
 cases h
 exact hq
theorem Zf9 (N:Nat)(a0_:Z8)(a1_:Int)(a2_:Int)(a3_:Int)(a4_:Int)(r:Bool)(h:ZdO N a0_ a1_ a2_ a3_ a4_=some r):Za9 Try.prog 44 [.agg (Z4 a0_),iv a1_,iv a2_,iv a3_,iv a4_] (bv r):=by
 unfold ZdO at h
 have hH  := hp0
 refine ZaC ZAd rfl rfl (Zat _ _ _ ?_) rfl
 refine sq (rg Z6.f (tq (sq (sq (rg Z6.f (tq (bk ?_)))))))
 obtain ⟨ad,a5,h⟩:=bs h
 refine ZaN ((ZaA (λ(x:Int) s=>s=⟨[(1,iv a1_),(2,iv a2_),(3,iv a3_),(4,iv a4_),(5,.loc 5 0),(11,iv x)],[(5,(Z4 a0_))],[]⟩) (λx:Int=>Zcz N a0_ a1_ a2_ a3_ a4_ x) (λ(p:(Unit)⊕(Bool)) e s=>match p with|(.inl p)=>e=.exit 0/\(s=⟨[],[],[]⟩)|(.inr p)=>e=.ret/\∃ xs,resL s i44.res=some xs/\ZbC xs=bv p) ?_ N _ ad _ a5 kr).mono ?_)
 ·clear h a5
  rintro i1 o s h hR
  obtain rfl:=hR
  replace h:Zcz N a0_ a1_ a2_ a3_ a4_ i1=some o:=h
  unfold Zcz at h
  refine sq (sq (rg (Z6.u 3 (Zac (ys:=[Zai false a0_.Uses]) (h:=Zap ZaF)) Z6.f) (tq (it h (λax h=>?_) (λax h=>?_)))))
  ·refine sk (tq (kq (sq (bk (sq (rg Z6.f (tq (bk ?_))))))))
   obtain ⟨ae,a6,h⟩:=bs h
   refine ZaN ((ZaA (λ(x:Int) s=>s=⟨[(1,iv a1_),(2,iv a2_),(3,iv a3_),(4,iv a4_),(5,.loc 5 0),(11,iv i1),(12,iv x)],[(5,(Z4 a0_))],[]⟩) (λx:Int=>Zcy N a0_ a1_ a2_ a3_ a4_ i1 x) (λ(p:(Unit)⊕(Bool)) e s=>match p with|(.inl p)=>e=.exit 2/\(s=⟨[(1,iv a1_),(2,iv a2_),(3,iv a3_),(4,iv a4_),(5,.loc 5 0),(11,iv i1)],[(5,(Z4 a0_))],[]⟩)|(.inr p)=>e=.ret/\∃ xs,resL s i44.res=some xs/\ZbC xs=bv p) ?_ N _ ae _ a6 kr).mono ?_)
   ·clear h a6
    rintro a0 o s h hR
    obtain rfl:=hR
    replace h:Zcy N a0_ a1_ a2_ a3_ a4_ i1 a0=some o:=h
    unfold Zcy at h
    refine sq (sq (rg (Z6.u 3 (Zac (ys:=[Zai false a0_.Uses]) (h:=Zap ZaF)) Z6.f) (tq (it h (λau h=>?_) (λau h=>?_)))))
    ·refine sk (tq (kq (sq (bk (sq ?_)))))
     obtain ⟨aw,hj,h⟩:=bs h
     refine rqR (λs=>s=⟨[(1,iv a1_),(2,iv a2_),(3,iv a3_),(4,iv a4_),(5,.loc 5 0),(11,iv i1),(12,iv a0),(76,bv aw)],[(5,(Z4 a0_))],[]⟩) ?_ ?_
     ·clear h
      rcases ZaD hj with ⟨ar,hj⟩|⟨ak,hj⟩
      ·refine (EP.u 2 (Z9 (c:=(i1 != a0)) (h:=ar)) ?_)
       obtain ⟨a4,aa,hj⟩:=bs hj
       refine (EP.u 4 (Zac (ys:=[Zai false a0_.Uses,iv i1]) (h:=Zaa ZaF aa)) (EP.u 1 (ZaK (Zao (sz:=4) (off:=0) (cs:=[.int .i64 a4.Stream]) (r:=iv a4.Stream) ZaF aa)) ?_))
       rcases ZaD hj with ⟨aq,hj⟩|⟨al,hj⟩
       ·refine (EP.u 1 (Z9 (c:=(a4.Stream==a1_)) (h:=aq)) ?_)
        obtain ⟨a3,a9,hj⟩:=bs hj
        refine (EP.u 5 (Zac (ys:=[Zai false a0_.Uses,iv a0]) (h:=Zaa ZaF a9)) (EP.u 1 (ZaK (Zao (sz:=4) (off:=0) (cs:=[.int .i64 a3.Stream]) (r:=iv a3.Stream) ZaF a9)) ?_))
        rcases ZaD hj with ⟨ap,hj⟩|⟨am,hj⟩
        ·refine (EP.u 1 (Z9 (c:=(a3.Stream==a3_)) (h:=ap)) ?_)
         obtain ⟨a2,a8,hj⟩:=bs hj
         refine (EP.u 5 (Zac (ys:=[Zai false a0_.Uses,iv i1]) (h:=Zaa ZaF a8)) (EP.u 1 (ZaK (Zao (sz:=4) (off:=1) (cs:=[.int .i64 a2.Port]) (r:=iv a2.Port) ZaF a8)) ?_))
         obtain ⟨a1,a7,hj⟩:=bs hj
         refine (EP.u 3 (Zac (ys:=[Zai false a0_.Uses,iv a0]) (h:=Zaa ZaF a7)) (EP.u 1 (ZaK (Zao (sz:=4) (off:=1) (cs:=[.int .i64 a1.Port]) (r:=iv a1.Port) ZaF a7)) ?_))
         rcases ZaD hj with ⟨ao,hj⟩|⟨an,hj⟩
         ·refine (EP.u 0 (Z9 (c:=(a2.Port==a1.Port)) (h:=ao)) ?_)
          obtain ⟨ac,ai,hj⟩:=bs hj
          refine (EP.u 5 (Zdn (hc:=Zit N a0_ i1 a2_ ac ai)) ?_)
          obtain ⟨ab,ag,hj⟩:=bs hj
          refine (EP.u 3 (Zdn (hc:=Zit N a0_ a0 a4_ ab ag)) ?_)
          obtain ⟨av,af,hj⟩:=bs hj
          obtain rfl:=Zan hj
          exact (EP.u 0 (Zdn (hc:=Zg1 N ac ab av af)) (EP.f kr))
         obtain rfl:=Zan hj
         exact (EP.u 0 (Z9 (c:=(a2.Port==a1.Port)) (h:=an)) (EP.f kr))
        obtain rfl:=Zan hj
        exact (EP.u 1 (Z9 (c:=(a3.Stream==a3_)) (h:=am)) (EP.f kr))
       obtain rfl:=Zan hj
       exact (EP.u 1 (Z9 (c:=(a4.Stream==a1_)) (h:=al)) (EP.f kr))
      obtain rfl:=Zan hj
      exact (EP.u 2 (Z9 (c:=(i1 != a0)) (h:=ak)) (EP.f kr))
     clear hj
     rintro s hR
     obtain rfl:=hR
     refine tq (it h (λaj h=>?_) (λaj h=>?_))
     ·refine sq (rg Z6.f (tq (rt (br (tr ?_)))))
      cases h
      exact ⟨_,rfl,rfl,Zar kr⟩
     refine sk (bn (tq (kq (rg Z6.f ?_))))
     cases h
     exact ⟨_,rfl,kr⟩
    refine kq (xq (tx ?_))
    cases h
    exact ⟨_,rfl,rfl,kr⟩
   rintro e s hq
   rcases ae with aB|aA
   ·dsimp only at h hq
    obtain ⟨rfl,hR⟩:=hq
    obtain rfl:=hR
    refine bx (bn (tq (rg Z6.f ?_)))
    cases h
    exact ⟨_,rfl,kr⟩
   dsimp only at h hq
   obtain ⟨rfl,hq⟩:=hq
   refine br (br (tr ?_))
   cases h
   exact ⟨_,rfl,rfl,hq⟩
  refine kq (xq (tx ?_))
  cases h
  exact ⟨_,rfl,rfl,kr⟩
 rintro e s hq
 rcases ad with az|ay
 ·dsimp only at h hq
  obtain ⟨rfl,hR⟩:=hq
  obtain rfl:=hR
  refine bx (tq (sq (rg Z6.f (tq (rt ?_)))))
  cases h
  exact Zar kr
 dsimp only at h hq
 obtain ⟨rfl,hq⟩:=hq
 refine br (tr ?_)
 cases h
 exact hq
theorem ZhQ (N:Nat)(a0_:(List Zaj))(r:Int×Int)(h:Zdp N a0_=some r):Za9 Try.prog 49 [ZaX false a0_] (.tup [iv r.1,iv r.2]):=by
 unfold Zdp at h
 have hH  := hp0
 refine ZaC Zz8 rfl rfl (Zat _ _ _ ?_) rfl
 refine sq (rg Z6.f (tq (sq (sq ?_))))
 obtain ⟨r1,hr1,h⟩:=bs h
 refine rg (Z6.v 1 (Zaw (hc:=Zgj N a0_ r1 hr1)) Z6.f) (tq (sq (rg Z6.f (tq (it h (λhc2 h=>?_) (λhc2 h=>?_))))))
 ·refine sq (rg Z6.f (tq (rt (tr ?_))))
  cases h
  exact Zar kr
 refine sk (tq (kq (sq ?_)))
 obtain ⟨l5,hl5,h⟩:=bs h
 obtain ⟨a3,H4,ha3,hH4,ha3b,hH⟩:=HP.make eI64 hH hl5
 replace hH:HP _ [.arr a3 1 false (List.map eI64 l5)]:=hH
 have hfa3:=Za8 (HP.get hH 0 rfl)
 refine rgS ⟨[(0,ZaX false a0_),(5,a3)],[],H4⟩ (Z6.u 1 (Zac (ys:=[ZaX false a0_]) (h:=Zap ZaZ)) (Z6.h 0 (Zkd (H:=[]) (zero:=[.int .i64 0]) (bytes:=8) kr kr kr ha3 hH4 ha3b) Z6.f)) (by cases hfa3<;>kernel_rfl) (tq (sq (sq (rgS ⟨[(5,a3),(17,ZaX false a0_),(18,iv ((List.length a0_:Nat):Int)),(19,iv 0)],[],H4⟩ (Z6.u 1 (Zac (ys:=[ZaX false a0_]) (h:=Zap ZaZ)) Z6.f) (by cases hfa3<;>kernel_rfl) (tq (bk ?_))))))
 obtain ⟨a4,ab,h⟩:=bs h
 refine ZaN ((ZaA (λ(x:Int×(List Int)) s=>∃ (a6:AV) (H7:List HO),s=⟨[(5,a6),(17,ZaX false a0_),(18,iv ((List.length a0_:Nat):Int)),(19,iv x.1)],[],H7⟩/\HP H7 [.arr a6 1 false (List.map eI64 x.2)]) (λx:Int×(List Int)=>Zbt N a0_ x.1 x.2) (λ(p:(List Int)) e s=>e=.exit 0/\(∃ (a1:AV) (aa:List HO),s=⟨[(5,a1)],[],aa⟩/\HP aa [.arr a1 1 false (List.map eI64 p)])) ?_ N _ a4 _ ab ⟨a3,H4,(by show _=_;cases hfa3<;>kernel_rfl),(HP.pick hH [0] rfl)⟩).mono ?_)
 ·clear h ab
  rintro ⟨i8,l9⟩ o s h hR
  obtain ⟨a6,H7,rfl,hH⟩:=hR
  replace hH:HP _ [.arr a6 1 false (List.map eI64 l9)]:=hH
  have hfa6:=Za8 (HP.get hH 0 rfl)
  replace h:Zbt N a0_ i8 l9=some o:=h
  unfold Zbt at h
  refine sq (rgS ⟨[(5,a6),(17,ZaX false a0_),(18,iv ((List.length a0_:Nat):Int)),(19,iv i8),(20,bv (decide (i8<((List.length a0_:Nat):Int))))],[],H7⟩ Z6.f (by cases hfa6<;>kernel_rfl) (tq (sq (it h (λak h=>?_) (λak h=>?_)))))
  ·refine sk (tq (kq (sq (bk (sq ?_)))))
   obtain ⟨a0,ad,h⟩:=bs h
   refine rgS ⟨[(5,a6),(6,iv i8),(7,.loc 7 0),(17,ZaX false a0_),(18,iv ((List.length a0_:Nat):Int)),(19,iv i8)],[(7,(Zbm a0))],H7⟩ (Z6.u 1 (Zac (ys:=[ZaX false a0_,iv i8]) (h:=Zaa ZaZ ad)) (Z6.u 0 (Zao (sz:=3) (off:=0) (cs:=[.int .i64 a0.Period,.int .i64 a0.From,.int .i64 a0.Long]) (r:=.agg (Zbm a0)) ZaZ ad) (Z6.f (h:=(by cases hfa6<;>kernel_rfl))))) (by cases hfa6<;>kernel_rfl) (tq ?_)
   obtain ⟨aq,ac,h⟩:=bs h
   obtain ⟨ap,am,_,a8,ae,a9,a7⟩:=HP.elem (k:=0) (a:=a6) (sz:=1) (frz:=false) eI64 hH rfl ac
   obtain ⟨af,al,hH⟩:=HP.setRow (k:=0) (off:=0) (cs:=[iv a0.Period]) (ps:=[.int .i64 a0.Period]) (e':=a0.Period) eI64 hH rfl a9 ae (a8 rfl) ac kr kr
   replace hH:HP _ [.arr a6 1 false (List.map eI64 (List.set l9 (Int.toNat i8) a0.Period))]:=hH
   refine rgS ⟨[(5,a6),(17,ZaX false a0_),(18,iv ((List.length a0_:Nat):Int)),(19,iv i8)],[],af⟩ (Z6.u 4 (Zac (ys:=[a6,iv i8]) (by cases hfa6<;>kernel_rfl) (a7 .i64)) (Z6.o 0 (ZcI (H:=H7) (v:=iv a0.Period) (hw:=al)) Z6.f)) (by cases hfa6<;>kernel_rfl) (bn (tq (rgS ⟨[(5,a6),(17,ZaX false a0_),(18,iv ((List.length a0_:Nat):Int)),(19,iv (w64 (i8+1)))],[],af⟩ Z6.f (by cases hfa6<;>kernel_rfl) ?_)))
   cases h
   exact ⟨_,rfl,⟨a6,af,(by show _=_;cases hfa6<;>kernel_rfl),(HP.pick hH [0] rfl)⟩⟩
  refine kq (xq (tx ?_))
  cases h
  exact ⟨_,rfl,rfl,⟨a6,H7,(by show _=_;cases hfa6<;>kernel_rfl),(HP.pick hH [0] rfl)⟩⟩
 rintro e s hq
 obtain ⟨rfl,hR⟩:=hq
 obtain ⟨a1,aa,rfl,hH⟩:=hR
 replace hH:HP _ [.arr a1 1 false (List.map eI64 a4)]:=hH
 have a2:=Za8 (HP.get hH 0 rfl)
 refine bx (tq (sq ?_))
 obtain ⟨ag,ai,h⟩:=bs h
 obtain ⟨ao,an,a5,hH⟩:=HP.frz (k:=0) (a:=a1) (sz:=1) (frz:=false) eI64 hH rfl
 replace hH:HP _ [.arr a1 1 true (List.map eI64 a4)]:=hH
 refine rgS ⟨[(8,iv ag)],[],ao⟩ (Z6.v 1 (ZmB (H:=aa) (ys:=[iv 960,a1]) (by cases a2<;>kernel_rfl) (by cases a2<;>kernel_rfl) (ZiU rfl (ZiU a5 ZmR)) (Zip N 960 a4 ag ai)) Z6.f) kr ?_
 replace hH:HP _ []:=HP.pick hH [] rfl
 refine tq (sq (sq (rg Z6.f (tq (it h (λaj h=>?_) (λaj h=>?_))))))
 ·refine sq (rg Z6.f (tq (rt (tr ?_))))
  cases h
  exact Zar kr
 refine sk (tq (kq (sq (rg Z6.f (tq (rt ?_))))))
 cases h
 exact Zar kr
theorem ZhO (N:Nat)(a0_:Zaj)(a1_:Zaj)(r:Bool)(h:Zdo N a0_ a1_=some r):Za9 Try.prog 56 [.agg (Zbm a0_),.agg (Zbm a1_)] (bv r):=by
 unfold Zdo at h
 have hH  := hp0
 refine ZaC Zz1 rfl rfl (Zat _ _ _ ?_) rfl
 refine sq (rg Z6.f (tq (sq (sq (rg Z6.f (tq (it h (λhc1 h=>?_) (λhc1 h=>?_))))))))
 ·refine sq (rg Z6.f (tq (rt (tr ?_))))
  cases h
  exact Zar kr
 refine sk (tq (kq (sq ?_)))
 obtain ⟨r2,hr2,h⟩:=bs h
 refine rg (Z6.v 2 (Zaw (hc:=Zin N a0_ a1_ r2 hr2)) Z6.f) (tq (sq ?_))
 obtain ⟨r3,hr3,h⟩:=bs h
 refine rg (Z6.v 6 (Zaw (hc:=Zjh N (w64 (a1_.From-a0_.From)) r2.2.2 r3 hr3)) Z6.f) (tq (sq (rgX ⟨[(4,bv ((decide (r2.1<=r3))&&(decide (r3<=r2.2.1))))],[],[]⟩ ?_ ?_)))
 ·rcases Bool.eq_false_or_eq_true (decide (r2.1<=r3)) with hc4|hc5
  ·exact (EP.u 2 (Z9 (c:=(decide (r2.1<=r3))) (h:=hc4)) (EP.f (by simp only [hc4];kernel_rfl)))
  exact (EP.u 2 (Z9 (c:=(decide (r2.1<=r3))) (h:=hc5)) (EP.f (by simp only [hc5];kernel_rfl)))
 refine tq (rt ?_)
 cases h
 exact Zar kr
def dpC (c:Z7):Int×List (List PC):=(c.Stream,c.Arms.map Zah)
theorem ZfK {H:List HO}{a:AV}{sz:Nat}{u:Bool}{cs:List PC}{f:List Z7}(h:Lies H (.deep a sz u cs (f.map dpC))):ZaI .len [a]=some (iv ((List.length f:Nat):Int)):=by
 have:=Zo4 h
 rwa [ZG] at this
theorem ZfL {α:Type}{bytes:Nat}{l m r:List α}(h:appI bytes l m=some r):r=l++m/\(l.length+m.length)*bytes<=140737488355328/\l.length+m.length<=140737488355328:=by
 unfold appI at h
 split at h
 ·rename_i hc
  cases h
  exact ⟨rfl,hc.1,hc.2⟩
 cases h
theorem ZbZ {α β:Type}(g:α->β){l:List α}{i:Int}{e:α}(h:idx l i=some e):idx (l.map g) i=some (g e):=by
 unfold idx at h ⊢
 split at h
 ·rename_i h0
  rw [Z2 h0,ZA,h]
  rfl
 cases h
abbrev ZpM (P:Program) (rec_:Z8->List Z7->List Int->Option (List Z7×Bool)):Prop :=
 ∀ (p:Z8) (f:List Z7) (given:List Int) (r:List Z7×Bool) (a:AV) (cs:List PC) (H:List HO),HP H [.deep a 4 true cs (f.map dpC)]->rec_ p f given=some r →
  ∃ (a':AV) (cs':List PC) (H':List HO),ZcF P 34 [.agg (Z4 p),a,Zaf false given] H (.tup [a',bv r.2]) H'/\Fp H H' [.deep a 4 true cs (f.map dpC)] [.deep a' 4 true cs' (r.1.map dpC)]/\(r.2=true->cs <+: cs')
theorem hp1 {H:List HO}{i:ZaR}(h:Lies H i):HP H [i]:=HP.cons (HP.any H) h (λ_ _ j hj=>by cases hj)
theorem ZnY {α:Type}{l m:List α}{i:Nat}(x:α)(h:l <+: m)(hi:l.length<=i):l <+: m.set i x:=by
 obtain ⟨t,rfl⟩:=h
 rw [ZR _ _ hi]
 exact ⟨_,rfl⟩
theorem ZpC {α:Type}{l m:List α}{i:Nat}{x:α}(h:l <+: m)(hi:l[i]?=some x):m[i]?=some x:=by
 obtain ⟨t,rfl⟩:=h
 rw [Zt (List.getElem?_eq_some_iff.1 hi).1]
 exact hi
theorem ZlA {H H1:List HO}{f0:List ZaR}{a1 bb:AV}{cs1:List PC}{f1:List Z7}{given:List Int}{p:Z8}{i c x y b nx:Int}{fd:Z7}{cc:PC}{l:List Zax}{Q:Exit->St->Prop}
  (hF:Fp H H1 f0 [.deep a1 4 true cs1 (f1.map dpC)]) (hfd:idx f1 c=some fd) (hcc:cs1[c.toNat]?=some cc) (hbb:up cc=bb) (hl:appI 32 fd.Arms [⟨x,y,b,nx⟩]=some l)
  (hQ:∀ H2 cx,Fp H H2 f0 [.deep a1 4 true (cs1.set c.toNat cx) ((f1.set c.toNat ⟨fd.Stream,l⟩).map dpC)]->Q .normal ⟨[(1,a1),(2,Zaf false given),(3,.loc 3 0),(8,iv i),(9,iv c),(10,iv x)],[(3,Z4 p)],H2⟩) :
  vc Try.prog i34.nt (Ro Zph [1,2,3,8,9,10]) Q ⟨[(1,a1),(2,Zaf false given),(3,.loc 3 0),(8,iv i),(9,iv c),(10,iv x),(14,bb),(15,.loc 15 0)],[(3,Z4 p),(15,[iv x,iv y,iv b,iv nx])],H1⟩:=by
 obtain ⟨rfl,hb1,hb2⟩:=ZfL hl
 obtain ⟨id9,ver9,cc9,bb9,hid9a,hcc9,hbb9,hid9v,hfbb9,_⟩:=Ze6 (Fp.get hF 0 rfl) (ZbZ dpC hfd)
 rw [hcc] at hcc9
 cases hcc9
 rw [hbb] at hbb9
 cases hbb9
 obtain ⟨q9,v9,H9,a5,a4,a6,hap9,a0,a2,a3⟩:=Fp.deepIn (k:=0) (bytes:=32) (m:=[Zah ⟨x,y,b,nx⟩]) hF rfl (ZbZ dpC hfd) hcc hbb (by simp) (by simpa [dpC] using hb1) (by simpa [dpC] using hb2)
 rw [hid9a] at a0
 cases a0
 subst hid9a
 refine rgS ⟨[(1,.osl 2 id9 ver9 0 (f1.map dpC).length),(2,Zaf false given),(3,.loc 3 0),(8,iv i),(9,iv c),(10,iv x)],[(3,Z4 p)],a6⟩
  (Z6.h (hm:=by cases hfbb9<;>kernel_rfl) 5 (Zee (H:=H1) (a:=bb) (b:=Zak true [⟨x,y,b,nx⟩]) (by cases hfbb9<;>kernel_rfl) (by cases hfbb9<;>kernel_rfl) (by cases hfbb9<;>kernel_rfl) kr hap9)
  (Z6.u (hm:=by cases hfbb9<;>kernel_rfl) 0 (Zac (ys:=[.osl 2 id9 ver9 0 (f1.map dpC).length,iv c]) (by cases hfbb9<;>kernel_rfl) (hid9v .i64))
  (Z6.o (hm:=by cases hfbb9<;>kernel_rfl) 1 (Zb1 (H:=H9) (v:=.osl 4 q9 v9 0 ((dpC fd).2++[Zah ⟨x,y,b,nx⟩]).length) (p:=.optr 2 id9 ver9 (0+c.toNat) 1) rfl (by cases hfbb9<;>kernel_rfl) (by cases hfbb9<;>kernel_rfl) (by cases hfbb9<;>kernel_rfl) rfl a2)
  (Z6.f (h:=by cases hfbb9<;>kernel_rfl))))) (by cases hfbb9<;>kernel_rfl) ?_
 refine hQ _ (.ow 4 q9 v9 ((dpC fd).2++[Zah ⟨x,y,b,nx⟩]).length) ?_
 rw [ZO]
 have e:dpC ⟨fd.Stream,fd.Arms++[⟨x,y,b,nx⟩]⟩=((dpC fd).1,(dpC fd).2++[Zah ⟨x,y,b,nx⟩]):=by simp [dpC]
 rw [e]
 exact a3
theorem Ziq (N:Nat)(rec_:Z8->List Z7->List Int->Option (List Z7×Bool))(hrec_:ZpM Try.prog rec_):ZpM Try.prog (ZcJ N rec_):=by
 intro a0_ a1_ a2_ r a cs H hH h
 suffices hs:∃ r' H',ZcF Try.prog 34 [.agg (Z4 a0_),a,Zaf false a2_] H r' H'/\∃ (a':AV) (cs':List PC),r'=.tup [a',bv r.2]/\Fp H H' [.deep a 4 true cs (a1_.map dpC)] [.deep a' 4 true cs' (r.1.map dpC)]/\(r.2=true->cs <+: cs') by
  obtain ⟨_,H',h1,a',cs',he,h2⟩:=hs
  exact ⟨a',cs',H',he ▸ h1,h2⟩
 unfold ZcJ at h
 replace hH:=Fp.refl hH
 have hfa:=ZeA (Fp.get hH 0 rfl)
 have hlen:=(Fp.get hH 0 rfl).1
 rw [ZG] at hlen
 refine Zhi ZAm (λr' H'=>∃ (a':AV) (cs':List PC),r'=.tup [a',bv r.2]/\Fp H H' [.deep a 4 true cs (a1_.map dpC)] [.deep a' 4 true cs' (r.1.map dpC)]/\(r.2=true->cs <+: cs')) (λr' H' q=>by obtain ⟨a',cs',e,hp,_⟩:=q;subst e;have hf:=ZeA (Fp.get hp 0 rfl);show ZaL _=true;cases hf<;>rfl) rfl (by cases hfa<;>kernel_rfl) (sq (rgS ⟨[(1,a),(2,Zaf false a2_),(3,.loc 3 0)],[(3,Z4 a0_)],H⟩ (Z6.f (h:=by cases hfa<;>kernel_rfl)) (by cases hfa<;>kernel_rfl) (tq (sq (rgS ⟨[(1,a),(2,Zaf false a2_),(3,.loc 3 0),(8,iv ((List.length a2_:Nat):Int))],[(3,Z4 a0_)],H⟩ (Z6.u (hm:=by cases hfa<;>kernel_rfl) 1 (Zac (ys:=[Zaf false a2_]) (by cases hfa<;>kernel_rfl) (Zap eI64)) (Z6.f (h:=by cases hfa<;>kernel_rfl))) (by cases hfa<;>kernel_rfl) (tq (sq (sq (rgX ⟨[(1,a),(2,Zaf false a2_),(3,.loc 3 0),(8,iv ((List.length a2_:Nat):Int)),(29,bv ((((List.length a2_:Nat):Int)==((List.length a0_.Periods:Nat):Int))||(decide (((List.length a1_:Nat):Int)≥2000))))],[(3,Z4 a0_)],H⟩ ?_ ?_)))))))))
 ·refine (EP.u (hm:=by cases hfa<;>kernel_rfl) 3 (Zac (ys:=[Zaf false a0_.Periods]) (by cases hfa<;>kernel_rfl) (Zap eI64)) ?_)
  rcases Bool.eq_false_or_eq_true (((List.length a2_:Nat):Int)==((List.length a0_.Periods:Nat):Int)) with hc|hc
  ·exact (EP.u (hm:=by cases hfa<;>kernel_rfl) 0 (Z9 (c:=(((List.length a2_:Nat):Int)==((List.length a0_.Periods:Nat):Int))) (by cases hfa<;>kernel_rfl) hc) (EP.f (h:=by cases hfa<;>kernel_rfl) (by simp only [hc];cases hfa<;>kernel_rfl)))
  exact (EP.u (hm:=by cases hfa<;>kernel_rfl) 0 (Z9 (c:=(((List.length a2_:Nat):Int)==((List.length a0_.Periods:Nat):Int))) (by cases hfa<;>kernel_rfl) hc) (EP.u (hm:=by cases hfa<;>kernel_rfl) 2 (Zac (ys:=[a]) (by cases hfa<;>kernel_rfl) (ZfK (Fp.get hH 0 rfl))) (EP.f (h:=by cases hfa<;>kernel_rfl) (by simp only [hc];cases hfa<;>kernel_rfl))))
 refine tq (it h (λa4 h=>?_) (λa4 h=>?_) (hx:=by cases hfa<;>kernel_rfl))
 ·refine sq (rgS ⟨[(6,.p (.sl 2 true [])),(7,bv false)],[],H⟩ (Z6.f (h:=by cases hfa<;>kernel_rfl)) (by cases hfa<;>kernel_rfl) (tq (rt (tr ?_))))
  cases h
  exact ⟨[.p (.sl 2 true []),bv false],kr,.p (.sl 2 true []),[],rfl,Fp.pk (Fp.deepNil hH 4) [0] rfl,λe=>by cases e⟩
 refine sk (tq (kq (sq (rgS ⟨[(1,a),(2,Zaf false a2_),(3,.loc 3 0),(8,iv ((List.length a2_:Nat):Int)),(9,iv ((List.length a1_:Nat):Int))],[(3,Z4 a0_)],H⟩ (Z6.u (hm:=by cases hfa<;>kernel_rfl) 1 (Zac (ys:=[a]) (by cases hfa<;>kernel_rfl) (ZfK (Fp.get hH 0 rfl))) (Z6.f (h:=by cases hfa<;>kernel_rfl))) (by cases hfa<;>kernel_rfl) (tq (sq ?_))))))
 obtain ⟨f1,hf1,h⟩:=bs h
 obtain ⟨rfl,hb1,hb2⟩:=ZfL hf1
 obtain ⟨c1,a1,H1,hrw,hap,hF1⟩:=Fp.deepApp (k:=1) (j:=0) (bytes:=32) (Fp.nilArr hH 4 false) rfl rfl (by decide) ((List.length a2_:Nat):Int) (by simpa using hb1) (by simpa using hb2)
 replace hF1:Fp H H1 [.deep a 4 true cs (a1_.map dpC)] [.deep a1 4 true (cs++[c1]) ((a1_++[Z7.mk ((List.length a2_:Nat):Int) []]).map dpC)]:=by
  have:=Fp.pick hF1 [1] rfl
  rw [ZL]
  exact this
 have hfa1:=ZeA (Fp.get hF1 0 rfl)
 refine rgS ⟨[(1,a1),(2,Zaf false a2_),(3,.loc 3 0),(8,iv ((List.length a2_:Nat):Int)),(9,iv ((List.length a1_:Nat):Int))],[(3,Z4 a0_)],H1⟩ (Z6.h (hm:=by cases hfa<;>kernel_rfl) 3 (ZlY (H:=H) (ys:=[.agg [iv ((List.length a2_:Nat):Int),.p (.sl 4 true [])]]) (by cases hfa<;>kernel_rfl) (by cases hfa<;>kernel_rfl) hrw rfl rfl) (Z6.h (hm:=by cases hfa<;>kernel_rfl) 0 (Zee (H:=H++[.arr 2 0 false [[.int .i64 ((List.length a2_:Nat):Int),c1]]]) (a:=a) (b:=.osl 2 H.length 0 0 1) (by cases hfa<;>kernel_rfl) (by cases hfa<;>kernel_rfl) (by cases hfa<;>kernel_rfl) (ZiN _ _) hap) (Z6.f (h:=by cases hfa<;>cases hfa1<;>kernel_rfl)))) (by cases hfa<;>cases hfa1<;>kernel_rfl) (tq (sq (sq (rgS ⟨[(1,a1),(2,Zaf false a2_),(3,.loc 3 0),(8,iv ((List.length a2_:Nat):Int)),(9,iv ((List.length a1_:Nat):Int)),(10,iv 0)],[(3,Z4 a0_)],H1⟩ (Z6.f (h:=by cases hfa1<;>kernel_rfl)) (by cases hfa1<;>kernel_rfl) (tq (bk ?_))))))
 obtain ⟨o1,ho1,h⟩:=bs h
 clear hrw hap hf1 hb1 hb2
 refine ZaN ((ZaA (λ(x:Int×List Z7) s=>∃ (b:AV) (ds:List PC) (H2:List HO),s=⟨[(1,b),(2,Zaf false a2_),(3,.loc 3 0),(8,iv ((List.length a2_:Nat):Int)),(9,iv ((List.length a1_:Nat):Int)),(10,iv x.1)],[(3,Z4 a0_)],H2⟩/\Fp H H2 [.deep a 4 true cs (a1_.map dpC)] [.deep b 4 true ds (x.2.map dpC)]/\cs <+: ds)
  (λx:Int×List Z7=>Zch N rec_ a0_ a2_ ((List.length a2_:Nat):Int) ((List.length a1_:Nat):Int) x.1 x.2)
  (λ(p:List Z7⊕(List Z7×Bool)) e s=>match p with
   | .inl f2=>e=.exit 0/\∃ (b:AV) (ds:List PC) (H2:List HO),s=⟨[(1,b)],[],H2⟩/\Fp H H2 [.deep a 4 true cs (a1_.map dpC)] [.deep b 4 true ds (f2.map dpC)]/\cs <+: ds
   | .inr q=>e=.ret/\∃ (b:AV) (ds:List PC) (H2:List HO),s=⟨[(6,b),(7,bv q.2)],[],H2⟩/\Fp H H2 [.deep a 4 true cs (a1_.map dpC)] [.deep b 4 true ds (q.1.map dpC)]/\(q.2=true->cs <+: ds)) ?_ N _ o1 _ ho1 ⟨a1,cs++[c1],H1,by show _=_;cases hfa1<;>kernel_rfl,hF1,List.prefix_append _ _⟩).mono ?_)
 ·clear h ho1 hF1 hfa1 H1 a1 c1
  rintro ⟨i1,f1⟩ o s h hR
  obtain ⟨a1,cs1,H1,rfl,hF1,hpre⟩:=hR
  have hfa1:=ZeA (Fp.get hF1 0 rfl)
  replace h:Zch N rec_ a0_ a2_ ((List.length a2_:Nat):Int) ((List.length a1_:Nat):Int) i1 f1=some o:=h
  unfold Zch at h
  refine sq (sq ?_)
  obtain ⟨e1,he1,h⟩:=bs h
  refine rgS ⟨[(1,a1),(2,Zaf false a2_),(3,.loc 3 0),(8,iv ((List.length a2_:Nat):Int)),(9,iv ((List.length a1_:Nat):Int)),(10,iv i1),(43,bv (decide (i1<e1)))],[(3,Z4 a0_)],H1⟩ (Z6.u (hm:=by cases hfa1<;>kernel_rfl) 4 (Zac (ys:=[Zaf false a0_.Periods,iv ((List.length a2_:Nat):Int)]) (by cases hfa1<;>kernel_rfl) (Zaa eI64 he1)) (Z6.u (hm:=by cases hfa1<;>kernel_rfl) 0 (Zao (sz:=1) (off:=0) (cs:=[.int .i64 e1]) (r:=iv e1) eI64 he1 (by cases hfa1<;>kernel_rfl) kr kr) (Z6.f (h:=by cases hfa1<;>kernel_rfl)))) (by cases hfa1<;>kernel_rfl) (tq (it h (λhc1 h=>?_) (λhc1 h=>?_) (hx:=by cases hfa1<;>kernel_rfl)))
  ·refine sk (tq (kq (sq (bk (sq ?_)))))
   obtain ⟨g,hg,h⟩:=bs h
   obtain ⟨all,hall,h⟩:=bs h
   obtain ⟨a2,H2,ha2,hF2⟩:=ZkP (sz:=1) eI64 hF1 hg
   have hfa2:=Za8 (Fp.get hF2 0 rfl)
   obtain ⟨a3,H3,ha3,hF3⟩:=Fp.app (k:=0) (a:=a2) (sz:=1) (frz:=false) eI64 hF2 rfl hall
   replace hF3:Fp H H3 [.deep a 4 true cs (a1_.map dpC)] [.arr a3 1 false (all.map eI64),.deep a1 4 true cs1 (f1.map dpC)]:=hF3
   have hfa3:=Za8 (Fp.get hF3 0 rfl)
   refine rgS ⟨[(1,a1),(2,Zaf false a2_),(3,.loc 3 0),(8,iv ((List.length a2_:Nat):Int)),(9,iv ((List.length a1_:Nat):Int)),(10,iv i1),(11,a3)],[(3,Z4 a0_)],H3⟩ (Z6.h (hm:=by cases hfa1<;>kernel_rfl) 2 (Zee (H:=H1) (a:=Zaf true []) (b:=Zaf false a2_) (by cases hfa1<;>kernel_rfl) (by cases hfa1<;>kernel_rfl) (by cases hfa1<;>kernel_rfl) kr ha2) (Z6.h (hm:=by cases hfa1<;>kernel_rfl) 2 (Zee (H:=H2) (a:=a2) (b:=Zaf true [i1]) (by cases hfa1<;>kernel_rfl) (by cases hfa1<;>kernel_rfl) (by cases hfa1<;>kernel_rfl) kr ha3) (Z6.f (h:=by cases hfa1<;>kernel_rfl)))) (by cases hfa1<;>cases hfa3<;>kernel_rfl) (tq (sq (rgS ⟨[(1,a1),(2,Zaf false a2_),(3,.loc 3 0),(8,iv ((List.length a2_:Nat):Int)),(9,iv ((List.length a1_:Nat):Int)),(10,iv i1),(11,a3),(12,iv (-1))],[(3,Z4 a0_)],H3⟩ (Z6.f (h:=by cases hfa1<;>cases hfa3<;>kernel_rfl)) (by cases hfa1<;>cases hfa3<;>kernel_rfl) (tq (sq (sq (rgS ⟨[(1,a1),(2,Zaf false a2_),(3,.loc 3 0),(8,iv ((List.length a2_:Nat):Int)),(9,iv ((List.length a1_:Nat):Int)),(10,iv i1),(11,a3),(12,iv (-1)),(13,iv 0)],[(3,Z4 a0_)],H3⟩ (Z6.f (h:=by cases hfa1<;>cases hfa3<;>kernel_rfl)) (by cases hfa1<;>cases hfa3<;>kernel_rfl) (tq (bk ?_)))))))))
   obtain ⟨b0,hb0,h⟩:=bs h
   clear ha2 ha3 hF2 hfa2 hF1 hg
   refine ZaN ((ZaA (λ(y:Int×Int) s=>s=⟨[(1,a1),(2,Zaf false a2_),(3,.loc 3 0),(8,iv ((List.length a2_:Nat):Int)),(9,iv ((List.length a1_:Nat):Int)),(10,iv i1),(11,a3),(12,iv y.2),(13,iv y.1)],[(3,Z4 a0_)],H3⟩)
    (λy:Int×Int=>Zcg N a0_ ((List.length a2_:Nat):Int) i1 all y.1 y.2)
    (λ(b:Int) e s=>e=.exit 2/\s=⟨[(1,a1),(2,Zaf false a2_),(3,.loc 3 0),(8,iv ((List.length a2_:Nat):Int)),(9,iv ((List.length a1_:Nat):Int)),(10,iv i1),(11,a3),(12,iv b)],[(3,Z4 a0_)],H3⟩) ?_ N _ b0 _ hb0 (by show _=_;cases hfa1<;>cases hfa3<;>kernel_rfl)).mono ?_)
   ·clear h hb0
    rintro ⟨j,b⟩ o s h hR
    obtain rfl:=hR
    replace h:Zcg N a0_ ((List.length a2_:Nat):Int) i1 all j b=some o:=h
    unfold Zcg at h
    refine sq (sq (rgX ⟨[(1,a1),(2,Zaf false a2_),(3,.loc 3 0),(8,iv ((List.length a2_:Nat):Int)),(9,iv ((List.length a1_:Nat):Int)),(10,iv i1),(11,a3),(12,iv b),(13,iv j),(58,bv ((decide (j<=((List.length a2_:Nat):Int)))&&(b == -1)))],[(3,Z4 a0_)],H3⟩ ?_ ?_))
    ·rcases Bool.eq_false_or_eq_true (decide (j<=((List.length a2_:Nat):Int))) with hc|hc
     ·exact (EP.u (hm:=by cases hfa1<;>cases hfa3<;>kernel_rfl) 2 (Z9 (c:=(decide (j<=((List.length a2_:Nat):Int)))) (by cases hfa1<;>cases hfa3<;>kernel_rfl) hc) (EP.f (h:=by cases hfa1<;>cases hfa3<;>kernel_rfl) (by simp only [hc];cases hfa1<;>cases hfa3<;>kernel_rfl)))
     exact (EP.u (hm:=by cases hfa1<;>cases hfa3<;>kernel_rfl) 2 (Z9 (c:=(decide (j<=((List.length a2_:Nat):Int)))) (by cases hfa1<;>cases hfa3<;>kernel_rfl) hc) (EP.f (h:=by cases hfa1<;>cases hfa3<;>kernel_rfl) (by simp only [hc];cases hfa1<;>cases hfa3<;>kernel_rfl)))
    refine tq (it h (λhc2 h=>?_) (λhc2 h=>?_) (hx:=by cases hfa1<;>cases hfa3<;>kernel_rfl))
    ·refine sk (tq (kq (sq (bk (sq ?_)))))
     obtain ⟨e2,he2,h⟩:=bs h
     obtain ⟨m2,hm2,h⟩:=bs h
     obtain ⟨id2,ver2,_,hid2f,hid2,hid2a,hid2v⟩:=Fp.elem (k:=0) (a:=a3) (sz:=1) (frz:=false) eI64 hF3 rfl he2
     refine rqS (hs:=(by cases hfa1<;>cases hfa3<;>kernel_rfl)) ⟨[(1,a1),(2,Zaf false a2_),(3,.loc 3 0),(8,iv ((List.length a2_:Nat):Int)),(9,iv ((List.length a1_:Nat):Int)),(10,iv i1),(11,a3),(12,iv b),(13,iv j),(69,bv m2)],[(3,Z4 a0_)],H3⟩ (Z6.u (hm:=by cases hfa1<;>cases hfa3<;>kernel_rfl) 6 (Zac (ys:=[a3,iv j]) (by cases hfa1<;>cases hfa3<;>kernel_rfl) (hid2v .i64)) (Z6.u (hm:=by cases hfa1<;>cases hfa3<;>kernel_rfl) 0 (ZaK (Zc7 (H:=H3) (off:=0) (cs:=[.int .i64 e2]) (r:=iv e2) eI64 he2 hid2 (by cases hfa1<;>cases hfa3<;>kernel_rfl) (by cases hfa1<;>cases hfa3<;>kernel_rfl) kr kr) (by cases hfa1<;>cases hfa3<;>kernel_rfl)) (Z6.v (hm:=by cases hfa1<;>cases hfa3<;>kernel_rfl) 0 (Zaw (by cases hfa1<;>cases hfa3<;>kernel_rfl) (Zf9 N a0_ ((List.length a2_:Nat):Int) i1 j e2 m2 hm2)) (Z6.f (h:=by cases hfa1<;>cases hfa3<;>kernel_rfl))))) (by cases hfa1<;>cases hfa3<;>kernel_rfl) (tq ?_)
     obtain ⟨b',hb',h⟩:=bs h
     refine it hb' (λhc3 hb'=>?_) (λhc3 hb'=>?_) (hx:=by cases hfa1<;>cases hfa3<;>kernel_rfl)
     ·obtain rfl:=Zan hb'
      refine rgS ⟨[(1,a1),(2,Zaf false a2_),(3,.loc 3 0),(8,iv ((List.length a2_:Nat):Int)),(9,iv ((List.length a1_:Nat):Int)),(10,iv i1),(11,a3),(12,iv j),(13,iv j)],[(3,Z4 a0_)],H3⟩ (Z6.f (h:=by cases hfa1<;>cases hfa3<;>kernel_rfl)) (by cases hfa1<;>cases hfa3<;>kernel_rfl) (bn (tq (kq (rgS ⟨[(1,a1),(2,Zaf false a2_),(3,.loc 3 0),(8,iv ((List.length a2_:Nat):Int)),(9,iv ((List.length a1_:Nat):Int)),(10,iv i1),(11,a3),(12,iv j),(13,iv (w64 (j+1)))],[(3,Z4 a0_)],H3⟩ (Z6.f (h:=by cases hfa1<;>cases hfa3<;>kernel_rfl)) (by cases hfa1<;>cases hfa3<;>kernel_rfl) ?_))))
      cases h
      exact ⟨_,rfl,(by show _=_;cases hfa1<;>cases hfa3<;>kernel_rfl)⟩
     obtain rfl:=Zan hb'
     refine sk (bn (tq (kq (rgS ⟨[(1,a1),(2,Zaf false a2_),(3,.loc 3 0),(8,iv ((List.length a2_:Nat):Int)),(9,iv ((List.length a1_:Nat):Int)),(10,iv i1),(11,a3),(12,iv b),(13,iv (w64 (j+1)))],[(3,Z4 a0_)],H3⟩ (Z6.f (h:=by cases hfa1<;>cases hfa3<;>kernel_rfl)) (by cases hfa1<;>cases hfa3<;>kernel_rfl) ?_))))
     cases h
     exact ⟨_,rfl,(by show _=_;cases hfa1<;>cases hfa3<;>kernel_rfl)⟩
    refine kq (xq (tx ?_))
    cases h
    exact ⟨_,rfl,rfl,(by show _=_;cases hfa1<;>cases hfa3<;>kernel_rfl)⟩
   rintro e s hq
   obtain ⟨rfl,rfl⟩:=hq
   refine bx (tq ?_)
   clear hb0
   obtain ⟨b,hb,h⟩:=bs h
   refine ZdQ [1,2,3,8,9,10,11,12] (λs=>s=⟨[(1,a1),(2,Zaf false a2_),(3,.loc 3 0),(8,iv ((List.length a2_:Nat):Int)),(9,iv ((List.length a1_:Nat):Int)),(10,iv i1),(11,a3),(12,iv b)],[(3,Z4 a0_)],H3⟩) ?_ ?_
   ·clear h
    refine sq (rgX ⟨[(1,a1),(2,Zaf false a2_),(3,.loc 3 0),(8,iv ((List.length a2_:Nat):Int)),(9,iv ((List.length a1_:Nat):Int)),(10,iv i1),(11,a3),(12,iv b0),(76,bv ((((List.length a1_:Nat):Int)==0)&&(decide (i1>0))))],[(3,Z4 a0_)],H3⟩ ?_ ?_)
    ·rcases Bool.eq_false_or_eq_true (((List.length a1_:Nat):Int)==0) with hc|hc
     ·exact (EP.u (hm:=by cases hfa1<;>cases hfa3<;>kernel_rfl) 1 (Z9 (c:=(((List.length a1_:Nat):Int)==0)) (by cases hfa1<;>cases hfa3<;>kernel_rfl) hc) (EP.f (h:=by cases hfa1<;>cases hfa3<;>kernel_rfl) (by simp only [hc];cases hfa1<;>cases hfa3<;>kernel_rfl)))
     exact (EP.u (hm:=by cases hfa1<;>cases hfa3<;>kernel_rfl) 1 (Z9 (c:=(((List.length a1_:Nat):Int)==0)) (by cases hfa1<;>cases hfa3<;>kernel_rfl) hc) (EP.f (h:=by cases hfa1<;>cases hfa3<;>kernel_rfl) (by simp only [hc];cases hfa1<;>cases hfa3<;>kernel_rfl)))
    refine tq (it hb (λhc hb=>?_) (λhc hb=>?_) (hx:=by cases hfa1<;>cases hfa3<;>kernel_rfl))
    ·obtain rfl:=Zan hb
     exact rgS ⟨[(1,a1),(2,Zaf false a2_),(3,.loc 3 0),(8,iv ((List.length a2_:Nat):Int)),(9,iv ((List.length a1_:Nat):Int)),(10,iv i1),(11,a3),(12,iv (-2))],[(3,Z4 a0_)],H3⟩ (Z6.f (h:=by cases hfa1<;>cases hfa3<;>kernel_rfl)) (by cases hfa1<;>cases hfa3<;>kernel_rfl) (⟨rfl,(by show _=_;cases hfa1<;>cases hfa3<;>kernel_rfl)⟩)
    obtain rfl:=Zan hb
    exact sk (⟨rfl,(by show _=_;cases hfa1<;>cases hfa3<;>kernel_rfl)⟩)
   rintro s hR
   obtain rfl:=hR
   clear hb
   obtain ⟨fc,hfc,h⟩:=bs h
   obtain ⟨la,hla,h⟩:=bs h
   obtain ⟨id4,ver4,cc,bb,hid4a,hcc,hbb,hid4v,hfbb,hlbb,hr0,hr1,hr2⟩:=Ze6 (Fp.get hF3 1 rfl) (ZbZ dpC hfc)
   refine sq (rgS ⟨[(1,a1),(2,Zaf false a2_),(3,.loc 3 0),(8,iv ((List.length a2_:Nat):Int)),(9,iv ((List.length a1_:Nat):Int)),(10,iv i1),(11,a3),(12,iv b),(14,bb)],[(3,Z4 a0_)],H3⟩ (Z6.u (hm:=by cases hfa1<;>cases hfa3<;>kernel_rfl) 2 (Zac (ys:=[a1,iv ((List.length a1_:Nat):Int)]) (by cases hfa1<;>cases hfa3<;>kernel_rfl) (hid4v .i64)) (Z6.u (hm:=by cases hfa1<;>cases hfa3<;>kernel_rfl) 1 (ZcS (H:=H3) (r:=bb) (p:=.optr 2 id4 ver4 (0+(((List.length a1_:Nat):Int)).toNat) 1) (by cases hfa1<;>cases hfa3<;>kernel_rfl) (by cases hfa1<;>cases hfa3<;>kernel_rfl) hr1 (by cases hfbb<;>kernel_rfl) (by cases hfbb<;>kernel_rfl)) (Z6.f (h:=by cases hfa1<;>cases hfa3<;>kernel_rfl)))) (by cases hfbb<;>cases hfa1<;>cases hfa3<;>kernel_rfl) (tq (sq ?_)))
   have hpb:HP H3 [.arr bb 4 false (fc.Arms.map Zah)]:=hp1 hlbb
   refine sq (rgX ⟨[(1,a1),(2,Zaf false a2_),(3,.loc 3 0),(8,iv ((List.length a2_:Nat):Int)),(9,iv ((List.length a1_:Nat):Int)),(10,iv i1),(11,a3),(12,iv b),(14,bb),(99,bv la)],[(3,Z4 a0_)],H3⟩ ?_ ?_)
   ·clear h
    unfold Zds at hla
    rcases ZaD hla with ⟨hc,hla⟩|⟨hc,hla⟩
    ·refine EP.u (hm:=by cases hfa1<;>cases hfa3<;>cases hfbb<;>kernel_rfl) 1 (Z9 (c:=(b != -1)) (by cases hfa1<;>cases hfa3<;>cases hfbb<;>kernel_rfl) hc) (EP.u (hm:=by cases hfa1<;>cases hfa3<;>cases hfbb<;>kernel_rfl) 2 (Zac (ys:=[bb]) (by cases hfa1<;>cases hfa3<;>cases hfbb<;>kernel_rfl) (HP.len (k:=0) (frz:=false) Zah hpb rfl)) ?_)
     rcases ZaD hla with ⟨hc',hla⟩|⟨hc',hla⟩
     ·refine EP.u (hm:=by cases hfa1<;>cases hfa3<;>cases hfbb<;>kernel_rfl) 0 (Z9 (c:=(decide (((List.length fc.Arms:Nat):Int)>0))) (by cases hfa1<;>cases hfa3<;>cases hfbb<;>kernel_rfl) hc') ?_
      obtain ⟨e5,he5,hla⟩:=bs hla
      obtain rfl:=Zan hla
      obtain ⟨id5,ver5,_,hid5f,hid5,hid5a,hid5v⟩:=HP.elem (k:=0) (frz:=false) Zah hpb rfl he5
      exact EP.u (hm:=by cases hfa1<;>cases hfa3<;>cases hfbb<;>kernel_rfl) 4 (Zac (ys:=[bb]) (by cases hfa1<;>cases hfa3<;>cases hfbb<;>kernel_rfl) (HP.len (k:=0) (frz:=false) Zah hpb rfl)) (EP.u (hm:=by cases hfa1<;>cases hfa3<;>cases hfbb<;>kernel_rfl) 1 (Zac (ys:=[bb,iv (w64 (((List.length fc.Arms:Nat):Int)-1))]) (by cases hfa1<;>cases hfa3<;>cases hfbb<;>kernel_rfl) (hid5v .i64)) (EP.u (hm:=by cases hfa1<;>cases hfa3<;>cases hfbb<;>kernel_rfl) 1 (Zc7 (H:=H3) (off:=2) (cs:=[.int .i64 e5.By]) (r:=iv e5.By) Zah he5 hid5 (by cases hfa1<;>cases hfa3<;>cases hfbb<;>kernel_rfl) (by cases hfa1<;>cases hfa3<;>cases hfbb<;>kernel_rfl) kr kr) (EP.f (h:=by cases hfa1<;>cases hfa3<;>cases hfbb<;>kernel_rfl) (by cases hfa1<;>cases hfa3<;>cases hfbb<;>kernel_rfl))))
     obtain rfl:=Zan hla
     exact EP.u (hm:=by cases hfa1<;>cases hfa3<;>cases hfbb<;>kernel_rfl) 0 (Z9 (c:=(decide (((List.length fc.Arms:Nat):Int)>0))) (by cases hfa1<;>cases hfa3<;>cases hfbb<;>kernel_rfl) hc') (EP.f (h:=by cases hfa1<;>cases hfa3<;>cases hfbb<;>kernel_rfl) (by cases hfa1<;>cases hfa3<;>cases hfbb<;>kernel_rfl))
    obtain rfl:=Zan hla
    exact EP.u (hm:=by cases hfa1<;>cases hfa3<;>cases hfbb<;>kernel_rfl) 1 (Z9 (c:=(b != -1)) (by cases hfa1<;>cases hfa3<;>cases hfbb<;>kernel_rfl) hc) (EP.f (h:=by cases hfa1<;>cases hfa3<;>cases hfbb<;>kernel_rfl) (by cases hfa1<;>cases hfa3<;>cases hfbb<;>kernel_rfl))
   refine tq (it h (λhc6 h=>?_) (λhc6 h=>?_) (hx:=by cases hfa1<;>cases hfa3<;>cases hfbb<;>kernel_rfl))
   ·obtain ⟨e7,he7,h⟩:=bs h
    obtain ⟨id7,ver7,H7,hid7a,hid7v,hw7,hF7⟩:=Fp.deepRow (k:=1) (vs:=[iv (w64 (i1+1))]) (off:=1) (e':=Zah { e7 with To:=w64 (i1+1) }) hF3 rfl (ZbZ dpC hfc) hcc hbb (ZbZ Zah he7) rfl rfl
    replace hF7:Fp H H7 [.deep a 4 true cs (a1_.map dpC)] [.deep a1 4 true cs1 ((f1.set ((List.length a1_:Nat):Int).toNat ⟨fc.Stream,fc.Arms.set (w64 (((List.length fc.Arms:Nat):Int)-1)).toNat { e7 with To:=w64 (i1+1) }⟩).map dpC)]:=by
     have:=Fp.pick hF7 [1] rfl
     rw [ZO]
     simp only [dpC,ZO]
     exact this
    refine sq (rgS ⟨[(1,a1),(2,Zaf false a2_),(3,.loc 3 0),(8,iv ((List.length a2_:Nat):Int)),(9,iv ((List.length a1_:Nat):Int)),(10,iv i1)],[(3,Z4 a0_)],H7⟩ (Z6.u (hm:=by cases hfa1<;>cases hfa3<;>cases hfbb<;>kernel_rfl) 2 (Zac (ys:=[bb]) (by cases hfa1<;>cases hfa3<;>cases hfbb<;>kernel_rfl) (HP.len (k:=0) (frz:=false) Zah hpb rfl)) (Z6.u (hm:=by cases hfa1<;>cases hfa3<;>cases hfbb<;>kernel_rfl) 3 (Zac (ys:=[bb,iv (w64 (((List.length fc.Arms:Nat):Int)-1))]) (by cases hfa1<;>cases hfa3<;>cases hfbb<;>kernel_rfl) (hid7v .i64)) (Z6.o (hm:=by cases hfa1<;>cases hfa3<;>cases hfbb<;>kernel_rfl) 1 (Zb1 (H:=H3) (v:=iv (w64 (i1+1))) (cs:=[iv (w64 (i1+1))]) (p:=.optr 4 id7 ver7 (0+(w64 (((List.length fc.Arms:Nat):Int)-1)).toNat) 1) rfl (by cases hfa1<;>cases hfa3<;>cases hfbb<;>kernel_rfl) (by cases hfa1<;>cases hfa3<;>cases hfbb<;>kernel_rfl) (by cases hfa1<;>cases hfa3<;>cases hfbb<;>kernel_rfl) rfl hw7) (Z6.f (h:=by cases hfa1<;>cases hfa3<;>cases hfbb<;>kernel_rfl))))) (by cases hfa1<;>cases hfa3<;>cases hfbb<;>kernel_rfl) (tq (kq (xq (tx (bx (tq (kq (rgS ⟨[(1,a1),(2,Zaf false a2_),(3,.loc 3 0),(8,iv ((List.length a2_:Nat):Int)),(9,iv ((List.length a1_:Nat):Int)),(10,iv (w64 (i1+1)))],[(3,Z4 a0_)],H7⟩ (Z6.f (h:=by cases hfa1<;>kernel_rfl)) (by cases hfa1<;>kernel_rfl) ?_)))))))))
    cases h
    exact ⟨_,rfl,a1,cs1,H7,(by show _=_;cases hfa1<;>kernel_rfl),hF7,hpre⟩
   refine sk (tq (kq (sq (rgS ⟨[(1,a1),(2,Zaf false a2_),(3,.loc 3 0),(8,iv ((List.length a2_:Nat):Int)),(9,iv ((List.length a1_:Nat):Int)),(10,iv i1),(11,a3),(12,iv b),(14,bb),(15,.loc 15 0)],[(3,Z4 a0_),(15,[iv i1,iv (w64 (i1+1)),iv b,iv 0])],H3⟩ (Z6.f (h:=by cases hfa1<;>cases hfa3<;>cases hfbb<;>kernel_rfl)) (by cases hfa1<;>cases hfa3<;>cases hfbb<;>kernel_rfl) (tq (sq ?_))))))
   obtain ⟨q,hq,h⟩:=bs h
   refine sq (rgS ⟨[(1,a1),(2,Zaf false a2_),(3,.loc 3 0),(8,iv ((List.length a2_:Nat):Int)),(9,iv ((List.length a1_:Nat):Int)),(10,iv i1),(11,a3),(14,bb),(15,.loc 15 0),(114,bv (b == -1))],[(3,Z4 a0_),(15,[iv i1,iv (w64 (i1+1)),iv b,iv 0])],H3⟩ (Z6.f (h:=by cases hfa1<;>cases hfa3<;>cases hfbb<;>kernel_rfl)) (by cases hfa1<;>cases hfa3<;>cases hfbb<;>kernel_rfl) (tq (it hq (λhc8 hq=>?_) (λhc8 hq=>?_) (hx:=by cases hfa1<;>cases hfa3<;>cases hfbb<;>kernel_rfl))))
   ·refine sq (rgS ⟨[(1,a1),(2,Zaf false a2_),(3,.loc 3 0),(8,iv ((List.length a2_:Nat):Int)),(9,iv ((List.length a1_:Nat):Int)),(10,iv i1),(11,a3),(14,bb),(15,.loc 15 0)],[(3,Z4 a0_),(15,[iv i1,iv (w64 (i1+1)),iv b,iv ((List.length f1:Nat):Int)])],H3⟩ (Z6.u (hm:=by cases hfa1<;>cases hfa3<;>cases hfbb<;>kernel_rfl) 1 (Zac (ys:=[a1]) (by cases hfa1<;>cases hfa3<;>cases hfbb<;>kernel_rfl) (ZfK (Fp.get hF3 1 rfl))) (Z6.f (h:=by cases hfa1<;>cases hfa3<;>cases hfbb<;>kernel_rfl))) (by cases hfa1<;>cases hfa3<;>cases hfbb<;>kernel_rfl) (tq (sq ?_)))
    obtain ⟨r9,hr9,hq⟩:=bs hq
    obtain ⟨H4,hz1,hz2,hF4⟩:=Fp.frz (k:=0) eI64 hF3 rfl
    replace hF4:Fp H H4 [.deep a 4 true cs (a1_.map dpC)] ([.deep a1 4 true cs1 (f1.map dpC)]++[]):=Fp.pick hF4 [1] rfl
    obtain ⟨a9,cs9,H9,hc9,hF9,hp9⟩:=hrec_ a0_ f1 all r9 a1 cs1 H4 hF4.now hr9
    replace hF9:Fp H H9 [.deep a 4 true cs (a1_.map dpC)] [.deep a9 4 true cs9 (r9.1.map dpC)]:=Fp.callee hF4 hF9
    have hfa9:=ZeA (Fp.get hF9 0 rfl)
    refine rgS ⟨[(2,Zaf false a2_),(3,.loc 3 0),(8,iv ((List.length a2_:Nat):Int)),(9,iv ((List.length a1_:Nat):Int)),(10,iv i1),(14,bb),(15,.loc 15 0),(16,a9),(17,bv r9.2)],[(3,Z4 a0_),(15,[iv i1,iv (w64 (i1+1)),iv b,iv ((List.length f1:Nat):Int)])],H9⟩ (Z6.v (hm:=by cases hfa1<;>cases hfa3<;>cases hfbb<;>kernel_rfl) 3 (Zkf (H:=H3) (ys:=[.agg (Z4 a0_),a1,a3]) (args:=[.agg (Z4 a0_),a1,Zaf false all]) (by cases hfa1<;>cases hfa3<;>cases hfbb<;>kernel_rfl) (by cases hfa1<;>cases hfa3<;>cases hfbb<;>kernel_rfl) [[],[true],[]] (ZfT (H1:=H3) kr (ZfT (by cases hfa1<;>kernel_rfl) (ZfT (Zll hz2) passL_nil'))) hc9) (Z6.f (h:=by cases hfa1<;>cases hfa3<;>cases hfbb<;>cases hfa9<;>kernel_rfl))) (by cases hfa1<;>cases hfa3<;>cases hfbb<;>cases hfa9<;>kernel_rfl) (tq (sq (sq (rgS ⟨[(2,Zaf false a2_),(3,.loc 3 0),(8,iv ((List.length a2_:Nat):Int)),(9,iv ((List.length a1_:Nat):Int)),(10,iv i1),(14,bb),(15,.loc 15 0),(16,a9),(126,bv (!r9.2))],[(3,Z4 a0_),(15,[iv i1,iv (w64 (i1+1)),iv b,iv ((List.length f1:Nat):Int)])],H9⟩ (Z6.f (h:=by cases hfa9<;>cases hfbb<;>kernel_rfl)) (by cases hfa9<;>cases hfbb<;>kernel_rfl) (tq (it hq (λhc9 hq=>?_) (λhc9 hq=>?_) (hx:=by cases hfa9<;>cases hfbb<;>kernel_rfl)))))))
    ·obtain rfl:=Zan hq
     dsimp only at h
     cases h
     exact sq (rgS ⟨[(6,.p (.sl 2 true [])),(7,bv false)],[],H9⟩ (Z6.f (h:=by cases hfa9<;>cases hfbb<;>kernel_rfl)) (by cases hfa9<;>cases hfbb<;>kernel_rfl) (tq (rt (tr (tr (br (tr (⟨_,rfl,rfl,.p (.sl 2 true []),[],H9,rfl,Fp.pk (Fp.deepNil hF9 4) [0] rfl,λe=>by cases e⟩))))))))
    obtain rfl:=Zan hq
    dsimp only at h
    obtain ⟨fd,hfd,h⟩:=bs h
    obtain ⟨l9,hl9,h⟩:=bs h
    refine sk (tq (kq (rgS ⟨[(1,a9),(2,Zaf false a2_),(3,.loc 3 0),(8,iv ((List.length a2_:Nat):Int)),(9,iv ((List.length a1_:Nat):Int)),(10,iv i1),(14,bb),(15,.loc 15 0)],[(3,Z4 a0_),(15,[iv i1,iv (w64 (i1+1)),iv b,iv ((List.length f1:Nat):Int)])],H9⟩ (Z6.f (h:=by cases hfa9<;>cases hfbb<;>kernel_rfl)) (by cases hfa9<;>cases hfbb<;>kernel_rfl) (tq (kq ?_)))))
    have hpre9:cs1 <+: cs9:=hp9 (by simpa using hc9)
    have hcc9:cs9[((List.length a1_:Nat):Int).toNat]?=some cc:=ZpC hpre9 hcc
    refine Eq.mp (congrArg _ (show ⟨[(1,a9),(2,Zaf false a2_),(3,.loc 3 0),(8,iv ((List.length a2_:Nat):Int)),(9,iv ((List.length a1_:Nat):Int)),(10,iv i1),(14,bb),(15,.loc 15 0)],[(3,Z4 a0_),(15,[iv i1,iv (w64 (i1+1)),iv b,iv ((List.length f1:Nat):Int)])],H9⟩=_ by cases hfa9<;>cases hfbb<;>kernel_rfl)) (ZlA hF9 hfd hcc9 hbb hl9 λa5 cx a0=>(bn (tq (kq (rgS ⟨[(1,a9),(2,Zaf false a2_),(3,.loc 3 0),(8,iv ((List.length a2_:Nat):Int)),(9,iv ((List.length a1_:Nat):Int)),(10,iv (w64 (i1+1)))],[(3,Z4 a0_)],a5⟩ (Z6.f (h:=by cases hfa9<;>kernel_rfl)) (by cases hfa9<;>kernel_rfl) ?_)))))
    cases h
    exact ⟨_,rfl,a9,_,a5,(by show _=_;cases hfa9<;>kernel_rfl),a0,ZnY _ (List.IsPrefix.trans hpre hpre9) (by simp [hlen])⟩
   obtain rfl:=Zan hq
   dsimp only at h
   obtain ⟨fd,hfd,h⟩:=bs h
   obtain ⟨l9,hl9,h⟩:=bs h
   rw [hfc] at hfd
   cases hfd
   refine sk (tq (kq (Eq.mp (congrArg _ (show ⟨[(1,a1),(2,Zaf false a2_),(3,.loc 3 0),(8,iv ((List.length a2_:Nat):Int)),(9,iv ((List.length a1_:Nat):Int)),(10,iv i1),(14,bb),(15,.loc 15 0)],[(3,Z4 a0_),(15,[iv i1,iv (w64 (i1+1)),iv b,iv 0])],H3⟩=_ by cases hfa1<;>cases hfa3<;>cases hfbb<;>kernel_rfl)) (ZlA (Fp.pick hF3 [1] rfl) hfc hcc hbb hl9 λa5 cx a0=>(bn (tq (kq (rgS ⟨[(1,a1),(2,Zaf false a2_),(3,.loc 3 0),(8,iv ((List.length a2_:Nat):Int)),(9,iv ((List.length a1_:Nat):Int)),(10,iv (w64 (i1+1)))],[(3,Z4 a0_)],a5⟩ (Z6.f (h:=by cases hfa1<;>kernel_rfl)) (by cases hfa1<;>kernel_rfl) ?_))))))))
   cases h
   exact ⟨_,rfl,a1,_,a5,(by show _=_;cases hfa1<;>kernel_rfl),a0,ZnY _ hpre (by simp [hlen])⟩
  refine kq (xq (tx ?_))
  cases h
  exact ⟨_,rfl,rfl,a1,cs1,H1,(by show _=_;cases hfa1<;>kernel_rfl),hF1,hpre⟩
 rintro e s hq
 rcases o1 with f2|q
 ·dsimp only at h hq
  obtain ⟨rfl,a2,cs2,H2,rfl,hF2,hpre⟩:=hq
  have hfa2:=ZeA (Fp.get hF2 0 rfl)
  refine bx (tq (sq (rgS ⟨[(6,a2),(7,bv true)],[],H2⟩ (Z6.f (h:=by cases hfa2<;>kernel_rfl)) (by cases hfa2<;>kernel_rfl) (tq (rt ?_)))))
  cases h
  exact ⟨[a2,bv true],(by cases hfa2<;>kernel_rfl),a2,cs2,rfl,hF2,λ_=>hpre⟩
 dsimp only at h hq
 obtain ⟨rfl,a2,cs2,H2,rfl,hF2,hpre⟩:=hq
 have hfa2:=ZeA (Fp.get hF2 0 rfl)
 refine br (tr ?_)
 have hqr:=Zan h
 subst hqr
 exact ⟨[a2,bv q.2],(by cases hfa2<;>kernel_rfl),a2,cs2,rfl,hF2,hpre⟩
theorem ZgB:∀ N:Nat,ZpM Try.prog (ZdM N)
 | 0=>λ_ _ _ _ _ _ _ _ h=>by cases h
 | N+1=>Ziq N (ZdM N) (ZgB N)
theorem Zoo (l:List Z7):(l.map dpC).map (λr=>[PC.int .i64 r.1,.sl 4 false r.2])=l.map Zab:=by
 rw [List.map_map];rfl
theorem Zko (N:Nat)(a0_:Z8)(r:List Z7×Bool)(h:ZeX N a0_=some r):Za9 Try.prog 16 [.agg (Z4 a0_)] (.tup [Z5 false r.1,bv r.2]):=by
 unfold ZeX at h
 have hH  := hp0
 refine ZaC ZAD rfl rfl (Zat _ _ _ ?_) rfl
 refine sq (rg Z6.f (tq (sq (sq (rgS ⟨[(1,.loc 1 0),(7,bv (((List.length a0_.Periods:Nat):Int)==0))],[(1,Z4 a0_)],[]⟩ (Z6.u 2 (Zac (ys:=[Zaf false a0_.Periods]) (h:=Zap eI64)) Z6.f) kr (tq (it h (λhc h=>?_) (λhc h=>?_))))))))
 ·refine sq (rg Z6.f (tq (rt (tr ?_))))
  cases h
  exact Zar kr
 refine sk (tq (kq (sq ?_)))
 obtain ⟨r1,hr1,h⟩:=bs h
 cases h
 have hF:=Fp.deepNil (Fp.refl hH) 4
 obtain ⟨a,cs,H1,hc1,hF1,_⟩:=ZgB N a0_ [] [] r1 _ _ _ hF.now hr1
 have hfa:=ZeA (Fp.get hF1 0 rfl)
 obtain ⟨H2,hs2,hF2⟩:=Fp.deepSeal (k:=0) hF1 rfl
 replace hF2:HP H2 [.arr a 2 false (r1.1.map Zab)]:=by
  have:=hF2.now
  rw [Zoo] at this
  exact this
 refine rgS ⟨[(2,a),(3,bv r1.2)],[],H2⟩ (Z6.v 1 (Zkf (H:=[]) (ys:=[.agg (Z4 a0_),.p (.sl 2 true []),.p (.sl 1 true [])]) (args:=[.agg (Z4 a0_),.p (.sl 2 true []),Zaf false []]) kr kr [[],[true],[]] kr hc1)
  (Z6.h (hm:=by cases hfa<;>kernel_rfl) 2 (Zkc (H:=H1) (b:=a) (by cases hfa<;>kernel_rfl) (by cases hfa<;>kernel_rfl) (by cases hfa<;>rfl) hs2) (Z6.f (h:=by cases hfa<;>kernel_rfl)))) (by cases hfa<;>kernel_rfl) ?_
 exact tq (rt (ZeS (H:=H2) (ys:=[a,bv r1.2]) (xs:=[Z5 false r1.1,bv r1.2]) (by cases hfa<;>kernel_rfl) (by cases hfa<;>kernel_rfl) (ZbI (HP.pure (k:=0) (frz:=false) Zab hF2 rfl).2 (ZbI kr ZcB)) kr))
end Go.Sh

