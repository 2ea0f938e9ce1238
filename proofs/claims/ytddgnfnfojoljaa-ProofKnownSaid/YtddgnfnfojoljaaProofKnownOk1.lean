/- Part of the proof. -/
import Derived.Test.YtddgnfnfojoljaaProofKnownSh
import Derived.Test.YtddgnfnfojoljaaProofKnownChk
set_option linter.all false
namespace Go.Sh
open Go Go.Eng Go.Proofs
set_option maxRecDepth 100000
set_option maxHeartbeats 4000000
attribute [local irreducible] vc ev ZcU opsD opsF ZdZ upd updH updO
theorem Zdl (N:Nat)(r:ZM)(h:ZcC N=some r):PCall Try.prog 18 [] (.agg [Zaf false r.Periods,Z7 false r.Uses]):=by
 unfold ZcC at h
 have hH  := hp0
 refine Zaw Zpj rfl rfl (Zab _ _ _ ?_) rfl
 refine sq (rg ZJ.f (tq (sq (rg ZJ.f (tq (rt ?_))))))
 cases h
 exact Zaj kr
theorem ZW (N:Nat)(a0_:Int)(a1_:(List ZQ))(r:ZP)(h:Z6 N a0_ a1_=some r):PCall Try.prog 19 [iv a0_,ZaM false a1_] (.agg [iv r.Stream,Z3 false r.Arms]):=by
 unfold Z6 at h
 have hH  := hp0
 refine Zaw Zpi rfl rfl (Zab _ _ _ ?_) rfl
 refine sq (rg ZJ.f (tq (sq (rg ZJ.f (tq (sq (sq (rg ZJ.f (tq (bk ?_))))))))))
 obtain ⟨ab,a6,h⟩:=bs h
 refine ZaO ((Zay (λ(x:Int×(List ZaQ)) s=>∃ (a1:AV) (H2:List HO),s=⟨[(1,ZaM false a1_),(4,.loc 4 0),(5,.loc 5 0),(6,iv x.1)],[(4,[iv 0,Z3 true []]),(5,[iv a0_,a1])],H2⟩/\HP H2 [.arr a1 4 false (List.map Zan x.2)]) (λx:Int×(List ZaQ)=>Zbz N a1_ x.1 x.2) (λ(p:(List ZaQ)) e s=>e=.exit 0/\(∃ (a3:AV) (a4:List HO),s=⟨[(4,.loc 4 0),(5,.loc 5 0)],[(4,[iv 0,Z3 true []]),(5,[iv a0_,a3])],a4⟩/\HP a4 [.arr a3 4 false (List.map Zan p)])) ?_ N _ ab _ a6 ⟨(.p (.sl 4 true [])),[],kr,(HP.pick (HP.nilArr hH 4 false) [0] rfl)⟩).mono ?_)
 ·clear h a6
  rintro ⟨i3,l4⟩ o s h hR
  obtain ⟨a1,H2,rfl,hH⟩:=hR
  replace hH:HP _ [.arr a1 4 false (List.map Zan l4)]:=hH
  have hfa1:=Za7 (HP.get hH 0 rfl)
  replace h:Zbz N a1_ i3 l4=some o:=h
  unfold Zbz at h
  refine sq (sq (rgS ⟨[(1,ZaM false a1_),(4,.loc 4 0),(5,.loc 5 0),(6,iv i3),(12,bv (decide (i3<((List.length a1_:Nat):Int))))],[(4,[iv 0,Z3 true []]),(5,[iv a0_,a1])],H2⟩ (ZJ.u 2 (Z0 (ys:=[ZaM false a1_]) (h:=Zae Za4)) ZJ.f) (by cases hfa1<;>kernel_rfl) (tq (it h (λaj h=>?_) (λaj h=>?_)))))
  ·refine sk (tq (kq (sq (bk ?_))))
   obtain ⟨af,aa,h⟩:=bs h
   obtain ⟨ae,a9,h⟩:=bs h
   obtain ⟨ad,a8,h⟩:=bs h
   obtain ⟨ac,a7,h⟩:=bs h
   obtain ⟨al,ai,h⟩:=bs h
   obtain ⟨a5,ag,ak,hH⟩:=HP.app (k:=0) (a:=a1) (sz:=4) (frz:=false) Zan hH rfl ai
   replace hH:HP _ [.arr a5 4 false (List.map Zan al)]:=hH
   have a0:=Za7 (HP.get hH 0 rfl)
   refine rqS ⟨[(1,ZaM false a1_),(4,.loc 4 0),(5,.loc 5 0),(6,iv i3)],[(4,[iv 0,Z3 true []]),(5,[iv a0_,a5])],ag⟩ (ZJ.u (hm:=(by cases hfa1<;>kernel_rfl)) 4 (Z0 (ys:=[ZaM false a1_,iv i3]) (by cases hfa1<;>kernel_rfl) (ZS Za4 aa)) (ZJ.u (hm:=(by cases hfa1<;>kernel_rfl)) 1 (Zbo (Zal (sz:=4) (off:=0) (cs:=[.int .i64 af.x0]) (r:=iv af.x0) Za4 aa (by cases hfa1<;>kernel_rfl) (by cases hfa1<;>kernel_rfl) (by cases hfa1<;>kernel_rfl)) (by cases hfa1<;>kernel_rfl)) (ZJ.u (hm:=(by cases hfa1<;>kernel_rfl)) 2 (Z0 (ys:=[ZaM false a1_,iv i3]) (by cases hfa1<;>kernel_rfl) (ZS Za4 a9)) (ZJ.u (hm:=(by cases hfa1<;>kernel_rfl)) 1 (Zbo (Zal (sz:=4) (off:=1) (cs:=[.int .i64 ae.x1]) (r:=iv ae.x1) Za4 a9 (by cases hfa1<;>kernel_rfl) (by cases hfa1<;>kernel_rfl) (by cases hfa1<;>kernel_rfl)) (by cases hfa1<;>kernel_rfl)) (ZJ.u (hm:=(by cases hfa1<;>kernel_rfl)) 2 (Z0 (ys:=[ZaM false a1_,iv i3]) (by cases hfa1<;>kernel_rfl) (ZS Za4 a8)) (ZJ.u (hm:=(by cases hfa1<;>kernel_rfl)) 1 (Zbo (Zal (sz:=4) (off:=2) (cs:=[.int .i64 ad.x2]) (r:=iv ad.x2) Za4 a8 (by cases hfa1<;>kernel_rfl) (by cases hfa1<;>kernel_rfl) (by cases hfa1<;>kernel_rfl)) (by cases hfa1<;>kernel_rfl)) (ZJ.u (hm:=(by cases hfa1<;>kernel_rfl)) 2 (Z0 (ys:=[ZaM false a1_,iv i3]) (by cases hfa1<;>kernel_rfl) (ZS Za4 a7)) (ZJ.u (hm:=(by cases hfa1<;>kernel_rfl)) 1 (Zbo (Zal (sz:=4) (off:=3) (cs:=[.int .i64 ac.x3]) (r:=iv ac.x3) Za4 a7 (by cases hfa1<;>kernel_rfl) (by cases hfa1<;>kernel_rfl) (by cases hfa1<;>kernel_rfl)) (by cases hfa1<;>kernel_rfl)) (ZJ.h (hm:=(by cases hfa1<;>kernel_rfl)) 2 (Zhi (H:=H2) (a:=a1) (b:=Z3 true [(ZaQ.mk af.x0 ae.x1 ad.x2 ac.x3)]) (by cases hfa1<;>kernel_rfl) (by cases hfa1<;>kernel_rfl) (by cases hfa1<;>kernel_rfl) (by cases hfa1<;>kernel_rfl) ak) (ZJ.f (h:=(by cases hfa1<;>cases a0<;>kernel_rfl)))))))))))) (by cases hfa1<;>cases a0<;>kernel_rfl) (bn (tq (rgS ⟨[(1,ZaM false a1_),(4,.loc 4 0),(5,.loc 5 0),(6,iv (w64 (i3+1)))],[(4,[iv 0,Z3 true []]),(5,[iv a0_,a5])],ag⟩ ZJ.f (by cases a0<;>kernel_rfl) ?_)))
   cases h
   exact ⟨_,rfl,⟨a5,ag,(by show _=_;cases a0<;>kernel_rfl),(HP.pick hH [0] rfl)⟩⟩
  refine kq (xq (tx ?_))
  cases h
  exact ⟨_,rfl,rfl,⟨a1,H2,(by show _=_;cases hfa1<;>kernel_rfl),(HP.pick hH [0] rfl)⟩⟩
 rintro e s hq
 obtain ⟨rfl,hR⟩:=hq
 obtain ⟨a3,a4,rfl,hH⟩:=hR
 replace hH:HP _ [.arr a3 4 false (List.map Zan ab)]:=hH
 have a2:=Za7 (HP.get hH 0 rfl)
 refine bx (tq (sq (rgS ⟨[(4,.loc 4 0)],[(4,[iv a0_,a3])],a4⟩ (ZJ.f (h:=(by cases a2<;>kernel_rfl))) (by cases a2<;>kernel_rfl) (tq (rt ?_)))))
 obtain rfl:=Z4 h
 exact ZgT (H:=a4) (ys:=[.agg [iv a0_,a3]]) (xs:=[.agg [iv a0_,.p (.sl 4 false (List.map Zan ab))]]) (by cases a2<;>kernel_rfl) (by cases a2<;>kernel_rfl) (Zdr (Zid (Zfn rfl (Zfn (HP.pure (k:=0) (frz:=false) Zan hH rfl).1 Zie))) ZdO) kr
theorem Zgk (N:Nat)(a0_:ZP)(a1_:Int)(r:ZaQ)(h:ZeN N a0_ a1_=some r):PCall Try.prog 30 [.agg (ZaE a0_),iv a1_] (.agg [iv r.From,iv r.To,iv r.By,iv r.Next]):=by
 unfold ZeN at h
 have hH  := hp0
 refine Zaw Zpc rfl rfl (Zab _ _ _ ?_) rfl
 refine sq (rg ZJ.f (tq (Zhc (EvI.scope (sq (rg ZJ.f (tq (sq (Zhd (tq (sq (sq (rg (ZJ.u 2 (Z0 (ys:=[Z3 false a0_.Arms]) (h:=Zae Zan)) ZJ.f) (tq (bk ?_)))))))))))))))
 obtain ⟨a5,a1,h⟩:=bs h
 refine ZaO ((Zay (λ(x:Int) s=>s=⟨[(1,iv a1_),(4,.loc 4 0),(5,.loc 5 0),(9,Z3 false a0_.Arms),(10,iv ((List.length a0_.Arms:Nat):Int)),(11,iv x)],[(4,[iv 0,iv 0,iv 0,iv 0]),(5,[iv 0,iv 0,iv 0,iv 0])],[]⟩) (λx:Int=>Zcb N a0_ a1_ x) (λ(p:Int×Int×Int×Int) e s=>e=.exit 0/\(s=⟨[(4,.loc 4 0),(5,.loc 5 0)],[(4,[iv 0,iv 0,iv 0,iv 0]),(5,[iv p.1,iv p.2.1,iv p.2.2.1,iv p.2.2.2])],[]⟩)) ?_ N _ a5 _ a1 kr).mono ?_)
 ·clear h a1
  rintro i1 o s h hR
  obtain rfl:=hR
  replace h:Zcb N a0_ a1_ i1=some o:=h
  unfold Zcb at h
  refine sq (rg ZJ.f (tq (sq (it h (λa4 h=>?_) (λa4 h=>?_)))))
  ·refine sk (tq (kq (sq (bk (sq ?_)))))
   obtain ⟨a0,a2,h⟩:=bs h
   refine rg (ZJ.u 0 (Z0 (ys:=[Z3 false a0_.Arms,iv i1]) (h:=ZS Zan a2)) (ZJ.u 0 (Zal (sz:=4) (off:=0) (cs:=[.int .i64 a0.From,.int .i64 a0.To,.int .i64 a0.By,.int .i64 a0.Next]) (r:=.agg (ZaC a0)) Zan a2) ZJ.f)) (tq (bk (sq (rg ZJ.f (tq (it h (λa3 h=>?_) (λa3 h=>?_)))))))
   ·refine sq (rg ZJ.f (tq (kq (xq (bo (bo (tx ?_)))))))
    cases h
    exact ⟨_,rfl,rfl,kr⟩
   refine sk (bn (bn (tq (kq (rg ZJ.f ?_)))))
   cases h
   exact ⟨_,rfl,kr⟩
  refine kq (xq (tx ?_))
  cases h
  exact ⟨_,rfl,rfl,kr⟩
 rintro e s hq
 obtain ⟨rfl,hR⟩:=hq
 obtain rfl:=hR
 refine bx (tq (sq (rg ZJ.f (tq (rt (nr ?_))))))
 cases h
 exact Zaj kr
theorem Zd7 (N:Nat)(a0_:Int)(a1_:Int)(r:Int)(h:ZdD N a0_ a1_=some r):PCall Try.prog 31 [iv a0_,iv a1_] (iv r):=by
 unfold ZdD at h
 have hH  := hp0
 refine Zaw Zpb rfl rfl (Zab _ _ _ ?_) rfl
 refine sq (rg ZJ.f (tq (sq ?_)))
 obtain ⟨m1,hm1,h⟩:=bs h
 obtain ⟨m2,hm2,h⟩:=bs h
 refine rg (ZJ.u 2 (Z0 (ys:=[iv a0_,iv a1_]) (h:=Zcl hm1)) (ZJ.u 3 (Z0 (ys:=[iv (w64 (m1+a1_)),iv a1_]) (h:=Zcl hm2)) ZJ.f)) (tq (rt ?_))
 cases h
 exact Zaj kr
theorem Zdj (N:Nat)(a0_:ZM)(a1_:Int)(a2_:Int)(r:Bool)(h:Zcy N a0_ a1_ a2_=some r):PCall Try.prog 35 [.agg (ZI a0_),iv a1_,iv a2_] (bv r):=by
 unfold Zcy at h
 have hH  := hp0
 refine Zaw Zpa rfl rfl (Zab _ _ _ ?_) rfl
 refine sq (rg ZJ.f (tq (sq ?_)))
 obtain ⟨j4,hj,h⟩:=bs h
 refine rgR (λs=>s=⟨[(6,bv j4)],[],[]⟩) ?_ ?_
 ·clear h
  rcases Zai hj with ⟨hc1,hj⟩|⟨hc3,hj⟩
  ·refine (EP.u 1 (ZO (c:=(decide (a2_≥0))) (h:=hc1)) ?_)
   obtain ⟨e2,he2,hj⟩:=bs hj
   obtain rfl:=Z4 hj
   exact (EP.u 5 (Z0 (ys:=[Zaf false a0_.Periods,iv a1_]) (h:=ZS eI64 he2)) (EP.u 0 (Zal (sz:=1) (off:=0) (cs:=[.int .i64 e2]) (r:=iv e2) eI64 he2) (EP.f kr)))
  obtain rfl:=Z4 hj
  exact (EP.u 1 (ZO (c:=(decide (a2_≥0))) (h:=hc3)) (EP.f kr))
 clear hj
 rintro s hR
 obtain rfl:=hR
 refine tq (rt ?_)
 cases h
 exact Zaj kr
theorem ZdE (N:Nat)(a0_:ZM)(H:List HO)(r:ZM×(List (ZV×Bool)))(h:Zb6 N a0_=some r):∃ (id0_ id1_ m1_:Nat) (H':List HO),Zbc Try.prog 39 [.agg (ZI a0_)] H (.fn 51 [] [.ptr id0_ 0,.ptr id1_ 0]) H'/\Fp H H' [] [.cel id0_ [Zaf false r.1.Periods,Z7 false r.1.Uses],.cel id1_ [.map m1_],mpT m1_ 3 (encE ZL bv r.2)]:=by
 suffices hs:∃ r' H',Zbc Try.prog 39 [.agg (ZI a0_)] H r' H'/\∃ (id0_ id1_ m1_:Nat),r'=.fn 51 [] [.ptr id0_ 0,.ptr id1_ 0]/\Fp H H' [] [.cel id0_ [Zaf false r.1.Periods,Z7 false r.1.Uses],.cel id1_ [.map m1_],mpT m1_ 3 (encE ZL bv r.2)] by
  obtain ⟨_,H',h1,id0_,id1_,m1_,rfl,h2⟩:=hs
  exact ⟨id0_,id1_,m1_,H',h1,h2⟩
 unfold Zb6 at h
 have hH:Fp H H [] []:=Fp.refl trivial
 refine ZfA Zo6 (λr' H'=>∃ (id0_ id1_ m1_:Nat),r'=.fn 51 [] [.ptr id0_ 0,.ptr id1_ 0]/\Fp H H' [] [.cel id0_ [Zaf false r.1.Periods,Z7 false r.1.Uses],.cel id1_ [.map m1_],mpT m1_ 3 (encE ZL bv r.2)]) (λr' H' ⟨_,_,_,e,_⟩=>by rw [e];rfl) rfl rfl (sq ?_)
 obtain ⟨id1,H2,hid1,hH2,hH⟩:=Fp.newCell hH (ZI a0_)
 replace hH:Fp _ _ _ [.cel id1 (ZI a0_)]:=hH
 refine rg (ZJ.h 0 (Zdo (H:=H) (v:=.agg (ZI a0_)) (hid:=hid1) (hH:=hH2)) ZJ.f) (tq (sq ?_))
 obtain ⟨id3,H4,hid3,hH4,hH⟩:=Fp.newMp hH 3
 replace hH:Fp _ _ _ [mpT id3 3 (encE ZL bv []),.cel id1 (ZI a0_)]:=hH
 obtain ⟨id5,H6,hid5,hH6,hH⟩:=Fp.newCell hH [.nl .nilMap]
 replace hH:Fp _ _ _ [.cel id5 [.nl .nilMap],mpT id3 3 (encE ZL bv []),.cel id1 (ZI a0_)]:=hH
 obtain ⟨H7,hH7,hH⟩:=Fp.setCell (k:=0) (off:=0) (cs:=[.nl .nilMap]) (vs:=[.map id3]) (cs':=[.map id3]) hH rfl kr
 replace hH:Fp _ _ _ [.cel id5 [.map id3],mpT id3 3 (encE ZL bv []),.cel id1 (ZI a0_)]:=hH
 refine rg (ZJ.h 0 (st_mkMap' (H:=H2) 3 kr hid3 hH4) (ZJ.h 0 (ZgP (H:=H4) kr hid5 hH6) (ZJ.o 0 (Zbp (H:=H6) (v:=.map id3) (hw:=hH7)) ZJ.f))) (tq (sq (rg ZJ.f (tq (rt ?_)))))
 cases h
 exact ⟨[.fn 51 [] [.ptr id1 0,.ptr id5 0]],kr,id1,id5,id3,rfl,Fp.pk hH [2,0,1] rfl⟩
theorem Zeo {σ:Type}(N:Nat)(y_:σ->Int->Int->Int->Int->Option (σ×Bool))(a1_:Int)(a2_:ZR)(a3_:ZaQ)(s_:σ)(y_f:Nat)(y_p y_c:List AV)(hy_n:(noLocL y_p&&noLocL y_c)=true)(T_:σ->List Zap->Prop)(hy_:∀ (x0:Int) (x1:Int) (x2:Int) (x3:Int) (s:σ) (r:σ×Bool) (H:List HO) (its:List Zap),T_ s its->HP H its->y_ s x0 x1 x2 x3=some r->∃ H' its',Zfg Try.prog (.fn y_f y_p y_c) [iv x0,iv x1,iv x2,iv x3] H (bv r.2) H'/\T_ r.1 its'/\Fp H H' its its')(H:List HO)(its:List Zap)(hT:T_ s_ its)(hH:HP H (its))(r:σ×Bool)(h:Zcx N y_ a1_ a2_ a3_ s_=some r):∃ H' its',Zbc Try.prog 41 [.fn y_f y_p y_c,iv a1_,.agg (Z8 a2_),.agg (ZaC a3_)] H (bv r.2) H'/\T_ r.1 its'/\Fp H H' (its) (its'):=by
 suffices hs:∃ H',Zbc Try.prog 41 [.fn y_f y_p y_c,iv a1_,.agg (Z8 a2_),.agg (ZaC a3_)] H (bv r.2) H'/\∃ its',T_ r.1 its'/\Fp H H' (its) (its') by
  obtain ⟨H',h1,its',h2,h3⟩:=hs
  exact ⟨H',its',h1,h2,h3⟩
 unfold Zcx at h
 replace hH:Fp H H (its) (its):=Fp.refl hH
 refine ZcZ Zo5 (λH'=>∃ its',T_ r.1 its'/\Fp H H' (its) (its')) rfl (by simpa [noLocL,Zac.noLocL,Zac] using hy_n) rfl (sq (rg ZJ.f (tq (sq (sq ?_)))))
 obtain ⟨j4,hj,h⟩:=bs h
 refine rgR (λs=>s=⟨[(0,.fn y_f y_p y_c),(1,iv a1_),(6,.loc 6 0),(7,.loc 7 0),(21,bv j4)],[(6,(Z8 a2_)),(7,(ZaC a3_))],H⟩) ?_ ?_
 ·clear h
  rcases Zai hj with ⟨hc1,hj⟩|⟨hc3,hj⟩
  ·refine (EP.u 3 (ZO (c:=(a3_.By != a1_)) (h:=hc1)) ?_)
   obtain ⟨e2,he2,hj⟩:=bs hj
   obtain rfl:=Z4 hj
   exact (EP.u 3 (Z0 (ys:=[.loc 6 0,iv a3_.By]) (h:=ZbP (l:=a2_.l) he2 rfl)) (EP.o 0 (ZeD (t:=6) (off:=0) (cs:=(Z8 a2_)) (l:=a2_.l) (λx=>iv x) [] [] he2 kr kr rfl rfl) (EP.f kr)))
  obtain rfl:=Z4 hj
  exact (EP.u 3 (ZO (c:=(a3_.By != a1_)) (h:=hc3)) (EP.f kr))
 clear hj
 rintro s hR
 obtain rfl:=hR
 refine tq (it h (λhc5 h=>?_) (λhc5 h=>?_))
 ·refine sq (rg ZJ.f (tq (rt (tr ?_))))
  cases h
  exact ⟨[bv false],kr,kr,its,hT,Fp.at hH⟩
 refine sk (tq (kq (sq (sq (rg ZJ.f (tq (bk ?_)))))))
 obtain ⟨a8,a3,h⟩:=bs h
 refine ZaO ((Zay (λ(x:Int×σ) s=>∃ (its6:List Zap) (H7:List HO),s=⟨[(0,.fn y_f y_p y_c),(1,iv a1_),(6,.loc 6 0),(7,.loc 7 0),(9,iv x.1)],[(6,(Z8 a2_)),(7,(ZaC a3_))],H7⟩/\T_ x.2 its6/\Fp H H7 (its) (its6)) (λx:Int×σ=>Zbk N y_ a1_ a2_ a3_ x.1 x.2) (λ(p:(σ)⊕(σ×Bool)) e s=>match p with|(.inl p)=>e=.exit 0/\(∃ (a0:List Zap) (a7:List HO),s=⟨[],[],a7⟩/\T_ p a0/\Fp H a7 (its) (a0))|(.inr p)=>e=.ret/\∃ xs,rawL s i41.res=some xs/\Zbe xs=bv p.2/\∃ its',T_ p.1 its'/\Fp H s.H (its) (its')) ?_ N _ a8 _ a3 ⟨its,H,kr,hT,Fp.at hH⟩).mono ?_)
 ·clear h a3
  rintro ⟨i8,g9⟩ o s h hR
  obtain ⟨its6,H7,rfl,hT,hH⟩:=hR
  replace hH:Fp H H7 (its) (its6):=hH
  replace h:Zbk N y_ a1_ a2_ a3_ i8 g9=some o:=h
  unfold Zbk at h
  refine sq (sq (rg ZJ.f (tq (it h (λaf h=>?_) (λaf h=>?_)))))
  ·refine sk (tq (kq (sq (bk (sq ?_)))))
   obtain ⟨aj,a9,h⟩:=bs h
   refine rg (ZJ.u 2 (Z0 (ys:=[.loc 6 0,iv a3_.By]) (h:=ZbP (l:=a2_.l) a9 rfl)) (ZJ.o 0 (ZeD (t:=6) (off:=0) (cs:=(Z8 a2_)) (l:=a2_.l) (λx=>iv x) [] [] a9 kr kr rfl rfl) ZJ.f)) (tq ?_)
   obtain ⟨a2,a4,h⟩:=bs h
   refine ZfF [0,1,6,7,9,10] (λs=>s=⟨[(0,.fn y_f y_p y_c),(1,iv a1_),(6,.loc 6 0),(7,.loc 7 0),(9,iv i8),(10,iv a2)],[(6,(Z8 a2_)),(7,(ZaC a3_))],H7⟩) ?_ ?_
   ·clear h
    have h:=a4
    refine sq (rg ZJ.f (tq (it h (λad h=>?_) (λad h=>?_))))
    ·refine rg ZJ.f ?_
     cases h
     exact ⟨rfl,kr⟩
    refine sk ?_
    cases h
    exact ⟨rfl,kr⟩
   clear a4
   rintro s hR
   obtain rfl:=hR
   refine sq ?_
   obtain ⟨ae,ab,h⟩:=bs h
   obtain ⟨aa,a1,a5,hT,a6⟩:=hy_ a1_ i8 a3_.By a2 g9 ae H7 its6 hT (Fp.tail (own:=[]) (its:=its6) hH) ab
   replace hH:Fp H aa (its) (a1):=Fp.callT (own:=[]) (its:=its6) hH a6
   refine rg (ZJ.v 6 (ZfK (H:=H7) (ys:=[iv a1_,iv i8,iv a3_.By,iv a2]) (hc:=a5)) ZJ.f) (tq (it h (λac h=>?_) (λac h=>?_)))
   ·refine sq (rg ZJ.f (tq (rt (br (tr ?_)))))
    cases h
    exact ⟨_,rfl,rfl,⟨[bv false],kr,kr,a1,hT,Fp.at hH⟩⟩
   refine sk (bn (tq (kq (rg ZJ.f ?_))))
   cases h
   exact ⟨_,rfl,⟨a1,aa,kr,hT,Fp.at hH⟩⟩
  refine kq (xq (tx ?_))
  cases h
  exact ⟨_,rfl,rfl,⟨its6,H7,kr,hT,Fp.at hH⟩⟩
 rintro e s hq
 rcases a8 with ai|ag
 ·dsimp only at h hq
  obtain ⟨rfl,hR⟩:=hq
  obtain ⟨a0,a7,rfl,hT,hH⟩:=hR
  replace hH:Fp H a7 (its) (a0):=hH
  refine bx (tq (sq (rg ZJ.f (tq (rt ?_)))))
  cases h
  exact ⟨[bv true],kr,kr,a0,hT,Fp.at hH⟩
 dsimp only at h hq
 obtain ⟨rfl,hq⟩:=hq
 refine br (tr ?_)
 cases h
 exact hq
theorem ZfR (N:Nat)(a0_:ZM)(a1_:Int)(a2_:Int)(H:List HO)(r:ZM×Int×Int)(h:ZdR N a0_ a1_ a2_=some r):∃ (id0_ id1_ id2_:Nat) (H':List HO),Zbc Try.prog 46 [.agg (ZI a0_),iv a1_,iv a2_] H (.fn 54 [] [.ptr id0_ 0,.ptr id1_ 0,.ptr id2_ 0]) H'/\Fp H H' [] [.cel id0_ [Zaf false r.1.Periods,Z7 false r.1.Uses],.cel id1_ [iv r.2.1],.cel id2_ [iv r.2.2]]:=by
 suffices hs:∃ r' H',Zbc Try.prog 46 [.agg (ZI a0_),iv a1_,iv a2_] H r' H'/\∃ (id0_ id1_ id2_:Nat),r'=.fn 54 [] [.ptr id0_ 0,.ptr id1_ 0,.ptr id2_ 0]/\Fp H H' [] [.cel id0_ [Zaf false r.1.Periods,Z7 false r.1.Uses],.cel id1_ [iv r.2.1],.cel id2_ [iv r.2.2]] by
  obtain ⟨_,H',h1,id0_,id1_,id2_,rfl,h2⟩:=hs
  exact ⟨id0_,id1_,id2_,H',h1,h2⟩
 unfold ZdR at h
 have hH:Fp H H [] []:=Fp.refl trivial
 refine ZfA Zo4 (λr' H'=>∃ (id0_ id1_ id2_:Nat),r'=.fn 54 [] [.ptr id0_ 0,.ptr id1_ 0,.ptr id2_ 0]/\Fp H H' [] [.cel id0_ [Zaf false r.1.Periods,Z7 false r.1.Uses],.cel id1_ [iv r.2.1],.cel id2_ [iv r.2.2]]) (λr' H' ⟨_,_,_,e,_⟩=>by rw [e];rfl) rfl rfl (sq ?_)
 obtain ⟨id1,H2,hid1,hH2,hH⟩:=Fp.newCell hH (ZI a0_)
 replace hH:Fp _ _ _ [.cel id1 (ZI a0_)]:=hH
 obtain ⟨id3,H4,hid3,hH4,hH⟩:=Fp.newCell hH [iv a1_]
 replace hH:Fp _ _ _ [.cel id3 [iv a1_],.cel id1 (ZI a0_)]:=hH
 obtain ⟨id5,H6,hid5,hH6,hH⟩:=Fp.newCell hH [iv a2_]
 replace hH:Fp _ _ _ [.cel id5 [iv a2_],.cel id3 [iv a1_],.cel id1 (ZI a0_)]:=hH
 refine rg (ZJ.h 0 (Zdo (H:=H) (v:=.agg (ZI a0_)) (hid:=hid1) (hH:=hH2)) (ZJ.h 0 (Zdo (H:=H2) (v:=iv a1_) (hid:=hid3) (hH:=hH4)) (ZJ.h 0 (Zdo (H:=H4) (v:=iv a2_) (hid:=hid5) (hH:=hH6)) ZJ.f))) (tq (sq (rg ZJ.f (tq (rt ?_)))))
 cases h
 exact ⟨[.fn 54 [] [.ptr id1 0,.ptr id3 0,.ptr id5 0]],kr,id1,id3,id5,rfl,Fp.pk hH [2,1,0] rfl⟩
theorem ZcG (N:Nat)(a0_:ZM)(a1_:Zak)(a2_:Int)(r:Zah)(h:ZbZ N a0_ a1_ a2_=some r):PCall Try.prog 48 [.agg (ZI a0_),.agg (Zao a1_),iv a2_] (.agg [iv r.Period,iv r.From,iv r.Long]):=by
 unfold ZbZ at h
 have hH  := hp0
 refine Zaw Zo2 rfl rfl (Zab _ _ _ ?_) rfl
 refine sq (rg ZJ.f (tq (sq ?_)))
 obtain ⟨e1,he1,h⟩:=bs h
 refine rg (ZJ.u 4 (Z0 (ys:=[Zaf false a0_.Periods,iv a1_.Stream]) (h:=ZS eI64 he1)) (ZJ.u 0 (Zal (sz:=1) (off:=0) (cs:=[.int .i64 e1]) (r:=iv e1) eI64 he1) ZJ.f)) (tq (sq ?_))
 obtain ⟨m2,hm2,h⟩:=bs h
 refine rq (ZJ.u 6 (Z0 (ys:=[iv (w64 (a1_.From+a2_)),iv e1]) (h:=Zcl hm2)) ZJ.f) (tq (rt ?_))
 cases h
 exact Zaj kr
theorem ZdQ (N:Nat)(a0_:ZM)(a1_:(List ZP))(a2_:Int)(a3_:ZaQ)(r:Bool)(h:Zck N a0_ a1_ a2_ a3_=some r):PCall Try.prog 50 [.agg (ZI a0_),ZK false a1_,iv a2_,.agg (ZaC a3_)] (bv r):=by
 unfold Zck at h
 have hH  := hp0
 refine Zaw Zo0 rfl rfl (Zab _ _ _ ?_) rfl
 refine sq (rg ZJ.f (tq (sq (bk (sq (rg ZJ.f (tq (it h (λhc1 h=>?_) (λhc1 h=>?_)))))))))
 ·refine sq (rgX ⟨[(8,bv ((a3_.To==(w64 (a3_.From+1)))&&((decide (a3_.Next>a2_))&&(decide (a3_.Next<((List.length a1_:Nat):Int))))))],[],[]⟩ ?_ ?_)
  ·rcases Bool.eq_false_or_eq_true (a3_.To==(w64 (a3_.From+1))) with hc2|hc5
   ·refine (EP.u 5 (ZO (c:=(a3_.To==(w64 (a3_.From+1)))) (h:=hc2)) ?_)
    rcases Bool.eq_false_or_eq_true (decide (a3_.Next>a2_)) with hc3|hc4
    ·exact (EP.u 4 (ZO (c:=(decide (a3_.Next>a2_))) (h:=hc3)) (EP.u 5 (Z0 (ys:=[ZK false a1_]) (h:=Zae Z2)) (EP.f (by simp only [hc2,hc3];kernel_rfl))))
    exact (EP.u 4 (ZO (c:=(decide (a3_.Next>a2_))) (h:=hc4)) (EP.f (by simp only [hc2,hc4];kernel_rfl)))
   exact (EP.u 5 (ZO (c:=(a3_.To==(w64 (a3_.From+1)))) (h:=hc5)) (EP.f (by simp only [hc5];kernel_rfl)))
  refine tq (rt (br (tr ?_)))
  cases h
  exact Zaj kr
 refine sq (rg ZJ.f (tq (it h (λhc6 h=>?_) (λhc6 h=>?_))))
 ·refine sq (rg ZJ.f (tq (rt (br (tr ?_)))))
  cases h
  exact Zaj kr
 refine sq (rg ZJ.f (tq (it h (λhc7 h=>?_) (λhc7 h=>?_))))
 ·refine sq (rgX ⟨[(8,bv ((a2_==0)&&(a3_.From != 0)))],[],[]⟩ ?_ ?_)
  ·rcases Bool.eq_false_or_eq_true (a2_==0) with hc8|hc9
   ·exact (EP.u 1 (ZO (c:=(a2_==0)) (h:=hc8)) (EP.f (by simp only [hc8];kernel_rfl)))
   exact (EP.u 1 (ZO (c:=(a2_==0)) (h:=hc9)) (EP.f (by simp only [hc9];kernel_rfl)))
  refine tq (rt (br (tr ?_)))
  cases h
  exact Zaj kr
 refine sk (bn (tq (kq (sq (rgX ⟨[(8,bv ((decide (a3_.By≥0))&&(decide (a3_.By<((List.length a0_.Periods:Nat):Int)))))],[],[]⟩ ?_ ?_)))))
 ·rcases Bool.eq_false_or_eq_true (decide (a3_.By≥0)) with a1|a0
  ·exact (EP.u 2 (ZO (c:=(decide (a3_.By≥0))) (h:=a1)) (EP.u 5 (Z0 (ys:=[Zaf false a0_.Periods]) (h:=Zae eI64)) (EP.f (by simp only [a1];kernel_rfl))))
  exact (EP.u 2 (ZO (c:=(decide (a3_.By≥0))) (h:=a0)) (EP.f (by simp only [a0];kernel_rfl)))
 refine tq (rt ?_)
 cases h
 exact Zaj kr
theorem ZeO {σ:Type}(N:Nat)(y_:σ->Zak->Zak->Option (σ×Bool))(c0_:ZM)(c1_:Int)(c2_:Int)(s_:σ)(k0_:Nat)(k1_:Nat)(k2_:Nat)(yid_:Nat)(T_:σ->List Zap->Prop)(hy_:∀ (x0:Zak) (x1:Zak) (s:σ) (r:σ×Bool) (H:List HO) (its:List Zap),T_ s its->HP H its->y_ s x0 x1=some r->∃ H' its',Zg9 Try.prog yid_ [.agg [iv x0.Stream,iv x0.Port,iv x0.From,iv x0.Long],.agg [iv x1.Stream,iv x1.Port,iv x1.From,iv x1.Long]] H r.2 H'/\T_ r.1 its'/\Fp H H' its its')(H:List HO)(its:List Zap)(hT:T_ s_ its)(hH:HP H (.cel k0_ (ZI c0_)::.cel k1_ [iv c1_]::.cel k2_ [iv c2_]::its))(r:σ)(h:ZcR N y_ c0_ c1_ c2_ s_=some r):∃ H' its',Zbc Try.prog 54 [.yl yid_,.ptr k0_ 0,.ptr k1_ 0,.ptr k2_ 0] H (.tup []) H'/\T_ r its'/\Fp H H' (.cel k0_ (ZI c0_)::.cel k1_ [iv c1_]::.cel k2_ [iv c2_]::its) (.cel k0_ (ZI c0_)::.cel k1_ [iv c1_]::.cel k2_ [iv c2_]::its'):=by
 suffices hs:∃ H',Zbc Try.prog 54 [.yl yid_,.ptr k0_ 0,.ptr k1_ 0,.ptr k2_ 0] H (.tup []) H'/\∃ its',T_ r its'/\Fp H H' (.cel k0_ (ZI c0_)::.cel k1_ [iv c1_]::.cel k2_ [iv c2_]::its) (.cel k0_ (ZI c0_)::.cel k1_ [iv c1_]::.cel k2_ [iv c2_]::its') by
  obtain ⟨H',h1,its',h2,h3⟩:=hs
  exact ⟨H',its',h1,h2,h3⟩
 unfold ZcR at h
 replace hH:Fp H H (.cel k0_ (ZI c0_)::.cel k1_ [iv c1_]::.cel k2_ [iv c2_]::its) (.cel k0_ (ZI c0_)::.cel k1_ [iv c1_]::.cel k2_ [iv c2_]::its):=Fp.refl hH
 refine ZcZ ZoY (λH'=>∃ its',T_ r its'/\Fp H H' (.cel k0_ (ZI c0_)::.cel k1_ [iv c1_]::.cel k2_ [iv c2_]::its) (.cel k0_ (ZI c0_)::.cel k1_ [iv c1_]::.cel k2_ [iv c2_]::its')) rfl rfl rfl (sq ?_)
 have hlc1:=Fp.get hH 0 rfl
 refine rg (ZJ.u 1 (ZaF (H:=H) (id:=k0_) (off:=1) (cs:=(ZI c0_)) (c:=[Z7 false c0_.Uses]) (r:=Z7 false c0_.Uses) (hl:=hlc1)) (ZJ.u 0 (Z0 (ys:=[Z7 false c0_.Uses]) (h:=Zae Zba)) ZJ.f)) (tq (bk ?_))
 obtain ⟨ag,a9,h⟩:=bs h
 refine ZaO ((Zay (λ(x:Int×σ) s=>∃ (its2:List Zap) (H3:List HO),s=⟨[(0,.yl yid_),(1,.ptr k0_ 0),(2,.ptr k1_ 0),(3,.ptr k2_ 0),(10,Z7 false c0_.Uses),(11,iv ((List.length c0_.Uses:Nat):Int)),(12,iv x.1)],[],H3⟩/\T_ x.2 its2/\Fp H H3 (.cel k0_ (ZI c0_)::.cel k1_ [iv c1_]::.cel k2_ [iv c2_]::its) (.cel k0_ (ZI c0_)::.cel k1_ [iv c1_]::.cel k2_ [iv c2_]::its2)) (λx:Int×σ=>Zbx N y_ c0_ c1_ c2_ x.1 x.2) (λ(p:(σ)⊕(σ)) e s=>match p with|(.inl p)=>e=.exit 0/\(∃ (a3:List Zap) (af:List HO),s=⟨[],[],af⟩/\T_ p a3/\Fp H af (.cel k0_ (ZI c0_)::.cel k1_ [iv c1_]::.cel k2_ [iv c2_]::its) (.cel k0_ (ZI c0_)::.cel k1_ [iv c1_]::.cel k2_ [iv c2_]::a3))|(.inr p)=>e=.ret/\∃ xs,rawL s i54.res=some xs/\Zbe xs=.tup []/\∃ its',T_ p its'/\Fp H s.H (.cel k0_ (ZI c0_)::.cel k1_ [iv c1_]::.cel k2_ [iv c2_]::its) (.cel k0_ (ZI c0_)::.cel k1_ [iv c1_]::.cel k2_ [iv c2_]::its')) ?_ N _ ag _ a9 ⟨its,H,kr,hT,Fp.at hH⟩).mono ?_)
 ·clear h a9
  rintro ⟨i4,g5⟩ o s h hR
  obtain ⟨its2,H3,rfl,hT,hH⟩:=hR
  replace hH:Fp H H3 (.cel k0_ (ZI c0_)::.cel k1_ [iv c1_]::.cel k2_ [iv c2_]::its) (.cel k0_ (ZI c0_)::.cel k1_ [iv c1_]::.cel k2_ [iv c2_]::its2):=hH
  replace h:Zbx N y_ c0_ c1_ c2_ i4 g5=some o:=h
  unfold Zbx at h
  refine sq (rg ZJ.f (tq (sq (it h (λaA h=>?_) (λaA h=>?_)))))
  ·refine sk (tq (kq (sq (bk (sq ?_)))))
   obtain ⟨a4,aj,h⟩:=bs h
   refine rg (ZJ.u 1 (Z0 (ys:=[Z7 false c0_.Uses,iv i4]) (h:=ZS Zba aj)) (ZJ.u 0 (Zal (sz:=4) (off:=0) (cs:=[.int .i64 a4.Stream,.int .i64 a4.Port,.int .i64 a4.From,.int .i64 a4.Long]) (r:=.agg (Zao a4)) Zba aj) ZJ.f)) (tq (sq (sq ?_)))
   have an:=Fp.get hH 1 rfl
   refine rg (ZJ.u 2 (ZaF (H:=H3) (id:=k1_) (off:=0) (cs:=[iv c1_]) (c:=[iv c1_]) (r:=iv c1_) (hl:=an)) ZJ.f) (tq (it h (λaz h=>?_) (λaz h=>?_)))
   ·refine kq (xq (tx (bx (tq (kq (rg ZJ.f ?_))))))
    cases h
    exact ⟨_,rfl,⟨its2,H3,kr,hT,Fp.at hH⟩⟩
   refine sk (tq (kq (sq ?_)))
   have am:=Fp.get hH 0 rfl
   refine rg (ZJ.u 1 (ZaF (H:=H3) (id:=k0_) (off:=1) (cs:=(ZI c0_)) (c:=[Z7 false c0_.Uses]) (r:=Z7 false c0_.Uses) (hl:=am)) (ZJ.u 0 (Z0 (ys:=[Z7 false c0_.Uses]) (h:=Zae Zba)) ZJ.f)) (tq (bk ?_))
   obtain ⟨ai,aa,h⟩:=bs h
   refine ZaO ((Zay (λ(x:Int×σ) s=>∃ (a0:List Zap) (a5:List HO),s=⟨[(0,.yl yid_),(1,.ptr k0_ 0),(2,.ptr k1_ 0),(3,.ptr k2_ 0),(5,iv i4),(6,.loc 6 0),(10,Z7 false c0_.Uses),(11,iv ((List.length c0_.Uses:Nat):Int)),(12,iv i4),(22,Z7 false c0_.Uses),(23,iv ((List.length c0_.Uses:Nat):Int)),(24,iv x.1)],[(6,(Zao a4))],a5⟩/\T_ x.2 a0/\Fp H a5 (.cel k0_ (ZI c0_)::.cel k1_ [iv c1_]::.cel k2_ [iv c2_]::its) (.cel k0_ (ZI c0_)::.cel k1_ [iv c1_]::.cel k2_ [iv c2_]::a0)) (λx:Int×σ=>Zbw N y_ c0_ c2_ i4 a4 x.1 x.2) (λ(p:(σ)⊕(σ)) e s=>match p with|(.inl p)=>e=.exit 2/\(∃ (a2:List Zap) (a7:List HO),s=⟨[(0,.yl yid_),(1,.ptr k0_ 0),(2,.ptr k1_ 0),(3,.ptr k2_ 0),(10,Z7 false c0_.Uses),(11,iv ((List.length c0_.Uses:Nat):Int)),(12,iv i4)],[],a7⟩/\T_ p a2/\Fp H a7 (.cel k0_ (ZI c0_)::.cel k1_ [iv c1_]::.cel k2_ [iv c2_]::its) (.cel k0_ (ZI c0_)::.cel k1_ [iv c1_]::.cel k2_ [iv c2_]::a2))|(.inr p)=>e=.ret/\∃ xs,rawL s i54.res=some xs/\Zbe xs=.tup []/\∃ its',T_ p its'/\Fp H s.H (.cel k0_ (ZI c0_)::.cel k1_ [iv c1_]::.cel k2_ [iv c2_]::its) (.cel k0_ (ZI c0_)::.cel k1_ [iv c1_]::.cel k2_ [iv c2_]::its')) ?_ N _ ai _ aa ⟨its2,H3,kr,hT,Fp.at hH⟩).mono ?_)
   ·clear h aa
    rintro ⟨a8,aB⟩ o s h hR
    obtain ⟨a0,a5,rfl,hT,hH⟩:=hR
    replace hH:Fp H a5 (.cel k0_ (ZI c0_)::.cel k1_ [iv c1_]::.cel k2_ [iv c2_]::its) (.cel k0_ (ZI c0_)::.cel k1_ [iv c1_]::.cel k2_ [iv c2_]::a0):=hH
    replace h:Zbw N y_ c0_ c2_ i4 a4 a8 aB=some o:=h
    unfold Zbw at h
    refine sq (rg ZJ.f (tq (sq (it h (λaw h=>?_) (λaw h=>?_)))))
    ·refine sk (tq (kq (sq (bk (sq ?_)))))
     obtain ⟨a1,ab,h⟩:=bs h
     refine rg (ZJ.u 1 (Z0 (ys:=[Z7 false c0_.Uses,iv a8]) (h:=ZS Zba ab)) (ZJ.u 0 (Zal (sz:=4) (off:=0) (cs:=[.int .i64 a1.Stream,.int .i64 a1.Port,.int .i64 a1.From,.int .i64 a1.Long]) (r:=.agg (Zao a1)) Zba ab) ZJ.f)) (tq (sq (sq ?_)))
     obtain ⟨ay,hj,h⟩:=bs h
     refine rgR (λs=>s=⟨[(0,.yl yid_),(1,.ptr k0_ 0),(2,.ptr k1_ 0),(3,.ptr k2_ 0),(5,iv i4),(6,.loc 6 0),(8,.loc 8 0),(10,Z7 false c0_.Uses),(11,iv ((List.length c0_.Uses:Nat):Int)),(12,iv i4),(22,Z7 false c0_.Uses),(23,iv ((List.length c0_.Uses:Nat):Int)),(24,iv a8),(44,bv ay)],[(6,(Zao a4)),(8,(Zao a1))],a5⟩) ?_ ?_
     ·clear h
      rcases Zai hj with ⟨av,hj⟩|⟨au,hj⟩
      ·obtain rfl:=Z4 hj
       exact (EP.u 2 (ZO (c:=(a8==i4)) (h:=av)) (EP.f kr))
      refine (EP.u 2 (ZO (c:=(a8==i4)) (h:=au)) ?_)
      have ad:=Fp.get hH 2 rfl
      refine (EP.u 3 (ZaF (H:=a5) (id:=k2_) (off:=0) (cs:=[iv c2_]) (c:=[iv c2_]) (r:=iv c2_) (hl:=ad)) ?_)
      rcases Zai hj with ⟨ar,hj⟩|⟨aq,hj⟩
      ·obtain rfl:=Z4 hj
       exact (EP.u 0 (ZO (c:=(a1.Stream != c2_)) (h:=ar)) (EP.f kr))
      obtain rfl:=Z4 hj
      exact (EP.u 0 (ZO (c:=(a1.Stream != c2_)) (h:=aq)) (EP.f kr))
     clear hj
     rintro s hR
     obtain rfl:=hR
     refine tq (it h (λap h=>?_) (λap h=>?_))
     ·refine kq (xq (tx (bx (tq (kq (rg ZJ.f ?_))))))
      cases h
      exact ⟨_,rfl,⟨a0,a5,kr,hT,Fp.at hH⟩⟩
     refine sk (tq (kq (sq ?_)))
     obtain ⟨ax,al,h⟩:=bs h
     obtain ⟨ak,a6,ac,hT,ae⟩:=hy_ a4 a1 aB ax a5 a0 hT (Fp.tail (own:=[.cel k0_ (ZI c0_),.cel k1_ [iv c1_],.cel k2_ [iv c2_]]) (its:=a0) hH) al
     replace hH:Fp H ak (.cel k0_ (ZI c0_)::.cel k1_ [iv c1_]::.cel k2_ [iv c2_]::its) (.cel k0_ (ZI c0_)::.cel k1_ [iv c1_]::.cel k2_ [iv c2_]::a6):=Fp.callT (own:=[.cel k0_ (ZI c0_),.cel k1_ [iv c1_],.cel k2_ [iv c2_]]) (its:=a0) hH ae
     refine rg (ZJ.v 3 (ZiJ (H:=a5) (id:=yid_) (ys:=[.agg (Zao a4),.agg (Zao a1)]) kr kr kr kr ac) ZJ.f) (tq (it h (λao h=>?_) (λao h=>?_)))
     ·refine rt (br (tr ?_))
      cases h
      exact ⟨_,rfl,rfl,⟨[],kr,kr,a6,hT,Fp.at hH⟩⟩
     refine sk (bn (tq (kq (rg ZJ.f ?_))))
     cases h
     exact ⟨_,rfl,⟨a6,ak,kr,hT,Fp.at hH⟩⟩
    refine kq (xq (tx ?_))
    cases h
    exact ⟨_,rfl,rfl,⟨a0,a5,kr,hT,Fp.at hH⟩⟩
   rintro e s hq
   rcases ai with aG|aE
   ·dsimp only at h hq
    obtain ⟨rfl,hR⟩:=hq
    obtain ⟨a2,a7,rfl,hT,hH⟩:=hR
    replace hH:Fp H a7 (.cel k0_ (ZI c0_)::.cel k1_ [iv c1_]::.cel k2_ [iv c2_]::its) (.cel k0_ (ZI c0_)::.cel k1_ [iv c1_]::.cel k2_ [iv c2_]::a2):=hH
    refine bx (bn (tq (kq (rg ZJ.f ?_))))
    cases h
    exact ⟨_,rfl,⟨a2,a7,kr,hT,Fp.at hH⟩⟩
   dsimp only at h hq
   obtain ⟨rfl,hq⟩:=hq
   refine br (br (tr ?_))
   cases h
   exact ⟨_,rfl,rfl,hq⟩
  refine kq (xq (tx ?_))
  cases h
  exact ⟨_,rfl,rfl,⟨its2,H3,kr,hT,Fp.at hH⟩⟩
 rintro e s hq
 rcases ag with aD|aC
 ·dsimp only at h hq
  obtain ⟨rfl,hR⟩:=hq
  obtain ⟨a3,af,rfl,hT,hH⟩:=hR
  replace hH:Fp H af (.cel k0_ (ZI c0_)::.cel k1_ [iv c1_]::.cel k2_ [iv c2_]::its) (.cel k0_ (ZI c0_)::.cel k1_ [iv c1_]::.cel k2_ [iv c2_]::a3):=hH
  refine bx ?_
  cases h
  exact ⟨[],kr,kr,a3,hT,Fp.at hH⟩
 dsimp only at h hq
 obtain ⟨rfl,hq⟩:=hq
 refine br ?_
 cases h
 exact hq
theorem ZbW (N:Nat)(a0_:Zah)(r:Int)(h:Zbr N a0_=some r):PCall Try.prog 55 [.agg (ZaU a0_)] (iv r):=by
 unfold Zbr at h
 have hH  := hp0
 refine Zaw ZoX rfl rfl (Zab _ _ _ ?_) rfl
 refine sq (rg ZJ.f (tq (sq (sq (rgX ⟨[(1,.loc 1 0),(22,bv ((decide (a0_.Period<1))||((decide (a0_.Period>960))||((decide (a0_.From<0))||(decide (a0_.From≥a0_.Period))))))],[(1,(ZaU a0_))],[]⟩ ?_ ?_)))))
 ·rcases Bool.eq_false_or_eq_true (decide (a0_.Period<1)) with hc1|hc2
  ·exact (EP.u 2 (ZO (c:=(decide (a0_.Period<1))) (h:=hc1)) (EP.f (by simp only [hc1];kernel_rfl)))
  refine (EP.u 2 (ZO (c:=(decide (a0_.Period<1))) (h:=hc2)) ?_)
  rcases Bool.eq_false_or_eq_true (decide (a0_.Period>960)) with hc3|hc4
  ·exact (EP.u 3 (ZO (c:=(decide (a0_.Period>960))) (h:=hc3)) (EP.f (by simp only [hc2,hc3];kernel_rfl)))
  refine (EP.u 3 (ZO (c:=(decide (a0_.Period>960))) (h:=hc4)) ?_)
  rcases Bool.eq_false_or_eq_true (decide (a0_.From<0)) with hc5|hc6
  ·exact (EP.u 4 (ZO (c:=(decide (a0_.From<0))) (h:=hc5)) (EP.f (by simp only [hc2,hc4,hc5];kernel_rfl)))
  exact (EP.u 4 (ZO (c:=(decide (a0_.From<0))) (h:=hc6)) (EP.f (by simp only [hc2,hc4,hc6];kernel_rfl)))
 refine tq (it h (λhc7 h=>?_) (λhc7 h=>?_))
 ·refine sq (rg ZJ.f (tq (rt (tr ?_))))
  cases h
  exact Zaj kr
 refine sk (tq (kq (sq (sq (rgX ⟨[(32,bv ((decide (a0_.Long<1))||(decide (a0_.Long>a0_.Period))))],[],[]⟩ ?_ ?_)))))
 ·rcases Bool.eq_false_or_eq_true (decide (a0_.Long<1)) with hc8|hc9
  ·exact (EP.u 2 (ZO (c:=(decide (a0_.Long<1))) (h:=hc8)) (EP.f (by simp only [hc8];kernel_rfl)))
  exact (EP.u 2 (ZO (c:=(decide (a0_.Long<1))) (h:=hc9)) (EP.f (by simp only [hc9];kernel_rfl)))
 refine tq (it h (λa0 h=>?_) (λa0 h=>?_))
 ·refine sq (rg ZJ.f (tq (rt (tr ?_))))
  cases h
  exact Zaj kr
 refine sk (tq (kq (sq (rg ZJ.f (tq (rt ?_))))))
 cases h
 exact Zaj kr
theorem Zdq (N:Nat)(a0_:(List Zah))(r:Int)(h:ZbV N a0_=some r):PCall Try.prog 57 [Zaq false a0_] (iv r):=by
 unfold ZbV at h
 have hH  := hp0
 refine Zaw ZoV rfl rfl (Zab _ _ _ ?_) rfl
 refine sq (rg ZJ.f (tq (sq (sq (rg (ZJ.u 1 (Z0 (ys:=[Zaq false a0_]) (h:=Zae Zat)) ZJ.f) (tq (it h (λhc1 h=>?_) (λhc1 h=>?_))))))))
 ·refine sq (rg ZJ.f (tq (rt (tr ?_))))
  cases h
  exact Zaj kr
 refine sk (tq (kq (sq (sq (rg (ZJ.u 1 (Z0 (ys:=[Zaq false a0_]) (h:=Zae Zat)) ZJ.f) (tq (bk ?_)))))))
 obtain ⟨a3,a1,h⟩:=bs h
 refine ZaO ((Zay (λ(x:Int) s=>s=⟨[(9,Zaq false a0_),(10,iv ((List.length a0_:Nat):Int)),(11,iv x)],[],[]⟩) (λx:Int=>ZaW N a0_ x) (λ(p:(Unit)⊕(Int)) e s=>match p with|(.inl p)=>e=.exit 0/\(s=⟨[],[],[]⟩)|(.inr p)=>e=.ret/\∃ xs,resL s i57.res=some xs/\Zbe xs=iv p) ?_ N _ a3 _ a1 kr).mono ?_)
 ·clear h a1
  rintro i2 o s h hR
  obtain rfl:=hR
  replace h:ZaW N a0_ i2=some o:=h
  unfold ZaW at h
  refine sq (rg ZJ.f (tq (sq (it h (λa6 h=>?_) (λa6 h=>?_)))))
  ·refine sk (tq (kq (sq (bk (sq ?_)))))
   obtain ⟨a0,a2,h⟩:=bs h
   refine rg (ZJ.u 0 (Z0 (ys:=[Zaq false a0_,iv i2]) (h:=ZS Zat a2)) (ZJ.u 0 (Zal (sz:=3) (off:=0) (cs:=[.int .i64 a0.Period,.int .i64 a0.From,.int .i64 a0.Long]) (r:=.agg (ZaU a0)) Zat a2) ZJ.f)) (tq (sq ?_))
   obtain ⟨a7,a4,h⟩:=bs h
   refine rg (ZJ.v 1 (Z9 (hc:=ZbW N a0 a7 a4)) ZJ.f) (tq (sq (rg ZJ.f (tq (it h (λa5 h=>?_) (λa5 h=>?_))))))
   ·refine sq (rg ZJ.f (tq (rt (br (tr ?_)))))
    cases h
    exact ⟨_,rfl,rfl,Zaj kr⟩
   refine sk (bn (tq (kq (rg ZJ.f ?_))))
   cases h
   exact ⟨_,rfl,kr⟩
  refine kq (xq (tx ?_))
  cases h
  exact ⟨_,rfl,rfl,kr⟩
 rintro e s hq
 rcases a3 with a9|a8
 ·dsimp only at h hq
  obtain ⟨rfl,hR⟩:=hq
  obtain rfl:=hR
  refine bx (tq (sq (rg ZJ.f (tq (rt ?_)))))
  cases h
  exact Zaj kr
 dsimp only at h hq
 obtain ⟨rfl,hq⟩:=hq
 refine br (tr ?_)
 cases h
 exact hq
theorem Zfa (N:Nat)(a0_:Int)(a1_:Int)(r:Int)(h:Zdp N a0_ a1_=some r):PCall Try.prog 62 [iv a0_,iv a1_] (iv r):=by
 unfold Zdp at h
 have hH  := hp0
 refine Zaw ZoS rfl rfl (Zab _ _ _ ?_) rfl
 refine sq (rg ZJ.f (tq (sq ?_)))
 obtain ⟨m1,hm1,h⟩:=bs h
 obtain ⟨m2,hm2,h⟩:=bs h
 refine rg (ZJ.u 2 (Z0 (ys:=[iv a0_,iv a1_]) (h:=Zcl hm1)) (ZJ.u 3 (Z0 (ys:=[iv (w64 (m1+a1_)),iv a1_]) (h:=Zcl hm2)) ZJ.f)) (tq (rt ?_))
 cases h
 exact Zaj kr
theorem Zdi (N:Nat)(a0_:Int)(a1_:Int)(r:Int)(h:Zct N a0_ a1_=some r):PCall Try.prog 63 [iv a0_,iv a1_] (iv r):=by
 unfold Zct at h
 have hH  := hp0
 refine Zaw ZoR rfl rfl (Zab _ _ _ ?_) rfl
 refine sq (rg ZJ.f (tq (sq (bk ?_))))
 obtain ⟨a3,a0,h⟩:=bs h
 refine ZaO ((Zay (λ(x:Int×Int) s=>s=⟨[(0,iv x.1),(1,iv x.2)],[],[]⟩) (λx:Int×Int=>ZbG N x.1 x.2) (λ(p:Int) e s=>e=.exit 0/\(s=⟨[(0,iv p)],[],[]⟩)) ?_ N _ a3 _ a0 kr).mono ?_)
 ·clear h a0
  rintro ⟨i1,i2⟩ o s h hR
  obtain rfl:=hR
  replace h:ZbG N i1 i2=some o:=h
  unfold ZbG at h
  refine sq (sq (rg ZJ.f (tq (it h (λa2 h=>?_) (λa2 h=>?_)))))
  ·refine sk (tq (kq (bk ?_)))
   obtain ⟨a4,a1,h⟩:=bs h
   refine rq (ZJ.u 3 (Z0 (ys:=[iv i1,iv i2]) (h:=Zcl a1)) ZJ.f) (bn ?_)
   cases h
   exact ⟨_,rfl,kr⟩
  refine kq (xq (tx ?_))
  cases h
  exact ⟨_,rfl,rfl,kr⟩
 rintro e s hq
 obtain ⟨rfl,hR⟩:=hq
 obtain rfl:=hR
 refine bx (tq (sq (rg ZJ.f (tq (rt ?_)))))
 cases h
 exact Zaj kr
theorem Zfe (N:Nat)(a0_:ZM)(a1_:(List ZP))(a2_:Int)(r:Bool)(h:Zdu N a0_ a1_ a2_=some r):PCall Try.prog 38 [.agg (ZI a0_),ZK false a1_,iv a2_] (bv r):=by
 unfold Zdu at h
 have hH  := hp0
 refine Zaw Zo7 rfl rfl (Zab _ _ _ ?_) rfl
 refine sq (rg ZJ.f (tq (sq ?_)))
 obtain ⟨e1,he1,h⟩:=bs h
 obtain ⟨e2,he2,h⟩:=bs h
 refine rq (ZJ.u 4 (Z0 (ys:=[ZK false a1_,iv a2_]) (h:=ZS Z2 he1)) (ZJ.u 1 (Zbo (Zal (sz:=2) (off:=0) (cs:=[.int .i64 e1.Stream]) (r:=iv e1.Stream) Z2 he1)) (ZJ.u 0 (Z0 (ys:=[Zaf false a0_.Periods,iv e1.Stream]) (h:=ZS eI64 he2)) (ZJ.u 0 (Zbo (Zal (sz:=1) (off:=0) (cs:=[.int .i64 e2]) (r:=iv e2) eI64 he2)) ZJ.f)))) (tq (sq (sq ?_)))
 obtain ⟨e3,he3,h⟩:=bs h
 refine rg (ZJ.u 2 (Z0 (ys:=[ZK false a1_,iv a2_]) (h:=ZS Z2 he3)) (ZJ.u 1 (Zal (sz:=2) (off:=1) (cs:=[.sl 4 false (List.map Zan e3.Arms)]) (r:=Z3 false e3.Arms) Z2 he3) (ZJ.u 0 (Z0 (ys:=[Z3 false e3.Arms]) (h:=Zae Zan)) ZJ.f))) (tq (bk ?_))
 obtain ⟨a3,a1,h⟩:=bs h
 refine ZaO ((Zay (λ(x:Int×Int) s=>s=⟨[(1,ZK false a1_),(2,iv a2_),(3,.loc 3 0),(7,iv e2),(8,iv x.1),(24,Z3 false e3.Arms),(25,iv ((List.length e3.Arms:Nat):Int)),(26,iv x.2)],[(3,(ZI a0_))],[]⟩) (λx:Int×Int=>ZbM N a0_ a1_ a2_ e2 e3 x.1 x.2) (λ(p:(Int)⊕(Bool)) e s=>match p with|(.inl p)=>e=.exit 0/\(s=⟨[(7,iv e2),(8,iv p)],[],[]⟩)|(.inr p)=>e=.ret/\∃ xs,resL s i38.res=some xs/\Zbe xs=bv p) ?_ N _ a3 _ a1 kr).mono ?_)
 ·clear h a1
  rintro ⟨i4,i5⟩ o s h hR
  obtain rfl:=hR
  replace h:ZbM N a0_ a1_ a2_ e2 e3 i4 i5=some o:=h
  unfold ZbM at h
  refine sq (rg ZJ.f (tq (sq (it h (λac h=>?_) (λac h=>?_)))))
  ·refine sk (tq (kq (sq (bk (sq ?_)))))
   obtain ⟨a0,a2,h⟩:=bs h
   refine rg (ZJ.u 0 (Z0 (ys:=[Z3 false e3.Arms,iv i5]) (h:=ZS Zan a2)) (ZJ.u 0 (Zal (sz:=4) (off:=0) (cs:=[.int .i64 a0.From,.int .i64 a0.To,.int .i64 a0.By,.int .i64 a0.Next]) (r:=.agg (ZaC a0)) Zan a2) ZJ.f)) (tq (sq (sq ?_)))
   obtain ⟨ae,hj,h⟩:=bs h
   refine rgR (λs=>s=⟨[(1,ZK false a1_),(2,iv a2_),(3,.loc 3 0),(7,iv e2),(10,.loc 10 0),(24,Z3 false e3.Arms),(25,iv ((List.length e3.Arms:Nat):Int)),(26,iv i5),(54,bv ae)],[(3,(ZI a0_)),(10,(ZaC a0))],[]⟩) ?_ ?_
   ·clear h
    rcases Zai hj with ⟨ab,hj⟩|⟨aa,hj⟩
    ·obtain rfl:=Z4 hj
     exact (EP.u 3 (ZO (c:=(a0.From != i4)) (h:=ab)) (EP.f kr))
    refine (EP.u 3 (ZO (c:=(a0.From != i4)) (h:=aa)) ?_)
    rcases Zai hj with ⟨a9,hj⟩|⟨a8,hj⟩
    ·obtain rfl:=Z4 hj
     exact (EP.u 5 (ZO (c:=(decide (a0.To<=a0.From))) (h:=a9)) (EP.f kr))
    refine (EP.u 5 (ZO (c:=(decide (a0.To<=a0.From))) (h:=a8)) ?_)
    rcases Zai hj with ⟨a7,hj⟩|⟨a6,hj⟩
    ·obtain rfl:=Z4 hj
     exact (EP.u 5 (ZO (c:=(decide (a0.To>e2))) (h:=a7)) (EP.f kr))
    refine (EP.u 5 (ZO (c:=(decide (a0.To>e2))) (h:=a6)) ?_)
    obtain ⟨ad,a4,hj⟩:=bs hj
    obtain rfl:=Z4 hj
    exact (EP.v 6 (Z9 (hc:=ZdQ N a0_ a1_ a2_ a0 ad a4)) (EP.f kr))
   clear hj
   rintro s hR
   obtain rfl:=hR
   refine tq (it h (λa5 h=>?_) (λa5 h=>?_))
   ·refine sq (rg ZJ.f (tq (rt (tr (br (tr ?_))))))
    cases h
    exact ⟨_,rfl,rfl,Zaj kr⟩
   refine sk (tq (kq (rg ZJ.f (bn (tq (kq (rg ZJ.f ?_)))))))
   cases h
   exact ⟨_,rfl,kr⟩
  refine kq (xq (tx ?_))
  cases h
  exact ⟨_,rfl,rfl,kr⟩
 rintro e s hq
 rcases a3 with ag|af
 ·dsimp only at h hq
  obtain ⟨rfl,hR⟩:=hq
  obtain rfl:=hR
  refine bx (tq (sq (rg ZJ.f (tq (rt ?_)))))
  cases h
  exact Zaj kr
 dsimp only at h hq
 obtain ⟨rfl,hq⟩:=hq
 refine br (tr ?_)
 cases h
 exact hq
theorem ZeI (N:Nat)(a0_:Int)(a1_:(List Int))(r:Int)(h:ZcP N a0_ a1_=some r):PCall Try.prog 58 [iv a0_,Zaf false a1_] (iv r):=by
 unfold ZcP at h
 have hH  := hp0
 refine Zaw ZoU rfl rfl (Zab _ _ _ ?_) rfl
 refine sq (rg ZJ.f (tq (sq (rg ZJ.f (tq (sq (sq (rg (ZJ.u 1 (Z0 (ys:=[Zaf false a1_]) (h:=Zae eI64)) ZJ.f) (tq (bk ?_))))))))))
 obtain ⟨a8,a0,h⟩:=bs h
 refine ZaO ((Zay (λ(x:Int×Int) s=>s=⟨[(0,iv a0_),(5,iv x.1),(8,Zaf false a1_),(9,iv ((List.length a1_:Nat):Int)),(10,iv x.2)],[],[]⟩) (λx:Int×Int=>Zbq N a0_ a1_ x.1 x.2) (λ(p:Int) e s=>e=.exit 0/\(s=⟨[(5,iv p)],[],[]⟩)) ?_ N _ a8 _ a0 kr).mono ?_)
 ·clear h a0
  rintro ⟨i1,i2⟩ o s h hR
  obtain rfl:=hR
  replace h:Zbq N a0_ a1_ i1 i2=some o:=h
  unfold Zbq at h
  refine sq (rg ZJ.f (tq (sq (it h (λa7 h=>?_) (λa7 h=>?_)))))
  ·refine sk (tq (kq (sq (bk (sq ?_)))))
   obtain ⟨a2,a1,h⟩:=bs h
   refine rg (ZJ.u 0 (Z0 (ys:=[Zaf false a1_,iv i2]) (h:=ZS eI64 a1)) (ZJ.u 0 (Zal (sz:=1) (off:=0) (cs:=[.int .i64 a2]) (r:=iv a2) eI64 a1) ZJ.f)) (tq (sq ?_))
   obtain ⟨a3,a4,h⟩:=bs h
   obtain ⟨a9,a5,h⟩:=bs h
   refine rg (ZJ.v 3 (Z9 (hc:=Zdi N i1 a2 a3 a4)) (ZJ.u 0 (Z0 (ys:=[iv i1,iv a3]) (h:=Zh1 a5)) ZJ.f)) (tq (sq (rg ZJ.f (tq (it h (λa6 h=>?_) (λa6 h=>?_))))))
   ·refine kq (xq (bo (tx ?_)))
    cases h
    exact ⟨_,rfl,rfl,kr⟩
   refine sk (bn (tq (kq (rg ZJ.f ?_))))
   cases h
   exact ⟨_,rfl,kr⟩
  refine kq (xq (tx ?_))
  cases h
  exact ⟨_,rfl,rfl,kr⟩
 rintro e s hq
 obtain ⟨rfl,hR⟩:=hq
 obtain rfl:=hR
 refine bx (tq (sq (rg ZJ.f (tq (rt ?_)))))
 cases h
 exact Zaj kr
theorem ZeH (N:Nat)(a0_:Zah)(a1_:Zah)(r:Int×Int×Int)(h:ZcO N a0_ a1_=some r):PCall Try.prog 61 [.agg (ZaU a0_),.agg (ZaU a1_)] (.tup [iv r.1,iv r.2.1,iv r.2.2]):=by
 unfold ZcO at h
 have hH  := hp0
 refine Zaw ZoT rfl rfl (Zab _ _ _ ?_) rfl
 refine sq (rg ZJ.f (tq (sq ?_)))
 obtain ⟨r1,hr1,h⟩:=bs h
 refine rg (ZJ.v 4 (Z9 (hc:=Zdi N a0_.Period a1_.Period r1 hr1)) ZJ.f) (tq (sq (rq ZJ.f (tq (rt ?_)))))
 cases h
 exact Zaj kr
theorem ZeM (N:Nat)(a0_:ZM)(a1_:(List ZP))(r:Bool)(h:ZcQ N a0_ a1_=some r):PCall Try.prog 24 [.agg (ZI a0_),ZK false a1_] (bv r):=by
 unfold ZcQ at h
 have hH  := hp0
 refine Zaw Zpf rfl rfl (Zab _ _ _ ?_) rfl
 refine sq (rg ZJ.f (tq (sq (sq (rgX ⟨[(1,ZK false a1_),(2,.loc 2 0),(19,bv ((decide (((List.length a1_:Nat):Int)<1))||(decide (((List.length a1_:Nat):Int)>2000))))],[(2,(ZI a0_))],[]⟩ ?_ ?_)))))
 ·refine (EP.u 1 (Z0 (ys:=[ZK false a1_]) (h:=Zae Z2)) ?_)
  rcases Bool.eq_false_or_eq_true (decide (((List.length a1_:Nat):Int)<1)) with hc1|hc2
  ·exact (EP.u 0 (ZO (c:=(decide (((List.length a1_:Nat):Int)<1))) (h:=hc1)) (EP.f (by simp only [hc1];kernel_rfl)))
  exact (EP.u 0 (ZO (c:=(decide (((List.length a1_:Nat):Int)<1))) (h:=hc2)) (EP.u 2 (Z0 (ys:=[ZK false a1_]) (h:=Zae Z2)) (EP.f (by simp only [hc2];kernel_rfl))))
 refine tq (it h (λhc3 h=>?_) (λhc3 h=>?_))
 ·refine sq (rg ZJ.f (tq (rt (tr ?_))))
  cases h
  exact Zaj kr
 refine sk (tq (kq (sq ?_)))
 obtain ⟨l6,hl6,h⟩:=bs h
 obtain ⟨a4,H5,ha4,hH5,ha4b,hH⟩:=HP.make eI64 hH hl6
 replace hH:HP _ [.arr a4 1 false (List.map eI64 l6)]:=hH
 have hfa4:=Za7 (HP.get hH 0 rfl)
 refine rgS ⟨[(1,ZK false a1_),(2,.loc 2 0),(5,a4)],[(2,(ZI a0_))],H5⟩ (ZJ.u 1 (Z0 (ys:=[ZK false a1_]) (h:=Zae Z2)) (ZJ.h 0 (ZgQ (H:=[]) (zero:=[.int .i64 0]) (bytes:=8) kr kr kr ha4 hH5 ha4b) ZJ.f)) (by cases hfa4<;>kernel_rfl) (tq (sq (sq (rgS ⟨[(1,ZK false a1_),(2,.loc 2 0),(5,a4),(23,ZK false a1_),(24,iv ((List.length a1_:Nat):Int)),(25,iv 0)],[(2,(ZI a0_))],H5⟩ (ZJ.u 1 (Z0 (ys:=[ZK false a1_]) (h:=Zae Z2)) ZJ.f) (by cases hfa4<;>kernel_rfl) (tq (ZkF (bk ?_)))))))
 obtain ⟨aD,ak,h⟩:=bs h
 refine ZaO ((Zay (λ(x:Int×(List Int)) s=>∃ (a7:AV) (H8:List HO),s=⟨[(1,ZK false a1_),(2,.loc 2 0),(5,a7),(23,ZK false a1_),(24,iv ((List.length a1_:Nat):Int)),(25,iv x.1)],[(2,(ZI a0_))],H8⟩/\HP H8 [.arr a7 1 false (List.map eI64 x.2)]) (λx:Int×(List Int)=>Zbu N a0_ a1_ x.1 x.2) (λ(p:((List Int))⊕(Bool)) e s=>match p with|(.inl p)=>e=.exit 0/\(∃ (ae:AV) (aB:List HO),s=⟨[(5,ae)],[],aB⟩/\HP aB [.arr ae 1 false (List.map eI64 p)])|(.inr p)=>e=.ret/\∃ xs,resL s i24.res=some xs/\Zbe xs=bv p) ?_ N _ aD _ ak ⟨a4,H5,(by show _=_;cases hfa4<;>kernel_rfl),(HP.pick hH [0] rfl)⟩).mono ?_)
 ·clear h ak
  rintro ⟨i9,bt⟩ o s h hR
  obtain ⟨a7,H8,rfl,hH⟩:=hR
  replace hH:HP _ [.arr a7 1 false (List.map eI64 bt)]:=hH
  have hfa7:=Za7 (HP.get hH 0 rfl)
  replace h:Zbu N a0_ a1_ i9 bt=some o:=h
  unfold Zbu at h
  refine sq (rgS ⟨[(1,ZK false a1_),(2,.loc 2 0),(5,a7),(23,ZK false a1_),(24,iv ((List.length a1_:Nat):Int)),(25,iv i9),(26,bv (decide (i9<((List.length a1_:Nat):Int))))],[(2,(ZI a0_))],H8⟩ ZJ.f (by cases hfa7<;>kernel_rfl) (tq (sq (it h (λbb h=>?_) (λbb h=>?_)))))
  ·refine sk (tq (kq (sq (bk (sq ?_)))))
   obtain ⟨a0,aJ,h⟩:=bs h
   refine rgS ⟨[(1,ZK false a1_),(2,.loc 2 0),(5,a7),(6,iv i9),(7,.loc 7 0),(23,ZK false a1_),(24,iv ((List.length a1_:Nat):Int)),(25,iv i9)],[(2,(ZI a0_)),(7,(ZaE a0))],H8⟩ (ZJ.u 1 (Z0 (ys:=[ZK false a1_,iv i9]) (h:=ZS Z2 aJ)) (ZJ.u 0 (Zal (sz:=2) (off:=0) (cs:=[.int .i64 a0.Stream,.sl 4 false (List.map Zan a0.Arms)]) (r:=.agg (ZaE a0)) Z2 aJ) (ZJ.f (h:=(by cases hfa7<;>kernel_rfl))))) (by cases hfa7<;>kernel_rfl) (tq (sq (sq ?_)))
   obtain ⟨bf,hj,h⟩:=bs h
   refine rgR (λs=>s=⟨[(1,ZK false a1_),(2,.loc 2 0),(5,a7),(7,.loc 7 0),(23,ZK false a1_),(24,iv ((List.length a1_:Nat):Int)),(25,iv i9),(47,bv bf)],[(2,(ZI a0_)),(7,(ZaE a0))],H8⟩) ?_ ?_
   ·clear h
    rcases Zai hj with ⟨ba,hj⟩|⟨b2,hj⟩
    ·obtain rfl:=Z4 hj
     exact (EP.u 2 (ZO (c:=(decide (a0.Stream<0))) (h:=ba)) (EP.f (by show _=_;cases hfa7<;>kernel_rfl)))
    refine (EP.u 2 (ZO (c:=(decide (a0.Stream<0))) (h:=b2)) (EP.u 5 (Z0 (ys:=[Zaf false a0_.Periods]) (h:=Zae eI64)) ?_))
    rcases Zai hj with ⟨b1,hj⟩|⟨b0,hj⟩
    ·obtain rfl:=Z4 hj
     exact (EP.u 0 (ZO (c:=(decide (a0.Stream≥((List.length a0_.Periods:Nat):Int)))) (h:=b1)) (EP.f (by show _=_;cases hfa7<;>kernel_rfl)))
    refine (EP.u 0 (ZO (c:=(decide (a0.Stream≥((List.length a0_.Periods:Nat):Int)))) (h:=b0)) ?_)
    obtain ⟨be,aW,hj⟩:=bs hj
    obtain rfl:=Z4 hj
    exact (EP.v 5 (Z9 (hc:=Zfe N a0_ a1_ i9 be aW)) (EP.f (by show _=_;cases hfa7<;>kernel_rfl)))
   clear hj
   rintro s hR
   obtain rfl:=hR
   refine tq (it h (λaZ h=>?_) (λaZ h=>?_))
   ·refine sq (rgS ⟨[(4,bv false)],[],H8⟩ ZJ.f (by cases hfa7<;>kernel_rfl) ?_)
    replace hH:HP _ []:=HP.pick hH [] rfl
    refine tq (rt (tr (br (tr ?_))))
    cases h
    exact ⟨_,rfl,rfl,Zaj kr⟩
   refine sk (tq (kq (sq (rgS ⟨[(1,ZK false a1_),(2,.loc 2 0),(5,a7),(23,ZK false a1_),(24,iv ((List.length a1_:Nat):Int)),(25,iv i9),(49,Z3 false a0.Arms),(50,iv ((List.length a0.Arms:Nat):Int)),(51,iv 0)],[(2,(ZI a0_))],H8⟩ (ZJ.u 2 (Z0 (ys:=[Z3 false a0.Arms]) (h:=Zae Zan)) ZJ.f) (by cases hfa7<;>kernel_rfl) (tq (bk ?_))))))
   obtain ⟨aE,al,h⟩:=bs h
   refine ZaO ((Zay (λ(x:Int×(List Int)) s=>∃ (a3:AV) (a6:List HO),s=⟨[(1,ZK false a1_),(2,.loc 2 0),(5,a3),(23,ZK false a1_),(24,iv ((List.length a1_:Nat):Int)),(25,iv i9),(49,Z3 false a0.Arms),(50,iv ((List.length a0.Arms:Nat):Int)),(51,iv x.1)],[(2,(ZI a0_))],a6⟩/\HP a6 [.arr a3 1 false (List.map eI64 x.2)]) (λx:Int×(List Int)=>Zbt N a0 x.1 x.2) (λ(p:(List Int)) e s=>e=.exit 2/\(∃ (aa:AV) (ad:List HO),s=⟨[(1,ZK false a1_),(2,.loc 2 0),(5,aa),(23,ZK false a1_),(24,iv ((List.length a1_:Nat):Int)),(25,iv i9)],[(2,(ZI a0_))],ad⟩/\HP ad [.arr aa 1 false (List.map eI64 p)])) ?_ N _ aE _ al ⟨a7,H8,(by show _=_;cases hfa7<;>kernel_rfl),(HP.pick hH [0] rfl)⟩).mono ?_)
   ·clear h al
    rintro ⟨ab,aM⟩ o s h hR
    obtain ⟨a3,a6,rfl,hH⟩:=hR
    replace hH:HP _ [.arr a3 1 false (List.map eI64 aM)]:=hH
    have a1:=Za7 (HP.get hH 0 rfl)
    replace h:Zbt N a0 ab aM=some o:=h
    unfold Zbt at h
    refine sq (rgS ⟨[(1,ZK false a1_),(2,.loc 2 0),(5,a3),(23,ZK false a1_),(24,iv ((List.length a1_:Nat):Int)),(25,iv i9),(49,Z3 false a0.Arms),(50,iv ((List.length a0.Arms:Nat):Int)),(51,iv ab),(52,bv (decide (ab<((List.length a0.Arms:Nat):Int))))],[(2,(ZI a0_))],a6⟩ ZJ.f (by cases a1<;>kernel_rfl) (tq (sq (it h (λaU h=>?_) (λaU h=>?_)))))
    ·refine sk (tq (kq ?_))
     obtain ⟨aG,am,h⟩:=bs h
     refine ZfF [1,2,5,23,24,25,49,50,51] (λs=>∃ (a9:AV) (ac:List HO),s=⟨[(1,ZK false a1_),(2,.loc 2 0),(5,a9),(23,ZK false a1_),(24,iv ((List.length a1_:Nat):Int)),(25,iv i9),(49,Z3 false a0.Arms),(50,iv ((List.length a0.Arms:Nat):Int)),(51,iv ab)],[(2,(ZI a0_))],ac⟩/\HP ac [.arr a9 1 false (List.map eI64 aG)]) ?_ ?_
     ·clear h
      have h:=am
      refine bk (sq ?_)
      obtain ⟨a2,aw,h⟩:=bs h
      refine rgS ⟨[(1,ZK false a1_),(2,.loc 2 0),(5,a3),(9,.loc 9 0),(23,ZK false a1_),(24,iv ((List.length a1_:Nat):Int)),(25,iv i9),(49,Z3 false a0.Arms),(50,iv ((List.length a0.Arms:Nat):Int)),(51,iv ab)],[(2,(ZI a0_)),(9,(ZaC a2))],a6⟩ (ZJ.u 0 (Z0 (ys:=[Z3 false a0.Arms,iv ab]) (h:=ZS Zan aw)) (ZJ.u 0 (Zal (sz:=4) (off:=0) (cs:=[.int .i64 a2.From,.int .i64 a2.To,.int .i64 a2.By,.int .i64 a2.Next]) (r:=.agg (ZaC a2)) Zan aw) (ZJ.f (h:=(by cases a1<;>kernel_rfl))))) (by cases a1<;>kernel_rfl) (tq (sq (rgS ⟨[(1,ZK false a1_),(2,.loc 2 0),(5,a3),(9,.loc 9 0),(23,ZK false a1_),(24,iv ((List.length a1_:Nat):Int)),(25,iv i9),(49,Z3 false a0.Arms),(50,iv ((List.length a0.Arms:Nat):Int)),(51,iv ab),(57,bv (a2.By==(-1)))],[(2,(ZI a0_)),(9,(ZaC a2))],a6⟩ ZJ.f (by cases a1<;>kernel_rfl) (tq (it h (λaT h=>?_) (λaT h=>?_))))))
      ·obtain ⟨a5,av,h⟩:=bs h
       obtain ⟨bj,bd,_,aX,aA,aY,aq⟩:=HP.elem (k:=0) (a:=a3) (sz:=1) (frz:=false) eI64 hH rfl av
       obtain ⟨bu,au,h⟩:=bs h
       obtain ⟨bi,bc,_,ao,az,ap,an⟩:=HP.elem (k:=0) (a:=a3) (sz:=1) (frz:=false) eI64 hH rfl au
       obtain ⟨aL,aV,hH⟩:=HP.setRow (k:=0) (off:=0) (cs:=[iv (w64 (a5+1))]) (ps:=[.int .i64 (w64 (a5+1))]) (e':=(w64 (a5+1))) eI64 hH rfl ap az (ao rfl) au kr kr
       replace hH:HP _ [.arr a3 1 false (List.map eI64 (List.set aM (Int.toNat a2.Next) (w64 (a5+1))))]:=hH
       refine rgS ⟨[(1,ZK false a1_),(2,.loc 2 0),(5,a3),(23,ZK false a1_),(24,iv ((List.length a1_:Nat):Int)),(25,iv i9),(49,Z3 false a0.Arms),(50,iv ((List.length a0.Arms:Nat):Int)),(51,iv ab)],[(2,(ZI a0_))],aL⟩ (ZJ.u 3 (Z0 (ys:=[a3,iv a2.Next]) (by cases a1<;>kernel_rfl) (aq .i64)) (ZJ.u 0 (Zer (H:=a6) (off:=0) (cs:=[.int .i64 a5]) (r:=iv a5) eI64 av aA) (ZJ.u 1 (Z0 (ys:=[a3,iv a2.Next]) (by cases a1<;>kernel_rfl) (an .i64)) (ZJ.o 0 (Zbp (H:=a6) (v:=iv (w64 (a5+1))) (hw:=aV)) ZJ.f)))) (by cases a1<;>kernel_rfl) (bn ?_)
       cases h
       exact ⟨rfl,⟨a3,aL,(by show _=_;cases a1<;>kernel_rfl),(HP.pick hH [0] rfl)⟩⟩
      refine sk (bn ?_)
      cases h
      exact ⟨rfl,⟨a3,a6,(by show _=_;cases a1<;>kernel_rfl),(HP.pick hH [0] rfl)⟩⟩
     clear am
     rintro s hR
     obtain ⟨a9,ac,rfl,hH⟩:=hR
     replace hH:HP _ [.arr a9 1 false (List.map eI64 aG)]:=hH
     have ag:=Za7 (HP.get hH 0 rfl)
     refine rgS ⟨[(1,ZK false a1_),(2,.loc 2 0),(5,a9),(23,ZK false a1_),(24,iv ((List.length a1_:Nat):Int)),(25,iv i9),(49,Z3 false a0.Arms),(50,iv ((List.length a0.Arms:Nat):Int)),(51,iv (w64 (ab+1)))],[(2,(ZI a0_))],ac⟩ ZJ.f (by cases ag<;>kernel_rfl) ?_
     cases h
     exact ⟨_,rfl,⟨a9,ac,(by show _=_;cases ag<;>kernel_rfl),(HP.pick hH [0] rfl)⟩⟩
    refine kq (xq (tx ?_))
    cases h
    exact ⟨_,rfl,rfl,⟨a3,a6,(by show _=_;cases a1<;>kernel_rfl),(HP.pick hH [0] rfl)⟩⟩
   rintro e s hq
   obtain ⟨rfl,hR⟩:=hq
   obtain ⟨aa,ad,rfl,hH⟩:=hR
   replace hH:HP _ [.arr aa 1 false (List.map eI64 aE)]:=hH
   have ai:=Za7 (HP.get hH 0 rfl)
   refine bx (bn (tq (kq (rgS ⟨[(1,ZK false a1_),(2,.loc 2 0),(5,aa),(23,ZK false a1_),(24,iv ((List.length a1_:Nat):Int)),(25,iv (w64 (i9+1)))],[(2,(ZI a0_))],ad⟩ ZJ.f (by cases ai<;>kernel_rfl) ?_))))
   cases h
   exact ⟨_,rfl,⟨aa,ad,(by show _=_;cases ai<;>kernel_rfl),(HP.pick hH [0] rfl)⟩⟩
  refine kq (xq (tx ?_))
  cases h
  exact ⟨_,rfl,rfl,⟨a7,H8,(by show _=_;cases hfa7<;>kernel_rfl),(HP.pick hH [0] rfl)⟩⟩
 rintro e s hq
 rcases aD with af|bm
 ·dsimp only at h hq
  obtain ⟨rfl,hR⟩:=hq
  obtain ⟨ae,aB,rfl,hH⟩:=hR
  replace hH:HP _ [.arr ae 1 false (List.map eI64 af)]:=hH
  have bl:=Za7 (HP.get hH 0 rfl)
  refine bx ?_
  obtain ⟨ax,_,ay,hH⟩:=HP.frz (k:=0) (a:=ae) (sz:=1) (frz:=false) eI64 hH rfl
  replace hH:HP _ [.arr ae 1 true (List.map eI64 af)]:=hH
  refine ⟨⟨[(5,Zaf false af)],[],ax⟩,(ZhD 5 (H:=aB) (a:=ae) (by decide) kr kr ay kr),?_⟩
  replace hH:HP _ []:=HP.pick hH [] rfl
  refine tq (sq (sq ?_))
  obtain ⟨a8,aQ,h⟩:=bs h
  refine rg (ZJ.u 1 (Z0 (ys:=[Zaf false af,iv 1]) (h:=ZfE eI64 aQ)) (ZJ.u 0 (Z0 (ys:=[Zaf false a8]) (h:=Zae eI64)) ZJ.f)) (tq (bk ?_))
  obtain ⟨aC,aj,h⟩:=bs h
  refine ZaO ((Zay (λ(x:Int) s=>s=⟨[(68,Zaf false a8),(69,iv ((List.length a8:Nat):Int)),(70,iv x)],[],ax⟩) (λx:Int=>Zbs N a8 x) (λ(p:(Unit)⊕(Bool)) e s=>match p with|(.inl p)=>e=.exit 4/\(s=⟨[],[],ax⟩)|(.inr p)=>e=.ret/\∃ xs,resL s i24.res=some xs/\Zbe xs=bv p) ?_ N _ aC _ aj kr).mono ?_)
  ·clear h aj
   rintro aI o s h hR
   obtain rfl:=hR
   replace h:Zbs N a8 aI=some o:=h
   unfold Zbs at h
   refine sq (rg ZJ.f (tq (sq (it h (λaS h=>?_) (λaS h=>?_)))))
   ·refine sk (tq (kq (sq (bk (sq ?_)))))
    obtain ⟨aK,ar,h⟩:=bs h
    refine rg (ZJ.u 0 (Z0 (ys:=[Zaf false a8,iv aI]) (h:=ZS eI64 ar)) (ZJ.u 0 (Zal (sz:=1) (off:=0) (cs:=[.int .i64 aK]) (r:=iv aK) eI64 ar) ZJ.f)) (tq (sq (rg ZJ.f (tq (it h (λaR h=>?_) (λaR h=>?_))))))
    ·refine sq (rg ZJ.f (tq (rt (br (tr ?_)))))
     cases h
     exact ⟨_,rfl,rfl,Zaj kr⟩
    refine sk (bn (tq (kq (rg ZJ.f ?_))))
    cases h
    exact ⟨_,rfl,kr⟩
   refine kq (xq (tx ?_))
   cases h
   exact ⟨_,rfl,rfl,kr⟩
  rintro e s hq
  rcases aC with bq|bp
  ·dsimp only at h hq
   obtain ⟨rfl,hR⟩:=hq
   obtain rfl:=hR
   refine bx (tq (sq (rg ZJ.f (tq (rt ?_)))))
   cases h
   exact Zaj kr
  dsimp only at h hq
  obtain ⟨rfl,hq⟩:=hq
  refine br (tr ?_)
  cases h
  exact hq
 dsimp only at h hq
 obtain ⟨rfl,hq⟩:=hq
 refine br (pur (tr ?_))
 cases h
 exact hq
theorem Zel (N:Nat)(a0_:(List Zah))(r:Int×Int)(h:Zcv N a0_=some r):PCall Try.prog 49 [Zaq false a0_] (.tup [iv r.1,iv r.2]):=by
 unfold Zcv at h
 have hH  := hp0
 refine Zaw Zo1 rfl rfl (Zab _ _ _ ?_) rfl
 refine sq (rg ZJ.f (tq (sq (sq ?_))))
 obtain ⟨r1,hr1,h⟩:=bs h
 refine rg (ZJ.v 1 (Z9 (hc:=Zdq N a0_ r1 hr1)) ZJ.f) (tq (sq (rg ZJ.f (tq (it h (λhc2 h=>?_) (λhc2 h=>?_))))))
 ·refine sq (rg ZJ.f (tq (rt (tr ?_))))
  cases h
  exact Zaj kr
 refine sk (tq (kq (sq ?_)))
 obtain ⟨l5,hl5,h⟩:=bs h
 obtain ⟨a3,H4,ha3,hH4,ha3b,hH⟩:=HP.make eI64 hH hl5
 replace hH:HP _ [.arr a3 1 false (List.map eI64 l5)]:=hH
 have hfa3:=Za7 (HP.get hH 0 rfl)
 refine rgS ⟨[(0,Zaq false a0_),(5,a3)],[],H4⟩ (ZJ.u 1 (Z0 (ys:=[Zaq false a0_]) (h:=Zae Zat)) (ZJ.h 0 (ZgQ (H:=[]) (zero:=[.int .i64 0]) (bytes:=8) kr kr kr ha3 hH4 ha3b) ZJ.f)) (by cases hfa3<;>kernel_rfl) (tq (sq (sq (rgS ⟨[(5,a3),(17,Zaq false a0_),(18,iv ((List.length a0_:Nat):Int)),(19,iv 0)],[],H4⟩ (ZJ.u 1 (Z0 (ys:=[Zaq false a0_]) (h:=Zae Zat)) ZJ.f) (by cases hfa3<;>kernel_rfl) (tq (bk ?_))))))
 obtain ⟨a4,ab,h⟩:=bs h
 refine ZaO ((Zay (λ(x:Int×(List Int)) s=>∃ (a6:AV) (H7:List HO),s=⟨[(5,a6),(17,Zaq false a0_),(18,iv ((List.length a0_:Nat):Int)),(19,iv x.1)],[],H7⟩/\HP H7 [.arr a6 1 false (List.map eI64 x.2)]) (λx:Int×(List Int)=>Zbj N a0_ x.1 x.2) (λ(p:(List Int)) e s=>e=.exit 0/\(∃ (a1:AV) (aa:List HO),s=⟨[(5,a1)],[],aa⟩/\HP aa [.arr a1 1 false (List.map eI64 p)])) ?_ N _ a4 _ ab ⟨a3,H4,(by show _=_;cases hfa3<;>kernel_rfl),(HP.pick hH [0] rfl)⟩).mono ?_)
 ·clear h ab
  rintro ⟨i8,l9⟩ o s h hR
  obtain ⟨a6,H7,rfl,hH⟩:=hR
  replace hH:HP _ [.arr a6 1 false (List.map eI64 l9)]:=hH
  have hfa6:=Za7 (HP.get hH 0 rfl)
  replace h:Zbj N a0_ i8 l9=some o:=h
  unfold Zbj at h
  refine sq (rgS ⟨[(5,a6),(17,Zaq false a0_),(18,iv ((List.length a0_:Nat):Int)),(19,iv i8),(20,bv (decide (i8<((List.length a0_:Nat):Int))))],[],H7⟩ ZJ.f (by cases hfa6<;>kernel_rfl) (tq (sq (it h (λak h=>?_) (λak h=>?_)))))
  ·refine sk (tq (kq (sq (bk (sq ?_)))))
   obtain ⟨a0,ad,h⟩:=bs h
   refine rgS ⟨[(5,a6),(6,iv i8),(7,.loc 7 0),(17,Zaq false a0_),(18,iv ((List.length a0_:Nat):Int)),(19,iv i8)],[(7,(ZaU a0))],H7⟩ (ZJ.u 1 (Z0 (ys:=[Zaq false a0_,iv i8]) (h:=ZS Zat ad)) (ZJ.u 0 (Zal (sz:=3) (off:=0) (cs:=[.int .i64 a0.Period,.int .i64 a0.From,.int .i64 a0.Long]) (r:=.agg (ZaU a0)) Zat ad) (ZJ.f (h:=(by cases hfa6<;>kernel_rfl))))) (by cases hfa6<;>kernel_rfl) (tq ?_)
   obtain ⟨aq,ac,h⟩:=bs h
   obtain ⟨ap,am,_,a8,ae,a9,a7⟩:=HP.elem (k:=0) (a:=a6) (sz:=1) (frz:=false) eI64 hH rfl ac
   obtain ⟨af,al,hH⟩:=HP.setRow (k:=0) (off:=0) (cs:=[iv a0.Period]) (ps:=[.int .i64 a0.Period]) (e':=a0.Period) eI64 hH rfl a9 ae (a8 rfl) ac kr kr
   replace hH:HP _ [.arr a6 1 false (List.map eI64 (List.set l9 (Int.toNat i8) a0.Period))]:=hH
   refine rgS ⟨[(5,a6),(17,Zaq false a0_),(18,iv ((List.length a0_:Nat):Int)),(19,iv i8)],[],af⟩ (ZJ.u 4 (Z0 (ys:=[a6,iv i8]) (by cases hfa6<;>kernel_rfl) (a7 .i64)) (ZJ.o 0 (Zbp (H:=H7) (v:=iv a0.Period) (hw:=al)) ZJ.f)) (by cases hfa6<;>kernel_rfl) (bn (tq (rgS ⟨[(5,a6),(17,Zaq false a0_),(18,iv ((List.length a0_:Nat):Int)),(19,iv (w64 (i8+1)))],[],af⟩ ZJ.f (by cases hfa6<;>kernel_rfl) ?_)))
   cases h
   exact ⟨_,rfl,⟨a6,af,(by show _=_;cases hfa6<;>kernel_rfl),(HP.pick hH [0] rfl)⟩⟩
  refine kq (xq (tx ?_))
  cases h
  exact ⟨_,rfl,rfl,⟨a6,H7,(by show _=_;cases hfa6<;>kernel_rfl),(HP.pick hH [0] rfl)⟩⟩
 rintro e s hq
 obtain ⟨rfl,hR⟩:=hq
 obtain ⟨a1,aa,rfl,hH⟩:=hR
 replace hH:HP _ [.arr a1 1 false (List.map eI64 a4)]:=hH
 have a2:=Za7 (HP.get hH 0 rfl)
 refine bx (tq (sq ?_))
 obtain ⟨ag,ai,h⟩:=bs h
 obtain ⟨ao,an,a5,hH⟩:=HP.frz (k:=0) (a:=a1) (sz:=1) (frz:=false) eI64 hH rfl
 replace hH:HP _ [.arr a1 1 true (List.map eI64 a4)]:=hH
 refine rgS ⟨[(8,iv ag)],[],ao⟩ (ZJ.v 1 (Zhg (H:=aa) (ys:=[iv 960,a1]) (by cases a2<;>kernel_rfl) (by cases a2<;>kernel_rfl) (ZeZ rfl (ZeZ a5 Zht)) (ZeI N 960 a4 ag ai)) ZJ.f) kr ?_
 replace hH:HP _ []:=HP.pick hH [] rfl
 refine tq (sq (sq (rg ZJ.f (tq (it h (λaj h=>?_) (λaj h=>?_))))))
 ·refine sq (rg ZJ.f (tq (rt (tr ?_))))
  cases h
  exact Zaj kr
 refine sk (tq (kq (sq (rg ZJ.f (tq (rt ?_))))))
 cases h
 exact Zaj kr
theorem Zek (N:Nat)(a0_:Zah)(a1_:Zah)(r:Bool)(h:Zcu N a0_ a1_=some r):PCall Try.prog 56 [.agg (ZaU a0_),.agg (ZaU a1_)] (bv r):=by
 unfold Zcu at h
 have hH  := hp0
 refine Zaw ZoW rfl rfl (Zab _ _ _ ?_) rfl
 refine sq (rg ZJ.f (tq (sq (sq (rg ZJ.f (tq (it h (λhc1 h=>?_) (λhc1 h=>?_))))))))
 ·refine sq (rg ZJ.f (tq (rt (tr ?_))))
  cases h
  exact Zaj kr
 refine sk (tq (kq (sq ?_)))
 obtain ⟨r2,hr2,h⟩:=bs h
 refine rg (ZJ.v 2 (Z9 (hc:=ZeH N a0_ a1_ r2 hr2)) ZJ.f) (tq (sq ?_))
 obtain ⟨r3,hr3,h⟩:=bs h
 refine rg (ZJ.v 6 (Z9 (hc:=Zfa N (w64 (a1_.From-a0_.From)) r2.2.2 r3 hr3)) ZJ.f) (tq (sq (rgX ⟨[(4,bv ((decide (r2.1<=r3))&&(decide (r3<=r2.2.1))))],[],[]⟩ ?_ ?_)))
 ·rcases Bool.eq_false_or_eq_true (decide (r2.1<=r3)) with hc4|hc5
  ·exact (EP.u 2 (ZO (c:=(decide (r2.1<=r3))) (h:=hc4)) (EP.f (by simp only [hc4];kernel_rfl)))
  exact (EP.u 2 (ZO (c:=(decide (r2.1<=r3))) (h:=hc5)) (EP.f (by simp only [hc5];kernel_rfl)))
 refine tq (rt ?_)
 cases h
 exact Zaj kr
theorem ZfS (N:Nat)(a0_:(List Int))(r:Int×Int)(h:ZdS N a0_=some r):PCall Try.prog 37 [Zaf false a0_] (.tup [iv r.1,iv r.2]):=by
 unfold ZdS at h
 have hH  := hp0
 refine Zaw Zo8 rfl rfl (Zab _ _ _ ?_) rfl
 refine sq (rg ZJ.f (tq (sq ?_)))
 obtain ⟨l3,hl3,h⟩:=bs h
 obtain ⟨a1,H2,ha1,hH2,ha1b,hH⟩:=HP.make Zat hH hl3
 replace hH:HP _ [.arr a1 3 false (List.map Zat l3)]:=hH
 have hfa1:=Za7 (HP.get hH 0 rfl)
 refine rgS ⟨[(0,Zaf false a0_),(4,a1)],[],H2⟩ (ZJ.u 1 (Z0 (ys:=[Zaf false a0_]) (h:=Zae eI64)) (ZJ.h 0 (ZgQ (H:=[]) (zero:=[.int .i64 0,.int .i64 0,.int .i64 0]) (bytes:=24) kr kr kr ha1 hH2 ha1b) ZJ.f)) (by cases hfa1<;>kernel_rfl) (tq (sq (sq (rgS ⟨[(4,a1),(10,Zaf false a0_),(11,iv ((List.length a0_:Nat):Int)),(12,iv 0)],[],H2⟩ (ZJ.u 1 (Z0 (ys:=[Zaf false a0_]) (h:=Zae eI64)) ZJ.f) (by cases hfa1<;>kernel_rfl) (tq (bk ?_))))))
 obtain ⟨a5,ab,h⟩:=bs h
 refine ZaO ((Zay (λ(x:Int×(List Zah)) s=>∃ (a4:AV) (H5:List HO),s=⟨[(4,a4),(10,Zaf false a0_),(11,iv ((List.length a0_:Nat):Int)),(12,iv x.1)],[],H5⟩/\HP H5 [.arr a4 3 false (List.map Zat x.2)]) (λx:Int×(List Zah)=>Zb0 N a0_ x.1 x.2) (λ(p:(List Zah)) e s=>e=.exit 0/\(∃ (a2:AV) (aa:List HO),s=⟨[(4,a2)],[],aa⟩/\HP aa [.arr a2 3 false (List.map Zat p)])) ?_ N _ a5 _ ab ⟨a1,H2,(by show _=_;cases hfa1<;>kernel_rfl),(HP.pick hH [0] rfl)⟩).mono ?_)
 ·clear h ab
  rintro ⟨i6,l7⟩ o s h hR
  obtain ⟨a4,H5,rfl,hH⟩:=hR
  replace hH:HP _ [.arr a4 3 false (List.map Zat l7)]:=hH
  have hfa4:=Za7 (HP.get hH 0 rfl)
  replace h:Zb0 N a0_ i6 l7=some o:=h
  unfold Zb0 at h
  refine sq (rgS ⟨[(4,a4),(10,Zaf false a0_),(11,iv ((List.length a0_:Nat):Int)),(12,iv i6),(13,bv (decide (i6<((List.length a0_:Nat):Int))))],[],H5⟩ ZJ.f (by cases hfa4<;>kernel_rfl) (tq (sq (it h (λaj h=>?_) (λaj h=>?_)))))
  ·refine sk (tq (kq (sq (bk (sq ?_)))))
   obtain ⟨a0,ad,h⟩:=bs h
   refine rgS ⟨[(4,a4),(5,iv i6),(6,iv a0),(10,Zaf false a0_),(11,iv ((List.length a0_:Nat):Int)),(12,iv i6)],[],H5⟩ (ZJ.u 1 (Z0 (ys:=[Zaf false a0_,iv i6]) (h:=ZS eI64 ad)) (ZJ.u 0 (Zal (sz:=1) (off:=0) (cs:=[.int .i64 a0]) (r:=iv a0) eI64 ad) ZJ.f)) (by cases hfa4<;>kernel_rfl) (tq ?_)
   obtain ⟨ap,ac,h⟩:=bs h
   obtain ⟨ao,al,_,a8,af,a9,a7⟩:=HP.elem (k:=0) (a:=a4) (sz:=3) (frz:=false) Zat hH rfl ac
   obtain ⟨ag,ak,hH⟩:=HP.setRow (k:=0) (off:=0) (cs:=[iv a0,iv 0,iv 1]) (ps:=[.int .i64 a0,.int .i64 0,.int .i64 1]) (e':=(Zah.mk a0 0 1)) Zat hH rfl a9 af (a8 rfl) ac kr kr
   replace hH:HP _ [.arr a4 3 false (List.map Zat (List.set l7 (Int.toNat i6) (Zah.mk a0 0 1)))]:=hH
   refine rgS ⟨[(4,a4),(10,Zaf false a0_),(11,iv ((List.length a0_:Nat):Int)),(12,iv i6)],[],ag⟩ (ZJ.u 4 (Z0 (ys:=[a4,iv i6]) (by cases hfa4<;>kernel_rfl) (a7 .i64)) (ZJ.o 0 (Zbp (H:=H5) (v:=.agg [iv a0,iv 0,iv 1]) (hw:=ak)) ZJ.f)) (by cases hfa4<;>kernel_rfl) (bn (tq (rgS ⟨[(4,a4),(10,Zaf false a0_),(11,iv ((List.length a0_:Nat):Int)),(12,iv (w64 (i6+1)))],[],ag⟩ ZJ.f (by cases hfa4<;>kernel_rfl) ?_)))
   cases h
   exact ⟨_,rfl,⟨a4,ag,(by show _=_;cases hfa4<;>kernel_rfl),(HP.pick hH [0] rfl)⟩⟩
  refine kq (xq (tx ?_))
  cases h
  exact ⟨_,rfl,rfl,⟨a4,H5,(by show _=_;cases hfa4<;>kernel_rfl),(HP.pick hH [0] rfl)⟩⟩
 rintro e s hq
 obtain ⟨rfl,hR⟩:=hq
 obtain ⟨a2,aa,rfl,hH⟩:=hR
 replace hH:HP _ [.arr a2 3 false (List.map Zat a5)]:=hH
 have a3:=Za7 (HP.get hH 0 rfl)
 refine bx (tq (sq ?_))
 obtain ⟨ae,ai,h⟩:=bs h
 obtain ⟨an,am,a6,hH⟩:=HP.frz (k:=0) (a:=a2) (sz:=3) (frz:=false) Zat hH rfl
 replace hH:HP _ [.arr a2 3 true (List.map Zat a5)]:=hH
 refine rgS ⟨[(2,iv ae.1),(3,iv ae.2)],[],an⟩ (ZJ.v 1 (Zhg (H:=aa) (ys:=[a2]) (by cases a3<;>kernel_rfl) (by cases a3<;>kernel_rfl) (ZeZ a6 Zht) (Zel N a5 ae ai)) ZJ.f) kr ?_
 replace hH:HP _ []:=HP.pick hH [] rfl
 refine tq (rt ?_)
 cases h
 exact Zaj kr
theorem Zem (N:Nat)(a0_:Zah)(a1_:Zah)(r:Bool×Int)(h:Zcw N a0_ a1_=some r):PCall Try.prog 47 [.agg (ZaU a0_),.agg (ZaU a1_)] (.tup [bv r.1,iv r.2]):=by
 unfold Zcw at h
 have hH  := hp0
 refine Zaw Zo3 rfl rfl (Zab _ _ _ ?_) rfl
 refine sq (rg ZJ.f (tq (sq (sq ?_))))
 obtain ⟨r1,hr1,h⟩:=bs h
 refine rg (ZJ.v 1 (Z9 (hc:=ZbW N a0_ r1 hr1)) ZJ.f) (tq (sq (rg ZJ.f (tq (it h (λhc2 h=>?_) (λhc2 h=>?_))))))
 ·refine sq (rg ZJ.f (tq (rt (tr ?_))))
  cases h
  exact Zaj kr
 refine sk (tq (kq (sq (sq ?_))))
 obtain ⟨r3,hr3,h⟩:=bs h
 refine rg (ZJ.v 1 (Z9 (hc:=ZbW N a1_ r3 hr3)) ZJ.f) (tq (sq (rg ZJ.f (tq (it h (λhc4 h=>?_) (λhc4 h=>?_))))))
 ·refine sq (rg ZJ.f (tq (rt (tr ?_))))
  cases h
  exact Zaj kr
 refine sk (tq (kq (sq ?_)))
 obtain ⟨r5,hr5,h⟩:=bs h
 refine rg (ZJ.v 2 (Z9 (hc:=Zek N a0_ a1_ r5 hr5)) ZJ.f) (tq (rt ?_))
 cases h
 exact Zaj kr
theorem ZdF (N:Nat)(a0_:ZM)(r:Int)(h:Zc1 N a0_=some r):PCall Try.prog 23 [.agg (ZI a0_)] (iv r):=by
 unfold Zc1 at h
 have hH  := hp0
 refine Zaw Zpg rfl rfl (Zab _ _ _ ?_) rfl
 refine sq (rg ZJ.f (tq (sq (sq (rgX ⟨[(1,.loc 1 0),(19,bv ((decide (((List.length a0_.Periods:Nat):Int)>12))||(decide (((List.length a0_.Uses:Nat):Int)>192))))],[(1,(ZI a0_))],[]⟩ ?_ ?_)))))
 ·refine (EP.u 2 (Z0 (ys:=[Zaf false a0_.Periods]) (h:=Zae eI64)) ?_)
  rcases Bool.eq_false_or_eq_true (decide (((List.length a0_.Periods:Nat):Int)>12)) with hc1|hc2
  ·exact (EP.u 0 (ZO (c:=(decide (((List.length a0_.Periods:Nat):Int)>12))) (h:=hc1)) (EP.f (by simp only [hc1];kernel_rfl)))
  exact (EP.u 0 (ZO (c:=(decide (((List.length a0_.Periods:Nat):Int)>12))) (h:=hc2)) (EP.u 3 (Z0 (ys:=[Z7 false a0_.Uses]) (h:=Zae Zba)) (EP.f (by simp only [hc2];kernel_rfl))))
 refine tq (it h (λhc3 h=>?_) (λhc3 h=>?_))
 ·refine sq (rg ZJ.f (tq (rt (tr ?_))))
  cases h
  exact Zaj kr
 refine sk (tq (kq (sq (sq (rg (ZJ.u 2 (Z0 (ys:=[Zaf false a0_.Periods]) (h:=Zae eI64)) ZJ.f) (tq (bk ?_)))))))
 obtain ⟨au,al,h⟩:=bs h
 refine ZaO ((Zay (λ(x:Int) s=>s=⟨[(1,.loc 1 0),(21,Zaf false a0_.Periods),(22,iv ((List.length a0_.Periods:Nat):Int)),(23,iv x)],[(1,(ZI a0_))],[]⟩) (λx:Int=>Zb2 N a0_ x) (λ(p:(Unit)⊕(Int)) e s=>match p with|(.inl p)=>e=.exit 0/\(s=⟨[(1,.loc 1 0)],[(1,(ZI a0_))],[]⟩)|(.inr p)=>e=.ret/\∃ xs,resL s i23.res=some xs/\Zbe xs=iv p) ?_ N _ au _ al kr).mono ?_)
 ·clear h al
  rintro i4 o s h hR
  obtain rfl:=hR
  replace h:Zb2 N a0_ i4=some o:=h
  unfold Zb2 at h
  refine sq (rg ZJ.f (tq (sq (it h (λay h=>?_) (λay h=>?_)))))
  ·refine sk (tq (kq (sq (bk (sq ?_)))))
   obtain ⟨a6,am,h⟩:=bs h
   refine rg (ZJ.u 0 (Z0 (ys:=[Zaf false a0_.Periods,iv i4]) (h:=ZS eI64 am)) (ZJ.u 0 (Zal (sz:=1) (off:=0) (cs:=[.int .i64 a6]) (r:=iv a6) eI64 am) ZJ.f)) (tq (sq (rgX ⟨[(1,.loc 1 0),(21,Zaf false a0_.Periods),(22,iv ((List.length a0_.Periods:Nat):Int)),(23,iv i4),(32,bv ((decide (a6<1))||(decide (a6>240))))],[(1,(ZI a0_))],[]⟩ ?_ ?_)))
   ·rcases Bool.eq_false_or_eq_true (decide (a6<1)) with ao|an
    ·exact (EP.u 1 (ZO (c:=(decide (a6<1))) (h:=ao)) (EP.f (by simp only [ao];kernel_rfl)))
    exact (EP.u 1 (ZO (c:=(decide (a6<1))) (h:=an)) (EP.f (by simp only [an];kernel_rfl)))
   refine tq (it h (λax h=>?_) (λax h=>?_))
   ·refine sq (rg ZJ.f (tq (rt (br (tr ?_)))))
    cases h
    exact ⟨_,rfl,rfl,Zaj kr⟩
   refine sk (bn (tq (kq (rg ZJ.f ?_))))
   cases h
   exact ⟨_,rfl,kr⟩
  refine kq (xq (tx ?_))
  cases h
  exact ⟨_,rfl,rfl,kr⟩
 rintro e s hq
 rcases au with aD|aA
 ·dsimp only at h hq
  obtain ⟨rfl,hR⟩:=hq
  obtain rfl:=hR
  refine bx (tq (sq (sq ?_)))
  obtain ⟨az,av,h⟩:=bs h
  refine rg (ZJ.v 2 (Z9 (hc:=ZfS N a0_.Periods az av)) ZJ.f) (tq (sq (rg ZJ.f (tq (it h (λaw h=>?_) (λaw h=>?_))))))
  ·refine sq (rg ZJ.f (tq (rt (tr ?_))))
   cases h
   exact Zaj kr
  refine sk (tq (kq (sq (sq (rg (ZJ.u 2 (Z0 (ys:=[Z7 false a0_.Uses]) (h:=Zae Zba)) ZJ.f) (tq (bk ?_)))))))
  obtain ⟨ak,a7,h⟩:=bs h
  refine ZaO ((Zay (λ(x:Int) s=>s=⟨[(1,.loc 1 0),(43,Z7 false a0_.Uses),(44,iv ((List.length a0_.Uses:Nat):Int)),(45,iv x)],[(1,(ZI a0_))],[]⟩) (λx:Int=>Zb1 N a0_ x) (λ(p:(Unit)⊕(Int)) e s=>match p with|(.inl p)=>e=.exit 2/\(s=⟨[],[],[]⟩)|(.inr p)=>e=.ret/\∃ xs,resL s i23.res=some xs/\Zbe xs=iv p) ?_ N _ ak _ a7 kr).mono ?_)
  ·clear h a7
   rintro aj o s h hR
   obtain rfl:=hR
   replace h:Zb1 N a0_ aj=some o:=h
   unfold Zb1 at h
   refine sq (rg ZJ.f (tq (sq (it h (λar h=>?_) (λar h=>?_)))))
   ·refine sk (tq (kq (sq (bk (sq ?_)))))
    obtain ⟨a0,a9,h⟩:=bs h
    refine rg (ZJ.u 0 (Z0 (ys:=[Z7 false a0_.Uses,iv aj]) (h:=ZS Zba a9)) (ZJ.u 0 (Zal (sz:=4) (off:=0) (cs:=[.int .i64 a0.Stream,.int .i64 a0.Port,.int .i64 a0.From,.int .i64 a0.Long]) (r:=.agg (Zao a0)) Zba a9) ZJ.f)) (tq (sq (sq (rgX ⟨[(1,.loc 1 0),(8,.loc 8 0),(43,Z7 false a0_.Uses),(44,iv ((List.length a0_.Uses:Nat):Int)),(45,iv aj),(69,bv ((decide (a0.Stream<0))||((decide (a0.Stream≥((List.length a0_.Periods:Nat):Int)))||((decide (a0.Port<0))||(decide (a0.Port≥48))))))],[(1,(ZI a0_)),(8,(Zao a0))],[]⟩ ?_ ?_))))
    ·rcases Bool.eq_false_or_eq_true (decide (a0.Stream<0)) with ai|a3
     ·exact (EP.u 2 (ZO (c:=(decide (a0.Stream<0))) (h:=ai)) (EP.f (by simp only [ai];kernel_rfl)))
     refine (EP.u 2 (ZO (c:=(decide (a0.Stream<0))) (h:=a3)) (EP.u 5 (Z0 (ys:=[Zaf false a0_.Periods]) (h:=Zae eI64)) ?_))
     rcases Bool.eq_false_or_eq_true (decide (a0.Stream≥((List.length a0_.Periods:Nat):Int))) with ag|a5
     ·exact (EP.u 0 (ZO (c:=(decide (a0.Stream≥((List.length a0_.Periods:Nat):Int)))) (h:=ag)) (EP.f (by simp only [a3,ag];kernel_rfl)))
     refine (EP.u 0 (ZO (c:=(decide (a0.Stream≥((List.length a0_.Periods:Nat):Int)))) (h:=a5)) ?_)
     rcases Bool.eq_false_or_eq_true (decide (a0.Port<0)) with af|ae
     ·exact (EP.u 4 (ZO (c:=(decide (a0.Port<0))) (h:=af)) (EP.f (by simp only [a3,a5,af];kernel_rfl)))
     exact (EP.u 4 (ZO (c:=(decide (a0.Port<0))) (h:=ae)) (EP.f (by simp only [a3,a5,ae];kernel_rfl)))
    refine tq (it h (λaq h=>?_) (λaq h=>?_))
    ·refine sq (rg ZJ.f (tq (rt (tr (br (tr ?_))))))
     cases h
     exact ⟨_,rfl,rfl,Zaj kr⟩
    refine sk (tq (kq (sq ?_)))
    obtain ⟨a1,a8,h⟩:=bs h
    refine rg (ZJ.u 4 (Z0 (ys:=[Zaf false a0_.Periods,iv a0.Stream]) (h:=ZS eI64 a8)) (ZJ.u 0 (Zal (sz:=1) (off:=0) (cs:=[.int .i64 a1]) (r:=iv a1) eI64 a8) ZJ.f)) (tq (sq (rgX ⟨[(1,.loc 1 0),(43,Z7 false a0_.Uses),(44,iv ((List.length a0_.Uses:Nat):Int)),(45,iv aj),(95,bv ((decide (a0.From<0))||((decide (a0.From≥a1))||((decide (a0.Long<1))||(decide (a0.Long>a1))))))],[(1,(ZI a0_))],[]⟩ ?_ ?_)))
    ·rcases Bool.eq_false_or_eq_true (decide (a0.From<0)) with ad|a2
     ·exact (EP.u 2 (ZO (c:=(decide (a0.From<0))) (h:=ad)) (EP.f (by simp only [ad];kernel_rfl)))
     refine (EP.u 2 (ZO (c:=(decide (a0.From<0))) (h:=a2)) ?_)
     rcases Bool.eq_false_or_eq_true (decide (a0.From≥a1)) with ac|a4
     ·exact (EP.u 4 (ZO (c:=(decide (a0.From≥a1))) (h:=ac)) (EP.f (by simp only [a2,ac];kernel_rfl)))
     refine (EP.u 4 (ZO (c:=(decide (a0.From≥a1))) (h:=a4)) ?_)
     rcases Bool.eq_false_or_eq_true (decide (a0.Long<1)) with ab|aa
     ·exact (EP.u 4 (ZO (c:=(decide (a0.Long<1))) (h:=ab)) (EP.f (by simp only [a2,a4,ab];kernel_rfl)))
     exact (EP.u 4 (ZO (c:=(decide (a0.Long<1))) (h:=aa)) (EP.f (by simp only [a2,a4,aa];kernel_rfl)))
    refine tq (it h (λap h=>?_) (λap h=>?_))
    ·refine sq (rg ZJ.f (tq (rt (br (tr ?_)))))
     cases h
     exact ⟨_,rfl,rfl,Zaj kr⟩
    refine sk (bn (tq (kq (rg ZJ.f ?_))))
    cases h
    exact ⟨_,rfl,kr⟩
   refine kq (xq (tx ?_))
   cases h
   exact ⟨_,rfl,rfl,kr⟩
  rintro e s hq
  rcases ak with aC|aB
  ·dsimp only at h hq
   obtain ⟨rfl,hR⟩:=hq
   obtain rfl:=hR
   refine bx (tq (sq (rg ZJ.f (tq (rt ?_)))))
   cases h
   exact Zaj kr
  dsimp only at h hq
  obtain ⟨rfl,hq⟩:=hq
  refine br (tr ?_)
  cases h
  exact hq
 dsimp only at h hq
 obtain ⟨rfl,hq⟩:=hq
 refine br (tr ?_)
 cases h
 exact hq
theorem Zep (N:Nat)(a0_:ZM)(a1_:Int)(a2_:Int)(a3_:Int)(a4_:Int)(r:Bool)(h:Zcz N a0_ a1_ a2_ a3_ a4_=some r):PCall Try.prog 36 [.agg (ZI a0_),iv a1_,iv a2_,iv a3_,iv a4_] (bv r):=by
 unfold Zcz at h
 have hH  := hp0
 refine Zaw Zo9 rfl rfl (Zab _ _ _ ?_) rfl
 refine sq ?_
 obtain ⟨id1,H2,hid1,hH2,hH⟩:=HP.newCell hH (ZI a0_)
 replace hH:HP _ [.cel id1 (ZI a0_)]:=hH
 obtain ⟨id3,H4,hid3,hH4,hH⟩:=HP.newCell hH [iv a2_]
 replace hH:HP _ [.cel id3 [iv a2_],.cel id1 (ZI a0_)]:=hH
 obtain ⟨id5,H6,hid5,hH6,hH⟩:=HP.newCell hH [iv a4_]
 replace hH:HP _ [.cel id5 [iv a4_],.cel id3 [iv a2_],.cel id1 (ZI a0_)]:=hH
 obtain ⟨id7,H8,hid7,hH8,hH⟩:=HP.newCell hH [bv false]
 replace hH:HP _ [.cel id7 [bv false],.cel id5 [iv a4_],.cel id3 [iv a2_],.cel id1 (ZI a0_)]:=hH
 refine rgS ⟨[(1,iv a1_),(3,iv a3_),(5,.ptr id1 0),(7,.ptr id3 0),(9,.ptr id5 0),(10,.ptr id7 0)],[],H8⟩ (ZJ.h 0 (Zdo (H:=[]) (v:=.agg (ZI a0_)) (hid:=hid1) (hH:=hH2)) (ZJ.h 0 (Zdo (H:=H2) (v:=iv a2_) (hid:=hid3) (hH:=hH4)) (ZJ.h 0 (Zdo (H:=H4) (v:=iv a4_) (hid:=hid5) (hH:=hH6)) (ZJ.h 0 (ZgP (H:=H6) kr hid7 hH8) ZJ.f)))) kr (tq (sq (sq ?_)))
 have hlc9:=HP.get hH 3 rfl
 obtain ⟨a8,aA,h⟩:=bs h
 obtain ⟨a7,a6,a5,a4,ak,ao⟩:=ZfR N a0_ a1_ a3_ H8 a8 aA
 replace hH:HP _ [.cel a7 (ZI a8.1),.cel a6 [iv a8.2.1],.cel a5 [iv a8.2.2],.cel id7 [bv false],.cel id5 [iv a4_],.cel id3 [iv a2_],.cel id1 (ZI a0_)]:=HP.callee (fp:=[]) (rest:=[.cel id7 [bv false],.cel id5 [iv a4_],.cel id3 [iv a2_],.cel id1 (ZI a0_)]) hH ao
 refine rgS ⟨[(5,.ptr id1 0),(7,.ptr id3 0),(9,.ptr id5 0),(10,.ptr id7 0),(18,.fn 54 [] [.ptr a7 0,.ptr a6 0,.ptr a5 0])],[],a4⟩ (ZJ.u 0 (ZaF (H:=H8) (id:=id1) (off:=0) (cs:=(ZI a0_)) (c:=(ZI a0_)) (r:=.agg (ZI a0_)) (hl:=hlc9)) (ZJ.v 2 (ZfL (H:=H8) (ys:=[.agg (ZI a0_),iv a1_,iv a3_]) kr kr kr ak) ZJ.f)) kr (tq (bk ?_))
 obtain ⟨a0,ap,h⟩:=bs h
 have ab:∀ (a3:Zak) (a2:Zak) (s:(Bool)×Nat) (r:((Bool)×Nat)×Bool) (H:List HO) (its:List Zap),(λ(s:(Bool)×Nat) (its:List Zap)=>its=[.cel id7 [bv s.1],.cel id5 [iv a4_],.cel id3 [iv a2_],.cel id1 (ZI a0_)]++[.lp (List.length a4) (lcOf Try.prog i36.nt [19,20] Zca Zb9) [(5,.ptr id1 0),(7,.ptr id3 0),(9,.ptr id5 0),(10,.ptr id7 0)] (stAt [.ready,.done .ret] s.2)]) s its->HP H its->(λ(s:(Bool)×Nat) (a3:Zak) (a2:Zak)=>Zf5 (λv:Bool=>Za0 N a0_ a2_ a4_ v a3 a2) s) s a3 a2=some r->∃ H' its',Zg9 Try.prog (List.length a4) [.agg (Zao a3),.agg (Zao a2)] H r.2 H'/\(λ(s:(Bool)×Nat) (its:List Zap)=>its=[.cel id7 [bv s.1],.cel id5 [iv a4_],.cel id3 [iv a2_],.cel id1 (ZI a0_)]++[.lp (List.length a4) (lcOf Try.prog i36.nt [19,20] Zca Zb9) [(5,.ptr id1 0),(7,.ptr id3 0),(9,.ptr id5 0),(10,.ptr id7 0)] (stAt [.ready,.done .ret] s.2)]) r.1 its'/\Fp H H' its its':=by
  clear h
  intro a3 a2 s r ag its hT hH h
  obtain ⟨h0,q,hb,rfl⟩:=ZgN h
  clear h
  obtain ⟨vs,e⟩:=s
  obtain rfl:e=0:=h0
  obtain ⟨b18,rfl⟩:∃ v,v=vs:=⟨vs,rfl⟩
  obtain rfl:=hT
  replace h:Za0 N a0_ a2_ a4_ b18 a3 a2=some q:=hb
  clear hb
  unfold Za0 at h
  replace hH:Fp _ _ _ [.cel id7 [bv b18],.cel id5 [iv a4_],.cel id3 [iv a2_],.cel id1 (ZI a0_),.lp (List.length a4) (lcOf Try.prog i36.nt [19,20] Zca Zb9) [(5,.ptr id1 0),(7,.ptr id3 0),(9,.ptr id5 0),(10,.ptr id7 0)] .ready]:=Fp.refl hH
  suffices hs:∃ H',Zg9 Try.prog (List.length a4) [.agg (Zao a3),.agg (Zao a2)] ag (q.2==0) H'/\∃ its',(λ(s:(Bool)×Nat) (its:List Zap)=>its=[.cel id7 [bv s.1],.cel id5 [iv a4_],.cel id3 [iv a2_],.cel id1 (ZI a0_)]++[.lp (List.length a4) (lcOf Try.prog i36.nt [19,20] Zca Zb9) [(5,.ptr id1 0),(7,.ptr id3 0),(9,.ptr id5 0),(10,.ptr id7 0)] (stAt [.ready,.done .ret] s.2)]) q its'/\Fp ag H' [.cel id7 [bv b18],.cel id5 [iv a4_],.cel id3 [iv a2_],.cel id1 (ZI a0_),.lp (List.length a4) (lcOf Try.prog i36.nt [19,20] Zca Zb9) [(5,.ptr id1 0),(7,.ptr id3 0),(9,.ptr id5 0),(10,.ptr id7 0)] .ready] its' by
   obtain ⟨H',h1,its',h2,h3⟩:=hs
   exact ⟨H',its',h1,h2,h3⟩
  refine ZhX (id:=(List.length a4)) (args:=[.agg (Zao a3),.agg (Zao a2)]) (H:=ag) (n:=i36.nt) (ps:=[19,20]) (fr0:=[(5,.ptr id1 0),(7,.ptr id3 0),(9,.ptr id5 0),(10,.ptr id7 0)]) (ia:=Zca) (ib:=Zb9) (q.2==0) (λH'=>∃ its',(λ(s:(Bool)×Nat) (its:List Zap)=>its=[.cel id7 [bv s.1],.cel id5 [iv a4_],.cel id3 [iv a2_],.cel id1 (ZI a0_)]++[.lp (List.length a4) (lcOf Try.prog i36.nt [19,20] Zca Zb9) [(5,.ptr id1 0),(7,.ptr id3 0),(9,.ptr id5 0),(10,.ptr id7 0)] (stAt [.ready,.done .ret] s.2)]) q its'/\Fp ag H' [.cel id7 [bv b18],.cel id5 [iv a4_],.cel id3 [iv a2_],.cel id1 (ZI a0_),.lp (List.length a4) (lcOf Try.prog i36.nt [19,20] Zca Zb9) [(5,.ptr id1 0),(7,.ptr id3 0),(9,.ptr id5 0),(10,.ptr id7 0)] .ready] its') (Fp.get hH 4 rfl) rfl (by decide +kernel) rfl ?_
  show vc _ _ _ _ ⟨[(5,.ptr id1 0),(7,.ptr id3 0),(9,.ptr id5 0),(10,.ptr id7 0),(19,.agg (Zao a3)),(20,.agg (Zao a2))],[],ag⟩
  refine sq (rgS ⟨[(5,.ptr id1 0),(7,.ptr id3 0),(9,.ptr id5 0),(10,.ptr id7 0),(11,.loc 11 0),(20,.agg (Zao a2))],[(11,(Zao a3))],ag⟩ ZJ.f kr (tq (rgS ⟨[(5,.ptr id1 0),(7,.ptr id3 0),(9,.ptr id5 0),(10,.ptr id7 0),(11,.loc 11 0),(12,.loc 12 0)],[(11,(Zao a3)),(12,(Zao a2))],ag⟩ ZJ.f kr (Zjk (k:=4) hH rfl ?_))))
  intro a1 hH
  replace hH:Fp _ _ _ [.cel id7 [bv b18],.cel id5 [iv a4_],.cel id3 [iv a2_],.cel id1 (ZI a0_),.lp (List.length a4) (lcOf Try.prog i36.nt [19,20] Zca Zb9) [(5,.ptr id1 0),(7,.ptr id3 0),(9,.ptr id5 0),(10,.ptr id7 0)] .busy]:=hH
  show vc _ _ _ _ ⟨[(5,.ptr id1 0),(7,.ptr id3 0),(9,.ptr id5 0),(10,.ptr id7 0),(11,.loc 11 0),(12,.loc 12 0)],[(11,(Zao a3)),(12,(Zao a2))],a1⟩
  refine bk (sq (sq (rgS ⟨[(5,.ptr id1 0),(7,.ptr id3 0),(9,.ptr id5 0),(10,.ptr id7 0),(11,.loc 11 0),(12,.loc 12 0),(23,bv ((a3.Stream==a2.Stream)&&((a3.Port==a2.Port)&&((a3.From==a2.From)&&((a3.Long==a2.Long)&&true)))))],[(11,(Zao a3)),(12,(Zao a2))],a1⟩ ZJ.f kr (tq (it h (λav h=>?_) (λav h=>?_))))))
  ·refine sq ?_
   obtain ⟨aC,ay,hH⟩:=Fp.setCell (k:=0) (off:=0) (cs:=[bv b18]) (vs:=[bv true]) (cs':=[bv true]) hH rfl kr
   replace hH:Fp _ _ _ [.cel id7 [bv true],.cel id5 [iv a4_],.cel id3 [iv a2_],.cel id1 (ZI a0_),.lp (List.length a4) (lcOf Try.prog i36.nt [19,20] Zca Zb9) [(5,.ptr id1 0),(7,.ptr id3 0),(9,.ptr id5 0),(10,.ptr id7 0)] .busy]:=hH
   refine rgS ⟨[],[],aC⟩ (ZJ.o 0 (Zbp (H:=a1) (v:=bv true) (hw:=ay)) ZJ.f) kr (tq (rt (tr (br ?_))))
   cases h
   exact rbd (k:=4) (.done .ret) hH rfl rfl (λH6 hH=>⟨_,(Eq.refl _),(Fp.pick hH [0,1,2,3,4] rfl)⟩)
  refine sk (tq (kq (sq ?_)))
  have af:=Fp.get hH 3 rfl
  have ae:=Fp.get hH 2 rfl
  obtain ⟨aj,an,h⟩:=bs h
  have ad:=Fp.get hH 3 rfl
  have ac:=Fp.get hH 1 rfl
  obtain ⟨ai,am,h⟩:=bs h
  obtain ⟨aa,al,h⟩:=bs h
  refine rqS ⟨[(10,.ptr id7 0),(13,bv aa.1)],[],a1⟩ (ZJ.u 0 (Zbo (ZaF (H:=a1) (id:=id1) (off:=0) (cs:=(ZI a0_)) (c:=(ZI a0_)) (r:=.agg (ZI a0_)) (hl:=af))) (ZJ.u 1 (Zbo (ZaF (H:=a1) (id:=id3) (off:=0) (cs:=[iv a2_]) (c:=[iv a2_]) (r:=iv a2_) (hl:=ae))) (ZJ.u 0 (ZaS (hc:=ZcG N a0_ a3 a2_ aj an)) (ZJ.u 0 (Zbo (ZaF (H:=a1) (id:=id1) (off:=0) (cs:=(ZI a0_)) (c:=(ZI a0_)) (r:=.agg (ZI a0_)) (hl:=ad))) (ZJ.u 1 (Zbo (ZaF (H:=a1) (id:=id5) (off:=0) (cs:=[iv a4_]) (c:=[iv a4_]) (r:=iv a4_) (hl:=ac))) (ZJ.v 0 (Z9 (hc:=ZcG N a0_ a2 a4_ ai am)) (ZJ.v 0 (Z9 (hc:=Zem N aj ai aa al)) ZJ.f))))))) kr (tq (sq (rgS ⟨[(10,.ptr id7 0),(37,bv (!aa.1))],[],a1⟩ ZJ.f kr (tq (it h (λau h=>?_) (λau h=>?_))))))
  ·refine sq ?_
   obtain ⟨aB,ax,hH⟩:=Fp.setCell (k:=0) (off:=0) (cs:=[bv b18]) (vs:=[bv true]) (cs':=[bv true]) hH rfl kr
   replace hH:Fp _ _ _ [.cel id7 [bv true],.cel id5 [iv a4_],.cel id3 [iv a2_],.cel id1 (ZI a0_),.lp (List.length a4) (lcOf Try.prog i36.nt [19,20] Zca Zb9) [(5,.ptr id1 0),(7,.ptr id3 0),(9,.ptr id5 0),(10,.ptr id7 0)] .busy]:=hH
   refine rgS ⟨[],[],aB⟩ (ZJ.o 0 (Zbp (H:=a1) (v:=bv true) (hw:=ax)) ZJ.f) kr (tq (rt (br ?_)))
   cases h
   exact rbd (k:=4) (.done .ret) hH rfl rfl (λH6 hH=>⟨_,(Eq.refl _),(Fp.pick hH [0,1,2,3,4] rfl)⟩)
  refine sk (bn ?_)
  cases h
  exact rbd (k:=4) (.ready) hH rfl rfl (λH6 hH=>⟨_,(Eq.refl _),(Fp.pick hH [0,1,2,3,4] rfl)⟩)
 refine ZiG (s:=⟨[(5,.ptr id1 0),(7,.ptr id3 0),(9,.ptr id5 0),(10,.ptr id7 0),(18,.fn 54 [] [.ptr a7 0,.ptr a6 0,.ptr a5 0])],[],a4⟩) [(5,.ptr id1 0),(7,.ptr id3 0),(9,.ptr id5 0),(10,.ptr id7 0)] (FrOK.cons kr kr (FrOK.cons kr kr (FrOK.cons kr kr (FrOK.cons kr kr FrOK.nil)))) kr (λH=>rfl) (capT:=[.cel a7 (ZI a8.1),.cel a6 [iv a8.2.1],.cel a5 [iv a8.2.2]]) (cells0:=[.cel id7 [bv false],.cel id5 [iv a4_],.cel id3 [iv a2_],.cel id1 (ZI a0_)]) (rest:=[]) (HP.now (HP.pick hH [0,1,2,3,4,5,6] rfl)) (λ(s:(Bool)×Nat) (its:List Zap)=>its=[.cel id7 [bv s.1],.cel id5 [iv a4_],.cel id3 [iv a2_],.cel id1 (ZI a0_)]++[.lp (List.length a4) (lcOf Try.prog i36.nt [19,20] Zca Zb9) [(5,.ptr id1 0),(7,.ptr id3 0),(9,.ptr id5 0),(10,.ptr id7 0)] (stAt [.ready,.done .ret] s.2)]) (false,0) a0 (by exact (Eq.refl _)) (λH its hT hH=>ZeO N (λ(s:(Bool)×Nat) (a3:Zak) (a2:Zak)=>Zf5 (λv:Bool=>Za0 N a0_ a2_ a4_ v a3 a2) s) a8.1 a8.2.1 a8.2.2 (false,0) a7 a6 a5 (List.length a4) (λ(s:(Bool)×Nat) (its:List Zap)=>its=[.cel id7 [bv s.1],.cel id5 [iv a4_],.cel id3 [iv a2_],.cel id1 (ZI a0_)]++[.lp (List.length a4) (lcOf Try.prog i36.nt [19,20] Zca Zb9) [(5,.ptr id1 0),(7,.ptr id3 0),(9,.ptr id5 0),(10,.ptr id7 0)] (stAt [.ready,.done .ret] s.2)]) ab H its hT hH a0 ap) ?_
 rintro its hT
 obtain rfl:=hT
 refine ⟨_,_,rfl,?_⟩
 intro a9 hF
 replace hH:HP _ [.cel a7 (ZI a8.1),.cel a6 [iv a8.2.1],.cel a5 [iv a8.2.2],.cel id7 [bv a0.1],.cel id5 [iv a4_],.cel id3 [iv a2_],.cel id1 (ZI a0_)]:=HP.after (HP.pick hH [0,1,2,3,4,5,6] rfl) hF
 rcases Zai h with ⟨ar,h⟩|⟨_,h⟩
 ·refine Zig (S:=⟨[(5,.ptr id1 0),(7,.ptr id3 0),(9,.ptr id5 0),(10,.ptr id7 0),(18,.fn 54 [] [.ptr a7 0,.ptr a6 0,.ptr a5 0])],[],a9⟩) (e:=.normal) ar rfl (bn (tq (kq ?_)))
  replace hH:HP _ [.cel id7 [bv a0.1]]:=HP.pick hH [3] rfl
  refine sq ?_
  obtain ⟨az,aw,hH⟩:=HP.setCell (k:=0) (off:=0) (cs:=[bv a0.1]) (vs:=[bv false]) (cs':=[bv false]) hH rfl kr
  replace hH:HP _ [.cel id7 [bv false]]:=hH
  refine rgS ⟨[(10,.ptr id7 0)],[],az⟩ (ZJ.o 0 (Zbp (H:=a9) (v:=bv false) (hw:=aw)) ZJ.f) kr (tq (rt ?_))
  obtain rfl:=Z4 h
  exact ZgT (H:=az) (ys:=[bv false]) (xs:=[bv false]) kr (Zhn (r:=.cell 10 1 false) (v:=bv false) (Zhm (id:=id7) (off:=0) (cs:=[bv false]) (c:=[bv false]) kr (HP.get hH 0 rfl) kr kr) Zho) (Zdr rfl ZdO) kr
 rcases Zai h with ⟨aq,h⟩|⟨_,h⟩
 ·refine Zig (S:=⟨[(5,.ptr id1 0),(7,.ptr id3 0),(9,.ptr id5 0),(10,.ptr id7 0),(18,.fn 54 [] [.ptr a7 0,.ptr a6 0,.ptr a5 0])],[],a9⟩) (e:=.ret) aq rfl (br (tr ?_))
  obtain rfl:=Z4 h
  exact ZgT (H:=a9) (ys:=[bv a0.1]) (xs:=[bv a0.1]) kr (Zhn (r:=.cell 10 1 false) (v:=bv a0.1) (Zhm (id:=id7) (off:=0) (cs:=[bv a0.1]) (c:=[bv a0.1]) kr (HP.get hH 3 rfl) kr kr) Zho) (Zdr rfl ZdO) kr
 cases h
theorem Zeq (N:Nat)(a0_:ZM)(a1_:Int)(a2_:Int)(a3_:Int)(a4_:Int)(r:Bool×Int)(h:ZcA N a0_ a1_ a2_ a3_ a4_=some r):PCall Try.prog 21 [.agg (ZI a0_),iv a1_,iv a2_,iv a3_,iv a4_] (.tup [bv r.1,iv r.2]):=by
 unfold ZcA at h
 have hH  := hp0
 refine Zaw Zph rfl rfl (Zab _ _ _ ?_) rfl
 refine sq (rg ZJ.f (tq (sq (sq ?_))))
 obtain ⟨r1,hr1,h⟩:=bs h
 refine rg (ZJ.v 1 (Z9 (hc:=ZdF N a0_ r1 hr1)) ZJ.f) (tq (sq (rg ZJ.f (tq (it h (λhc2 h=>?_) (λhc2 h=>?_))))))
 ·refine sq (rg ZJ.f (tq (rt (tr ?_))))
  cases h
  exact Zaj kr
 refine sk (tq (kq (sq (sq (rgX ⟨[(1,iv a1_),(2,iv a2_),(3,iv a3_),(4,iv a4_),(5,.loc 5 0),(37,bv ((decide (a1_<0))||((decide (a1_≥((List.length a0_.Periods:Nat):Int)))||((decide (a3_<0))||(decide (a3_≥((List.length a0_.Periods:Nat):Int)))))))],[(5,(ZI a0_))],[]⟩ ?_ ?_)))))
 ·rcases Bool.eq_false_or_eq_true (decide (a1_<0)) with hc3|hc4
  ·exact (EP.u 1 (ZO (c:=(decide (a1_<0))) (h:=hc3)) (EP.f (by simp only [hc3];kernel_rfl)))
  refine (EP.u 1 (ZO (c:=(decide (a1_<0))) (h:=hc4)) (EP.u 4 (Z0 (ys:=[Zaf false a0_.Periods]) (h:=Zae eI64)) ?_))
  rcases Bool.eq_false_or_eq_true (decide (a1_≥((List.length a0_.Periods:Nat):Int))) with hc5|hc6
  ·exact (EP.u 0 (ZO (c:=(decide (a1_≥((List.length a0_.Periods:Nat):Int)))) (h:=hc5)) (EP.f (by simp only [hc4,hc5];kernel_rfl)))
  refine (EP.u 0 (ZO (c:=(decide (a1_≥((List.length a0_.Periods:Nat):Int)))) (h:=hc6)) ?_)
  rcases Bool.eq_false_or_eq_true (decide (a3_<0)) with hc7|hc8
  ·exact (EP.u 3 (ZO (c:=(decide (a3_<0))) (h:=hc7)) (EP.f (by simp only [hc4,hc6,hc7];kernel_rfl)))
  exact (EP.u 3 (ZO (c:=(decide (a3_<0))) (h:=hc8)) (EP.u 5 (Z0 (ys:=[Zaf false a0_.Periods]) (h:=Zae eI64)) (EP.f (by simp only [hc4,hc6,hc8];kernel_rfl))))
 refine tq (it h (λhc9 h=>?_) (λhc9 h=>?_))
 ·refine sq (rg ZJ.f (tq (rt (tr ?_))))
  cases h
  exact Zaj kr
 refine sk (tq (kq (sq (sq ?_))))
 obtain ⟨ad,hj,h⟩:=bs h
 refine rgR (λs=>s=⟨[(1,iv a1_),(2,iv a2_),(3,iv a3_),(4,iv a4_),(5,.loc 5 0),(59,bv ad)],[(5,(ZI a0_))],[]⟩) ?_ ?_
 ·clear h
  obtain ⟨a1,a4,hj⟩:=bs hj
  refine (EP.v 3 (Z9 (hc:=Zdj N a0_ a1_ a2_ a1 a4)) ?_)
  rcases Zai hj with ⟨ab,hj⟩|⟨aa,hj⟩
  ·obtain rfl:=Z4 hj
   exact (EP.u 0 (ZO (c:=(!a1)) (h:=ab)) (EP.f kr))
  refine (EP.u 0 (ZO (c:=(!a1)) (h:=aa)) ?_)
  obtain ⟨a0,a3,hj⟩:=bs hj
  refine (EP.v 4 (Z9 (hc:=Zdj N a0_ a3_ a4_ a0 a3)) ?_)
  rcases Zai hj with ⟨a9,hj⟩|⟨a8,hj⟩
  ·obtain rfl:=Z4 hj
   exact (EP.u 0 (ZO (c:=(!a0)) (h:=a9)) (EP.f kr))
  refine (EP.u 0 (ZO (c:=(!a0)) (h:=a8)) ?_)
  rcases Zai hj with ⟨a7,hj⟩|⟨a6,hj⟩
  ·obtain rfl:=Z4 hj
   exact (EP.u 4 (ZO (c:=(a1_==a3_)) (h:=a7)) (EP.f kr))
  obtain rfl:=Z4 hj
  exact (EP.u 4 (ZO (c:=(a1_==a3_)) (h:=a6)) (EP.f kr))
 clear hj
 rintro s hR
 obtain rfl:=hR
 refine tq (it h (λa5 h=>?_) (λa5 h=>?_))
 ·refine sq (rg ZJ.f (tq (rt (tr ?_))))
  cases h
  exact Zaj kr
 refine sk (tq (kq (sq ?_)))
 obtain ⟨ac,a2,h⟩:=bs h
 refine rg (ZJ.v 5 (Z9 (hc:=Zep N a0_ a1_ a2_ a3_ a4_ ac a2)) ZJ.f) (tq (rt ?_))
 cases h
 exact Zaj kr
end Go.Sh

