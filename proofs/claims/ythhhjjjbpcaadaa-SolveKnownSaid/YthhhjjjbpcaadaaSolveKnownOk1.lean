/- Part of the proof. -/
import Derived.Test.YthhhjjjbpcaadaaSolveKnownSh
import Derived.Test.YthhhjjjbpcaadaaSolveKnownChk
set_option linter.all false
namespace Go.Sh
open Go Go.Eng Go.Proofs
set_option maxRecDepth 100000
set_option maxHeartbeats 4000000
attribute [local irreducible] vc ev ZbF opsD opsF ZdM upd updH updO
theorem Zcm (N:Nat)(a0_:(List Int))(a1_:(List Int))(r:Bool)(h:Za9 N a0_ a1_=some r):PCall Try.prog 11 [Zad false a0_,Zad false a1_] (bv r):=by
 unfold Za9 at h
 have hH  := hp0
 refine ZaG ZoD rfl rfl (Zaf _ _ _ ?_) rfl
 refine sq (rg ZS.f (tq (sq (sq (rg (ZS.u 1 (Z7 (ys:=[Zad false a0_]) (h:=Zag eI64)) (ZS.u 1 (Z7 (ys:=[Zad false a1_]) (h:=Zag eI64)) ZS.f)) (tq (it h (λhc1 h=>?_) (λhc1 h=>?_))))))))
 ·refine sq (rg ZS.f (tq (rt (tr ?_))))
  cases h
  exact Zay kr
 refine sk (tq (kq (sq (sq (rg (ZS.u 1 (Z7 (ys:=[Zad false a0_]) (h:=Zag eI64)) ZS.f) (tq (bk ?_)))))))
 obtain ⟨a3,a0,h⟩:=bs h
 refine Zbv ((Za7 (λ(x:Int) s=>s=⟨[(0,Zad false a0_),(1,Zad false a1_),(12,iv ((List.length a0_:Nat):Int)),(13,iv x)],[],[]⟩) (λx:Int=>ZaL N a0_ a1_ x) (λ(p:(Unit)⊕(Bool)) e s=>match p with|(.inl p)=>e=.exit 0/\(s=⟨[],[],[]⟩)|(.inr p)=>e=.ret/\∃ xs,resL s i11.res=some xs/\Zbm xs=bv p) ?_ N _ a3 _ a0 kr).mono ?_)
 ·clear h a0
  rintro i2 o s h hR
  obtain rfl:=hR
  replace h:ZaL N a0_ a1_ i2=some o:=h
  unfold ZaL at h
  refine sq (rg ZS.f (tq (sq (it h (λa5 h=>?_) (λa5 h=>?_)))))
  ·refine sk (tq (kq (sq (bk (sq (rg ZS.f (tq (sq ?_))))))))
   obtain ⟨a7,a2,h⟩:=bs h
   obtain ⟨a6,a1,h⟩:=bs h
   refine rq (ZS.u 2 (Z7 (ys:=[Zad false a0_,iv i2]) (h:=Z5 eI64 a2)) (ZS.u 0 (Za6 (Zax (sz:=1) (off:=0) (cs:=[.int .i64 a7]) (r:=iv a7) eI64 a2)) (ZS.u 2 (Z7 (ys:=[Zad false a1_,iv i2]) (h:=Z5 eI64 a1)) (ZS.u 0 (Za6 (Zax (sz:=1) (off:=0) (cs:=[.int .i64 a6]) (r:=iv a6) eI64 a1)) ZS.f)))) (tq (it h (λa4 h=>?_) (λa4 h=>?_)))
   ·refine sq (rg ZS.f (tq (rt (br (tr ?_)))))
    cases h
    exact ⟨_,rfl,rfl,Zay kr⟩
   refine sk (bn (tq (kq (rg ZS.f ?_))))
   cases h
   exact ⟨_,rfl,kr⟩
  refine kq (xq (tx ?_))
  cases h
  exact ⟨_,rfl,rfl,kr⟩
 rintro e s hq
 rcases a3 with a9|a8
 ·dsimp only at h hq
  obtain ⟨rfl,hR⟩:=hq
  obtain rfl:=hR
  refine bx (tq (sq (rg ZS.f (tq (rt ?_)))))
  cases h
  exact Zay kr
 dsimp only at h hq
 obtain ⟨rfl,hq⟩:=hq
 refine br (tr ?_)
 cases h
 exact hq
theorem Zbg (N:Nat)(a0_:(List ZY))(a1_:(List ZY))(r:Bool)(h:Zcn N a0_ a1_=some r):PCall Try.prog 12 [Z1 false a0_,Z1 false a1_] (bv r):=by
 unfold Zcn at h
 have hH  := hp0
 refine ZaG ZoC rfl rfl (Zaf _ _ _ ?_) rfl
 refine sq (rg ZS.f (tq (sq (sq (rg (ZS.u 1 (Z7 (ys:=[Z1 false a0_]) (h:=Zag Zab)) (ZS.u 1 (Z7 (ys:=[Z1 false a1_]) (h:=Zag Zab)) ZS.f)) (tq (it h (λhc1 h=>?_) (λhc1 h=>?_))))))))
 ·refine sq (rg ZS.f (tq (rt (tr ?_))))
  cases h
  exact Zay kr
 refine sk (tq (kq (sq (sq (rg ZS.f (tq (bk ?_)))))))
 obtain ⟨ae,a2,h⟩:=bs h
 refine Zbv ((Za7 (λ(x:Int) s=>s=⟨[(0,Z1 false a0_),(1,Z1 false a1_),(5,iv x)],[],[]⟩) (λx:Int=>ZbU N a0_ a1_ x) (λ(p:(Unit)⊕(Bool)) e s=>match p with|(.inl p)=>e=.exit 0/\(s=⟨[],[],[]⟩)|(.inr p)=>e=.ret/\∃ xs,resL s i12.res=some xs/\Zbm xs=bv p) ?_ N _ ae _ a2 kr).mono ?_)
 ·clear h a2
  rintro i2 o s h hR
  obtain rfl:=hR
  replace h:ZbU N a0_ a1_ i2=some o:=h
  unfold ZbU at h
  refine sq (sq (rg (ZS.u 2 (Z7 (ys:=[Z1 false a0_]) (h:=Zag Zab)) ZS.f) (tq (it h (λav h=>?_) (λav h=>?_)))))
  ·refine sk (tq (kq (sq (bk (sq (sq ?_))))))
   obtain ⟨aw,hj,h⟩:=bs h
   refine rqR (λs=>s=⟨[(0,Z1 false a0_),(1,Z1 false a1_),(5,iv i2),(43,bv aw)],[],[]⟩) ?_ ?_
   ·clear h
    obtain ⟨ad,ak,hj⟩:=bs hj
    refine (EP.u 2 (Z7 (ys:=[Z1 false a0_,iv i2]) (h:=Z5 Zab ak)) (EP.u 1 (Za6 (Zax (sz:=2) (off:=0) (cs:=[.int .i64 ad.Stream]) (r:=iv ad.Stream) Zab ak)) ?_))
    obtain ⟨ac,aj,hj⟩:=bs hj
    refine (EP.u 2 (Z7 (ys:=[Z1 false a1_,iv i2]) (h:=Z5 Zab aj)) (EP.u 1 (Za6 (Zax (sz:=2) (off:=0) (cs:=[.int .i64 ac.Stream]) (r:=iv ac.Stream) Zab aj)) ?_))
    rcases Zak hj with ⟨au,hj⟩|⟨ar,hj⟩
    ·obtain rfl:=Z4 hj
     exact (EP.u 0 (ZZ (c:=(ad.Stream != ac.Stream)) (h:=au)) (EP.f kr))
    refine (EP.u 0 (ZZ (c:=(ad.Stream != ac.Stream)) (h:=ar)) ?_)
    obtain ⟨ap,ai,hj⟩:=bs hj
    refine (EP.u 3 (Z7 (ys:=[Z1 false a0_,iv i2]) (h:=Z5 Zab ai)) (EP.u 1 (Za6 (Zax (sz:=2) (off:=1) (cs:=[.sl 4 false (List.map Zao ap.Arms)]) (r:=ZaO false ap.Arms) Zab ai)) (EP.u 0 (Z7 (ys:=[ZaO false ap.Arms]) (h:=Zag Zao)) ?_)))
    obtain ⟨ao,ag,hj⟩:=bs hj
    obtain rfl:=Z4 hj
    exact (EP.u 2 (Z7 (ys:=[Z1 false a1_,iv i2]) (h:=Z5 Zab ag)) (EP.u 1 (Za6 (Zax (sz:=2) (off:=1) (cs:=[.sl 4 false (List.map Zao ao.Arms)]) (r:=ZaO false ao.Arms) Zab ag)) (EP.u 0 (Z7 (ys:=[ZaO false ao.Arms]) (h:=Zag Zao)) (EP.f kr))))
   clear hj
   rintro s hR
   obtain rfl:=hR
   refine tq (it h (λaq h=>?_) (λaq h=>?_))
   ·refine sq (rg ZS.f (tq (rt (tr (br (tr ?_))))))
    cases h
    exact ⟨_,rfl,rfl,Zay kr⟩
   refine sk (tq (kq (sq (rg ZS.f (tq (bk ?_))))))
   obtain ⟨af,a3,h⟩:=bs h
   refine Zbv ((Za7 (λ(x:Int) s=>s=⟨[(0,Z1 false a0_),(1,Z1 false a1_),(5,iv i2),(6,iv x)],[],[]⟩) (λx:Int=>ZbT N a0_ a1_ i2 x) (λ(p:(Unit)⊕(Bool)) e s=>match p with|(.inl p)=>e=.exit 2/\(s=⟨[(0,Z1 false a0_),(1,Z1 false a1_),(5,iv i2)],[],[]⟩)|(.inr p)=>e=.ret/\∃ xs,resL s i12.res=some xs/\Zbm xs=bv p) ?_ N _ af _ a3 kr).mono ?_)
   ·clear h a3
    rintro al o s h hR
    obtain rfl:=hR
    replace h:ZbT N a0_ a1_ i2 al=some o:=h
    unfold ZbT at h
    refine sq (sq ?_)
    obtain ⟨ab,a8,h⟩:=bs h
    refine rg (ZS.u 3 (Z7 (ys:=[Z1 false a0_,iv i2]) (h:=Z5 Zab a8)) (ZS.u 1 (Zax (sz:=2) (off:=1) (cs:=[.sl 4 false (List.map Zao ab.Arms)]) (r:=ZaO false ab.Arms) Zab a8) (ZS.u 0 (Z7 (ys:=[ZaO false ab.Arms]) (h:=Zag Zao)) ZS.f))) (tq (it h (λan h=>?_) (λan h=>?_)))
    ·refine sk (tq (kq (sq (bk (sq ?_)))))
     obtain ⟨aa,a7,h⟩:=bs h
     obtain ⟨a1,a6,h⟩:=bs h
     obtain ⟨a9,a5,h⟩:=bs h
     obtain ⟨a0,a4,h⟩:=bs h
     refine rq (ZS.u 2 (Z7 (ys:=[Z1 false a0_,iv i2]) (h:=Z5 Zab a7)) (ZS.u 1 (Za6 (Zax (sz:=2) (off:=1) (cs:=[.sl 4 false (List.map Zao aa.Arms)]) (r:=ZaO false aa.Arms) Zab a7)) (ZS.u 1 (Z7 (ys:=[ZaO false aa.Arms,iv al]) (h:=Z5 Zao a6)) (ZS.u 0 (Za6 (Zax (sz:=4) (off:=0) (cs:=[.int .i64 a1.From,.int .i64 a1.To,.int .i64 a1.By,.int .i64 a1.Next]) (r:=.agg (Za3 a1)) Zao a6)) (ZS.u 2 (Z7 (ys:=[Z1 false a1_,iv i2]) (h:=Z5 Zab a5)) (ZS.u 1 (Za6 (Zax (sz:=2) (off:=1) (cs:=[.sl 4 false (List.map Zao a9.Arms)]) (r:=ZaO false a9.Arms) Zab a5)) (ZS.u 1 (Z7 (ys:=[ZaO false a9.Arms,iv al]) (h:=Z5 Zao a4)) (ZS.u 0 (Za6 (Zax (sz:=4) (off:=0) (cs:=[.int .i64 a0.From,.int .i64 a0.To,.int .i64 a0.By,.int .i64 a0.Next]) (r:=.agg (Za3 a0)) Zao a4)) ZS.f)))))))) (tq (it h (λam h=>?_) (λam h=>?_)))
     ·refine sq (rg ZS.f (tq (rt (br (tr ?_)))))
      cases h
      exact ⟨_,rfl,rfl,Zay kr⟩
     refine sk (bn (tq (kq (rg ZS.f ?_))))
     cases h
     exact ⟨_,rfl,kr⟩
    refine kq (xq (tx ?_))
    cases h
    exact ⟨_,rfl,rfl,kr⟩
   rintro e s hq
   rcases af with aA|az
   ·dsimp only at h hq
    obtain ⟨rfl,hR⟩:=hq
    obtain rfl:=hR
    refine bx (bn (tq (kq (rg ZS.f ?_))))
    cases h
    exact ⟨_,rfl,kr⟩
   dsimp only at h hq
   obtain ⟨rfl,hq⟩:=hq
   refine br (br (tr ?_))
   cases h
   exact ⟨_,rfl,rfl,hq⟩
  refine kq (xq (tx ?_))
  cases h
  exact ⟨_,rfl,rfl,kr⟩
 rintro e s hq
 rcases ae with ay|ax
 ·dsimp only at h hq
  obtain ⟨rfl,hR⟩:=hq
  obtain rfl:=hR
  refine bx (tq (sq (rg ZS.f (tq (rt ?_)))))
  cases h
  exact Zay kr
 dsimp only at h hq
 obtain ⟨rfl,hq⟩:=hq
 refine br (tr ?_)
 cases h
 exact hq
theorem ZbJ (N:Nat)(a0_:Int)(a1_:Int)(a2_:Int)(r:ZT)(h:ZbG N a0_ a1_ a2_=some r):PCall Try.prog 16 [iv a0_,iv a1_,iv a2_] (.agg [Zad false r.Periods,Zaa false r.Uses]):=by
 unfold ZbG at h
 have hH  := hp0
 refine ZaG Zoy rfl rfl (Zaf _ _ _ ?_) rfl
 refine sq (rg ZS.f (tq (sq (rg ZS.f (tq (rt ?_))))))
 cases h
 exact Zay kr
theorem Zdj (N:Nat)(a0_:ZT)(a1_:Int)(a2_:Int)(r:Bool)(h:ZcB N a0_ a1_ a2_=some r):PCall Try.prog 26 [.agg (ZR a0_),iv a1_,iv a2_] (bv r):=by
 unfold ZcB at h
 have hH  := hp0
 refine ZaG Zov rfl rfl (Zaf _ _ _ ?_) rfl
 refine sq (rg ZS.f (tq (sq ?_)))
 obtain ⟨j4,hj,h⟩:=bs h
 refine rgR (λs=>s=⟨[(6,bv j4)],[],[]⟩) ?_ ?_
 ·clear h
  rcases Zak hj with ⟨hc1,hj⟩|⟨hc3,hj⟩
  ·refine (EP.u 1 (ZZ (c:=(decide (a2_≥0))) (h:=hc1)) ?_)
   obtain ⟨e2,he2,hj⟩:=bs hj
   obtain rfl:=Z4 hj
   exact (EP.u 5 (Z7 (ys:=[Zad false a0_.Periods,iv a1_]) (h:=Z5 eI64 he2)) (EP.u 0 (Zax (sz:=1) (off:=0) (cs:=[.int .i64 e2]) (r:=iv e2) eI64 he2) (EP.f kr)))
  obtain rfl:=Z4 hj
  exact (EP.u 1 (ZZ (c:=(decide (a2_≥0))) (h:=hc3)) (EP.f kr))
 clear hj
 rintro s hR
 obtain rfl:=hR
 refine tq (rt ?_)
 cases h
 exact Zay kr
theorem ZfY (N:Nat)(a0_:ZT)(a1_:Int)(a2_:Int)(H:List HO)(r:ZT×Int×Int)(h:ZdY N a0_ a1_ a2_=some r):∃ (id0_ id1_ id2_:Nat) (H':List HO),Zbq Try.prog 36 [.agg (ZR a0_),iv a1_,iv a2_] H (.fn 47 [] [.ptr id0_ 0,.ptr id1_ 0,.ptr id2_ 0]) H'/\Fp H H' [] [.cel id0_ [Zad false r.1.Periods,Zaa false r.1.Uses],.cel id1_ [iv r.2.1],.cel id2_ [iv r.2.2]]:=by
 suffices hs:∃ r' H',Zbq Try.prog 36 [.agg (ZR a0_),iv a1_,iv a2_] H r' H'/\∃ (id0_ id1_ id2_:Nat),r'=.fn 47 [] [.ptr id0_ 0,.ptr id1_ 0,.ptr id2_ 0]/\Fp H H' [] [.cel id0_ [Zad false r.1.Periods,Zaa false r.1.Uses],.cel id1_ [iv r.2.1],.cel id2_ [iv r.2.2]] by
  obtain ⟨_,H',h1,id0_,id1_,id2_,rfl,h2⟩:=hs
  exact ⟨id0_,id1_,id2_,H',h1,h2⟩
 unfold ZdY at h
 have hH:Fp H H [] []:=Fp.refl trivial
 refine Zit Zoq (λr' H'=>∃ (id0_ id1_ id2_:Nat),r'=.fn 47 [] [.ptr id0_ 0,.ptr id1_ 0,.ptr id2_ 0]/\Fp H H' [] [.cel id0_ [Zad false r.1.Periods,Zaa false r.1.Uses],.cel id1_ [iv r.2.1],.cel id2_ [iv r.2.2]]) (λr' H' ⟨_,_,_,e,_⟩=>by rw [e];rfl) rfl rfl (sq ?_)
 obtain ⟨id1,H2,hid1,hH2,hH⟩:=Fp.newCell hH (ZR a0_)
 replace hH:Fp _ _ _ [.cel id1 (ZR a0_)]:=hH
 obtain ⟨id3,H4,hid3,hH4,hH⟩:=Fp.newCell hH [iv a1_]
 replace hH:Fp _ _ _ [.cel id3 [iv a1_],.cel id1 (ZR a0_)]:=hH
 obtain ⟨id5,H6,hid5,hH6,hH⟩:=Fp.newCell hH [iv a2_]
 replace hH:Fp _ _ _ [.cel id5 [iv a2_],.cel id3 [iv a1_],.cel id1 (ZR a0_)]:=hH
 refine rg (ZS.h 0 (Zdo (H:=H) (v:=.agg (ZR a0_)) (hid:=hid1) (hH:=hH2)) (ZS.h 0 (Zdo (H:=H2) (v:=iv a1_) (hid:=hid3) (hH:=hH4)) (ZS.h 0 (Zdo (H:=H4) (v:=iv a2_) (hid:=hid5) (hH:=hH6)) ZS.f))) (tq (sq (rg ZS.f (tq (rt ?_)))))
 cases h
 exact ⟨[.fn 47 [] [.ptr id1 0,.ptr id3 0,.ptr id5 0]],kr,id1,id3,id5,rfl,Fp.pk hH [2,1,0] rfl⟩
theorem ZcH (N:Nat)(a0_:ZT)(a1_:Z2)(a2_:Int)(r:Zah)(h:ZbV N a0_ a1_ a2_=some r):PCall Try.prog 38 [.agg (ZR a0_),.agg (Zan a1_),iv a2_] (.agg [iv r.Period,iv r.From,iv r.Long]):=by
 unfold ZbV at h
 have hH  := hp0
 refine ZaG Zoo rfl rfl (Zaf _ _ _ ?_) rfl
 refine sq (rg ZS.f (tq (sq ?_)))
 obtain ⟨e1,he1,h⟩:=bs h
 refine rg (ZS.u 4 (Z7 (ys:=[Zad false a0_.Periods,iv a1_.Stream]) (h:=Z5 eI64 he1)) (ZS.u 0 (Zax (sz:=1) (off:=0) (cs:=[.int .i64 e1]) (r:=iv e1) eI64 he1) ZS.f)) (tq (sq ?_))
 obtain ⟨m2,hm2,h⟩:=bs h
 refine rq (ZS.u 6 (Z7 (ys:=[iv (w64 (a1_.From+a2_)),iv e1]) (h:=Zcj hm2)) ZS.f) (tq (rt ?_))
 cases h
 exact Zay kr
theorem Ze0 {σ:Type}(N:Nat)(y_:σ->Z2->Z2->Option (σ×Bool))(c0_:ZT)(c1_:Int)(c2_:Int)(s_:σ)(k0_:Nat)(k1_:Nat)(k2_:Nat)(yid_:Nat)(T_:σ->List Zaw->Prop)(hy_:∀ (x0:Z2) (x1:Z2) (s:σ) (r:σ×Bool) (H:List HO) (its:List Zaw),T_ s its->HP H its->y_ s x0 x1=some r->∃ H' its',Zhp Try.prog yid_ [.agg [iv x0.Stream,iv x0.Port,iv x0.From,iv x0.Long],.agg [iv x1.Stream,iv x1.Port,iv x1.From,iv x1.Long]] H r.2 H'/\T_ r.1 its'/\Fp H H' its its')(H:List HO)(its:List Zaw)(hT:T_ s_ its)(hH:HP H (.cel k0_ (ZR c0_)::.cel k1_ [iv c1_]::.cel k2_ [iv c2_]::its))(r:σ)(h:ZcQ N y_ c0_ c1_ c2_ s_=some r):∃ H' its',Zbq Try.prog 47 [.yl yid_,.ptr k0_ 0,.ptr k1_ 0,.ptr k2_ 0] H (.tup []) H'/\T_ r its'/\Fp H H' (.cel k0_ (ZR c0_)::.cel k1_ [iv c1_]::.cel k2_ [iv c2_]::its) (.cel k0_ (ZR c0_)::.cel k1_ [iv c1_]::.cel k2_ [iv c2_]::its'):=by
 suffices hs:∃ H',Zbq Try.prog 47 [.yl yid_,.ptr k0_ 0,.ptr k1_ 0,.ptr k2_ 0] H (.tup []) H'/\∃ its',T_ r its'/\Fp H H' (.cel k0_ (ZR c0_)::.cel k1_ [iv c1_]::.cel k2_ [iv c2_]::its) (.cel k0_ (ZR c0_)::.cel k1_ [iv c1_]::.cel k2_ [iv c2_]::its') by
  obtain ⟨H',h1,its',h2,h3⟩:=hs
  exact ⟨H',its',h1,h2,h3⟩
 unfold ZcQ at h
 replace hH:Fp H H (.cel k0_ (ZR c0_)::.cel k1_ [iv c1_]::.cel k2_ [iv c2_]::its) (.cel k0_ (ZR c0_)::.cel k1_ [iv c1_]::.cel k2_ [iv c2_]::its):=Fp.refl hH
 refine ZdR Zol (λH'=>∃ its',T_ r its'/\Fp H H' (.cel k0_ (ZR c0_)::.cel k1_ [iv c1_]::.cel k2_ [iv c2_]::its) (.cel k0_ (ZR c0_)::.cel k1_ [iv c1_]::.cel k2_ [iv c2_]::its')) rfl rfl rfl (sq ?_)
 have hlc1:=Fp.get hH 0 rfl
 refine rg (ZS.u 1 (Zav (H:=H) (id:=k0_) (off:=1) (cs:=(ZR c0_)) (c:=[Zaa false c0_.Uses]) (r:=Zaa false c0_.Uses) (hl:=hlc1)) (ZS.u 0 (Z7 (ys:=[Zaa false c0_.Uses]) (h:=Zag Zbd)) ZS.f)) (tq (bk ?_))
 obtain ⟨ag,a9,h⟩:=bs h
 refine Zbv ((Za7 (λ(x:Int×σ) s=>∃ (its2:List Zaw) (H3:List HO),s=⟨[(0,.yl yid_),(1,.ptr k0_ 0),(2,.ptr k1_ 0),(3,.ptr k2_ 0),(10,Zaa false c0_.Uses),(11,iv ((List.length c0_.Uses:Nat):Int)),(12,iv x.1)],[],H3⟩/\T_ x.2 its2/\Fp H H3 (.cel k0_ (ZR c0_)::.cel k1_ [iv c1_]::.cel k2_ [iv c2_]::its) (.cel k0_ (ZR c0_)::.cel k1_ [iv c1_]::.cel k2_ [iv c2_]::its2)) (λx:Int×σ=>Zbz N y_ c0_ c1_ c2_ x.1 x.2) (λ(p:(σ)⊕(σ)) e s=>match p with|(.inl p)=>e=.exit 0/\(∃ (a3:List Zaw) (af:List HO),s=⟨[],[],af⟩/\T_ p a3/\Fp H af (.cel k0_ (ZR c0_)::.cel k1_ [iv c1_]::.cel k2_ [iv c2_]::its) (.cel k0_ (ZR c0_)::.cel k1_ [iv c1_]::.cel k2_ [iv c2_]::a3))|(.inr p)=>e=.ret/\∃ xs,rawL s i47.res=some xs/\Zbm xs=.tup []/\∃ its',T_ p its'/\Fp H s.H (.cel k0_ (ZR c0_)::.cel k1_ [iv c1_]::.cel k2_ [iv c2_]::its) (.cel k0_ (ZR c0_)::.cel k1_ [iv c1_]::.cel k2_ [iv c2_]::its')) ?_ N _ ag _ a9 ⟨its,H,kr,hT,Fp.at hH⟩).mono ?_)
 ·clear h a9
  rintro ⟨i4,g5⟩ o s h hR
  obtain ⟨its2,H3,rfl,hT,hH⟩:=hR
  replace hH:Fp H H3 (.cel k0_ (ZR c0_)::.cel k1_ [iv c1_]::.cel k2_ [iv c2_]::its) (.cel k0_ (ZR c0_)::.cel k1_ [iv c1_]::.cel k2_ [iv c2_]::its2):=hH
  replace h:Zbz N y_ c0_ c1_ c2_ i4 g5=some o:=h
  unfold Zbz at h
  refine sq (rg ZS.f (tq (sq (it h (λaA h=>?_) (λaA h=>?_)))))
  ·refine sk (tq (kq (sq (bk (sq ?_)))))
   obtain ⟨a4,aj,h⟩:=bs h
   refine rg (ZS.u 1 (Z7 (ys:=[Zaa false c0_.Uses,iv i4]) (h:=Z5 Zbd aj)) (ZS.u 0 (Zax (sz:=4) (off:=0) (cs:=[.int .i64 a4.Stream,.int .i64 a4.Port,.int .i64 a4.From,.int .i64 a4.Long]) (r:=.agg (Zan a4)) Zbd aj) ZS.f)) (tq (sq (sq ?_)))
   have an:=Fp.get hH 1 rfl
   refine rg (ZS.u 2 (Zav (H:=H3) (id:=k1_) (off:=0) (cs:=[iv c1_]) (c:=[iv c1_]) (r:=iv c1_) (hl:=an)) ZS.f) (tq (it h (λaz h=>?_) (λaz h=>?_)))
   ·refine kq (xq (tx (bx (tq (kq (rg ZS.f ?_))))))
    cases h
    exact ⟨_,rfl,⟨its2,H3,kr,hT,Fp.at hH⟩⟩
   refine sk (tq (kq (sq ?_)))
   have am:=Fp.get hH 0 rfl
   refine rg (ZS.u 1 (Zav (H:=H3) (id:=k0_) (off:=1) (cs:=(ZR c0_)) (c:=[Zaa false c0_.Uses]) (r:=Zaa false c0_.Uses) (hl:=am)) (ZS.u 0 (Z7 (ys:=[Zaa false c0_.Uses]) (h:=Zag Zbd)) ZS.f)) (tq (bk ?_))
   obtain ⟨ai,aa,h⟩:=bs h
   refine Zbv ((Za7 (λ(x:Int×σ) s=>∃ (a0:List Zaw) (a5:List HO),s=⟨[(0,.yl yid_),(1,.ptr k0_ 0),(2,.ptr k1_ 0),(3,.ptr k2_ 0),(5,iv i4),(6,.loc 6 0),(10,Zaa false c0_.Uses),(11,iv ((List.length c0_.Uses:Nat):Int)),(12,iv i4),(22,Zaa false c0_.Uses),(23,iv ((List.length c0_.Uses:Nat):Int)),(24,iv x.1)],[(6,(Zan a4))],a5⟩/\T_ x.2 a0/\Fp H a5 (.cel k0_ (ZR c0_)::.cel k1_ [iv c1_]::.cel k2_ [iv c2_]::its) (.cel k0_ (ZR c0_)::.cel k1_ [iv c1_]::.cel k2_ [iv c2_]::a0)) (λx:Int×σ=>Zby N y_ c0_ c2_ i4 a4 x.1 x.2) (λ(p:(σ)⊕(σ)) e s=>match p with|(.inl p)=>e=.exit 2/\(∃ (a2:List Zaw) (a7:List HO),s=⟨[(0,.yl yid_),(1,.ptr k0_ 0),(2,.ptr k1_ 0),(3,.ptr k2_ 0),(10,Zaa false c0_.Uses),(11,iv ((List.length c0_.Uses:Nat):Int)),(12,iv i4)],[],a7⟩/\T_ p a2/\Fp H a7 (.cel k0_ (ZR c0_)::.cel k1_ [iv c1_]::.cel k2_ [iv c2_]::its) (.cel k0_ (ZR c0_)::.cel k1_ [iv c1_]::.cel k2_ [iv c2_]::a2))|(.inr p)=>e=.ret/\∃ xs,rawL s i47.res=some xs/\Zbm xs=.tup []/\∃ its',T_ p its'/\Fp H s.H (.cel k0_ (ZR c0_)::.cel k1_ [iv c1_]::.cel k2_ [iv c2_]::its) (.cel k0_ (ZR c0_)::.cel k1_ [iv c1_]::.cel k2_ [iv c2_]::its')) ?_ N _ ai _ aa ⟨its2,H3,kr,hT,Fp.at hH⟩).mono ?_)
   ·clear h aa
    rintro ⟨a8,aB⟩ o s h hR
    obtain ⟨a0,a5,rfl,hT,hH⟩:=hR
    replace hH:Fp H a5 (.cel k0_ (ZR c0_)::.cel k1_ [iv c1_]::.cel k2_ [iv c2_]::its) (.cel k0_ (ZR c0_)::.cel k1_ [iv c1_]::.cel k2_ [iv c2_]::a0):=hH
    replace h:Zby N y_ c0_ c2_ i4 a4 a8 aB=some o:=h
    unfold Zby at h
    refine sq (rg ZS.f (tq (sq (it h (λaw h=>?_) (λaw h=>?_)))))
    ·refine sk (tq (kq (sq (bk (sq ?_)))))
     obtain ⟨a1,ab,h⟩:=bs h
     refine rg (ZS.u 1 (Z7 (ys:=[Zaa false c0_.Uses,iv a8]) (h:=Z5 Zbd ab)) (ZS.u 0 (Zax (sz:=4) (off:=0) (cs:=[.int .i64 a1.Stream,.int .i64 a1.Port,.int .i64 a1.From,.int .i64 a1.Long]) (r:=.agg (Zan a1)) Zbd ab) ZS.f)) (tq (sq (sq ?_)))
     obtain ⟨ay,hj,h⟩:=bs h
     refine rgR (λs=>s=⟨[(0,.yl yid_),(1,.ptr k0_ 0),(2,.ptr k1_ 0),(3,.ptr k2_ 0),(5,iv i4),(6,.loc 6 0),(8,.loc 8 0),(10,Zaa false c0_.Uses),(11,iv ((List.length c0_.Uses:Nat):Int)),(12,iv i4),(22,Zaa false c0_.Uses),(23,iv ((List.length c0_.Uses:Nat):Int)),(24,iv a8),(44,bv ay)],[(6,(Zan a4)),(8,(Zan a1))],a5⟩) ?_ ?_
     ·clear h
      rcases Zak hj with ⟨av,hj⟩|⟨au,hj⟩
      ·obtain rfl:=Z4 hj
       exact (EP.u 2 (ZZ (c:=(a8==i4)) (h:=av)) (EP.f kr))
      refine (EP.u 2 (ZZ (c:=(a8==i4)) (h:=au)) ?_)
      have ad:=Fp.get hH 2 rfl
      refine (EP.u 3 (Zav (H:=a5) (id:=k2_) (off:=0) (cs:=[iv c2_]) (c:=[iv c2_]) (r:=iv c2_) (hl:=ad)) ?_)
      rcases Zak hj with ⟨ar,hj⟩|⟨aq,hj⟩
      ·obtain rfl:=Z4 hj
       exact (EP.u 0 (ZZ (c:=(a1.Stream != c2_)) (h:=ar)) (EP.f kr))
      obtain rfl:=Z4 hj
      exact (EP.u 0 (ZZ (c:=(a1.Stream != c2_)) (h:=aq)) (EP.f kr))
     clear hj
     rintro s hR
     obtain rfl:=hR
     refine tq (it h (λap h=>?_) (λap h=>?_))
     ·refine kq (xq (tx (bx (tq (kq (rg ZS.f ?_))))))
      cases h
      exact ⟨_,rfl,⟨a0,a5,kr,hT,Fp.at hH⟩⟩
     refine sk (tq (kq (sq ?_)))
     obtain ⟨ax,al,h⟩:=bs h
     obtain ⟨ak,a6,ac,hT,ae⟩:=hy_ a4 a1 aB ax a5 a0 hT (Fp.tail (own:=[.cel k0_ (ZR c0_),.cel k1_ [iv c1_],.cel k2_ [iv c2_]]) (its:=a0) hH) al
     replace hH:Fp H ak (.cel k0_ (ZR c0_)::.cel k1_ [iv c1_]::.cel k2_ [iv c2_]::its) (.cel k0_ (ZR c0_)::.cel k1_ [iv c1_]::.cel k2_ [iv c2_]::a6):=Fp.callT (own:=[.cel k0_ (ZR c0_),.cel k1_ [iv c1_],.cel k2_ [iv c2_]]) (its:=a0) hH ae
     refine rg (ZS.v 3 (Zjs (H:=a5) (id:=yid_) (ys:=[.agg (Zan a4),.agg (Zan a1)]) kr kr kr kr ac) ZS.f) (tq (it h (λao h=>?_) (λao h=>?_)))
     ·refine rt (br (tr ?_))
      cases h
      exact ⟨_,rfl,rfl,⟨[],kr,kr,a6,hT,Fp.at hH⟩⟩
     refine sk (bn (tq (kq (rg ZS.f ?_))))
     cases h
     exact ⟨_,rfl,⟨a6,ak,kr,hT,Fp.at hH⟩⟩
    refine kq (xq (tx ?_))
    cases h
    exact ⟨_,rfl,rfl,⟨a0,a5,kr,hT,Fp.at hH⟩⟩
   rintro e s hq
   rcases ai with aG|aE
   ·dsimp only at h hq
    obtain ⟨rfl,hR⟩:=hq
    obtain ⟨a2,a7,rfl,hT,hH⟩:=hR
    replace hH:Fp H a7 (.cel k0_ (ZR c0_)::.cel k1_ [iv c1_]::.cel k2_ [iv c2_]::its) (.cel k0_ (ZR c0_)::.cel k1_ [iv c1_]::.cel k2_ [iv c2_]::a2):=hH
    refine bx (bn (tq (kq (rg ZS.f ?_))))
    cases h
    exact ⟨_,rfl,⟨a2,a7,kr,hT,Fp.at hH⟩⟩
   dsimp only at h hq
   obtain ⟨rfl,hq⟩:=hq
   refine br (br (tr ?_))
   cases h
   exact ⟨_,rfl,rfl,hq⟩
  refine kq (xq (tx ?_))
  cases h
  exact ⟨_,rfl,rfl,⟨its2,H3,kr,hT,Fp.at hH⟩⟩
 rintro e s hq
 rcases ag with aD|aC
 ·dsimp only at h hq
  obtain ⟨rfl,hR⟩:=hq
  obtain ⟨a3,af,rfl,hT,hH⟩:=hR
  replace hH:Fp H af (.cel k0_ (ZR c0_)::.cel k1_ [iv c1_]::.cel k2_ [iv c2_]::its) (.cel k0_ (ZR c0_)::.cel k1_ [iv c1_]::.cel k2_ [iv c2_]::a3):=hH
  refine bx ?_
  cases h
  exact ⟨[],kr,kr,a3,hT,Fp.at hH⟩
 dsimp only at h hq
 obtain ⟨rfl,hq⟩:=hq
 refine br ?_
 cases h
 exact hq
theorem ZbN (N:Nat)(a0_:Zah)(r:Int)(h:Zbx N a0_=some r):PCall Try.prog 48 [.agg (ZaU a0_)] (iv r):=by
 unfold Zbx at h
 have hH  := hp0
 refine ZaG Zok rfl rfl (Zaf _ _ _ ?_) rfl
 refine sq (rg ZS.f (tq (sq (sq (rgX ⟨[(1,.loc 1 0),(22,bv ((decide (a0_.Period<1))||((decide (a0_.Period>960))||((decide (a0_.From<0))||(decide (a0_.From≥a0_.Period))))))],[(1,(ZaU a0_))],[]⟩ ?_ ?_)))))
 ·rcases Bool.eq_false_or_eq_true (decide (a0_.Period<1)) with hc1|hc2
  ·exact (EP.u 2 (ZZ (c:=(decide (a0_.Period<1))) (h:=hc1)) (EP.f (by simp only [hc1];kernel_rfl)))
  refine (EP.u 2 (ZZ (c:=(decide (a0_.Period<1))) (h:=hc2)) ?_)
  rcases Bool.eq_false_or_eq_true (decide (a0_.Period>960)) with hc3|hc4
  ·exact (EP.u 3 (ZZ (c:=(decide (a0_.Period>960))) (h:=hc3)) (EP.f (by simp only [hc2,hc3];kernel_rfl)))
  refine (EP.u 3 (ZZ (c:=(decide (a0_.Period>960))) (h:=hc4)) ?_)
  rcases Bool.eq_false_or_eq_true (decide (a0_.From<0)) with hc5|hc6
  ·exact (EP.u 4 (ZZ (c:=(decide (a0_.From<0))) (h:=hc5)) (EP.f (by simp only [hc2,hc4,hc5];kernel_rfl)))
  exact (EP.u 4 (ZZ (c:=(decide (a0_.From<0))) (h:=hc6)) (EP.f (by simp only [hc2,hc4,hc6];kernel_rfl)))
 refine tq (it h (λhc7 h=>?_) (λhc7 h=>?_))
 ·refine sq (rg ZS.f (tq (rt (tr ?_))))
  cases h
  exact Zay kr
 refine sk (tq (kq (sq (sq (rgX ⟨[(32,bv ((decide (a0_.Long<1))||(decide (a0_.Long>a0_.Period))))],[],[]⟩ ?_ ?_)))))
 ·rcases Bool.eq_false_or_eq_true (decide (a0_.Long<1)) with hc8|hc9
  ·exact (EP.u 2 (ZZ (c:=(decide (a0_.Long<1))) (h:=hc8)) (EP.f (by simp only [hc8];kernel_rfl)))
  exact (EP.u 2 (ZZ (c:=(decide (a0_.Long<1))) (h:=hc9)) (EP.f (by simp only [hc9];kernel_rfl)))
 refine tq (it h (λa0 h=>?_) (λa0 h=>?_))
 ·refine sq (rg ZS.f (tq (rt (tr ?_))))
  cases h
  exact Zay kr
 refine sk (tq (kq (sq (rg ZS.f (tq (rt ?_))))))
 cases h
 exact Zay kr
theorem Zds (N:Nat)(a0_:(List Zah))(r:Int)(h:ZbM N a0_=some r):PCall Try.prog 54 [Zar false a0_] (iv r):=by
 unfold ZbM at h
 have hH  := hp0
 refine ZaG Zoh rfl rfl (Zaf _ _ _ ?_) rfl
 refine sq (rg ZS.f (tq (sq (sq (rg (ZS.u 1 (Z7 (ys:=[Zar false a0_]) (h:=Zag Zau)) ZS.f) (tq (it h (λhc1 h=>?_) (λhc1 h=>?_))))))))
 ·refine sq (rg ZS.f (tq (rt (tr ?_))))
  cases h
  exact Zay kr
 refine sk (tq (kq (sq (sq (rg (ZS.u 1 (Z7 (ys:=[Zar false a0_]) (h:=Zag Zau)) ZS.f) (tq (bk ?_)))))))
 obtain ⟨a3,a1,h⟩:=bs h
 refine Zbv ((Za7 (λ(x:Int) s=>s=⟨[(9,Zar false a0_),(10,iv ((List.length a0_:Nat):Int)),(11,iv x)],[],[]⟩) (λx:Int=>ZaY N a0_ x) (λ(p:(Unit)⊕(Int)) e s=>match p with|(.inl p)=>e=.exit 0/\(s=⟨[],[],[]⟩)|(.inr p)=>e=.ret/\∃ xs,resL s i54.res=some xs/\Zbm xs=iv p) ?_ N _ a3 _ a1 kr).mono ?_)
 ·clear h a1
  rintro i2 o s h hR
  obtain rfl:=hR
  replace h:ZaY N a0_ i2=some o:=h
  unfold ZaY at h
  refine sq (rg ZS.f (tq (sq (it h (λa6 h=>?_) (λa6 h=>?_)))))
  ·refine sk (tq (kq (sq (bk (sq ?_)))))
   obtain ⟨a0,a2,h⟩:=bs h
   refine rg (ZS.u 0 (Z7 (ys:=[Zar false a0_,iv i2]) (h:=Z5 Zau a2)) (ZS.u 0 (Zax (sz:=3) (off:=0) (cs:=[.int .i64 a0.Period,.int .i64 a0.From,.int .i64 a0.Long]) (r:=.agg (ZaU a0)) Zau a2) ZS.f)) (tq (sq ?_))
   obtain ⟨a7,a4,h⟩:=bs h
   refine rg (ZS.v 1 (ZaE (hc:=ZbN N a0 a7 a4)) ZS.f) (tq (sq (rg ZS.f (tq (it h (λa5 h=>?_) (λa5 h=>?_))))))
   ·refine sq (rg ZS.f (tq (rt (br (tr ?_)))))
    cases h
    exact ⟨_,rfl,rfl,Zay kr⟩
   refine sk (bn (tq (kq (rg ZS.f ?_))))
   cases h
   exact ⟨_,rfl,kr⟩
  refine kq (xq (tx ?_))
  cases h
  exact ⟨_,rfl,rfl,kr⟩
 rintro e s hq
 rcases a3 with a9|a8
 ·dsimp only at h hq
  obtain ⟨rfl,hR⟩:=hq
  obtain rfl:=hR
  refine bx (tq (sq (rg ZS.f (tq (rt ?_)))))
  cases h
  exact Zay kr
 dsimp only at h hq
 obtain ⟨rfl,hq⟩:=hq
 refine br (tr ?_)
 cases h
 exact hq
theorem Zfn (N:Nat)(a0_:Int)(a1_:Int)(r:Int)(h:Zdr N a0_ a1_=some r):PCall Try.prog 59 [iv a0_,iv a1_] (iv r):=by
 unfold Zdr at h
 have hH  := hp0
 refine ZaG Zoe rfl rfl (Zaf _ _ _ ?_) rfl
 refine sq (rg ZS.f (tq (sq ?_)))
 obtain ⟨m1,hm1,h⟩:=bs h
 obtain ⟨m2,hm2,h⟩:=bs h
 refine rg (ZS.u 2 (Z7 (ys:=[iv a0_,iv a1_]) (h:=Zcj hm1)) (ZS.u 3 (Z7 (ys:=[iv (w64 (m1+a1_)),iv a1_]) (h:=Zcj hm2)) ZS.f)) (tq (rt ?_))
 cases h
 exact Zay kr
theorem Zdi (N:Nat)(a0_:Int)(a1_:Int)(r:Int)(h:Zcx N a0_ a1_=some r):PCall Try.prog 60 [iv a0_,iv a1_] (iv r):=by
 unfold Zcx at h
 have hH  := hp0
 refine ZaG Zod rfl rfl (Zaf _ _ _ ?_) rfl
 refine sq (rg ZS.f (tq (sq (bk ?_))))
 obtain ⟨a3,a0,h⟩:=bs h
 refine Zbv ((Za7 (λ(x:Int×Int) s=>s=⟨[(0,iv x.1),(1,iv x.2)],[],[]⟩) (λx:Int×Int=>ZbI N x.1 x.2) (λ(p:Int) e s=>e=.exit 0/\(s=⟨[(0,iv p)],[],[]⟩)) ?_ N _ a3 _ a0 kr).mono ?_)
 ·clear h a0
  rintro ⟨i1,i2⟩ o s h hR
  obtain rfl:=hR
  replace h:ZbI N i1 i2=some o:=h
  unfold ZbI at h
  refine sq (sq (rg ZS.f (tq (it h (λa2 h=>?_) (λa2 h=>?_)))))
  ·refine sk (tq (kq (bk ?_)))
   obtain ⟨a4,a1,h⟩:=bs h
   refine rq (ZS.u 3 (Z7 (ys:=[iv i1,iv i2]) (h:=Zcj a1)) ZS.f) (bn ?_)
   cases h
   exact ⟨_,rfl,kr⟩
  refine kq (xq (tx ?_))
  cases h
  exact ⟨_,rfl,rfl,kr⟩
 rintro e s hq
 obtain ⟨rfl,hR⟩:=hq
 obtain rfl:=hR
 refine bx (tq (sq (rg ZS.f (tq (rt ?_)))))
 cases h
 exact Zay kr
theorem ZeT (N:Nat)(a0_:Int)(a1_:(List Int))(r:Int)(h:ZcP N a0_ a1_=some r):PCall Try.prog 55 [iv a0_,Zad false a1_] (iv r):=by
 unfold ZcP at h
 have hH  := hp0
 refine ZaG Zog rfl rfl (Zaf _ _ _ ?_) rfl
 refine sq (rg ZS.f (tq (sq (rg ZS.f (tq (sq (sq (rg (ZS.u 1 (Z7 (ys:=[Zad false a1_]) (h:=Zag eI64)) ZS.f) (tq (bk ?_))))))))))
 obtain ⟨a8,a0,h⟩:=bs h
 refine Zbv ((Za7 (λ(x:Int×Int) s=>s=⟨[(0,iv a0_),(5,iv x.1),(8,Zad false a1_),(9,iv ((List.length a1_:Nat):Int)),(10,iv x.2)],[],[]⟩) (λx:Int×Int=>Zbw N a0_ a1_ x.1 x.2) (λ(p:Int) e s=>e=.exit 0/\(s=⟨[(5,iv p)],[],[]⟩)) ?_ N _ a8 _ a0 kr).mono ?_)
 ·clear h a0
  rintro ⟨i1,i2⟩ o s h hR
  obtain rfl:=hR
  replace h:Zbw N a0_ a1_ i1 i2=some o:=h
  unfold Zbw at h
  refine sq (rg ZS.f (tq (sq (it h (λa7 h=>?_) (λa7 h=>?_)))))
  ·refine sk (tq (kq (sq (bk (sq ?_)))))
   obtain ⟨a2,a1,h⟩:=bs h
   refine rg (ZS.u 0 (Z7 (ys:=[Zad false a1_,iv i2]) (h:=Z5 eI64 a1)) (ZS.u 0 (Zax (sz:=1) (off:=0) (cs:=[.int .i64 a2]) (r:=iv a2) eI64 a1) ZS.f)) (tq (sq ?_))
   obtain ⟨a3,a4,h⟩:=bs h
   obtain ⟨a9,a5,h⟩:=bs h
   refine rg (ZS.v 3 (ZaE (hc:=Zdi N i1 a2 a3 a4)) (ZS.u 0 (Z7 (ys:=[iv i1,iv a3]) (h:=Ziy a5)) ZS.f)) (tq (sq (rg ZS.f (tq (it h (λa6 h=>?_) (λa6 h=>?_))))))
   ·refine kq (xq (bo (tx ?_)))
    cases h
    exact ⟨_,rfl,rfl,kr⟩
   refine sk (bn (tq (kq (rg ZS.f ?_))))
   cases h
   exact ⟨_,rfl,kr⟩
  refine kq (xq (tx ?_))
  cases h
  exact ⟨_,rfl,rfl,kr⟩
 rintro e s hq
 obtain ⟨rfl,hR⟩:=hq
 obtain rfl:=hR
 refine bx (tq (sq (rg ZS.f (tq (rt ?_)))))
 cases h
 exact Zay kr
theorem ZeS (N:Nat)(a0_:Zah)(a1_:Zah)(r:Int×Int×Int)(h:ZcO N a0_ a1_=some r):PCall Try.prog 58 [.agg (ZaU a0_),.agg (ZaU a1_)] (.tup [iv r.1,iv r.2.1,iv r.2.2]):=by
 unfold ZcO at h
 have hH  := hp0
 refine ZaG Zof rfl rfl (Zaf _ _ _ ?_) rfl
 refine sq (rg ZS.f (tq (sq ?_)))
 obtain ⟨r1,hr1,h⟩:=bs h
 refine rg (ZS.v 4 (ZaE (hc:=Zdi N a0_.Period a1_.Period r1 hr1)) ZS.f) (tq (sq (rq ZS.f (tq (rt ?_)))))
 cases h
 exact Zay kr
theorem Zer (N:Nat)(a0_:(List Zah))(r:Int×Int)(h:Zcz N a0_=some r):PCall Try.prog 44 [Zar false a0_] (.tup [iv r.1,iv r.2]):=by
 unfold Zcz at h
 have hH  := hp0
 refine ZaG Zon rfl rfl (Zaf _ _ _ ?_) rfl
 refine sq (rg ZS.f (tq (sq (sq ?_))))
 obtain ⟨r1,hr1,h⟩:=bs h
 refine rg (ZS.v 1 (ZaE (hc:=Zds N a0_ r1 hr1)) ZS.f) (tq (sq (rg ZS.f (tq (it h (λhc2 h=>?_) (λhc2 h=>?_))))))
 ·refine sq (rg ZS.f (tq (rt (tr ?_))))
  cases h
  exact Zay kr
 refine sk (tq (kq (sq ?_)))
 obtain ⟨l5,hl5,h⟩:=bs h
 obtain ⟨a3,H4,ha3,hH4,ha3b,hH⟩:=HP.make eI64 hH hl5
 replace hH:HP _ [.arr a3 1 false (List.map eI64 l5)]:=hH
 have hfa3:=Zev (HP.get hH 0 rfl)
 refine rgS ⟨[(0,Zar false a0_),(5,a3)],[],H4⟩ (ZS.u 1 (Z7 (ys:=[Zar false a0_]) (h:=Zag Zau)) (ZS.h 0 (ZiH (H:=[]) (zero:=[.int .i64 0]) (bytes:=8) kr kr kr ha3 hH4 ha3b) ZS.f)) (by cases hfa3<;>kernel_rfl) (tq (sq (sq (rgS ⟨[(5,a3),(17,Zar false a0_),(18,iv ((List.length a0_:Nat):Int)),(19,iv 0)],[],H4⟩ (ZS.u 1 (Z7 (ys:=[Zar false a0_]) (h:=Zag Zau)) ZS.f) (by cases hfa3<;>kernel_rfl) (tq (bk ?_))))))
 obtain ⟨a4,ab,h⟩:=bs h
 refine Zbv ((Za7 (λ(x:Int×(List Int)) s=>∃ (a6:AV) (H7:List HO),s=⟨[(5,a6),(17,Zar false a0_),(18,iv ((List.length a0_:Nat):Int)),(19,iv x.1)],[],H7⟩/\HP H7 [.arr a6 1 false (List.map eI64 x.2)]) (λx:Int×(List Int)=>Zbr N a0_ x.1 x.2) (λ(p:(List Int)) e s=>e=.exit 0/\(∃ (a1:AV) (aa:List HO),s=⟨[(5,a1)],[],aa⟩/\HP aa [.arr a1 1 false (List.map eI64 p)])) ?_ N _ a4 _ ab ⟨a3,H4,(by show _=_;cases hfa3<;>kernel_rfl),(HP.pick hH [0] rfl)⟩).mono ?_)
 ·clear h ab
  rintro ⟨i8,l9⟩ o s h hR
  obtain ⟨a6,H7,rfl,hH⟩:=hR
  replace hH:HP _ [.arr a6 1 false (List.map eI64 l9)]:=hH
  have hfa6:=Zev (HP.get hH 0 rfl)
  replace h:Zbr N a0_ i8 l9=some o:=h
  unfold Zbr at h
  refine sq (rgS ⟨[(5,a6),(17,Zar false a0_),(18,iv ((List.length a0_:Nat):Int)),(19,iv i8),(20,bv (decide (i8<((List.length a0_:Nat):Int))))],[],H7⟩ ZS.f (by cases hfa6<;>kernel_rfl) (tq (sq (it h (λak h=>?_) (λak h=>?_)))))
  ·refine sk (tq (kq (sq (bk (sq ?_)))))
   obtain ⟨a0,ad,h⟩:=bs h
   refine rgS ⟨[(5,a6),(6,iv i8),(7,.loc 7 0),(17,Zar false a0_),(18,iv ((List.length a0_:Nat):Int)),(19,iv i8)],[(7,(ZaU a0))],H7⟩ (ZS.u 1 (Z7 (ys:=[Zar false a0_,iv i8]) (h:=Z5 Zau ad)) (ZS.u 0 (Zax (sz:=3) (off:=0) (cs:=[.int .i64 a0.Period,.int .i64 a0.From,.int .i64 a0.Long]) (r:=.agg (ZaU a0)) Zau ad) (ZS.f (h:=(by cases hfa6<;>kernel_rfl))))) (by cases hfa6<;>kernel_rfl) (tq ?_)
   obtain ⟨aq,ac,h⟩:=bs h
   obtain ⟨ap,am,_,a8,ae,a9,a7⟩:=HP.elem (k:=0) (a:=a6) (sz:=1) (frz:=false) eI64 hH rfl ac
   obtain ⟨af,al,hH⟩:=HP.setRow (k:=0) (off:=0) (cs:=[iv a0.Period]) (ps:=[.int .i64 a0.Period]) (e':=a0.Period) eI64 hH rfl a9 ae (a8 rfl) ac kr kr
   replace hH:HP _ [.arr a6 1 false (List.map eI64 (List.set l9 (Int.toNat i8) a0.Period))]:=hH
   refine rgS ⟨[(5,a6),(17,Zar false a0_),(18,iv ((List.length a0_:Nat):Int)),(19,iv i8)],[],af⟩ (ZS.u 4 (Z7 (ys:=[a6,iv i8]) (by cases hfa6<;>kernel_rfl) (a7 .i64)) (ZS.o 0 (Zck (H:=H7) (v:=iv a0.Period) (hw:=al)) ZS.f)) (by cases hfa6<;>kernel_rfl) (bn (tq (rgS ⟨[(5,a6),(17,Zar false a0_),(18,iv ((List.length a0_:Nat):Int)),(19,iv (w64 (i8+1)))],[],af⟩ ZS.f (by cases hfa6<;>kernel_rfl) ?_)))
   cases h
   exact ⟨_,rfl,⟨a6,af,(by show _=_;cases hfa6<;>kernel_rfl),(HP.pick hH [0] rfl)⟩⟩
  refine kq (xq (tx ?_))
  cases h
  exact ⟨_,rfl,rfl,⟨a6,H7,(by show _=_;cases hfa6<;>kernel_rfl),(HP.pick hH [0] rfl)⟩⟩
 rintro e s hq
 obtain ⟨rfl,hR⟩:=hq
 obtain ⟨a1,aa,rfl,hH⟩:=hR
 replace hH:HP _ [.arr a1 1 false (List.map eI64 a4)]:=hH
 have a2:=Zev (HP.get hH 0 rfl)
 refine bx (tq (sq ?_))
 obtain ⟨ag,ai,h⟩:=bs h
 obtain ⟨ao,an,a5,hH⟩:=HP.frz (k:=0) (a:=a1) (sz:=1) (frz:=false) eI64 hH rfl
 replace hH:HP _ [.arr a1 1 true (List.map eI64 a4)]:=hH
 refine rgS ⟨[(8,iv ag)],[],ao⟩ (ZS.v 1 (ZhD (H:=aa) (ys:=[iv 960,a1]) (by cases a2<;>kernel_rfl) (by cases a2<;>kernel_rfl) (Zfc rfl (Zfc a5 ZhP)) (ZeT N 960 a4 ag ai)) ZS.f) kr ?_
 replace hH:HP _ []:=HP.pick hH [] rfl
 refine tq (sq (sq (rg ZS.f (tq (it h (λaj h=>?_) (λaj h=>?_))))))
 ·refine sq (rg ZS.f (tq (rt (tr ?_))))
  cases h
  exact Zay kr
 refine sk (tq (kq (sq (rg ZS.f (tq (rt ?_))))))
 cases h
 exact Zay kr
theorem Zeq (N:Nat)(a0_:Zah)(a1_:Zah)(r:Bool)(h:Zcy N a0_ a1_=some r):PCall Try.prog 49 [.agg (ZaU a0_),.agg (ZaU a1_)] (bv r):=by
 unfold Zcy at h
 have hH  := hp0
 refine ZaG Zoj rfl rfl (Zaf _ _ _ ?_) rfl
 refine sq (rg ZS.f (tq (sq (sq (rg ZS.f (tq (it h (λhc1 h=>?_) (λhc1 h=>?_))))))))
 ·refine sq (rg ZS.f (tq (rt (tr ?_))))
  cases h
  exact Zay kr
 refine sk (tq (kq (sq ?_)))
 obtain ⟨r2,hr2,h⟩:=bs h
 refine rg (ZS.v 2 (ZaE (hc:=ZeS N a0_ a1_ r2 hr2)) ZS.f) (tq (sq ?_))
 obtain ⟨r3,hr3,h⟩:=bs h
 refine rg (ZS.v 6 (ZaE (hc:=Zfn N (w64 (a1_.From-a0_.From)) r2.2.2 r3 hr3)) ZS.f) (tq (sq (rgX ⟨[(4,bv ((decide (r2.1<=r3))&&(decide (r3<=r2.2.1))))],[],[]⟩ ?_ ?_)))
 ·rcases Bool.eq_false_or_eq_true (decide (r2.1<=r3)) with hc4|hc5
  ·exact (EP.u 2 (ZZ (c:=(decide (r2.1<=r3))) (h:=hc4)) (EP.f (by simp only [hc4];kernel_rfl)))
  exact (EP.u 2 (ZZ (c:=(decide (r2.1<=r3))) (h:=hc5)) (EP.f (by simp only [hc5];kernel_rfl)))
 refine tq (rt ?_)
 cases h
 exact Zay kr
theorem ZfZ (N:Nat)(a0_:(List Int))(r:Int×Int)(h:ZdZ N a0_=some r):PCall Try.prog 31 [Zad false a0_] (.tup [iv r.1,iv r.2]):=by
 unfold ZdZ at h
 have hH  := hp0
 refine ZaG Zot rfl rfl (Zaf _ _ _ ?_) rfl
 refine sq (rg ZS.f (tq (sq ?_)))
 obtain ⟨l3,hl3,h⟩:=bs h
 obtain ⟨a1,H2,ha1,hH2,ha1b,hH⟩:=HP.make Zau hH hl3
 replace hH:HP _ [.arr a1 3 false (List.map Zau l3)]:=hH
 have hfa1:=Zev (HP.get hH 0 rfl)
 refine rgS ⟨[(0,Zad false a0_),(4,a1)],[],H2⟩ (ZS.u 1 (Z7 (ys:=[Zad false a0_]) (h:=Zag eI64)) (ZS.h 0 (ZiH (H:=[]) (zero:=[.int .i64 0,.int .i64 0,.int .i64 0]) (bytes:=24) kr kr kr ha1 hH2 ha1b) ZS.f)) (by cases hfa1<;>kernel_rfl) (tq (sq (sq (rgS ⟨[(4,a1),(10,Zad false a0_),(11,iv ((List.length a0_:Nat):Int)),(12,iv 0)],[],H2⟩ (ZS.u 1 (Z7 (ys:=[Zad false a0_]) (h:=Zag eI64)) ZS.f) (by cases hfa1<;>kernel_rfl) (tq (bk ?_))))))
 obtain ⟨a5,ab,h⟩:=bs h
 refine Zbv ((Za7 (λ(x:Int×(List Zah)) s=>∃ (a4:AV) (H5:List HO),s=⟨[(4,a4),(10,Zad false a0_),(11,iv ((List.length a0_:Nat):Int)),(12,iv x.1)],[],H5⟩/\HP H5 [.arr a4 3 false (List.map Zau x.2)]) (λx:Int×(List Zah)=>ZbW N a0_ x.1 x.2) (λ(p:(List Zah)) e s=>e=.exit 0/\(∃ (a2:AV) (aa:List HO),s=⟨[(4,a2)],[],aa⟩/\HP aa [.arr a2 3 false (List.map Zau p)])) ?_ N _ a5 _ ab ⟨a1,H2,(by show _=_;cases hfa1<;>kernel_rfl),(HP.pick hH [0] rfl)⟩).mono ?_)
 ·clear h ab
  rintro ⟨i6,l7⟩ o s h hR
  obtain ⟨a4,H5,rfl,hH⟩:=hR
  replace hH:HP _ [.arr a4 3 false (List.map Zau l7)]:=hH
  have hfa4:=Zev (HP.get hH 0 rfl)
  replace h:ZbW N a0_ i6 l7=some o:=h
  unfold ZbW at h
  refine sq (rgS ⟨[(4,a4),(10,Zad false a0_),(11,iv ((List.length a0_:Nat):Int)),(12,iv i6),(13,bv (decide (i6<((List.length a0_:Nat):Int))))],[],H5⟩ ZS.f (by cases hfa4<;>kernel_rfl) (tq (sq (it h (λaj h=>?_) (λaj h=>?_)))))
  ·refine sk (tq (kq (sq (bk (sq ?_)))))
   obtain ⟨a0,ad,h⟩:=bs h
   refine rgS ⟨[(4,a4),(5,iv i6),(6,iv a0),(10,Zad false a0_),(11,iv ((List.length a0_:Nat):Int)),(12,iv i6)],[],H5⟩ (ZS.u 1 (Z7 (ys:=[Zad false a0_,iv i6]) (h:=Z5 eI64 ad)) (ZS.u 0 (Zax (sz:=1) (off:=0) (cs:=[.int .i64 a0]) (r:=iv a0) eI64 ad) ZS.f)) (by cases hfa4<;>kernel_rfl) (tq ?_)
   obtain ⟨ap,ac,h⟩:=bs h
   obtain ⟨ao,al,_,a8,af,a9,a7⟩:=HP.elem (k:=0) (a:=a4) (sz:=3) (frz:=false) Zau hH rfl ac
   obtain ⟨ag,ak,hH⟩:=HP.setRow (k:=0) (off:=0) (cs:=[iv a0,iv 0,iv 1]) (ps:=[.int .i64 a0,.int .i64 0,.int .i64 1]) (e':=(Zah.mk a0 0 1)) Zau hH rfl a9 af (a8 rfl) ac kr kr
   replace hH:HP _ [.arr a4 3 false (List.map Zau (List.set l7 (Int.toNat i6) (Zah.mk a0 0 1)))]:=hH
   refine rgS ⟨[(4,a4),(10,Zad false a0_),(11,iv ((List.length a0_:Nat):Int)),(12,iv i6)],[],ag⟩ (ZS.u 4 (Z7 (ys:=[a4,iv i6]) (by cases hfa4<;>kernel_rfl) (a7 .i64)) (ZS.o 0 (Zck (H:=H5) (v:=.agg [iv a0,iv 0,iv 1]) (hw:=ak)) ZS.f)) (by cases hfa4<;>kernel_rfl) (bn (tq (rgS ⟨[(4,a4),(10,Zad false a0_),(11,iv ((List.length a0_:Nat):Int)),(12,iv (w64 (i6+1)))],[],ag⟩ ZS.f (by cases hfa4<;>kernel_rfl) ?_)))
   cases h
   exact ⟨_,rfl,⟨a4,ag,(by show _=_;cases hfa4<;>kernel_rfl),(HP.pick hH [0] rfl)⟩⟩
  refine kq (xq (tx ?_))
  cases h
  exact ⟨_,rfl,rfl,⟨a4,H5,(by show _=_;cases hfa4<;>kernel_rfl),(HP.pick hH [0] rfl)⟩⟩
 rintro e s hq
 obtain ⟨rfl,hR⟩:=hq
 obtain ⟨a2,aa,rfl,hH⟩:=hR
 replace hH:HP _ [.arr a2 3 false (List.map Zau a5)]:=hH
 have a3:=Zev (HP.get hH 0 rfl)
 refine bx (tq (sq ?_))
 obtain ⟨ae,ai,h⟩:=bs h
 obtain ⟨an,am,a6,hH⟩:=HP.frz (k:=0) (a:=a2) (sz:=3) (frz:=false) Zau hH rfl
 replace hH:HP _ [.arr a2 3 true (List.map Zau a5)]:=hH
 refine rgS ⟨[(2,iv ae.1),(3,iv ae.2)],[],an⟩ (ZS.v 1 (ZhD (H:=aa) (ys:=[a2]) (by cases a3<;>kernel_rfl) (by cases a3<;>kernel_rfl) (Zfc a6 ZhP) (Zer N a5 ae ai)) ZS.f) kr ?_
 replace hH:HP _ []:=HP.pick hH [] rfl
 refine tq (rt ?_)
 cases h
 exact Zay kr
theorem Zes (N:Nat)(a0_:Zah)(a1_:Zah)(r:Bool×Int)(h:ZcA N a0_ a1_=some r):PCall Try.prog 37 [.agg (ZaU a0_),.agg (ZaU a1_)] (.tup [bv r.1,iv r.2]):=by
 unfold ZcA at h
 have hH  := hp0
 refine ZaG Zop rfl rfl (Zaf _ _ _ ?_) rfl
 refine sq (rg ZS.f (tq (sq (sq ?_))))
 obtain ⟨r1,hr1,h⟩:=bs h
 refine rg (ZS.v 1 (ZaE (hc:=ZbN N a0_ r1 hr1)) ZS.f) (tq (sq (rg ZS.f (tq (it h (λhc2 h=>?_) (λhc2 h=>?_))))))
 ·refine sq (rg ZS.f (tq (rt (tr ?_))))
  cases h
  exact Zay kr
 refine sk (tq (kq (sq (sq ?_))))
 obtain ⟨r3,hr3,h⟩:=bs h
 refine rg (ZS.v 1 (ZaE (hc:=ZbN N a1_ r3 hr3)) ZS.f) (tq (sq (rg ZS.f (tq (it h (λhc4 h=>?_) (λhc4 h=>?_))))))
 ·refine sq (rg ZS.f (tq (rt (tr ?_))))
  cases h
  exact Zay kr
 refine sk (tq (kq (sq ?_)))
 obtain ⟨r5,hr5,h⟩:=bs h
 refine rg (ZS.v 2 (ZaE (hc:=Zeq N a0_ a1_ r5 hr5)) ZS.f) (tq (rt ?_))
 cases h
 exact Zay kr
theorem ZdH (N:Nat)(a0_:ZT)(r:Int)(h:Zc2 N a0_=some r):PCall Try.prog 21 [.agg (ZR a0_)] (iv r):=by
 unfold Zc2 at h
 have hH  := hp0
 refine ZaG Zox rfl rfl (Zaf _ _ _ ?_) rfl
 refine sq (rg ZS.f (tq (sq (sq (rgX ⟨[(1,.loc 1 0),(19,bv ((decide (((List.length a0_.Periods:Nat):Int)>12))||(decide (((List.length a0_.Uses:Nat):Int)>192))))],[(1,(ZR a0_))],[]⟩ ?_ ?_)))))
 ·refine (EP.u 2 (Z7 (ys:=[Zad false a0_.Periods]) (h:=Zag eI64)) ?_)
  rcases Bool.eq_false_or_eq_true (decide (((List.length a0_.Periods:Nat):Int)>12)) with hc1|hc2
  ·exact (EP.u 0 (ZZ (c:=(decide (((List.length a0_.Periods:Nat):Int)>12))) (h:=hc1)) (EP.f (by simp only [hc1];kernel_rfl)))
  exact (EP.u 0 (ZZ (c:=(decide (((List.length a0_.Periods:Nat):Int)>12))) (h:=hc2)) (EP.u 3 (Z7 (ys:=[Zaa false a0_.Uses]) (h:=Zag Zbd)) (EP.f (by simp only [hc2];kernel_rfl))))
 refine tq (it h (λhc3 h=>?_) (λhc3 h=>?_))
 ·refine sq (rg ZS.f (tq (rt (tr ?_))))
  cases h
  exact Zay kr
 refine sk (tq (kq (sq (sq (rg (ZS.u 2 (Z7 (ys:=[Zad false a0_.Periods]) (h:=Zag eI64)) ZS.f) (tq (bk ?_)))))))
 obtain ⟨au,al,h⟩:=bs h
 refine Zbv ((Za7 (λ(x:Int) s=>s=⟨[(1,.loc 1 0),(21,Zad false a0_.Periods),(22,iv ((List.length a0_.Periods:Nat):Int)),(23,iv x)],[(1,(ZR a0_))],[]⟩) (λx:Int=>ZbY N a0_ x) (λ(p:(Unit)⊕(Int)) e s=>match p with|(.inl p)=>e=.exit 0/\(s=⟨[(1,.loc 1 0)],[(1,(ZR a0_))],[]⟩)|(.inr p)=>e=.ret/\∃ xs,resL s i21.res=some xs/\Zbm xs=iv p) ?_ N _ au _ al kr).mono ?_)
 ·clear h al
  rintro i4 o s h hR
  obtain rfl:=hR
  replace h:ZbY N a0_ i4=some o:=h
  unfold ZbY at h
  refine sq (rg ZS.f (tq (sq (it h (λay h=>?_) (λay h=>?_)))))
  ·refine sk (tq (kq (sq (bk (sq ?_)))))
   obtain ⟨a6,am,h⟩:=bs h
   refine rg (ZS.u 0 (Z7 (ys:=[Zad false a0_.Periods,iv i4]) (h:=Z5 eI64 am)) (ZS.u 0 (Zax (sz:=1) (off:=0) (cs:=[.int .i64 a6]) (r:=iv a6) eI64 am) ZS.f)) (tq (sq (rgX ⟨[(1,.loc 1 0),(21,Zad false a0_.Periods),(22,iv ((List.length a0_.Periods:Nat):Int)),(23,iv i4),(32,bv ((decide (a6<1))||(decide (a6>240))))],[(1,(ZR a0_))],[]⟩ ?_ ?_)))
   ·rcases Bool.eq_false_or_eq_true (decide (a6<1)) with ao|an
    ·exact (EP.u 1 (ZZ (c:=(decide (a6<1))) (h:=ao)) (EP.f (by simp only [ao];kernel_rfl)))
    exact (EP.u 1 (ZZ (c:=(decide (a6<1))) (h:=an)) (EP.f (by simp only [an];kernel_rfl)))
   refine tq (it h (λax h=>?_) (λax h=>?_))
   ·refine sq (rg ZS.f (tq (rt (br (tr ?_)))))
    cases h
    exact ⟨_,rfl,rfl,Zay kr⟩
   refine sk (bn (tq (kq (rg ZS.f ?_))))
   cases h
   exact ⟨_,rfl,kr⟩
  refine kq (xq (tx ?_))
  cases h
  exact ⟨_,rfl,rfl,kr⟩
 rintro e s hq
 rcases au with aD|aA
 ·dsimp only at h hq
  obtain ⟨rfl,hR⟩:=hq
  obtain rfl:=hR
  refine bx (tq (sq (sq ?_)))
  obtain ⟨az,av,h⟩:=bs h
  refine rg (ZS.v 2 (ZaE (hc:=ZfZ N a0_.Periods az av)) ZS.f) (tq (sq (rg ZS.f (tq (it h (λaw h=>?_) (λaw h=>?_))))))
  ·refine sq (rg ZS.f (tq (rt (tr ?_))))
   cases h
   exact Zay kr
  refine sk (tq (kq (sq (sq (rg (ZS.u 2 (Z7 (ys:=[Zaa false a0_.Uses]) (h:=Zag Zbd)) ZS.f) (tq (bk ?_)))))))
  obtain ⟨ak,a7,h⟩:=bs h
  refine Zbv ((Za7 (λ(x:Int) s=>s=⟨[(1,.loc 1 0),(43,Zaa false a0_.Uses),(44,iv ((List.length a0_.Uses:Nat):Int)),(45,iv x)],[(1,(ZR a0_))],[]⟩) (λx:Int=>ZbX N a0_ x) (λ(p:(Unit)⊕(Int)) e s=>match p with|(.inl p)=>e=.exit 2/\(s=⟨[],[],[]⟩)|(.inr p)=>e=.ret/\∃ xs,resL s i21.res=some xs/\Zbm xs=iv p) ?_ N _ ak _ a7 kr).mono ?_)
  ·clear h a7
   rintro aj o s h hR
   obtain rfl:=hR
   replace h:ZbX N a0_ aj=some o:=h
   unfold ZbX at h
   refine sq (rg ZS.f (tq (sq (it h (λar h=>?_) (λar h=>?_)))))
   ·refine sk (tq (kq (sq (bk (sq ?_)))))
    obtain ⟨a0,a9,h⟩:=bs h
    refine rg (ZS.u 0 (Z7 (ys:=[Zaa false a0_.Uses,iv aj]) (h:=Z5 Zbd a9)) (ZS.u 0 (Zax (sz:=4) (off:=0) (cs:=[.int .i64 a0.Stream,.int .i64 a0.Port,.int .i64 a0.From,.int .i64 a0.Long]) (r:=.agg (Zan a0)) Zbd a9) ZS.f)) (tq (sq (sq (rgX ⟨[(1,.loc 1 0),(8,.loc 8 0),(43,Zaa false a0_.Uses),(44,iv ((List.length a0_.Uses:Nat):Int)),(45,iv aj),(69,bv ((decide (a0.Stream<0))||((decide (a0.Stream≥((List.length a0_.Periods:Nat):Int)))||((decide (a0.Port<0))||(decide (a0.Port≥48))))))],[(1,(ZR a0_)),(8,(Zan a0))],[]⟩ ?_ ?_))))
    ·rcases Bool.eq_false_or_eq_true (decide (a0.Stream<0)) with ai|a3
     ·exact (EP.u 2 (ZZ (c:=(decide (a0.Stream<0))) (h:=ai)) (EP.f (by simp only [ai];kernel_rfl)))
     refine (EP.u 2 (ZZ (c:=(decide (a0.Stream<0))) (h:=a3)) (EP.u 5 (Z7 (ys:=[Zad false a0_.Periods]) (h:=Zag eI64)) ?_))
     rcases Bool.eq_false_or_eq_true (decide (a0.Stream≥((List.length a0_.Periods:Nat):Int))) with ag|a5
     ·exact (EP.u 0 (ZZ (c:=(decide (a0.Stream≥((List.length a0_.Periods:Nat):Int)))) (h:=ag)) (EP.f (by simp only [a3,ag];kernel_rfl)))
     refine (EP.u 0 (ZZ (c:=(decide (a0.Stream≥((List.length a0_.Periods:Nat):Int)))) (h:=a5)) ?_)
     rcases Bool.eq_false_or_eq_true (decide (a0.Port<0)) with af|ae
     ·exact (EP.u 4 (ZZ (c:=(decide (a0.Port<0))) (h:=af)) (EP.f (by simp only [a3,a5,af];kernel_rfl)))
     exact (EP.u 4 (ZZ (c:=(decide (a0.Port<0))) (h:=ae)) (EP.f (by simp only [a3,a5,ae];kernel_rfl)))
    refine tq (it h (λaq h=>?_) (λaq h=>?_))
    ·refine sq (rg ZS.f (tq (rt (tr (br (tr ?_))))))
     cases h
     exact ⟨_,rfl,rfl,Zay kr⟩
    refine sk (tq (kq (sq ?_)))
    obtain ⟨a1,a8,h⟩:=bs h
    refine rg (ZS.u 4 (Z7 (ys:=[Zad false a0_.Periods,iv a0.Stream]) (h:=Z5 eI64 a8)) (ZS.u 0 (Zax (sz:=1) (off:=0) (cs:=[.int .i64 a1]) (r:=iv a1) eI64 a8) ZS.f)) (tq (sq (rgX ⟨[(1,.loc 1 0),(43,Zaa false a0_.Uses),(44,iv ((List.length a0_.Uses:Nat):Int)),(45,iv aj),(95,bv ((decide (a0.From<0))||((decide (a0.From≥a1))||((decide (a0.Long<1))||(decide (a0.Long>a1))))))],[(1,(ZR a0_))],[]⟩ ?_ ?_)))
    ·rcases Bool.eq_false_or_eq_true (decide (a0.From<0)) with ad|a2
     ·exact (EP.u 2 (ZZ (c:=(decide (a0.From<0))) (h:=ad)) (EP.f (by simp only [ad];kernel_rfl)))
     refine (EP.u 2 (ZZ (c:=(decide (a0.From<0))) (h:=a2)) ?_)
     rcases Bool.eq_false_or_eq_true (decide (a0.From≥a1)) with ac|a4
     ·exact (EP.u 4 (ZZ (c:=(decide (a0.From≥a1))) (h:=ac)) (EP.f (by simp only [a2,ac];kernel_rfl)))
     refine (EP.u 4 (ZZ (c:=(decide (a0.From≥a1))) (h:=a4)) ?_)
     rcases Bool.eq_false_or_eq_true (decide (a0.Long<1)) with ab|aa
     ·exact (EP.u 4 (ZZ (c:=(decide (a0.Long<1))) (h:=ab)) (EP.f (by simp only [a2,a4,ab];kernel_rfl)))
     exact (EP.u 4 (ZZ (c:=(decide (a0.Long<1))) (h:=aa)) (EP.f (by simp only [a2,a4,aa];kernel_rfl)))
    refine tq (it h (λap h=>?_) (λap h=>?_))
    ·refine sq (rg ZS.f (tq (rt (br (tr ?_)))))
     cases h
     exact ⟨_,rfl,rfl,Zay kr⟩
    refine sk (bn (tq (kq (rg ZS.f ?_))))
    cases h
    exact ⟨_,rfl,kr⟩
   refine kq (xq (tx ?_))
   cases h
   exact ⟨_,rfl,rfl,kr⟩
  rintro e s hq
  rcases ak with aC|aB
  ·dsimp only at h hq
   obtain ⟨rfl,hR⟩:=hq
   obtain rfl:=hR
   refine bx (tq (sq (rg ZS.f (tq (rt ?_)))))
   cases h
   exact Zay kr
  dsimp only at h hq
  obtain ⟨rfl,hq⟩:=hq
  refine br (tr ?_)
  cases h
  exact hq
 dsimp only at h hq
 obtain ⟨rfl,hq⟩:=hq
 refine br (tr ?_)
 cases h
 exact hq
theorem Zet (N:Nat)(a0_:ZT)(a1_:Int)(a2_:Int)(a3_:Int)(a4_:Int)(r:Bool)(h:ZcC N a0_ a1_ a2_ a3_ a4_=some r):PCall Try.prog 27 [.agg (ZR a0_),iv a1_,iv a2_,iv a3_,iv a4_] (bv r):=by
 unfold ZcC at h
 have hH  := hp0
 refine ZaG Zou rfl rfl (Zaf _ _ _ ?_) rfl
 refine sq ?_
 obtain ⟨id1,H2,hid1,hH2,hH⟩:=HP.newCell hH (ZR a0_)
 replace hH:HP _ [.cel id1 (ZR a0_)]:=hH
 obtain ⟨id3,H4,hid3,hH4,hH⟩:=HP.newCell hH [iv a2_]
 replace hH:HP _ [.cel id3 [iv a2_],.cel id1 (ZR a0_)]:=hH
 obtain ⟨id5,H6,hid5,hH6,hH⟩:=HP.newCell hH [iv a4_]
 replace hH:HP _ [.cel id5 [iv a4_],.cel id3 [iv a2_],.cel id1 (ZR a0_)]:=hH
 obtain ⟨id7,H8,hid7,hH8,hH⟩:=HP.newCell hH [bv false]
 replace hH:HP _ [.cel id7 [bv false],.cel id5 [iv a4_],.cel id3 [iv a2_],.cel id1 (ZR a0_)]:=hH
 refine rgS ⟨[(1,iv a1_),(3,iv a3_),(5,.ptr id1 0),(7,.ptr id3 0),(9,.ptr id5 0),(10,.ptr id7 0)],[],H8⟩ (ZS.h 0 (Zdo (H:=[]) (v:=.agg (ZR a0_)) (hid:=hid1) (hH:=hH2)) (ZS.h 0 (Zdo (H:=H2) (v:=iv a2_) (hid:=hid3) (hH:=hH4)) (ZS.h 0 (Zdo (H:=H4) (v:=iv a4_) (hid:=hid5) (hH:=hH6)) (ZS.h 0 (ZjX (H:=H6) kr hid7 hH8) ZS.f)))) kr (tq (sq (sq ?_)))
 have hlc9:=HP.get hH 3 rfl
 obtain ⟨a8,aA,h⟩:=bs h
 obtain ⟨a7,a6,a5,a4,ak,ao⟩:=ZfY N a0_ a1_ a3_ H8 a8 aA
 replace hH:HP _ [.cel a7 (ZR a8.1),.cel a6 [iv a8.2.1],.cel a5 [iv a8.2.2],.cel id7 [bv false],.cel id5 [iv a4_],.cel id3 [iv a2_],.cel id1 (ZR a0_)]:=HP.callee (fp:=[]) (rest:=[.cel id7 [bv false],.cel id5 [iv a4_],.cel id3 [iv a2_],.cel id1 (ZR a0_)]) hH ao
 refine rgS ⟨[(5,.ptr id1 0),(7,.ptr id3 0),(9,.ptr id5 0),(10,.ptr id7 0),(18,.fn 47 [] [.ptr a7 0,.ptr a6 0,.ptr a5 0])],[],a4⟩ (ZS.u 0 (Zav (H:=H8) (id:=id1) (off:=0) (cs:=(ZR a0_)) (c:=(ZR a0_)) (r:=.agg (ZR a0_)) (hl:=hlc9)) (ZS.v 2 (Zca (H:=H8) (ys:=[.agg (ZR a0_),iv a1_,iv a3_]) kr kr kr ak) ZS.f)) kr (tq (bk ?_))
 obtain ⟨a0,ap,h⟩:=bs h
 have ab:∀ (a3:Z2) (a2:Z2) (s:(Bool)×Nat) (r:((Bool)×Nat)×Bool) (H:List HO) (its:List Zaw),(λ(s:(Bool)×Nat) (its:List Zaw)=>its=[.cel id7 [bv s.1],.cel id5 [iv a4_],.cel id3 [iv a2_],.cel id1 (ZR a0_)]++[.lp (List.length a4) (lcOf Try.prog i27.nt [19,20] Zcd Zcc) [(5,.ptr id1 0),(7,.ptr id3 0),(9,.ptr id5 0),(10,.ptr id7 0)] (stAt [.ready,.done .ret] s.2)]) s its->HP H its->(λ(s:(Bool)×Nat) (a3:Z2) (a2:Z2)=>Zgj (λv:Bool=>Za2 N a0_ a2_ a4_ v a3 a2) s) s a3 a2=some r->∃ H' its',Zhp Try.prog (List.length a4) [.agg (Zan a3),.agg (Zan a2)] H r.2 H'/\(λ(s:(Bool)×Nat) (its:List Zaw)=>its=[.cel id7 [bv s.1],.cel id5 [iv a4_],.cel id3 [iv a2_],.cel id1 (ZR a0_)]++[.lp (List.length a4) (lcOf Try.prog i27.nt [19,20] Zcd Zcc) [(5,.ptr id1 0),(7,.ptr id3 0),(9,.ptr id5 0),(10,.ptr id7 0)] (stAt [.ready,.done .ret] s.2)]) r.1 its'/\Fp H H' its its':=by
  clear h
  intro a3 a2 s r ag its hT hH h
  obtain ⟨h0,q,hb,rfl⟩:=Zg1 h
  clear h
  obtain ⟨vs,e⟩:=s
  obtain rfl:e=0:=h0
  obtain ⟨b18,rfl⟩:∃ v,v=vs:=⟨vs,rfl⟩
  obtain rfl:=hT
  replace h:Za2 N a0_ a2_ a4_ b18 a3 a2=some q:=hb
  clear hb
  unfold Za2 at h
  replace hH:Fp _ _ _ [.cel id7 [bv b18],.cel id5 [iv a4_],.cel id3 [iv a2_],.cel id1 (ZR a0_),.lp (List.length a4) (lcOf Try.prog i27.nt [19,20] Zcd Zcc) [(5,.ptr id1 0),(7,.ptr id3 0),(9,.ptr id5 0),(10,.ptr id7 0)] .ready]:=Fp.refl hH
  suffices hs:∃ H',Zhp Try.prog (List.length a4) [.agg (Zan a3),.agg (Zan a2)] ag (q.2==0) H'/\∃ its',(λ(s:(Bool)×Nat) (its:List Zaw)=>its=[.cel id7 [bv s.1],.cel id5 [iv a4_],.cel id3 [iv a2_],.cel id1 (ZR a0_)]++[.lp (List.length a4) (lcOf Try.prog i27.nt [19,20] Zcd Zcc) [(5,.ptr id1 0),(7,.ptr id3 0),(9,.ptr id5 0),(10,.ptr id7 0)] (stAt [.ready,.done .ret] s.2)]) q its'/\Fp ag H' [.cel id7 [bv b18],.cel id5 [iv a4_],.cel id3 [iv a2_],.cel id1 (ZR a0_),.lp (List.length a4) (lcOf Try.prog i27.nt [19,20] Zcd Zcc) [(5,.ptr id1 0),(7,.ptr id3 0),(9,.ptr id5 0),(10,.ptr id7 0)] .ready] its' by
   obtain ⟨H',h1,its',h2,h3⟩:=hs
   exact ⟨H',its',h1,h2,h3⟩
  refine Ziv (id:=(List.length a4)) (args:=[.agg (Zan a3),.agg (Zan a2)]) (H:=ag) (n:=i27.nt) (ps:=[19,20]) (fr0:=[(5,.ptr id1 0),(7,.ptr id3 0),(9,.ptr id5 0),(10,.ptr id7 0)]) (ia:=Zcd) (ib:=Zcc) (q.2==0) (λH'=>∃ its',(λ(s:(Bool)×Nat) (its:List Zaw)=>its=[.cel id7 [bv s.1],.cel id5 [iv a4_],.cel id3 [iv a2_],.cel id1 (ZR a0_)]++[.lp (List.length a4) (lcOf Try.prog i27.nt [19,20] Zcd Zcc) [(5,.ptr id1 0),(7,.ptr id3 0),(9,.ptr id5 0),(10,.ptr id7 0)] (stAt [.ready,.done .ret] s.2)]) q its'/\Fp ag H' [.cel id7 [bv b18],.cel id5 [iv a4_],.cel id3 [iv a2_],.cel id1 (ZR a0_),.lp (List.length a4) (lcOf Try.prog i27.nt [19,20] Zcd Zcc) [(5,.ptr id1 0),(7,.ptr id3 0),(9,.ptr id5 0),(10,.ptr id7 0)] .ready] its') (Fp.get hH 4 rfl) rfl (by decide +kernel) rfl ?_
  show vc _ _ _ _ ⟨[(5,.ptr id1 0),(7,.ptr id3 0),(9,.ptr id5 0),(10,.ptr id7 0),(19,.agg (Zan a3)),(20,.agg (Zan a2))],[],ag⟩
  refine sq (rgS ⟨[(5,.ptr id1 0),(7,.ptr id3 0),(9,.ptr id5 0),(10,.ptr id7 0),(11,.loc 11 0),(20,.agg (Zan a2))],[(11,(Zan a3))],ag⟩ ZS.f kr (tq (rgS ⟨[(5,.ptr id1 0),(7,.ptr id3 0),(9,.ptr id5 0),(10,.ptr id7 0),(11,.loc 11 0),(12,.loc 12 0)],[(11,(Zan a3)),(12,(Zan a2))],ag⟩ ZS.f kr (Zj9 (k:=4) hH rfl ?_))))
  intro a1 hH
  replace hH:Fp _ _ _ [.cel id7 [bv b18],.cel id5 [iv a4_],.cel id3 [iv a2_],.cel id1 (ZR a0_),.lp (List.length a4) (lcOf Try.prog i27.nt [19,20] Zcd Zcc) [(5,.ptr id1 0),(7,.ptr id3 0),(9,.ptr id5 0),(10,.ptr id7 0)] .busy]:=hH
  show vc _ _ _ _ ⟨[(5,.ptr id1 0),(7,.ptr id3 0),(9,.ptr id5 0),(10,.ptr id7 0),(11,.loc 11 0),(12,.loc 12 0)],[(11,(Zan a3)),(12,(Zan a2))],a1⟩
  refine bk (sq (sq (rgS ⟨[(5,.ptr id1 0),(7,.ptr id3 0),(9,.ptr id5 0),(10,.ptr id7 0),(11,.loc 11 0),(12,.loc 12 0),(23,bv ((a3.Stream==a2.Stream)&&((a3.Port==a2.Port)&&((a3.From==a2.From)&&((a3.Long==a2.Long)&&true)))))],[(11,(Zan a3)),(12,(Zan a2))],a1⟩ ZS.f kr (tq (it h (λav h=>?_) (λav h=>?_))))))
  ·refine sq ?_
   obtain ⟨aC,ay,hH⟩:=Fp.setCell (k:=0) (off:=0) (cs:=[bv b18]) (vs:=[bv true]) (cs':=[bv true]) hH rfl kr
   replace hH:Fp _ _ _ [.cel id7 [bv true],.cel id5 [iv a4_],.cel id3 [iv a2_],.cel id1 (ZR a0_),.lp (List.length a4) (lcOf Try.prog i27.nt [19,20] Zcd Zcc) [(5,.ptr id1 0),(7,.ptr id3 0),(9,.ptr id5 0),(10,.ptr id7 0)] .busy]:=hH
   refine rgS ⟨[],[],aC⟩ (ZS.o 0 (Zck (H:=a1) (v:=bv true) (hw:=ay)) ZS.f) kr (tq (rt (tr (br ?_))))
   cases h
   exact rbd (k:=4) (.done .ret) hH rfl rfl (λH6 hH=>⟨_,(Eq.refl _),(Fp.pick hH [0,1,2,3,4] rfl)⟩)
  refine sk (tq (kq (sq ?_)))
  have af:=Fp.get hH 3 rfl
  have ae:=Fp.get hH 2 rfl
  obtain ⟨aj,an,h⟩:=bs h
  have ad:=Fp.get hH 3 rfl
  have ac:=Fp.get hH 1 rfl
  obtain ⟨ai,am,h⟩:=bs h
  obtain ⟨aa,al,h⟩:=bs h
  refine rqS ⟨[(10,.ptr id7 0),(13,bv aa.1)],[],a1⟩ (ZS.u 0 (Za6 (Zav (H:=a1) (id:=id1) (off:=0) (cs:=(ZR a0_)) (c:=(ZR a0_)) (r:=.agg (ZR a0_)) (hl:=af))) (ZS.u 1 (Za6 (Zav (H:=a1) (id:=id3) (off:=0) (cs:=[iv a2_]) (c:=[iv a2_]) (r:=iv a2_) (hl:=ae))) (ZS.u 0 (Zjt (hc:=ZcH N a0_ a3 a2_ aj an)) (ZS.u 0 (Za6 (Zav (H:=a1) (id:=id1) (off:=0) (cs:=(ZR a0_)) (c:=(ZR a0_)) (r:=.agg (ZR a0_)) (hl:=ad))) (ZS.u 1 (Za6 (Zav (H:=a1) (id:=id5) (off:=0) (cs:=[iv a4_]) (c:=[iv a4_]) (r:=iv a4_) (hl:=ac))) (ZS.v 0 (ZaE (hc:=ZcH N a0_ a2 a4_ ai am)) (ZS.v 0 (ZaE (hc:=Zes N aj ai aa al)) ZS.f))))))) kr (tq (sq (rgS ⟨[(10,.ptr id7 0),(37,bv (!aa.1))],[],a1⟩ ZS.f kr (tq (it h (λau h=>?_) (λau h=>?_))))))
  ·refine sq ?_
   obtain ⟨aB,ax,hH⟩:=Fp.setCell (k:=0) (off:=0) (cs:=[bv b18]) (vs:=[bv true]) (cs':=[bv true]) hH rfl kr
   replace hH:Fp _ _ _ [.cel id7 [bv true],.cel id5 [iv a4_],.cel id3 [iv a2_],.cel id1 (ZR a0_),.lp (List.length a4) (lcOf Try.prog i27.nt [19,20] Zcd Zcc) [(5,.ptr id1 0),(7,.ptr id3 0),(9,.ptr id5 0),(10,.ptr id7 0)] .busy]:=hH
   refine rgS ⟨[],[],aB⟩ (ZS.o 0 (Zck (H:=a1) (v:=bv true) (hw:=ax)) ZS.f) kr (tq (rt (br ?_)))
   cases h
   exact rbd (k:=4) (.done .ret) hH rfl rfl (λH6 hH=>⟨_,(Eq.refl _),(Fp.pick hH [0,1,2,3,4] rfl)⟩)
  refine sk (bn ?_)
  cases h
  exact rbd (k:=4) (.ready) hH rfl rfl (λH6 hH=>⟨_,(Eq.refl _),(Fp.pick hH [0,1,2,3,4] rfl)⟩)
 refine Zjn (s:=⟨[(5,.ptr id1 0),(7,.ptr id3 0),(9,.ptr id5 0),(10,.ptr id7 0),(18,.fn 47 [] [.ptr a7 0,.ptr a6 0,.ptr a5 0])],[],a4⟩) [(5,.ptr id1 0),(7,.ptr id3 0),(9,.ptr id5 0),(10,.ptr id7 0)] (FrOK.cons kr kr (FrOK.cons kr kr (FrOK.cons kr kr (FrOK.cons kr kr FrOK.nil)))) kr (λH=>rfl) (capT:=[.cel a7 (ZR a8.1),.cel a6 [iv a8.2.1],.cel a5 [iv a8.2.2]]) (cells0:=[.cel id7 [bv false],.cel id5 [iv a4_],.cel id3 [iv a2_],.cel id1 (ZR a0_)]) (rest:=[]) (HP.now (HP.pick hH [0,1,2,3,4,5,6] rfl)) (λ(s:(Bool)×Nat) (its:List Zaw)=>its=[.cel id7 [bv s.1],.cel id5 [iv a4_],.cel id3 [iv a2_],.cel id1 (ZR a0_)]++[.lp (List.length a4) (lcOf Try.prog i27.nt [19,20] Zcd Zcc) [(5,.ptr id1 0),(7,.ptr id3 0),(9,.ptr id5 0),(10,.ptr id7 0)] (stAt [.ready,.done .ret] s.2)]) (false,0) a0 (by exact (Eq.refl _)) (λH its hT hH=>Ze0 N (λ(s:(Bool)×Nat) (a3:Z2) (a2:Z2)=>Zgj (λv:Bool=>Za2 N a0_ a2_ a4_ v a3 a2) s) a8.1 a8.2.1 a8.2.2 (false,0) a7 a6 a5 (List.length a4) (λ(s:(Bool)×Nat) (its:List Zaw)=>its=[.cel id7 [bv s.1],.cel id5 [iv a4_],.cel id3 [iv a2_],.cel id1 (ZR a0_)]++[.lp (List.length a4) (lcOf Try.prog i27.nt [19,20] Zcd Zcc) [(5,.ptr id1 0),(7,.ptr id3 0),(9,.ptr id5 0),(10,.ptr id7 0)] (stAt [.ready,.done .ret] s.2)]) ab H its hT hH a0 ap) ?_
 rintro its hT
 obtain rfl:=hT
 refine ⟨_,_,rfl,?_⟩
 intro a9 hF
 replace hH:HP _ [.cel a7 (ZR a8.1),.cel a6 [iv a8.2.1],.cel a5 [iv a8.2.2],.cel id7 [bv a0.1],.cel id5 [iv a4_],.cel id3 [iv a2_],.cel id1 (ZR a0_)]:=HP.after (HP.pick hH [0,1,2,3,4,5,6] rfl) hF
 rcases Zak h with ⟨ar,h⟩|⟨_,h⟩
 ·refine ZiS (S:=⟨[(5,.ptr id1 0),(7,.ptr id3 0),(9,.ptr id5 0),(10,.ptr id7 0),(18,.fn 47 [] [.ptr a7 0,.ptr a6 0,.ptr a5 0])],[],a9⟩) (e:=.normal) ar rfl (bn (tq (kq ?_)))
  replace hH:HP _ [.cel id7 [bv a0.1]]:=HP.pick hH [3] rfl
  refine sq ?_
  obtain ⟨az,aw,hH⟩:=HP.setCell (k:=0) (off:=0) (cs:=[bv a0.1]) (vs:=[bv false]) (cs':=[bv false]) hH rfl kr
  replace hH:HP _ [.cel id7 [bv false]]:=hH
  refine rgS ⟨[(10,.ptr id7 0)],[],az⟩ (ZS.o 0 (Zck (H:=a9) (v:=bv false) (hw:=aw)) ZS.f) kr (tq (rt ?_))
  obtain rfl:=Z4 h
  exact ZiP (H:=az) (ys:=[bv false]) (xs:=[bv false]) kr (ZhK (r:=.cell 10 1 false) (v:=bv false) (ZhJ (id:=id7) (off:=0) (cs:=[bv false]) (c:=[bv false]) kr (HP.get hH 0 rfl) kr kr) ZhL) (ZeX rfl Zfv) kr
 rcases Zak h with ⟨aq,h⟩|⟨_,h⟩
 ·refine ZiS (S:=⟨[(5,.ptr id1 0),(7,.ptr id3 0),(9,.ptr id5 0),(10,.ptr id7 0),(18,.fn 47 [] [.ptr a7 0,.ptr a6 0,.ptr a5 0])],[],a9⟩) (e:=.ret) aq rfl (br (tr ?_))
  obtain rfl:=Z4 h
  exact ZiP (H:=a9) (ys:=[bv a0.1]) (xs:=[bv a0.1]) kr (ZhK (r:=.cell 10 1 false) (v:=bv a0.1) (ZhJ (id:=id7) (off:=0) (cs:=[bv a0.1]) (c:=[bv a0.1]) kr (HP.get hH 3 rfl) kr kr) ZhL) (ZeX rfl Zfv) kr
 cases h
theorem Zeu (N:Nat)(a0_:ZT)(a1_:Int)(a2_:Int)(a3_:Int)(a4_:Int)(r:Bool×Int)(h:ZcD N a0_ a1_ a2_ a3_ a4_=some r):PCall Try.prog 53 [.agg (ZR a0_),iv a1_,iv a2_,iv a3_,iv a4_] (.tup [bv r.1,iv r.2]):=by
 unfold ZcD at h
 have hH  := hp0
 refine ZaG Zoi rfl rfl (Zaf _ _ _ ?_) rfl
 refine sq (rg ZS.f (tq (sq (sq ?_))))
 obtain ⟨r1,hr1,h⟩:=bs h
 refine rg (ZS.v 1 (ZaE (hc:=ZdH N a0_ r1 hr1)) ZS.f) (tq (sq (rg ZS.f (tq (it h (λhc2 h=>?_) (λhc2 h=>?_))))))
 ·refine sq (rg ZS.f (tq (rt (tr ?_))))
  cases h
  exact Zay kr
 refine sk (tq (kq (sq (sq (rgX ⟨[(1,iv a1_),(2,iv a2_),(3,iv a3_),(4,iv a4_),(5,.loc 5 0),(37,bv ((decide (a1_<0))||((decide (a1_≥((List.length a0_.Periods:Nat):Int)))||((decide (a3_<0))||(decide (a3_≥((List.length a0_.Periods:Nat):Int)))))))],[(5,(ZR a0_))],[]⟩ ?_ ?_)))))
 ·rcases Bool.eq_false_or_eq_true (decide (a1_<0)) with hc3|hc4
  ·exact (EP.u 1 (ZZ (c:=(decide (a1_<0))) (h:=hc3)) (EP.f (by simp only [hc3];kernel_rfl)))
  refine (EP.u 1 (ZZ (c:=(decide (a1_<0))) (h:=hc4)) (EP.u 4 (Z7 (ys:=[Zad false a0_.Periods]) (h:=Zag eI64)) ?_))
  rcases Bool.eq_false_or_eq_true (decide (a1_≥((List.length a0_.Periods:Nat):Int))) with hc5|hc6
  ·exact (EP.u 0 (ZZ (c:=(decide (a1_≥((List.length a0_.Periods:Nat):Int)))) (h:=hc5)) (EP.f (by simp only [hc4,hc5];kernel_rfl)))
  refine (EP.u 0 (ZZ (c:=(decide (a1_≥((List.length a0_.Periods:Nat):Int)))) (h:=hc6)) ?_)
  rcases Bool.eq_false_or_eq_true (decide (a3_<0)) with hc7|hc8
  ·exact (EP.u 3 (ZZ (c:=(decide (a3_<0))) (h:=hc7)) (EP.f (by simp only [hc4,hc6,hc7];kernel_rfl)))
  exact (EP.u 3 (ZZ (c:=(decide (a3_<0))) (h:=hc8)) (EP.u 5 (Z7 (ys:=[Zad false a0_.Periods]) (h:=Zag eI64)) (EP.f (by simp only [hc4,hc6,hc8];kernel_rfl))))
 refine tq (it h (λhc9 h=>?_) (λhc9 h=>?_))
 ·refine sq (rg ZS.f (tq (rt (tr ?_))))
  cases h
  exact Zay kr
 refine sk (tq (kq (sq (sq ?_))))
 obtain ⟨ad,hj,h⟩:=bs h
 refine rgR (λs=>s=⟨[(1,iv a1_),(2,iv a2_),(3,iv a3_),(4,iv a4_),(5,.loc 5 0),(59,bv ad)],[(5,(ZR a0_))],[]⟩) ?_ ?_
 ·clear h
  obtain ⟨a1,a4,hj⟩:=bs hj
  refine (EP.v 3 (ZaE (hc:=Zdj N a0_ a1_ a2_ a1 a4)) ?_)
  rcases Zak hj with ⟨ab,hj⟩|⟨aa,hj⟩
  ·obtain rfl:=Z4 hj
   exact (EP.u 0 (ZZ (c:=(!a1)) (h:=ab)) (EP.f kr))
  refine (EP.u 0 (ZZ (c:=(!a1)) (h:=aa)) ?_)
  obtain ⟨a0,a3,hj⟩:=bs hj
  refine (EP.v 4 (ZaE (hc:=Zdj N a0_ a3_ a4_ a0 a3)) ?_)
  rcases Zak hj with ⟨a9,hj⟩|⟨a8,hj⟩
  ·obtain rfl:=Z4 hj
   exact (EP.u 0 (ZZ (c:=(!a0)) (h:=a9)) (EP.f kr))
  refine (EP.u 0 (ZZ (c:=(!a0)) (h:=a8)) ?_)
  rcases Zak hj with ⟨a7,hj⟩|⟨a6,hj⟩
  ·obtain rfl:=Z4 hj
   exact (EP.u 4 (ZZ (c:=(a1_==a3_)) (h:=a7)) (EP.f kr))
  obtain rfl:=Z4 hj
  exact (EP.u 4 (ZZ (c:=(a1_==a3_)) (h:=a6)) (EP.f kr))
 clear hj
 rintro s hR
 obtain rfl:=hR
 refine tq (it h (λa5 h=>?_) (λa5 h=>?_))
 ·refine sq (rg ZS.f (tq (rt (tr ?_))))
  cases h
  exact Zay kr
 refine sk (tq (kq (sq ?_)))
 obtain ⟨ac,a2,h⟩:=bs h
 refine rg (ZS.v 5 (ZaE (hc:=Zet N a0_ a1_ a2_ a3_ a4_ ac a2)) ZS.f) (tq (rt ?_))
 cases h
 exact Zay kr
end Go.Sh

