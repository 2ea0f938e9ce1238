/- Part of the proof. -/
import Derived.Test.YthipedbbcjemhaaGreatPlanMakesSh
import Derived.Test.YthipedbbcjemhaaGreatPlanMakesChk
set_option linter.all false
namespace Go.Sh
open Go Go.Eng Go.Proofs
set_option maxRecDepth 100000
set_option maxHeartbeats 4000000
attribute [local irreducible] vc ev ZfZ opsD opsF ZiV upd updH updO
theorem ZlR (N:Nat)(a0_:Int)(a1_:Int)(a2_:Int)(r:ZaE)(h:Zgh N a0_ a1_ a2_=some r):Zba Tryz.prog 7 [.p (.int .u8 a0_),.p (.int .u8 a1_),.p (.int .u8 a2_)] (.agg [iv r.Grid,iv r.Slack,iv r.Proc,iv r.Cap]):=by
 unfold Zgh at h
 have hH  := hp0
 refine ZaG chk7 rfl rfl (Zay _ _ _ ?_) rfl
 refine sq (rg Zab.f (tq (sq (rg Zab.f (tq (rt ?_))))))
 cases h
 exact ZaA kr
theorem ZcQ (N:Nat)(a0_:Zaw)(a1_:Zaw)(r:Bool)(h:ZcF N a0_ a1_=some r):Zba Tryz.prog 10 [.agg (Zaj a0_),.agg (Zaj a1_)] (bv r):=by
 unfold ZcF at h
 have hH  := hp0
 refine ZaG ZLR rfl rfl (Zay _ _ _ ?_) rfl
 refine sq (rg Zab.f (tq (sq (sq (rgX ⟨[(2,.loc 2 0),(3,.loc 3 0),(22,bv ((((List.length a0_.Periods:Nat):Int)!=((List.length a1_.Periods:Nat):Int))||(((List.length a0_.Uses:Nat):Int)!=((List.length a1_.Uses:Nat):Int))))],[(2,(Zaj a0_)),(3,(Zaj a1_))],[]⟩ ?_ ?_)))))
 ·refine (EP.u 2 (Zan (ys:=[Zad false a0_.Periods]) (h:=Zax eI64)) (EP.u 2 (Zan (ys:=[Zad false a1_.Periods]) (h:=Zax eI64)) ?_))
  rcases Bool.eq_false_or_eq_true (((List.length a0_.Periods:Nat):Int)!=((List.length a1_.Periods:Nat):Int)) with hc1|hc2
  ·exact (EP.u 0 (Zam (c:=(((List.length a0_.Periods:Nat):Int)!=((List.length a1_.Periods:Nat):Int))) (h:=hc1)) (EP.f (by simp only [hc1];kernel_rfl)))
  exact (EP.u 0 (Zam (c:=(((List.length a0_.Periods:Nat):Int)!=((List.length a1_.Periods:Nat):Int))) (h:=hc2)) (EP.u 3 (Zan (ys:=[Zas false a0_.Uses]) (h:=Zax Zap)) (EP.u 2 (Zan (ys:=[Zas false a1_.Uses]) (h:=Zax Zap)) (EP.f (by simp only [hc2];kernel_rfl)))))
 refine tq (it h (λhc3 h=>?_) (λhc3 h=>?_))
 ·refine sq (rg Zab.f (tq (rt (tr ?_))))
  cases h
  exact ZaA kr
 refine sk (tq (kq (sq (sq (rg Zab.f (tq (bk ?_)))))))
 obtain ⟨ac,a6,h⟩:=bs h
 refine ZaT ((ZaI (λ(x:Int) s=>s=⟨[(2,.loc 2 0),(3,.loc 3 0),(5,iv x)],[(2,(Zaj a0_)),(3,(Zaj a1_))],[]⟩) (λx:Int=>Zes N a0_ a1_ x) (λ(p:(Unit)⊕(Bool)) e s=>match p with|(.inl p)=>e=.exit 0/\(s=⟨[(2,.loc 2 0),(3,.loc 3 0)],[(2,(Zaj a0_)),(3,(Zaj a1_))],[]⟩)|(.inr p)=>e=.ret/\∃ xs,resL s i10.res=some xs/\ZbV xs=bv p) ?_ N _ ac _ a6 kr).mono ?_)
 ·clear h a6
  rintro i4 o s h hR
  obtain rfl:=hR
  replace h:Zes N a0_ a1_ i4=some o:=h
  unfold Zes at h
  refine sq (sq (rg (Zab.u 3 (Zan (ys:=[Zad false a0_.Periods]) (h:=Zax eI64)) Zab.f) (tq (it h (λae h=>?_) (λae h=>?_)))))
  ·refine sk (tq (kq (sq (bk (sq ?_)))))
   obtain ⟨ag,a8,h⟩:=bs h
   obtain ⟨af,a7,h⟩:=bs h
   refine rq (Zab.u 3 (Zan (ys:=[Zad false a0_.Periods,iv i4]) (h:=Zal eI64 a8)) (Zab.u 0 (ZaK (Zav (sz:=1) (off:=0) (cs:=[.int .i64 ag]) (r:=iv ag) eI64 a8)) (Zab.u 3 (Zan (ys:=[Zad false a1_.Periods,iv i4]) (h:=Zal eI64 a7)) (Zab.u 0 (ZaK (Zav (sz:=1) (off:=0) (cs:=[.int .i64 af]) (r:=iv af) eI64 a7)) Zab.f)))) (tq (it h (λad h=>?_) (λad h=>?_)))
   ·refine sq (rg Zab.f (tq (rt (br (tr ?_)))))
    cases h
    exact ⟨_,rfl,rfl,ZaA kr⟩
   refine sk (bn (tq (kq (rg Zab.f ?_))))
   cases h
   exact ⟨_,rfl,kr⟩
  refine kq (xq (tx ?_))
  cases h
  exact ⟨_,rfl,rfl,kr⟩
 rintro e s hq
 rcases ac with al|ai
 ·dsimp only at h hq
  obtain ⟨rfl,hR⟩:=hq
  obtain rfl:=hR
  refine bx (tq (sq (sq (rg Zab.f (tq (bk ?_))))))
  obtain ⟨a5,a2,h⟩:=bs h
  refine ZaT ((ZaI (λ(x:Int) s=>s=⟨[(2,.loc 2 0),(3,.loc 3 0),(6,iv x)],[(2,(Zaj a0_)),(3,(Zaj a1_))],[]⟩) (λx:Int=>Zer N a0_ a1_ x) (λ(p:(Unit)⊕(Bool)) e s=>match p with|(.inl p)=>e=.exit 2/\(s=⟨[],[],[]⟩)|(.inr p)=>e=.ret/\∃ xs,resL s i10.res=some xs/\ZbV xs=bv p) ?_ N _ a5 _ a2 kr).mono ?_)
  ·clear h a2
   rintro a9 o s h hR
   obtain rfl:=hR
   replace h:Zer N a0_ a1_ a9=some o:=h
   unfold Zer at h
   refine sq (sq (rg (Zab.u 3 (Zan (ys:=[Zas false a0_.Uses]) (h:=Zax Zap)) Zab.f) (tq (it h (λab h=>?_) (λab h=>?_)))))
   ·refine sk (tq (kq (sq (bk (sq ?_)))))
    obtain ⟨a1,a4,h⟩:=bs h
    obtain ⟨a0,a3,h⟩:=bs h
    refine rq (Zab.u 3 (Zan (ys:=[Zas false a0_.Uses,iv a9]) (h:=Zal Zap a4)) (Zab.u 0 (ZaK (Zav (sz:=4) (off:=0) (cs:=[.int .i64 a1.Stream,.int .i64 a1.Port,.int .i64 a1.From,.int .i64 a1.Long]) (r:=.agg (Zbb a1)) Zap a4)) (Zab.u 3 (Zan (ys:=[Zas false a1_.Uses,iv a9]) (h:=Zal Zap a3)) (Zab.u 0 (ZaK (Zav (sz:=4) (off:=0) (cs:=[.int .i64 a0.Stream,.int .i64 a0.Port,.int .i64 a0.From,.int .i64 a0.Long]) (r:=.agg (Zbb a0)) Zap a3)) Zab.f)))) (tq (it h (λaa h=>?_) (λaa h=>?_)))
    ·refine sq (rg Zab.f (tq (rt (br (tr ?_)))))
     cases h
     exact ⟨_,rfl,rfl,ZaA kr⟩
    refine sk (bn (tq (kq (rg Zab.f ?_))))
    cases h
    exact ⟨_,rfl,kr⟩
   refine kq (xq (tx ?_))
   cases h
   exact ⟨_,rfl,rfl,kr⟩
  rintro e s hq
  rcases a5 with ak|aj
  ·dsimp only at h hq
   obtain ⟨rfl,hR⟩:=hq
   obtain rfl:=hR
   refine bx (tq (sq (rg Zab.f (tq (rt ?_)))))
   cases h
   exact ZaA kr
  dsimp only at h hq
  obtain ⟨rfl,hq⟩:=hq
  refine br (tr ?_)
  cases h
  exact hq
 dsimp only at h hq
 obtain ⟨rfl,hq⟩:=hq
 refine br (tr ?_)
 cases h
 exact hq
theorem Zfd (N:Nat)(a0_:(List Int))(a1_:Int)(r:Int)(h:Zev N a0_ a1_=some r):Zba Tryz.prog 16 [Zhd false a0_,iv a1_] (iv r):=by
 unfold Zev at h
 have hH  := hp0
 refine ZaG ZLL rfl rfl (Zay _ _ _ ?_) rfl
 refine sq (rg Zab.f (tq (sq (sq (rg (Zab.u 2 (Zan (ys:=[Zhd false a0_]) (h:=Zax (eI .u8))) Zab.f) (tq (it h (λhc1 h=>?_) (λhc1 h=>?_))))))))
 ·refine sq ?_
  obtain ⟨e2,he2,h⟩:=bs h
  refine rg (Zab.u 2 (Zan (ys:=[Zhd false a0_,iv a1_]) (h:=Zal (eI .u8) he2)) (Zab.u 0 (Zav (sz:=1) (off:=0) (cs:=[.int .u8 e2]) (r:=.p (.int .u8 e2)) (eI .u8) he2) Zab.f)) (tq (rt (tr ?_)))
  cases h
  exact ZaA kr
 refine sk (tq (kq (sq (rg Zab.f (tq (rt ?_))))))
 cases h
 exact ZaA kr
theorem Zps (N:Nat)(a0_:(List Int))(r:Int)(h:ZiA N a0_=some r):Zba Tryz.prog 28 [Zad false a0_] (iv r):=by
 unfold ZiA at h
 have hH  := hp0
 refine ZaG ZLz rfl rfl (Zay _ _ _ ?_) rfl
 refine sq (rg Zab.f (tq (sq (sq (rg Zab.f (tq (bk ?_)))))))
 obtain ⟨a4,a0,h⟩:=bs h
 refine ZaT ((ZaI (λ(x:Int) s=>s=⟨[(0,Zad false a0_),(3,iv x)],[],[]⟩) (λx:Int=>ZdJ N a0_ x) (λ(p:(Unit)⊕(Int)) e s=>match p with|(.inl p)=>e=.exit 0/\(s=⟨[],[],[]⟩)|(.inr p)=>e=.ret/\∃ xs,resL s i28.res=some xs/\ZbV xs=iv p) ?_ N _ a4 _ a0 kr).mono ?_)
 ·clear h a0
  rintro i1 o s h hR
  obtain rfl:=hR
  replace h:ZdJ N a0_ i1=some o:=h
  unfold ZdJ at h
  refine sq (sq (rg Zab.f (tq (it h (λai h=>?_) (λai h=>?_)))))
  ·refine sk (tq (kq (sq (bk (sq (rg Zab.f (tq (sq (sq (rg Zab.f (tq (bk ?_))))))))))))
   obtain ⟨af,a1,h⟩:=bs h
   refine ZaT ((ZaI (λ(x:Bool×Int) s=>s=⟨[(0,Zad false a0_),(3,iv i1),(4,bv x.1),(5,iv x.2)],[],[]⟩) (λx:Bool×Int=>Zei N a0_ i1 x.1 x.2) (λ(p:Bool) e s=>e=.exit 2/\(s=⟨[(0,Zad false a0_),(3,iv i1),(4,bv p)],[],[]⟩)) ?_ N _ af _ a1 kr).mono ?_)
   ·clear h a1
    rintro ⟨ae,a6⟩ o s h hR
    obtain rfl:=hR
    replace h:Zei N a0_ i1 ae a6=some o:=h
    unfold Zei at h
    refine sq (sq (rg (Zab.u 2 (Zan (ys:=[Zad false a0_]) (h:=Zax eI64)) Zab.f) (tq (it h (λad h=>?_) (λad h=>?_)))))
    ·refine sk (tq (kq (sq (bk ?_))))
     obtain ⟨ag,hj,h⟩:=bs h
     refine rgR (λs=>s=⟨[(0,Zad false a0_),(3,iv i1),(4,bv ag),(5,iv a6)],[],[]⟩) ?_ ?_
     ·clear h
      rcases ZaC hj with ⟨ac,hj⟩|⟨a9,hj⟩
      ·refine (EP.u 0 (Zam (c:=ae) (h:=ac)) ?_)
       obtain ⟨a3,a2,hj⟩:=bs hj
       refine (EP.u 4 (Zan (ys:=[Zad false a0_,iv a6]) (h:=Zal eI64 a2)) (EP.u 0 (Zav (sz:=1) (off:=0) (cs:=[.int .i64 a3]) (r:=iv a3) eI64 a2) ?_))
       obtain ⟨a5,a7,hj⟩:=bs hj
       refine (EP.u 0 (Zan (ys:=[iv i1,iv a3]) (h:=Zc4 a7)) ?_)
       rcases ZaC hj with ⟨ab,hj⟩|⟨aa,hj⟩
       ·obtain rfl:=Zao hj
        exact (EP.u 2 (Zam (c:=(a5==0)) (h:=ab)) (EP.f kr))
       obtain rfl:=Zao hj
       exact (EP.u 2 (Zam (c:=(a5==0)) (h:=aa)) (EP.f kr))
      obtain rfl:=Zao hj
      exact (EP.u 0 (Zam (c:=ae) (h:=a9)) (EP.f kr))
     clear hj
     rintro s hR
     obtain rfl:=hR
     refine bn (tq (rg Zab.f ?_))
     cases h
     exact ⟨_,rfl,kr⟩
    refine kq (xq (tx ?_))
    cases h
    exact ⟨_,rfl,rfl,kr⟩
   rintro e s hq
   obtain ⟨rfl,hR⟩:=hq
   obtain rfl:=hR
   refine bx (tq (sq (rg Zab.f (tq (it h (λa8 h=>?_) (λa8 h=>?_))))))
   ·refine sq (rg Zab.f (tq (rt (br (tr ?_)))))
    cases h
    exact ⟨_,rfl,rfl,ZaA kr⟩
   refine sk (bn (tq (kq (rg Zab.f ?_))))
   cases h
   exact ⟨_,rfl,kr⟩
  refine kq (xq (tx ?_))
  cases h
  exact ⟨_,rfl,rfl,kr⟩
 rintro e s hq
 rcases a4 with ak|aj
 ·dsimp only at h hq
  obtain ⟨rfl,hR⟩:=hq
  obtain rfl:=hR
  refine bx (tq (sq (rg Zab.f (tq (rt ?_)))))
  cases h
  exact ZaA kr
 dsimp only at h hq
 obtain ⟨rfl,hq⟩:=hq
 refine br (tr ?_)
 cases h
 exact hq
theorem Zcf (N:Nat)(a0_:Int)(a1_:Int)(a2_:Int)(r:Zah)(h:Zcg N a0_ a1_ a2_=some r):Zba Tryz.prog 30 [iv a0_,iv a1_,iv a2_] (.agg [iv r.Id,iv r.Talker,iv r.Listener,iv r.Class,iv r.Size,iv r.Period,iv r.Bucket.Burst,iv r.Bucket.Rate,iv r.Deadline,Zaq false r.Routes]):=by
 unfold Zcg at h
 have hH  := hp0
 refine ZaG ZLx rfl rfl (Zay _ _ _ ?_) rfl
 refine sq (rg Zab.f (tq (sq (rg Zab.f (tq (rt ?_))))))
 cases h
 exact ZaA kr
theorem Zji (N:Nat)(a0_:Zag)(a1_:ZaE)(a2_:Zah)(a3_:Int)(H:List HO)(r:Zah×Int×Zag×ZaE)(h:ZhK N a0_ a1_ a2_ a3_=some r):∃ (id0_ id1_ id2_ id3_:Nat) (H':List HO),Zcm Tryz.prog 36 [.agg (Zac a0_),.agg (Zak a1_),.agg (Zai a2_),iv a3_] H (.fn 58 [] [.ptr id0_ 0,.ptr id1_ 0,.ptr id2_ 0,.ptr id3_ 0]) H'/\Fp H H' [] [.cel id0_ [iv r.1.Id,iv r.1.Talker,iv r.1.Listener,iv r.1.Class,iv r.1.Size,iv r.1.Period,iv r.1.Bucket.Burst,iv r.1.Bucket.Rate,iv r.1.Deadline,Zaq false r.1.Routes],.cel id1_ [iv r.2.1],.cel id2_ [iv r.2.2.1.Nodes,s_eB false r.2.2.1.Station,Zae false r.2.2.1.Links],.cel id3_ [iv r.2.2.2.Grid,iv r.2.2.2.Slack,iv r.2.2.2.Proc,iv r.2.2.2.Cap]]:=by
 suffices hs:∃ r' H',Zcm Tryz.prog 36 [.agg (Zac a0_),.agg (Zak a1_),.agg (Zai a2_),iv a3_] H r' H'/\∃ (id0_ id1_ id2_ id3_:Nat),r'=.fn 58 [] [.ptr id0_ 0,.ptr id1_ 0,.ptr id2_ 0,.ptr id3_ 0]/\Fp H H' [] [.cel id0_ [iv r.1.Id,iv r.1.Talker,iv r.1.Listener,iv r.1.Class,iv r.1.Size,iv r.1.Period,iv r.1.Bucket.Burst,iv r.1.Bucket.Rate,iv r.1.Deadline,Zaq false r.1.Routes],.cel id1_ [iv r.2.1],.cel id2_ [iv r.2.2.1.Nodes,s_eB false r.2.2.1.Station,Zae false r.2.2.1.Links],.cel id3_ [iv r.2.2.2.Grid,iv r.2.2.2.Slack,iv r.2.2.2.Proc,iv r.2.2.2.Cap]] by
  obtain ⟨_,H',h1,id0_,id1_,id2_,id3_,rfl,h2⟩:=hs
  exact ⟨id0_,id1_,id2_,id3_,H',h1,h2⟩
 unfold ZhK at h
 have hH:Fp H H [] []:=Fp.refl trivial
 refine Zk9 ZLr (λr' H'=>∃ (id0_ id1_ id2_ id3_:Nat),r'=.fn 58 [] [.ptr id0_ 0,.ptr id1_ 0,.ptr id2_ 0,.ptr id3_ 0]/\Fp H H' [] [.cel id0_ [iv r.1.Id,iv r.1.Talker,iv r.1.Listener,iv r.1.Class,iv r.1.Size,iv r.1.Period,iv r.1.Bucket.Burst,iv r.1.Bucket.Rate,iv r.1.Deadline,Zaq false r.1.Routes],.cel id1_ [iv r.2.1],.cel id2_ [iv r.2.2.1.Nodes,s_eB false r.2.2.1.Station,Zae false r.2.2.1.Links],.cel id3_ [iv r.2.2.2.Grid,iv r.2.2.2.Slack,iv r.2.2.2.Proc,iv r.2.2.2.Cap]]) (λr' H' ⟨_,_,_,_,e,_⟩=>by rw [e];rfl) rfl rfl (sq ?_)
 obtain ⟨id1,H2,hid1,hH2,hH⟩:=Fp.newCell hH (Zac a0_)
 replace hH:Fp _ _ _ [.cel id1 (Zac a0_)]:=hH
 obtain ⟨id3,H4,hid3,hH4,hH⟩:=Fp.newCell hH (Zak a1_)
 replace hH:Fp _ _ _ [.cel id3 (Zak a1_),.cel id1 (Zac a0_)]:=hH
 obtain ⟨id5,H6,hid5,hH6,hH⟩:=Fp.newCell hH (Zai a2_)
 replace hH:Fp _ _ _ [.cel id5 (Zai a2_),.cel id3 (Zak a1_),.cel id1 (Zac a0_)]:=hH
 obtain ⟨id7,H8,hid7,hH8,hH⟩:=Fp.newCell hH [iv a3_]
 replace hH:Fp _ _ _ [.cel id7 [iv a3_],.cel id5 (Zai a2_),.cel id3 (Zak a1_),.cel id1 (Zac a0_)]:=hH
 refine rg (Zab.h 0 (Zdn (H:=H) (v:=.agg (Zac a0_)) (hid:=hid1) (hH:=hH2)) (Zab.h 0 (Zdn (H:=H2) (v:=.agg (Zak a1_)) (hid:=hid3) (hH:=hH4)) (Zab.h 0 (Zdn (H:=H4) (v:=.agg (Zai a2_)) (hid:=hid5) (hH:=hH6)) (Zab.h 0 (Zdn (H:=H6) (v:=iv a3_) (hid:=hid7) (hH:=hH8)) Zab.f)))) (tq (sq (rg Zab.f (tq (rt ?_)))))
 cases h
 exact ⟨[.fn 58 [] [.ptr id5 0,.ptr id7 0,.ptr id1 0,.ptr id3 0]],kr,id5,id7,id1,id3,rfl,Fp.pk hH [1,0,3,2] rfl⟩
theorem Zjy (N:Nat)(a0_:ZaF)(a1_:Int)(a2_:Int)(r:Bool)(h:ZfC N a0_ a1_ a2_=some r):Zba Tryz.prog 38 [.agg (Za0 a0_),iv a1_,iv a2_] (bv r):=by
 unfold ZfC at h
 have hH  := hp0
 refine ZaG ZLp rfl rfl (Zay _ _ _ ?_) rfl
 refine sq (rg Zab.f (tq (sq (rgX ⟨[(6,bv (if (a0_.A==a1_) then ((a0_.B==a2_)||((a0_.A==a2_)&&(a0_.B==a1_))) else ((a0_.A==a2_)&&(a0_.B==a1_))))],[],[]⟩ ?_ ?_))))
 ·rcases Bool.eq_false_or_eq_true (a0_.A==a1_) with hc1|hc6
  ·refine (EP.u 3 (Zam (c:=(a0_.A==a1_)) (h:=hc1)) ?_)
   rcases Bool.eq_false_or_eq_true (a0_.B==a2_) with hc2|hc3
   ·exact (EP.u 4 (Zam (c:=(a0_.B==a2_)) (h:=hc2)) (EP.f (by simp only [hc1,hc2];kernel_rfl)))
   refine (EP.u 4 (Zam (c:=(a0_.B==a2_)) (h:=hc3)) ?_)
   rcases Bool.eq_false_or_eq_true (a0_.A==a2_) with hc4|hc5
   ·exact (EP.u 5 (Zam (c:=(a0_.A==a2_)) (h:=hc4)) (EP.f (by simp only [hc1,hc3,hc4];kernel_rfl)))
   exact (EP.u 5 (Zam (c:=(a0_.A==a2_)) (h:=hc5)) (EP.f (by simp only [hc1,hc3,hc5];kernel_rfl)))
  refine (EP.u 3 (Zam (c:=(a0_.A==a1_)) (h:=hc6)) ?_)
  rcases Bool.eq_false_or_eq_true (a0_.A==a2_) with hc7|hc8
  ·exact (EP.u 10 (Zam (c:=(a0_.A==a2_)) (h:=hc7)) (EP.f (by simp only [hc6,hc7];kernel_rfl)))
  exact (EP.u 10 (Zam (c:=(a0_.A==a2_)) (h:=hc8)) (EP.f (by simp only [hc6,hc8];kernel_rfl)))
 refine tq (rt ?_)
 cases h
 exact ZaA kr
theorem ZdR (N:Nat)(a0_:Zag)(a1_:Int)(r:Int)(h:Zdd N a0_ a1_=some r):Zba Tryz.prog 40 [.agg (Zac a0_),iv a1_] (iv r):=by
 unfold Zdd at h
 have hH  := hp0
 refine ZaG ZLn rfl rfl (Zay _ _ _ ?_) rfl
 refine sq (rg Zab.f (tq (sq ?_)))
 obtain ⟨e1,he1,h⟩:=bs h
 refine rg (Zab.u 4 (Zan (ys:=[Zae false a0_.Links,iv (w64 (Int.tdiv a1_ 2))]) (h:=Zal Zat he1)) (Zab.u 0 (Zav (sz:=4) (off:=0) (cs:=[.int .i64 e1.A,.int .i64 e1.B,.int .i64 e1.Per,.int .i64 e1.Delay]) (r:=.agg (Za0 e1)) Zat he1) Zab.f)) (tq (sq (sq (rg Zab.f (tq (it h (λhc2 h=>?_) (λhc2 h=>?_)))))))
 ·refine sq (rg Zab.f (tq (rt (tr ?_))))
  cases h
  exact ZaA kr
 refine sk (tq (kq (sq (rg Zab.f (tq (rt ?_))))))
 cases h
 exact ZaA kr
theorem Zej (N:Nat)(a0_:Zag)(a1_:Int)(r:Int)(h:Zea N a0_ a1_=some r):Zba Tryz.prog 41 [.agg (Zac a0_),iv a1_] (iv r):=by
 unfold Zea at h
 have hH  := hp0
 refine ZaG ZLm rfl rfl (Zay _ _ _ ?_) rfl
 refine sq (rg Zab.f (tq (sq ?_)))
 obtain ⟨e1,he1,h⟩:=bs h
 refine rg (Zab.u 4 (Zan (ys:=[Zae false a0_.Links,iv (w64 (Int.tdiv a1_ 2))]) (h:=Zal Zat he1)) (Zab.u 0 (Zav (sz:=4) (off:=0) (cs:=[.int .i64 e1.A,.int .i64 e1.B,.int .i64 e1.Per,.int .i64 e1.Delay]) (r:=.agg (Za0 e1)) Zat he1) Zab.f)) (tq (sq (sq (rg Zab.f (tq (it h (λhc2 h=>?_) (λhc2 h=>?_)))))))
 ·refine sq (rg Zab.f (tq (rt (tr ?_))))
  cases h
  exact ZaA kr
 refine sk (tq (kq (sq (rg Zab.f (tq (rt ?_))))))
 cases h
 exact ZaA kr
theorem Zbf (N:Nat)(a0_:Int)(a1_:Int)(a2_:Int)(r:Bool)(h:Zbu N a0_ a1_ a2_=some r):Zba Tryz.prog 46 [iv a0_,iv a1_,iv a2_] (bv r):=by
 unfold Zbu at h
 have hH  := hp0
 refine ZaG ZLh rfl rfl (Zay _ _ _ ?_) rfl
 refine sq (rg Zab.f (tq (sq (rgX ⟨[(6,bv ((decide (a0_≥a1_))&&(decide (a0_<=a2_))))],[],[]⟩ ?_ ?_))))
 ·rcases Bool.eq_false_or_eq_true (decide (a0_≥a1_)) with hc1|hc2
  ·exact (EP.u 2 (Zam (c:=(decide (a0_≥a1_))) (h:=hc1)) (EP.f (by simp only [hc1];kernel_rfl)))
  exact (EP.u 2 (Zam (c:=(decide (a0_≥a1_))) (h:=hc2)) (EP.f (by simp only [hc2];kernel_rfl)))
 refine tq (rt ?_)
 cases h
 exact ZaA kr
theorem ZhW (N:Nat)(a0_:Int)(a1_:Int)(r:Int)(h:Zd5 N a0_ a1_=some r):Zba Tryz.prog 47 [iv a0_,iv a1_] (iv r):=by
 unfold Zd5 at h
 have hH  := hp0
 refine ZaG ZLg rfl rfl (Zay _ _ _ ?_) rfl
 refine sq (rg Zab.f (tq (sq ?_)))
 obtain ⟨q1,hq1,h⟩:=bs h
 refine rg (Zab.u 2 (Zan (ys:=[iv a0_,iv a1_]) (h:=Zhn hq1)) Zab.f) (tq ?_)
 obtain ⟨a3,a0,h⟩:=bs h
 refine ZcD [5] (λs=>s=⟨[(5,iv a3)],[],[]⟩) ?_ ?_
 ·clear h
  have h:=a0
  refine sq ?_
  obtain ⟨a4,a1,h⟩:=bs h
  refine rg (Zab.u 2 (Zan (ys:=[iv a0_,iv a1_]) (h:=Zc4 a1)) Zab.f) (tq (it h (λa2 h=>?_) (λa2 h=>?_)))
  ·refine rg Zab.f ?_
   cases h
   exact ⟨rfl,kr⟩
  refine sk ?_
  cases h
  exact ⟨rfl,kr⟩
 clear a0
 rintro s hR
 obtain rfl:=hR
 refine sq (rg Zab.f (tq (rt ?_)))
 cases h
 exact ZaA kr
theorem Zb0 (N:Nat)(a0_:Int)(a1_:Int)(a2_:Int)(r:Bool)(h:Zdi N a0_ a1_ a2_=some r):Zba Tryz.prog 49 [iv a0_,iv a1_,iv a2_] (bv r):=by
 unfold Zdi at h
 have hH  := hp0
 refine ZaG ZLe rfl rfl (Zay _ _ _ ?_) rfl
 refine sq (rg Zab.f (tq (sq (rgX ⟨[(6,bv ((decide (a0_≥a1_))&&(decide (a0_<=a2_))))],[],[]⟩ ?_ ?_))))
 ·rcases Bool.eq_false_or_eq_true (decide (a0_≥a1_)) with hc1|hc2
  ·exact (EP.u 2 (Zam (c:=(decide (a0_≥a1_))) (h:=hc1)) (EP.f (by simp only [hc1];kernel_rfl)))
  exact (EP.u 2 (Zam (c:=(decide (a0_≥a1_))) (h:=hc2)) (EP.f (by simp only [hc2];kernel_rfl)))
 refine tq (rt ?_)
 cases h
 exact ZaA kr
theorem Zll (N:Nat)(a0_:Zag)(a1_:Int)(r:Int)(h:ZhB N a0_ a1_=some r):Zba Tryz.prog 50 [.agg (Zac a0_),iv a1_] (iv r):=by
 unfold ZhB at h
 have hH  := hp0
 refine ZaG ZLd rfl rfl (Zay _ _ _ ?_) rfl
 refine sq (rg Zab.f (tq (sq ?_)))
 obtain ⟨e1,he1,h⟩:=bs h
 refine rg (Zab.u 4 (Zan (ys:=[Zae false a0_.Links,iv (w64 (Int.tdiv a1_ 2))]) (h:=Zal Zat he1)) (Zab.u 1 (Zav (sz:=4) (off:=2) (cs:=[.int .i64 e1.Per]) (r:=iv e1.Per) Zat he1) Zab.f)) (tq (rt ?_))
 cases h
 exact ZaA kr
theorem ZjA (N:Nat)(a0_:Zag)(a1_:Int)(r:Int)(h:ZfD N a0_ a1_=some r):Zba Tryz.prog 51 [.agg (Zac a0_),iv a1_] (iv r):=by
 unfold ZfD at h
 have hH  := hp0
 refine ZaG ZLc rfl rfl (Zay _ _ _ ?_) rfl
 refine sq (rg Zab.f (tq (sq ?_)))
 obtain ⟨e1,he1,h⟩:=bs h
 refine rg (Zab.u 4 (Zan (ys:=[Zae false a0_.Links,iv (w64 (Int.tdiv a1_ 2))]) (h:=Zal Zat he1)) (Zab.u 1 (Zav (sz:=4) (off:=3) (cs:=[.int .i64 e1.Delay]) (r:=iv e1.Delay) Zat he1) Zab.f)) (tq (rt ?_))
 cases h
 exact ZaA kr
theorem Zlg (N:Nat)(a0_:Int)(a1_:Int)(r:Int)(h:Zhx N a0_ a1_=some r):Zba Tryz.prog 53 [iv a0_,iv a1_] (iv r):=by
 unfold Zhx at h
 have hH  := hp0
 refine ZaG ZLa rfl rfl (Zay _ _ _ ?_) rfl
 refine sq (rg Zab.f (tq (sq ?_)))
 obtain ⟨m1,hm1,h⟩:=bs h
 refine rg (Zab.u 2 (Zan (ys:=[iv a0_,iv a1_]) (h:=Zc4 hm1)) Zab.f) (tq ?_)
 obtain ⟨a2,a0,h⟩:=bs h
 refine ZcD [5] (λs=>s=⟨[(5,iv a2)],[],[]⟩) ?_ ?_
 ·clear h
  have h:=a0
  refine sq (rg Zab.f (tq (it h (λa1 h=>?_) (λa1 h=>?_))))
  ·refine rg Zab.f ?_
   cases h
   exact ⟨rfl,kr⟩
  refine sk ?_
  cases h
  exact ⟨rfl,kr⟩
 clear a0
 rintro s hR
 obtain rfl:=hR
 refine sq (rg Zab.f (tq (rt ?_)))
 cases h
 exact ZaA kr
theorem ZoQ (N:Nat)(r:Zag)(h:ZkZ N=some r):Zba Tryz.prog 54 [] (.agg [iv r.Nodes,s_eB false r.Station,Zae false r.Links]):=by
 unfold ZkZ at h
 have hH  := hp0
 refine ZaG ZK9 rfl rfl (Zay _ _ _ ?_) rfl
 refine sq (rg Zab.f (tq (sq (rg Zab.f (tq (rt ?_))))))
 cases h
 exact ZaA kr
theorem Zia {σ:Type}(N:Nat)(y_:σ->ZaQ->Option (σ×Bool))(c0_:Zah)(c1_:Int)(c2_:Zag)(c3_:ZaE)(s_:σ)(k0_:Nat)(k1_:Nat)(k2_:Nat)(k3_:Nat)(yid_:Nat)(T_:σ->List Za9->Prop)(hy_:∀ (x0:ZaQ) (s:σ) (r:σ×Bool) (H:List HO) (its:List Za9),T_ s its->HP H its->y_ s x0=some r->∃ H' its',ZiY Tryz.prog yid_ [.agg [iv x0.Port,iv x0.Early,iv x0.Late,iv x0.Open,iv x0.Long]] H r.2 H'/\T_ r.1 its'/\Fp H H' its its')(H:List HO)(its:List Za9)(hT:T_ s_ its)(hH:HP H (.cel k0_ (Zai c0_)::.cel k1_ [iv c1_]::.cel k2_ (Zac c2_)::.cel k3_ (Zak c3_)::its))(r:σ)(h:Zdf N y_ c0_ c1_ c2_ c3_ s_=some r):∃ H' its',Zcm Tryz.prog 58 [.yl yid_,.ptr k0_ 0,.ptr k1_ 0,.ptr k2_ 0,.ptr k3_ 0] H (.tup []) H'/\T_ r its'/\Fp H H' (.cel k0_ (Zai c0_)::.cel k1_ [iv c1_]::.cel k2_ (Zac c2_)::.cel k3_ (Zak c3_)::its) (.cel k0_ (Zai c0_)::.cel k1_ [iv c1_]::.cel k2_ (Zac c2_)::.cel k3_ (Zak c3_)::its'):=by
 suffices hs:∃ H',Zcm Tryz.prog 58 [.yl yid_,.ptr k0_ 0,.ptr k1_ 0,.ptr k2_ 0,.ptr k3_ 0] H (.tup []) H'/\∃ its',T_ r its'/\Fp H H' (.cel k0_ (Zai c0_)::.cel k1_ [iv c1_]::.cel k2_ (Zac c2_)::.cel k3_ (Zak c3_)::its) (.cel k0_ (Zai c0_)::.cel k1_ [iv c1_]::.cel k2_ (Zac c2_)::.cel k3_ (Zak c3_)::its') by
  obtain ⟨H',h1,its',h2,h3⟩:=hs
  exact ⟨H',its',h1,h2,h3⟩
 unfold Zdf at h
 replace hH:Fp H H (.cel k0_ (Zai c0_)::.cel k1_ [iv c1_]::.cel k2_ (Zac c2_)::.cel k3_ (Zak c3_)::its) (.cel k0_ (Zai c0_)::.cel k1_ [iv c1_]::.cel k2_ (Zac c2_)::.cel k3_ (Zak c3_)::its):=Fp.refl hH
 refine Zno ZK5 (λH'=>∃ its',T_ r its'/\Fp H H' (.cel k0_ (Zai c0_)::.cel k1_ [iv c1_]::.cel k2_ (Zac c2_)::.cel k3_ (Zak c3_)::its) (.cel k0_ (Zai c0_)::.cel k1_ [iv c1_]::.cel k2_ (Zac c2_)::.cel k3_ (Zak c3_)::its')) rfl rfl rfl (sq (rg Zab.f (tq (sq ?_))))
 have hlc1:=Fp.get hH 0 rfl
 have hlc2:=Fp.get hH 1 rfl
 obtain ⟨e3,he3,h⟩:=bs h
 refine rg (Zab.u 1 (ZaD (H:=H) (id:=k0_) (off:=9) (cs:=(Zai c0_)) (c:=[Zaq false c0_.Routes]) (r:=Zaq false c0_.Routes) (hl:=hlc1)) (Zab.u 0 (ZaD (H:=H) (id:=k1_) (off:=0) (cs:=[iv c1_]) (c:=[iv c1_]) (r:=iv c1_) (hl:=hlc2)) (Zab.u 0 (Zan (ys:=[Zaq false c0_.Routes,iv c1_]) (h:=Zal (eSl 1 eI64) he3)) (Zab.u 0 (Zav (sz:=1) (off:=0) (cs:=[.sl 1 false (List.map eI64 e3)]) (r:=Zad false e3) (eSl 1 eI64) he3) (Zab.u 0 (Zan (ys:=[Zad false e3]) (h:=Zax eI64)) Zab.f))))) (tq (bk ?_))
 obtain ⟨an,a5,h⟩:=bs h
 refine ZaT ((ZaI (λ(x:Int×Int×Int×Int×Int×Int×σ) s=>∃ (its4:List Za9) (H5:List HO),s=⟨[(0,.yl yid_),(1,.ptr k0_ 0),(3,.ptr k2_ 0),(4,.ptr k3_ 0),(6,.loc 6 0),(14,Zad false e3),(15,iv ((List.length e3:Nat):Int)),(16,iv x.1)],[(6,[iv x.2.1,iv x.2.2.1,iv x.2.2.2.1,iv x.2.2.2.2.1,iv x.2.2.2.2.2.1])],H5⟩/\T_ x.2.2.2.2.2.2 its4/\Fp H H5 (.cel k0_ (Zai c0_)::.cel k1_ [iv c1_]::.cel k2_ (Zac c2_)::.cel k3_ (Zak c3_)::its) (.cel k0_ (Zai c0_)::.cel k1_ [iv c1_]::.cel k2_ (Zac c2_)::.cel k3_ (Zak c3_)::its4)) (λx:Int×Int×Int×Int×Int×Int×σ=>ZbP N y_ c0_ c2_ c3_ e3 x.1 x.2.1 x.2.2.1 x.2.2.2.1 x.2.2.2.2.1 x.2.2.2.2.2.1 x.2.2.2.2.2.2) (λ(p:(σ)⊕(σ)) e s=>match p with|(.inl p)=>e=.exit 0/\(∃ (a1:List Za9) (am:List HO),s=⟨[],[],am⟩/\T_ p a1/\Fp H am (.cel k0_ (Zai c0_)::.cel k1_ [iv c1_]::.cel k2_ (Zac c2_)::.cel k3_ (Zak c3_)::its) (.cel k0_ (Zai c0_)::.cel k1_ [iv c1_]::.cel k2_ (Zac c2_)::.cel k3_ (Zak c3_)::a1))|(.inr p)=>e=.ret/\∃ xs,rawL s i58.res=some xs/\ZbV xs=.tup []/\∃ its',T_ p its'/\Fp H s.H (.cel k0_ (Zai c0_)::.cel k1_ [iv c1_]::.cel k2_ (Zac c2_)::.cel k3_ (Zak c3_)::its) (.cel k0_ (Zai c0_)::.cel k1_ [iv c1_]::.cel k2_ (Zac c2_)::.cel k3_ (Zak c3_)::its')) ?_ N _ an _ a5 ⟨its,H,kr,hT,Fp.at hH⟩).mono ?_)
 ·clear h a5
  rintro ⟨i6,i7,i10,i11,i12,i8,g9⟩ o s h hR
  obtain ⟨its4,H5,rfl,hT,hH⟩:=hR
  replace hH:Fp H H5 (.cel k0_ (Zai c0_)::.cel k1_ [iv c1_]::.cel k2_ (Zac c2_)::.cel k3_ (Zak c3_)::its) (.cel k0_ (Zai c0_)::.cel k1_ [iv c1_]::.cel k2_ (Zac c2_)::.cel k3_ (Zak c3_)::its4):=hH
  replace h:ZbP N y_ c0_ c2_ c3_ e3 i6 i7 i10 i11 i12 i8 g9=some o:=h
  unfold ZbP at h
  refine sq (rg Zab.f (tq (sq (it h (λax h=>?_) (λax h=>?_)))))
  ·refine sk (tq (kq (sq (bk (sq ?_)))))
   obtain ⟨a4,ao,h⟩:=bs h
   refine rg (Zab.u 1 (Zan (ys:=[Zad false e3,iv i6]) (h:=Zal eI64 ao)) (Zab.u 0 (Zav (sz:=1) (off:=0) (cs:=[.int .i64 a4]) (r:=iv a4) eI64 ao) Zab.f)) (tq ?_)
   obtain ⟨a0,a6,h⟩:=bs h
   refine ZcD [0,1,3,4,6,8,14,15,16] (λs=>s=⟨[(0,.yl yid_),(1,.ptr k0_ 0),(3,.ptr k2_ 0),(4,.ptr k3_ 0),(6,.loc 6 0),(8,iv a4),(14,Zad false e3),(15,iv ((List.length e3:Nat):Int)),(16,iv i6)],[(6,[iv i7,iv a0.1,iv a0.2.1,iv a0.2.2,iv i8])],H5⟩) ?_ ?_
   ·clear h
    have h:=a6
    refine sq (rg Zab.f (tq (it h (λav h=>?_) (λav h=>?_))))
    ·refine sq ?_
     have ak:=Fp.get hH 2 rfl
     obtain ⟨a9,a8,h⟩:=bs h
     have aj:=Fp.get hH 3 rfl
     refine rq (Zab.u 6 (ZaK (ZaD (H:=H5) (id:=k2_) (off:=2) (cs:=(Zac c2_)) (c:=[Zae false c2_.Links]) (r:=Zae false c2_.Links) (hl:=ak))) (Zab.u 3 (Zan (ys:=[Zae false c2_.Links,iv (w64 (Int.tdiv i7 2))]) (h:=Zal Zat a8)) (Zab.u 1 (ZaK (Zav (sz:=4) (off:=3) (cs:=[.int .i64 a9.Delay]) (r:=iv a9.Delay) Zat a8)) (Zab.u 2 (ZaK (ZaD (H:=H5) (id:=k3_) (off:=2) (cs:=(Zak c3_)) (c:=[iv c3_.Proc]) (r:=iv c3_.Proc) (hl:=aj))) Zab.f)))) (tq (sq ?_))
     have ai:=Fp.get hH 3 rfl
     have ag:=Fp.get hH 3 rfl
     refine rq (Zab.u 2 (ZaK (ZaD (H:=H5) (id:=k3_) (off:=1) (cs:=(Zak c3_)) (c:=[iv c3_.Slack]) (r:=iv c3_.Slack) (hl:=ai))) (Zab.u 4 (ZaK (ZaD (H:=H5) (id:=k3_) (off:=1) (cs:=(Zak c3_)) (c:=[iv c3_.Slack]) (r:=iv c3_.Slack) (hl:=ag))) Zab.f)) (tq ?_)
     have af:=Fp.get hH 3 rfl
     have ae:=Fp.get hH 3 rfl
     obtain ⟨ay,ar,h⟩:=bs h
     have ad:=Fp.get hH 3 rfl
     refine rq (Zab.u 3 (ZaK (ZaD (H:=H5) (id:=k3_) (off:=0) (cs:=(Zak c3_)) (c:=[iv c3_.Grid]) (r:=iv c3_.Grid) (hl:=af))) (Zab.u 3 (ZaK (ZaD (H:=H5) (id:=k3_) (off:=0) (cs:=(Zak c3_)) (c:=[iv c3_.Grid]) (r:=iv c3_.Grid) (hl:=ae))) (Zab.u 0 (Zan (ys:=[iv (w64 ((w64 ((w64 ((w64 ((w64 ((w64 (i12+i8))+a9.Delay))+c3_.Proc))+(w64 (2*c3_.Slack))))+c3_.Grid))-1)),iv c3_.Grid]) (h:=Zhn ar)) (Zab.u 1 (ZaK (ZaD (H:=H5) (id:=k3_) (off:=0) (cs:=(Zak c3_)) (c:=[iv c3_.Grid]) (r:=iv c3_.Grid) (hl:=ad))) Zab.f)))) ?_
     cases h
     exact ⟨rfl,kr⟩
    refine sk ?_
    cases h
    exact ⟨rfl,kr⟩
   clear a6
   rintro s hR
   obtain rfl:=hR
   refine sq ?_
   have ac:=Fp.get hH 0 rfl
   have ab:=Fp.get hH 2 rfl
   obtain ⟨a3,a7,h⟩:=bs h
   refine rq (Zab.u 2 (ZaK (ZaD (H:=H5) (id:=k0_) (off:=4) (cs:=(Zai c0_)) (c:=[iv c0_.Size]) (r:=iv c0_.Size) (hl:=ac))) (Zab.u 1 (ZaK (ZaD (H:=H5) (id:=k2_) (off:=2) (cs:=(Zac c2_)) (c:=[Zae false c2_.Links]) (r:=Zae false c2_.Links) (hl:=ab))) (Zab.u 2 (Zan (ys:=[Zae false c2_.Links,iv (w64 (Int.tdiv a4 2))]) (h:=Zal Zat a7)) (Zab.u 1 (ZaK (Zav (sz:=4) (off:=2) (cs:=[.int .i64 a3.Per]) (r:=iv a3.Per) Zat a7)) Zab.f)))) (tq (sq ?_))
   obtain ⟨aw,aq,h⟩:=bs h
   obtain ⟨ap,a2,aa,hT,al⟩:=hy_ (ZaQ.mk a4 a0.1 a0.2.1 a0.2.2 (w64 (c0_.Size*a3.Per))) g9 aw H5 its4 hT (Fp.tail (own:=[.cel k0_ (Zai c0_),.cel k1_ [iv c1_],.cel k2_ (Zac c2_),.cel k3_ (Zak c3_)]) (its:=its4) hH) aq
   replace hH:Fp H ap (.cel k0_ (Zai c0_)::.cel k1_ [iv c1_]::.cel k2_ (Zac c2_)::.cel k3_ (Zak c3_)::its) (.cel k0_ (Zai c0_)::.cel k1_ [iv c1_]::.cel k2_ (Zac c2_)::.cel k3_ (Zak c3_)::a2):=Fp.callT (own:=[.cel k0_ (Zai c0_),.cel k1_ [iv c1_],.cel k2_ (Zac c2_),.cel k3_ (Zak c3_)]) (its:=its4) hH al
   refine rg (Zab.v 2 (Zou (H:=H5) (id:=yid_) (ys:=[.agg [iv a4,iv a0.1,iv a0.2.1,iv a0.2.2,iv (w64 (c0_.Size*a3.Per))]]) kr kr kr kr aa) Zab.f) (tq (it h (λau h=>?_) (λau h=>?_)))
   ·refine rt (br (tr ?_))
    cases h
    exact ⟨_,rfl,rfl,⟨[],kr,kr,a2,hT,Fp.at hH⟩⟩
   refine sk (bn (tq (kq (rg Zab.f ?_))))
   cases h
   exact ⟨_,rfl,⟨a2,ap,kr,hT,Fp.at hH⟩⟩
  refine kq (xq (tx ?_))
  cases h
  exact ⟨_,rfl,rfl,⟨its4,H5,kr,hT,Fp.at hH⟩⟩
 rintro e s hq
 rcases an with aA|az
 ·dsimp only at h hq
  obtain ⟨rfl,hR⟩:=hq
  obtain ⟨a1,am,rfl,hT,hH⟩:=hR
  replace hH:Fp H am (.cel k0_ (Zai c0_)::.cel k1_ [iv c1_]::.cel k2_ (Zac c2_)::.cel k3_ (Zak c3_)::its) (.cel k0_ (Zai c0_)::.cel k1_ [iv c1_]::.cel k2_ (Zac c2_)::.cel k3_ (Zak c3_)::a1):=hH
  refine bx ?_
  cases h
  exact ⟨[],kr,kr,a1,hT,Fp.at hH⟩
 dsimp only at h hq
 obtain ⟨rfl,hq⟩:=hq
 refine br ?_
 cases h
 exact hq
theorem Zj8 (N:Nat)(a0_:Zag)(a1_:Int)(r:Bool)(h:Zgr N a0_ a1_=some r):Zba Tryz.prog 59 [.agg (Zac a0_),iv a1_] (bv r):=by
 unfold Zgr at h
 have hH  := hp0
 refine ZaG ZK4 rfl rfl (Zay _ _ _ ?_) rfl
 refine sq (rg Zab.f (tq (sq (rgX ⟨[(4,bv ((decide (a1_≥0))&&(decide (a1_<a0_.Nodes))))],[],[]⟩ ?_ ?_))))
 ·rcases Bool.eq_false_or_eq_true (decide (a1_≥0)) with hc1|hc2
  ·exact (EP.u 1 (Zam (c:=(decide (a1_≥0))) (h:=hc1)) (EP.f (by simp only [hc1];kernel_rfl)))
  exact (EP.u 1 (Zam (c:=(decide (a1_≥0))) (h:=hc2)) (EP.f (by simp only [hc2];kernel_rfl)))
 refine tq (rt ?_)
 cases h
 exact ZaA kr
theorem ZeH (N:Nat)(a0_:Zag)(a1_:(List Int))(r:(List Int))(h:ZdP N a0_ a1_=some r):Zba Tryz.prog 63 [.agg (Zac a0_),Zad false a1_] (Zad false r):=by
 unfold ZdP at h
 have hH  := hp0
 refine ZaG ZK0 rfl rfl (Zay _ _ _ ?_) rfl
 refine sq (rg Zab.f (tq (sq ?_)))
 obtain ⟨e1,he1,h⟩:=bs h
 obtain ⟨r2,hr2,h⟩:=bs h
 obtain ⟨a3,H4,ha3,hH4,hH⟩:=HP.lit 1 [r2] eI64 hH
 replace hH:HP _ [.arr a3 1 false (List.map eI64 [r2])]:=hH
 have hfa3:=ZaS (HP.get hH 0 rfl)
 refine rqS ⟨[(1,Zad false a1_),(2,.loc 2 0),(5,a3)],[(2,(Zac a0_))],H4⟩ (Zab.u 2 (Zan (ys:=[Zad false a1_,iv 0]) (h:=Zal eI64 he1)) (Zab.u 0 (ZaK (Zav (sz:=1) (off:=0) (cs:=[.int .i64 e1]) (r:=iv e1) eI64 he1)) (Zab.v 0 (Zaz (hc:=ZdR N a0_ e1 r2 hr2)) (Zab.h 0 (ZlU (H:=[]) (ys:=[iv r2]) (rows:=(List.map eI64 [r2])) kr kr kr ha3 hH4) Zab.f)))) (by cases hfa3<;>kernel_rfl) (tq (sq (sq (rgS ⟨[(1,Zad false a1_),(2,.loc 2 0),(5,a3),(6,iv 0)],[(2,(Zac a0_))],H4⟩ Zab.f (by cases hfa3<;>kernel_rfl) (tq (bk ?_))))))
 obtain ⟨a9,a7,h⟩:=bs h
 refine ZaT ((ZaI (λ(x:Int×(List Int)) s=>∃ (a5:AV) (H6:List HO),s=⟨[(1,Zad false a1_),(2,.loc 2 0),(5,a5),(6,iv x.1)],[(2,(Zac a0_))],H6⟩/\HP H6 [.arr a5 1 false (List.map eI64 x.2)]) (λx:Int×(List Int)=>Zcy N a0_ a1_ x.1 x.2) (λ(p:(List Int)) e s=>e=.exit 0/\(∃ (a2:AV) (a4:List HO),s=⟨[(5,a2)],[],a4⟩/\HP a4 [.arr a2 1 false (List.map eI64 p)])) ?_ N _ a9 _ a7 ⟨a3,H4,(by show _=_;cases hfa3<;>kernel_rfl),(HP.pick hH [0] rfl)⟩).mono ?_)
 ·clear h a7
  rintro ⟨i7,l8⟩ o s h hR
  obtain ⟨a5,H6,rfl,hH⟩:=hR
  replace hH:HP _ [.arr a5 1 false (List.map eI64 l8)]:=hH
  have hfa5:=ZaS (HP.get hH 0 rfl)
  replace h:Zcy N a0_ a1_ i7 l8=some o:=h
  unfold Zcy at h
  refine sq (sq (rgS ⟨[(1,Zad false a1_),(2,.loc 2 0),(5,a5),(6,iv i7),(16,bv (decide (i7<((List.length a1_:Nat):Int))))],[(2,(Zac a0_))],H6⟩ (Zab.u 2 (Zan (ys:=[Zad false a1_]) (h:=Zax eI64)) Zab.f) (by cases hfa5<;>kernel_rfl) (tq (it h (λaf h=>?_) (λaf h=>?_)))))
  ·refine sk (tq (kq (sq (bk ?_))))
   obtain ⟨aa,a8,h⟩:=bs h
   obtain ⟨ac,ad,h⟩:=bs h
   obtain ⟨ai,ae,h⟩:=bs h
   obtain ⟨a6,ab,ag,hH⟩:=HP.app (k:=0) (a:=a5) (sz:=1) (frz:=false) eI64 hH rfl ae
   replace hH:HP _ [.arr a6 1 false (List.map eI64 ai)]:=hH
   have a0:=ZaS (HP.get hH 0 rfl)
   refine rqS ⟨[(1,Zad false a1_),(2,.loc 2 0),(5,a6),(6,iv i7)],[(2,(Zac a0_))],ab⟩ (Zab.u 4 (Zan (ys:=[Zad false a1_,iv i7]) (h:=Zal eI64 a8)) (Zab.u 0 (ZaK (Zav (sz:=1) (off:=0) (cs:=[.int .i64 aa]) (r:=iv aa) eI64 a8)) (Zab.u 0 (Za1 (hc:=Zej N a0_ aa ac ad)) (Zab.h 1 (Ze9 (H:=H6) (a:=a5) (b:=Zad true [ac]) (by cases hfa5<;>kernel_rfl) (by cases hfa5<;>kernel_rfl) (by cases hfa5<;>kernel_rfl) (by cases hfa5<;>kernel_rfl) ag) Zab.f)))) (by cases hfa5<;>cases a0<;>kernel_rfl) (bn (tq (rgS ⟨[(1,Zad false a1_),(2,.loc 2 0),(5,a6),(6,iv (w64 (i7+1)))],[(2,(Zac a0_))],ab⟩ Zab.f (by cases a0<;>kernel_rfl) ?_)))
   cases h
   exact ⟨_,rfl,⟨a6,ab,(by show _=_;cases a0<;>kernel_rfl),(HP.pick hH [0] rfl)⟩⟩
  refine kq (xq (tx ?_))
  cases h
  exact ⟨_,rfl,rfl,⟨a5,H6,(by show _=_;cases hfa5<;>kernel_rfl),(HP.pick hH [0] rfl)⟩⟩
 rintro e s hq
 obtain ⟨rfl,hR⟩:=hq
 obtain ⟨a2,a4,rfl,hH⟩:=hR
 replace hH:HP _ [.arr a2 1 false (List.map eI64 a9)]:=hH
 have a1:=ZaS (HP.get hH 0 rfl)
 refine bx (tq (sq (rgS ⟨[(4,a2)],[],a4⟩ Zab.f (by cases a1<;>kernel_rfl) (tq (rt ?_)))))
 obtain rfl:=Zao h
 exact ZeB (H:=a4) (ys:=[a2]) (xs:=[.p (.sl 1 false (List.map eI64 a9))]) (by cases a1<;>kernel_rfl) (by cases a1<;>kernel_rfl) (Zbs (HP.pure (k:=0) (frz:=false) eI64 hH rfl).2 Zci) kr
theorem Zib (N:Nat)(a0_:Zag)(a1_:Int)(r:Bool)(h:Zdh N a0_ a1_=some r):Zba Tryz.prog 64 [.agg (Zac a0_),iv a1_] (bv r):=by
 unfold Zdh at h
 have hH  := hp0
 refine ZaG ZKZ rfl rfl (Zay _ _ _ ?_) rfl
 refine sq (rg Zab.f (tq (sq ?_)))
 obtain ⟨j5,hj,h⟩:=bs h
 refine rgR (λs=>s=⟨[(4,bv j5)],[],[]⟩) ?_ ?_
 ·clear h
  obtain ⟨r1,hr1,hj⟩:=bs hj
  rcases ZaC hj with ⟨hc2,hj⟩|⟨hc4,hj⟩
  ·refine (EP.h 4 (ZbB kr (Zb0 N a1_ 0 (w64 (a0_.Nodes-1)) r1 hr1) hc2) ?_)
   obtain ⟨e3,he3,hj⟩:=bs hj
   obtain rfl:=Zao hj
   exact (EP.u 4 (Zan (ys:=[s_eB false a0_.Station,iv a1_]) (h:=Zal eB he3)) (EP.u 0 (Zav (sz:=1) (off:=0) (cs:=[.bool e3]) (r:=bv e3) eB he3) (EP.f kr)))
  obtain rfl:=Zao hj
  exact (EP.h 4 (ZbB kr (Zb0 N a1_ 0 (w64 (a0_.Nodes-1)) r1 hr1) hc4) (EP.f kr))
 clear hj
 rintro s hR
 obtain rfl:=hR
 refine tq (rt ?_)
 cases h
 exact ZaA kr
theorem Zop (N:Nat)(a0_:Zag)(a1_:Int)(a2_:Zc3)(r:(List Bool))(h:Zhp N a0_ a1_ a2_=some r):Zba Tryz.prog 67 [.agg (Zac a0_),iv a1_,.agg (Zbx a2_)] (s_eB false r):=by
 unfold Zhp at h
 have hH  := hp0
 refine ZaG ZKW rfl rfl (Zay _ _ _ ?_) rfl
 refine sq (rg Zab.f (tq (sq ?_)))
 obtain ⟨l3,hl3,h⟩:=bs h
 obtain ⟨a1,H2,ha1,hH2,ha1b,hH⟩:=HP.make eB hH hl3
 replace hH:HP _ [.arr a1 1 false (List.map eB l3)]:=hH
 have hfa1:=ZaS (HP.get hH 0 rfl)
 refine rgS ⟨[(1,iv a1_),(3,.loc 3 0),(5,.loc 5 0),(7,a1)],[(3,(Zac a0_)),(5,(Zbx a2_))],H2⟩ (Zab.h 2 (ZjI (H:=[]) (zero:=[.bool false]) (bytes:=1) kr kr kr ha1 hH2 ha1b) Zab.f) (by cases hfa1<;>kernel_rfl) (tq (sq ?_))
 obtain ⟨e4,he4,h⟩:=bs h
 obtain ⟨id5,ver6,_,hid5f,hid5,hid5a,hid5v⟩:=HP.elem (k:=0) (a:=a1) (sz:=1) (frz:=false) eB hH rfl he4
 obtain ⟨H7,hH7,hH⟩:=HP.setRow (k:=0) (off:=0) (cs:=[bv true]) (ps:=[.bool true]) (e':=true) eB hH rfl hid5a hid5 (hid5f rfl) he4 kr kr
 replace hH:HP _ [.arr a1 1 false (List.map eB (List.set l3 (Int.toNat a1_) true))]:=hH
 refine rgS ⟨[(3,.loc 3 0),(5,.loc 5 0),(7,a1)],[(3,(Zac a0_)),(5,(Zbx a2_))],H7⟩ (Zab.u 2 (Zan (ys:=[a1,iv a1_]) (by cases hfa1<;>kernel_rfl) (hid5v .i64)) (Zab.o 0 (Zbe (H:=H2) (v:=bv true) (hw:=hH7)) Zab.f)) (by cases hfa1<;>kernel_rfl) (tq (sq (sq (rgS ⟨[(3,.loc 3 0),(5,.loc 5 0),(7,a1),(17,iv a0_.Nodes),(18,iv 0)],[(3,(Zac a0_)),(5,(Zbx a2_))],H7⟩ Zab.f (by cases hfa1<;>kernel_rfl) (tq (bk ?_))))))
 obtain ⟨af,ag,h⟩:=bs h
 refine ZaT ((ZaI (λ(x:Int×(List Bool)) s=>∃ (a8:AV) (H9:List HO),s=⟨[(3,.loc 3 0),(5,.loc 5 0),(7,a8),(17,iv a0_.Nodes),(18,iv x.1)],[(3,(Zac a0_)),(5,(Zbx a2_))],H9⟩/\HP H9 [.arr a8 1 false (List.map eB x.2)]) (λx:Int×(List Bool)=>ZcO N a0_ a2_ x.1 x.2) (λ(p:(List Bool)) e s=>e=.exit 0/\(∃ (ae:AV) (aA:List HO),s=⟨[(7,ae)],[],aA⟩/\HP aA [.arr ae 1 false (List.map eB p)])) ?_ N _ af _ ag ⟨a1,H7,(by show _=_;cases hfa1<;>kernel_rfl),(HP.pick hH [0] rfl)⟩).mono ?_)
 ·clear h ag
  rintro ⟨i10,bm⟩ o s h hR
  obtain ⟨a8,H9,rfl,hH⟩:=hR
  replace hH:HP _ [.arr a8 1 false (List.map eB bm)]:=hH
  have hfa8:=ZaS (HP.get hH 0 rfl)
  replace h:ZcO N a0_ a2_ i10 bm=some o:=h
  unfold ZcO at h
  refine sq (rgS ⟨[(3,.loc 3 0),(5,.loc 5 0),(7,a8),(17,iv a0_.Nodes),(18,iv i10),(19,bv (decide (i10<a0_.Nodes)))],[(3,(Zac a0_)),(5,(Zbx a2_))],H9⟩ Zab.f (by cases hfa8<;>kernel_rfl) (tq (sq (it h (λb2 h=>?_) (λb2 h=>?_)))))
  ·refine sk (tq (kq (sq (bk (sq (rgS ⟨[(3,.loc 3 0),(5,.loc 5 0),(7,a8),(17,iv a0_.Nodes),(18,iv i10),(21,Zae false a0_.Links),(22,iv ((List.length a0_.Links:Nat):Int)),(23,iv 0)],[(3,(Zac a0_)),(5,(Zbx a2_))],H9⟩ (Zab.u 2 (Zan (ys:=[Zae false a0_.Links]) (h:=Zax Zat)) Zab.f) (by cases hfa8<;>kernel_rfl) (tq (bk ?_))))))))
   obtain ⟨aI,ai,h⟩:=bs h
   refine ZaT ((ZaI (λ(x:Int×(List Bool)) s=>∃ (a3:AV) (a5:List HO),s=⟨[(3,.loc 3 0),(5,.loc 5 0),(7,a3),(17,iv a0_.Nodes),(18,iv i10),(21,Zae false a0_.Links),(22,iv ((List.length a0_.Links:Nat):Int)),(23,iv x.1)],[(3,(Zac a0_)),(5,(Zbx a2_))],a5⟩/\HP a5 [.arr a3 1 false (List.map eB x.2)]) (λx:Int×(List Bool)=>Zcv N a0_ a2_ x.1 x.2) (λ(p:(List Bool)) e s=>e=.exit 2/\(∃ (a7:AV) (aa:List HO),s=⟨[(3,.loc 3 0),(5,.loc 5 0),(7,a7),(17,iv a0_.Nodes),(18,iv i10)],[(3,(Zac a0_)),(5,(Zbx a2_))],aa⟩/\HP aa [.arr a7 1 false (List.map eB p)])) ?_ N _ aI _ ai ⟨a8,H9,(by show _=_;cases hfa8<;>kernel_rfl),(HP.pick hH [0] rfl)⟩).mono ?_)
   ·clear h ai
    rintro ⟨a4,aB⟩ o s h hR
    obtain ⟨a3,a5,rfl,hH⟩:=hR
    replace hH:HP _ [.arr a3 1 false (List.map eB aB)]:=hH
    have a0:=ZaS (HP.get hH 0 rfl)
    replace h:Zcv N a0_ a2_ a4 aB=some o:=h
    unfold Zcv at h
    refine sq (rgS ⟨[(3,.loc 3 0),(5,.loc 5 0),(7,a3),(17,iv a0_.Nodes),(18,iv i10),(21,Zae false a0_.Links),(22,iv ((List.length a0_.Links:Nat):Int)),(23,iv a4),(24,bv (decide (a4<((List.length a0_.Links:Nat):Int))))],[(3,(Zac a0_)),(5,(Zbx a2_))],a5⟩ Zab.f (by cases a0<;>kernel_rfl) (tq (sq (it h (λaU h=>?_) (λaU h=>?_)))))
    ·refine sk (tq (kq ?_))
     obtain ⟨aJ,aj,h⟩:=bs h
     refine ZcD [3,5,7,17,18,21,22,23] (λs=>∃ (a6:AV) (a9:List HO),s=⟨[(3,.loc 3 0),(5,.loc 5 0),(7,a6),(17,iv a0_.Nodes),(18,iv i10),(21,Zae false a0_.Links),(22,iv ((List.length a0_.Links:Nat):Int)),(23,iv a4)],[(3,(Zac a0_)),(5,(Zbx a2_))],a9⟩/\HP a9 [.arr a6 1 false (List.map eB aJ)]) ?_ ?_
     ·clear h
      have h:=aj
      refine bk (sq ?_)
      obtain ⟨a2,az,h⟩:=bs h
      refine rgS ⟨[(3,.loc 3 0),(5,.loc 5 0),(7,a3),(8,iv a4),(9,.loc 9 0),(17,iv a0_.Nodes),(18,iv i10),(21,Zae false a0_.Links),(22,iv ((List.length a0_.Links:Nat):Int)),(23,iv a4)],[(3,(Zac a0_)),(5,(Zbx a2_)),(9,(Za0 a2))],a5⟩ (Zab.u 1 (Zan (ys:=[Zae false a0_.Links,iv a4]) (h:=Zal Zat az)) (Zab.u 0 (Zav (sz:=4) (off:=0) (cs:=[.int .i64 a2.A,.int .i64 a2.B,.int .i64 a2.Per,.int .i64 a2.Delay]) (r:=.agg (Za0 a2)) Zat az) (Zab.f (h:=(by cases a0<;>kernel_rfl))))) (by cases a0<;>kernel_rfl) (tq (sq ?_))
      obtain ⟨aX,hj,h⟩:=bs h
      refine rqR (λs=>s=⟨[(3,.loc 3 0),(5,.loc 5 0),(7,a3),(9,.loc 9 0),(17,iv a0_.Nodes),(18,iv i10),(21,Zae false a0_.Links),(22,iv ((List.length a0_.Links:Nat):Int)),(23,iv a4),(44,bv aX)],[(3,(Zac a0_)),(5,(Zbx a2_)),(9,(Za0 a2))],a5⟩) ?_ ?_
      ·clear h
       obtain ⟨aM,ay,hj⟩:=bs hj
       refine (EP.u 1 (Zan (ys:=[.loc 5 0,iv a4]) (h:=Zo9 (l:=a2_.l) ay rfl)) (EP.o 0 (Zri (t:=5) (off:=0) (cs:=(Zbx a2_)) (l:=a2_.l) (λx=>bv x) [] [] ay kr kr rfl rfl) ?_))
       rcases ZaC hj with ⟨aT,hj⟩|⟨aS,hj⟩
       ·refine (EP.u 0 (Zam (c:=(!aM)) (h:=aT)) ?_)
        obtain ⟨aL,ax,hj⟩:=bs hj
        obtain ⟨bl,be,_,b0,aG,b1,ar⟩:=HP.elem (k:=0) (a:=a3) (sz:=1) (frz:=false) eB hH rfl ax
        refine (EP.u 4 (Zan (ys:=[a3,iv a2.A]) (by cases a0<;>kernel_rfl) (ar .i64)) (EP.u 0 (ZaK (ZbH (H:=a5) (off:=0) (cs:=[.bool aL]) (r:=bv aL) eB ax aG)) ?_))
        obtain ⟨aK,aw,hj⟩:=bs hj
        obtain ⟨bj,bd,_,aY,aE,aZ,aq⟩:=HP.elem (k:=0) (a:=a3) (sz:=1) (frz:=false) eB hH rfl aw
        obtain rfl:=Zao hj
        exact (EP.u 3 (Zan (ys:=[a3,iv a2.B]) (by cases a0<;>kernel_rfl) (aq .i64)) (EP.u 0 (ZaK (ZbH (H:=a5) (off:=0) (cs:=[.bool aK]) (r:=bv aK) eB aw aE)) (EP.f (by show _=_;cases a0<;>kernel_rfl))))
       obtain rfl:=Zao hj
       exact (EP.u 0 (Zam (c:=(!aM)) (h:=aS)) (EP.f (by show _=_;cases a0<;>kernel_rfl)))
      clear hj
      rintro s hR
      obtain rfl:=hR
      refine tq (it h (λaR h=>?_) (λaR h=>?_))
      ·obtain ⟨bq,av,h⟩:=bs h
       obtain ⟨bi,bc,_,ao,aD,ap,an⟩:=HP.elem (k:=0) (a:=a3) (sz:=1) (frz:=false) eB hH rfl av
       obtain ⟨ba,aW,hH⟩:=HP.setRow (k:=0) (off:=0) (cs:=[bv true]) (ps:=[.bool true]) (e':=true) eB hH rfl ap aD (ao rfl) av kr kr
       replace hH:HP _ [.arr a3 1 false (List.map eB (List.set aB (Int.toNat a2.A) true))]:=hH
       obtain ⟨bp,au,h⟩:=bs h
       obtain ⟨bf,bb,_,al,aC,am,ak⟩:=HP.elem (k:=0) (a:=a3) (sz:=1) (frz:=false) eB hH rfl au
       obtain ⟨aQ,aV,hH⟩:=HP.setRow (k:=0) (off:=0) (cs:=[bv true]) (ps:=[.bool true]) (e':=true) eB hH rfl am aC (al rfl) au kr kr
       replace hH:HP _ [.arr a3 1 false (List.map eB (List.set (List.set aB (Int.toNat a2.A) true) (Int.toNat a2.B) true))]:=hH
       refine rqS ⟨[(3,.loc 3 0),(5,.loc 5 0),(7,a3),(17,iv a0_.Nodes),(18,iv i10),(21,Zae false a0_.Links),(22,iv ((List.length a0_.Links:Nat):Int)),(23,iv a4)],[(3,(Zac a0_)),(5,(Zbx a2_))],aQ⟩ (Zab.u 6 (Zan (ys:=[a3,iv a2.A]) (by cases a0<;>kernel_rfl) (an .i64)) (Zab.o 0 (Zmn (Zbe (H:=a5) (v:=bv true) (hw:=aW)) kr) (Zab.u 0 (Zan (ys:=[a3,iv a2.B]) (by cases a0<;>kernel_rfl) (ak .i64)) (Zab.o 0 (Zmn (Zbe (H:=ba) (v:=bv true) (hw:=aV)) kr) Zab.f)))) (by cases a0<;>kernel_rfl) (bn ?_)
       cases h
       exact ⟨rfl,⟨a3,aQ,(by show _=_;cases a0<;>kernel_rfl),(HP.pick hH [0] rfl)⟩⟩
      refine sk (bn ?_)
      cases h
      exact ⟨rfl,⟨a3,a5,(by show _=_;cases a0<;>kernel_rfl),(HP.pick hH [0] rfl)⟩⟩
     clear aj
     rintro s hR
     obtain ⟨a6,a9,rfl,hH⟩:=hR
     replace hH:HP _ [.arr a6 1 false (List.map eB aJ)]:=hH
     have ac:=ZaS (HP.get hH 0 rfl)
     refine rgS ⟨[(3,.loc 3 0),(5,.loc 5 0),(7,a6),(17,iv a0_.Nodes),(18,iv i10),(21,Zae false a0_.Links),(22,iv ((List.length a0_.Links:Nat):Int)),(23,iv (w64 (a4+1)))],[(3,(Zac a0_)),(5,(Zbx a2_))],a9⟩ Zab.f (by cases ac<;>kernel_rfl) ?_
     cases h
     exact ⟨_,rfl,⟨a6,a9,(by show _=_;cases ac<;>kernel_rfl),(HP.pick hH [0] rfl)⟩⟩
    refine kq (xq (tx ?_))
    cases h
    exact ⟨_,rfl,rfl,⟨a3,a5,(by show _=_;cases a0<;>kernel_rfl),(HP.pick hH [0] rfl)⟩⟩
   rintro e s hq
   obtain ⟨rfl,hR⟩:=hq
   obtain ⟨a7,aa,rfl,hH⟩:=hR
   replace hH:HP _ [.arr a7 1 false (List.map eB aI)]:=hH
   have ad:=ZaS (HP.get hH 0 rfl)
   refine bx (bn (tq (rgS ⟨[(3,.loc 3 0),(5,.loc 5 0),(7,a7),(17,iv a0_.Nodes),(18,iv (w64 (i10+1)))],[(3,(Zac a0_)),(5,(Zbx a2_))],aa⟩ Zab.f (by cases ad<;>kernel_rfl) ?_)))
   cases h
   exact ⟨_,rfl,⟨a7,aa,(by show _=_;cases ad<;>kernel_rfl),(HP.pick hH [0] rfl)⟩⟩
  refine kq (xq (tx ?_))
  cases h
  exact ⟨_,rfl,rfl,⟨a8,H9,(by show _=_;cases hfa8<;>kernel_rfl),(HP.pick hH [0] rfl)⟩⟩
 rintro e s hq
 obtain ⟨rfl,hR⟩:=hq
 obtain ⟨ae,aA,rfl,hH⟩:=hR
 replace hH:HP _ [.arr ae 1 false (List.map eB af)]:=hH
 have ab:=ZaS (HP.get hH 0 rfl)
 refine bx (tq (sq (rgS ⟨[(6,ae)],[],aA⟩ Zab.f (by cases ab<;>kernel_rfl) (tq (rt ?_)))))
 obtain rfl:=Zao h
 exact ZeB (H:=aA) (ys:=[ae]) (xs:=[.p (.sl 1 false (List.map eB af))]) (by cases ab<;>kernel_rfl) (by cases ab<;>kernel_rfl) (Zbs (HP.pure (k:=0) (frz:=false) eB hH rfl).2 Zci) kr
theorem ZkG (N:Nat)(c0_:Zah)(k0_:Nat)(H:List HO)(hH:HP H [.cel k0_ (Zai c0_)])(r:Bool)(h:ZfM N c0_=some r):Zcm Tryz.prog 68 [.ptr k0_ 0] H (bv r) H:=by
 unfold ZfM at h
 refine ZcN ZKV rfl rfl rfl (Zay _ _ _ (sq (rg Zab.f (tq (sq ?_)))))
 have hlc1:=HP.get hH 0 rfl
 obtain ⟨r2,hr2,h⟩:=bs h
 refine rg (Zab.u 1 (ZaD (H:=H) (id:=k0_) (off:=0) (cs:=(Zai c0_)) (c:=[iv c0_.Id]) (r:=iv c0_.Id) (hl:=hlc1)) (Zab.v 0 (Zaz (hc:=Zbf N c0_.Id 1 4095 r2 hr2)) Zab.f)) ?_
 replace hH:HP _ []:=HP.pick hH [] rfl
 refine tq (rt ?_)
 cases h
 exact Zb8 kr kr
theorem Zeo (N:Nat)(a0_:Zag)(a1_:Int)(r:Bool)(h:Zd2 N a0_ a1_=some r):Zba Tryz.prog 70 [.agg (Zac a0_),iv a1_] (bv r):=by
 unfold Zd2 at h
 have hH  := hp0
 refine ZaG ZKT rfl rfl (Zay _ _ _ ?_) rfl
 refine sq (rg Zab.f (tq (sq ?_)))
 obtain ⟨j5,hj,h⟩:=bs h
 refine rgR (λs=>s=⟨[(4,bv j5)],[],[]⟩) ?_ ?_
 ·clear h
  obtain ⟨r1,hr1,hj⟩:=bs hj
  rcases ZaC hj with ⟨hc2,hj⟩|⟨hc4,hj⟩
  ·refine (EP.h 4 (ZbB kr (Zbf N a1_ 0 (w64 (a0_.Nodes-1)) r1 hr1) hc2) ?_)
   obtain ⟨e3,he3,hj⟩:=bs hj
   obtain rfl:=Zao hj
   exact (EP.u 4 (Zan (ys:=[s_eB false a0_.Station,iv a1_]) (h:=Zal eB he3)) (EP.u 0 (Zav (sz:=1) (off:=0) (cs:=[.bool e3]) (r:=bv e3) eB he3) (EP.f kr)))
  obtain rfl:=Zao hj
  exact (EP.h 4 (ZbB kr (Zbf N a1_ 0 (w64 (a0_.Nodes-1)) r1 hr1) hc4) (EP.f kr))
 clear hj
 rintro s hR
 obtain rfl:=hR
 refine tq (rt ?_)
 cases h
 exact ZaA kr
theorem ZkE (N:Nat)(c0_:Zah)(k0_:Nat)(H:List HO)(hH:HP H [.cel k0_ (Zai c0_)])(r:Bool)(h:ZfK N c0_=some r):Zcm Tryz.prog 71 [.ptr k0_ 0] H (bv r) H:=by
 unfold ZfK at h
 refine ZcN ZKS rfl rfl rfl (Zay _ _ _ (sq (rg Zab.f (tq (sq ?_)))))
 have hlc1:=HP.get hH 0 rfl
 obtain ⟨r2,hr2,h⟩:=bs h
 refine rg (Zab.u 1 (ZaD (H:=H) (id:=k0_) (off:=4) (cs:=(Zai c0_)) (c:=[iv c0_.Size]) (r:=iv c0_.Size) (hl:=hlc1)) (Zab.v 0 (Zaz (hc:=Zbf N c0_.Size 84 1542 r2 hr2)) Zab.f)) ?_
 replace hH:HP _ []:=HP.pick hH [] rfl
 refine tq (rt ?_)
 cases h
 exact Zb8 kr kr
theorem ZkD (N:Nat)(c0_:Zah)(k0_:Nat)(H:List HO)(hH:HP H [.cel k0_ (Zai c0_)])(r:Bool)(h:ZfJ N c0_=some r):Zcm Tryz.prog 72 [.ptr k0_ 0] H (bv r) H:=by
 unfold ZfJ at h
 refine ZcN ZKR rfl rfl rfl (Zay _ _ _ (sq (rg Zab.f (tq (sq ?_)))))
 have hlc1:=HP.get hH 0 rfl
 obtain ⟨r2,hr2,h⟩:=bs h
 refine rg (Zab.u 1 (ZaD (H:=H) (id:=k0_) (off:=8) (cs:=(Zai c0_)) (c:=[iv c0_.Deadline]) (r:=iv c0_.Deadline) (hl:=hlc1)) (Zab.v 0 (Zaz (hc:=Zbf N c0_.Deadline 1 1099511627776 r2 hr2)) Zab.f)) ?_
 replace hH:HP _ []:=HP.pick hH [] rfl
 refine tq (rt ?_)
 cases h
 exact Zb8 kr kr
theorem ZkB (N:Nat)(c0_:Zah)(k0_:Nat)(H:List HO)(hH:HP H [.cel k0_ (Zai c0_)])(r:Bool)(h:ZfI N c0_=some r):Zcm Tryz.prog 75 [.ptr k0_ 0] H (bv r) H:=by
 unfold ZfI at h
 refine ZcN ZKO rfl rfl rfl (Zay _ _ _ (sq (rg Zab.f (tq (sq ?_)))))
 have hlc1:=HP.get hH 0 rfl
 obtain ⟨r2,hr2,h⟩:=bs h
 refine rg (Zab.u 1 (ZaD (H:=H) (id:=k0_) (off:=9) (cs:=(Zai c0_)) (c:=[Zaq false c0_.Routes]) (r:=Zaq false c0_.Routes) (hl:=hlc1)) (Zab.u 0 (Zan (ys:=[Zaq false c0_.Routes]) (h:=Zax (eSl 1 eI64))) (Zab.v 0 (Zaz (hc:=Zbf N ((List.length c0_.Routes:Nat):Int) 1 2 r2 hr2)) Zab.f))) ?_
 replace hH:HP _ []:=HP.pick hH [] rfl
 refine tq (rt ?_)
 cases h
 exact Zb8 kr kr
theorem ZhU (N:Nat)(a0_:(List Int))(a1_:Int)(r:Bool)(h:ZgW N a0_ a1_=some r):Zba Tryz.prog 80 [Zad false a0_,iv a1_] (bv r):=by
 unfold ZgW at h
 have hH  := hp0
 refine ZaG ZKJ rfl rfl (Zay _ _ _ ?_) rfl
 refine sq (rg Zab.f (tq (sq (sq (rg Zab.f (tq (bk ?_)))))))
 obtain ⟨a2,a0,h⟩:=bs h
 refine ZaT ((ZaI (λ(x:Int) s=>s=⟨[(0,Zad false a0_),(1,iv a1_),(5,iv x)],[],[]⟩) (λx:Int=>ZeW N a0_ a1_ x) (λ(p:(Unit)⊕(Bool)) e s=>match p with|(.inl p)=>e=.exit 0/\(s=⟨[],[],[]⟩)|(.inr p)=>e=.ret/\∃ xs,resL s i80.res=some xs/\ZbV xs=bv p) ?_ N _ a2 _ a0 kr).mono ?_)
 ·clear h a0
  rintro i1 o s h hR
  obtain rfl:=hR
  replace h:ZeW N a0_ a1_ i1=some o:=h
  unfold ZeW at h
  refine sq (sq (rg (Zab.u 2 (Zan (ys:=[Zad false a0_]) (h:=Zax eI64)) Zab.f) (tq (it h (λa4 h=>?_) (λa4 h=>?_)))))
  ·refine sk (tq (kq (sq (bk (sq ?_)))))
   obtain ⟨a5,a1,h⟩:=bs h
   refine rg (Zab.u 2 (Zan (ys:=[Zad false a0_,iv i1]) (h:=Zal eI64 a1)) (Zab.u 0 (Zav (sz:=1) (off:=0) (cs:=[.int .i64 a5]) (r:=iv a5) eI64 a1) Zab.f)) (tq (it h (λa3 h=>?_) (λa3 h=>?_)))
   ·refine sq (rg Zab.f (tq (rt (br (tr ?_)))))
    cases h
    exact ⟨_,rfl,rfl,ZaA kr⟩
   refine sk (bn (tq (kq (rg Zab.f ?_))))
   cases h
   exact ⟨_,rfl,kr⟩
  refine kq (xq (tx ?_))
  cases h
  exact ⟨_,rfl,rfl,kr⟩
 rintro e s hq
 rcases a2 with a7|a6
 ·dsimp only at h hq
  obtain ⟨rfl,hR⟩:=hq
  obtain rfl:=hR
  refine bx (tq (sq (rg Zab.f (tq (rt ?_)))))
  cases h
  exact ZaA kr
 dsimp only at h hq
 obtain ⟨rfl,hq⟩:=hq
 refine br (tr ?_)
 cases h
 exact hq
theorem Zhi (N:Nat)(a0_:Zaw)(a1_:Int)(a2_:Int)(r:Bool)(h:ZgH N a0_ a1_ a2_=some r):Zba Tryz.prog 81 [.agg (Zaj a0_),iv a1_,iv a2_] (bv r):=by
 unfold ZgH at h
 have hH  := hp0
 refine ZaG ZKI rfl rfl (Zay _ _ _ ?_) rfl
 refine sq (rg Zab.f (tq (sq ?_)))
 obtain ⟨j4,hj,h⟩:=bs h
 refine rgR (λs=>s=⟨[(6,bv j4)],[],[]⟩) ?_ ?_
 ·clear h
  rcases ZaC hj with ⟨hc1,hj⟩|⟨hc3,hj⟩
  ·refine (EP.u 1 (Zam (c:=(decide (a2_≥0))) (h:=hc1)) ?_)
   obtain ⟨e2,he2,hj⟩:=bs hj
   obtain rfl:=Zao hj
   exact (EP.u 5 (Zan (ys:=[Zad false a0_.Periods,iv a1_]) (h:=Zal eI64 he2)) (EP.u 0 (Zav (sz:=1) (off:=0) (cs:=[.int .i64 e2]) (r:=iv e2) eI64 he2) (EP.f kr)))
  obtain rfl:=Zao hj
  exact (EP.u 1 (Zam (c:=(decide (a2_≥0))) (h:=hc3)) (EP.f kr))
 clear hj
 rintro s hR
 obtain rfl:=hR
 refine tq (rt ?_)
 cases h
 exact ZaA kr
theorem ZnI (N:Nat)(a0_:Zag)(a1_:Int)(r:(List Int))(h:ZfB N a0_ a1_=some r):Zba Tryz.prog 85 [.agg (Zac a0_),iv a1_] (Zad false r):=by
 unfold ZfB at h
 have hH  := hp0
 refine ZaG ZKE rfl rfl (Zay _ _ _ ?_) rfl
 refine sq (rg Zab.f (tq (sq (rg Zab.f (tq (sq (sq (rg Zab.f (tq (bk ?_))))))))))
 obtain ⟨a7,a8,h⟩:=bs h
 refine ZaT ((ZaI (λ(x:Int×(List Int)) s=>∃ (a1:AV) (H2:List HO),s=⟨[(1,iv a1_),(2,.loc 2 0),(5,a1),(6,iv x.1)],[(2,(Zac a0_))],H2⟩/\HP H2 [.arr a1 1 false (List.map eI64 x.2)]) (λx:Int×(List Int)=>ZcA N a0_ a1_ x.1 x.2) (λ(p:(List Int)) e s=>e=.exit 0/\(∃ (a6:AV) (ab:List HO),s=⟨[(5,a6)],[],ab⟩/\HP ab [.arr a6 1 false (List.map eI64 p)])) ?_ N _ a7 _ a8 ⟨(.p (.sl 1 true [])),[],kr,(HP.pick (HP.nilArr hH 1 false) [0] rfl)⟩).mono ?_)
 ·clear h a8
  rintro ⟨i3,l4⟩ o s h hR
  obtain ⟨a1,H2,rfl,hH⟩:=hR
  replace hH:HP _ [.arr a1 1 false (List.map eI64 l4)]:=hH
  have hfa1:=ZaS (HP.get hH 0 rfl)
  replace h:ZcA N a0_ a1_ i3 l4=some o:=h
  unfold ZcA at h
  refine sq (sq (rgS ⟨[(1,iv a1_),(2,.loc 2 0),(5,a1),(6,iv i3),(12,bv (decide (i3<(w64 (2*((List.length a0_.Links:Nat):Int))))))],[(2,(Zac a0_))],H2⟩ (Zab.u 3 (Zan (ys:=[Zae false a0_.Links]) (h:=Zax Zat)) Zab.f) (by cases hfa1<;>kernel_rfl) (tq (it h (λal h=>?_) (λal h=>?_)))))
  ·refine sk (tq (kq ?_))
   obtain ⟨ad,a9,h⟩:=bs h
   refine ZcD [1,2,5,6] (λs=>∃ (a0:AV) (a2:List HO),s=⟨[(1,iv a1_),(2,.loc 2 0),(5,a0),(6,iv i3)],[(2,(Zac a0_))],a2⟩/\HP a2 [.arr a0 1 false (List.map eI64 ad)]) ?_ ?_
   ·clear h
    have h:=a9
    refine bk (sq ?_)
    obtain ⟨ac,af,h⟩:=bs h
    refine rgS ⟨[(1,iv a1_),(2,.loc 2 0),(5,a1),(6,iv i3),(19,bv (ac==a1_))],[(2,(Zac a0_))],H2⟩ (Zab.v 2 (Zaz (hc:=ZdR N a0_ i3 ac af)) Zab.f) (by cases hfa1<;>kernel_rfl) (tq (it h (λai h=>?_) (λai h=>?_)))
    ·obtain ⟨ak,ag,h⟩:=bs h
     obtain ⟨aa,ae,aj,hH⟩:=HP.app (k:=0) (a:=a1) (sz:=1) (frz:=false) eI64 hH rfl ag
     replace hH:HP _ [.arr aa 1 false (List.map eI64 ak)]:=hH
     have a4:=ZaS (HP.get hH 0 rfl)
     refine rgS ⟨[(1,iv a1_),(2,.loc 2 0),(5,aa),(6,iv i3)],[(2,(Zac a0_))],ae⟩ (Zab.h 3 (Ze9 (H:=H2) (a:=a1) (b:=Zad true [i3]) (by cases hfa1<;>kernel_rfl) (by cases hfa1<;>kernel_rfl) (by cases hfa1<;>kernel_rfl) (by cases hfa1<;>kernel_rfl) aj) Zab.f) (by cases hfa1<;>cases a4<;>kernel_rfl) (bn ?_)
     cases h
     exact ⟨rfl,⟨aa,ae,(by show _=_;cases a4<;>kernel_rfl),(HP.pick hH [0] rfl)⟩⟩
    refine sk (bn ?_)
    cases h
    exact ⟨rfl,⟨a1,H2,(by show _=_;cases hfa1<;>kernel_rfl),(HP.pick hH [0] rfl)⟩⟩
   clear a9
   rintro s hR
   obtain ⟨a0,a2,rfl,hH⟩:=hR
   replace hH:HP _ [.arr a0 1 false (List.map eI64 ad)]:=hH
   have a5:=ZaS (HP.get hH 0 rfl)
   refine rgS ⟨[(1,iv a1_),(2,.loc 2 0),(5,a0),(6,iv (w64 (i3+1)))],[(2,(Zac a0_))],a2⟩ Zab.f (by cases a5<;>kernel_rfl) ?_
   cases h
   exact ⟨_,rfl,⟨a0,a2,(by show _=_;cases a5<;>kernel_rfl),(HP.pick hH [0] rfl)⟩⟩
  refine kq (xq (tx ?_))
  cases h
  exact ⟨_,rfl,rfl,⟨a1,H2,(by show _=_;cases hfa1<;>kernel_rfl),(HP.pick hH [0] rfl)⟩⟩
 rintro e s hq
 obtain ⟨rfl,hR⟩:=hq
 obtain ⟨a6,ab,rfl,hH⟩:=hR
 replace hH:HP _ [.arr a6 1 false (List.map eI64 a7)]:=hH
 have a3:=ZaS (HP.get hH 0 rfl)
 refine bx (tq (sq (rgS ⟨[(4,a6)],[],ab⟩ Zab.f (by cases a3<;>kernel_rfl) (tq (rt ?_)))))
 obtain rfl:=Zao h
 exact ZeB (H:=ab) (ys:=[a6]) (xs:=[.p (.sl 1 false (List.map eI64 a7))]) (by cases a3<;>kernel_rfl) (by cases a3<;>kernel_rfl) (Zbs (HP.pure (k:=0) (frz:=false) eI64 hH rfl).2 Zci) kr
theorem ZoB (N:Nat)(a0_:Zag)(a1_:Int)(r:Bool)(h:ZhA N a0_ a1_=some r):Zba Tryz.prog 86 [.agg (Zac a0_),iv a1_] (bv r):=by
 unfold ZhA at h
 have hH  := hp0
 refine ZaG ZKD rfl rfl (Zay _ _ _ ?_) rfl
 refine sq (rg Zab.f (tq (sq (rgX ⟨[(4,bv ((decide (a1_≥0))&&(decide (a1_<(w64 (2*((List.length a0_.Links:Nat):Int)))))))],[],[]⟩ ?_ ?_))))
 ·rcases Bool.eq_false_or_eq_true (decide (a1_≥0)) with hc1|hc2
  ·exact (EP.u 1 (Zam (c:=(decide (a1_≥0))) (h:=hc1)) (EP.u 4 (Zan (ys:=[Zae false a0_.Links]) (h:=Zax Zat)) (EP.f (by simp only [hc1];kernel_rfl))))
  exact (EP.u 1 (Zam (c:=(decide (a1_≥0))) (h:=hc2)) (EP.f (by simp only [hc2];kernel_rfl)))
 refine tq (rt ?_)
 cases h
 exact ZaA kr
theorem ZgR (N:Nat)(a0_:Zag)(a1_:Int)(r:Bool)(h:Zhq N a0_ a1_=some r):Zba Tryz.prog 88 [.agg (Zac a0_),iv a1_] (bv r):=by
 unfold Zhq at h
 have hH  := hp0
 refine ZaG ZKB rfl rfl (Zay _ _ _ ?_) rfl
 refine sq (rg Zab.f (tq (sq (rgX ⟨[(4,bv ((decide (a1_≥0))&&(decide (a1_<a0_.Nodes))))],[],[]⟩ ?_ ?_))))
 ·rcases Bool.eq_false_or_eq_true (decide (a1_≥0)) with hc1|hc2
  ·exact (EP.u 1 (Zam (c:=(decide (a1_≥0))) (h:=hc1)) (EP.f (by simp only [hc1];kernel_rfl)))
  exact (EP.u 1 (Zam (c:=(decide (a1_≥0))) (h:=hc2)) (EP.f (by simp only [hc2];kernel_rfl)))
 refine tq (rt ?_)
 cases h
 exact ZaA kr
theorem Zmc (N:Nat)(a0_:Int)(c0_:Zag)(k0_:Nat)(H:List HO)(hH:HP H [.cel k0_ (Zac c0_)])(r:Bool)(h:ZgP N a0_ c0_=some r):Zcm Tryz.prog 89 [iv a0_,.ptr k0_ 0] H (bv r) H:=by
 unfold ZgP at h
 refine ZcN ZKA rfl rfl rfl (Zay _ _ _ (sq (rg Zab.f (tq (sq ?_)))))
 have hlc1:=HP.get hH 0 rfl
 obtain ⟨e2,he2,h⟩:=bs h
 refine rg (Zab.u 1 (ZaD (H:=H) (id:=k0_) (off:=2) (cs:=(Zac c0_)) (c:=[Zae false c0_.Links]) (r:=Zae false c0_.Links) (hl:=hlc1)) (Zab.u 1 (Zan (ys:=[Zae false c0_.Links,iv a0_]) (h:=Zal Zat he2)) (Zab.u 0 (Zav (sz:=4) (off:=0) (cs:=[.int .i64 e2.A,.int .i64 e2.B,.int .i64 e2.Per,.int .i64 e2.Delay]) (r:=.agg (Za0 e2)) Zat he2) Zab.f))) (tq (sq ?_))
 obtain ⟨j9,hj,h⟩:=bs h
 refine rgR (λs=>s=⟨[(3,bv j9)],[],H⟩) ?_ ?_
 ·clear h
  have hlc3:=HP.get hH 0 rfl
  refine (EP.u 1 (ZaD (H:=H) (id:=k0_) (off:=1) (cs:=(Zac c0_)) (c:=[s_eB false c0_.Station]) (r:=s_eB false c0_.Station) (hl:=hlc3)) ?_)
  obtain ⟨e4,he4,hj⟩:=bs hj
  refine (EP.u 2 (Zan (ys:=[s_eB false c0_.Station,iv e2.A]) (h:=Zal eB he4)) (EP.u 0 (Zav (sz:=1) (off:=0) (cs:=[.bool e4]) (r:=bv e4) eB he4) ?_))
  rcases ZaC hj with ⟨hc5,hj⟩|⟨hc6,hj⟩
  ·obtain rfl:=Zao hj
   exact (EP.u 0 (Zam (c:=(!e4)) (h:=hc5)) (EP.f kr))
  refine (EP.u 0 (Zam (c:=(!e4)) (h:=hc6)) ?_)
  have hlc7:=HP.get hH 0 rfl
  refine (EP.u 2 (ZaD (H:=H) (id:=k0_) (off:=1) (cs:=(Zac c0_)) (c:=[s_eB false c0_.Station]) (r:=s_eB false c0_.Station) (hl:=hlc7)) ?_)
  obtain ⟨e8,he8,hj⟩:=bs hj
  obtain rfl:=Zao hj
  exact (EP.u 2 (Zan (ys:=[s_eB false c0_.Station,iv e2.B]) (h:=Zal eB he8)) (EP.u 0 (Zav (sz:=1) (off:=0) (cs:=[.bool e8]) (r:=bv e8) eB he8) (EP.f kr)))
 clear hj
 rintro s hR
 obtain rfl:=hR
 refine tq (rt ?_)
 cases h
 exact Zb8 kr kr
theorem Zmb (N:Nat)(a0_:Int)(c0_:Zag)(k0_:Nat)(H:List HO)(hH:HP H [.cel k0_ (Zac c0_)])(r:Bool)(h:ZfT N a0_ c0_=some r):Zcm Tryz.prog 90 [iv a0_,.ptr k0_ 0] H (bv r) H:=by
 unfold ZfT at h
 refine ZcN ZKz rfl rfl rfl (Zay _ _ _ (sq (rg Zab.f (tq (sq ?_)))))
 have hlc1:=HP.get hH 0 rfl
 obtain ⟨e2,he2,h⟩:=bs h
 refine rg (Zab.u 1 (ZaD (H:=H) (id:=k0_) (off:=2) (cs:=(Zac c0_)) (c:=[Zae false c0_.Links]) (r:=Zae false c0_.Links) (hl:=hlc1)) (Zab.u 1 (Zan (ys:=[Zae false c0_.Links,iv a0_]) (h:=Zal Zat he2)) (Zab.u 0 (Zav (sz:=4) (off:=0) (cs:=[.int .i64 e2.A,.int .i64 e2.B,.int .i64 e2.Per,.int .i64 e2.Delay]) (r:=.agg (Za0 e2)) Zat he2) Zab.f))) (tq (sq (sq ?_)))
 have hlc3:=HP.get hH 0 rfl
 obtain ⟨l4,hl4,h⟩:=bs h
 refine rg (Zab.u 1 (ZaD (H:=H) (id:=k0_) (off:=2) (cs:=(Zac c0_)) (c:=[Zae false c0_.Links]) (r:=Zae false c0_.Links) (hl:=hlc3)) (Zab.u 1 (Zan (ys:=[Zae false c0_.Links,iv a0_]) (h:=ZhH Zat hl4)) (Zab.u 0 (Zan (ys:=[Zae false l4]) (h:=Zax Zat)) Zab.f))) ?_
 replace hH:HP _ []:=HP.pick hH [] rfl
 refine tq (bk ?_)
 obtain ⟨ab,a4,h⟩:=bs h
 refine ZaT ((ZaI (λ(x:Int) s=>s=⟨[(4,.loc 4 0),(15,Zae false l4),(16,iv ((List.length l4:Nat):Int)),(17,iv x)],[(4,(Za0 e2))],H⟩) (λx:Int=>Zc5 N e2 l4 x) (λ(p:(Unit)⊕(Bool)) e s=>match p with|(.inl p)=>e=.exit 0/\(s=⟨[],[],H⟩)|(.inr p)=>e=.ret/\∃ xs,rawL s i90.res=some xs/\ZbV (weakVs xs)=bv p/\s.H=H) ?_ N _ ab _ a4 kr).mono ?_)
 ·clear h a4
  rintro i5 o s h hR
  obtain rfl:=hR
  replace h:Zc5 N e2 l4 i5=some o:=h
  unfold Zc5 at h
  refine sq (rg Zab.f (tq (sq (it h (λad h=>?_) (λad h=>?_)))))
  ·refine sk (tq (kq (sq (bk (sq ?_)))))
   obtain ⟨a0,a5,h⟩:=bs h
   refine rg (Zab.u 0 (Zan (ys:=[Zae false l4,iv i5]) (h:=Zal Zat a5)) (Zab.u 0 (Zav (sz:=4) (off:=0) (cs:=[.int .i64 a0.A,.int .i64 a0.B,.int .i64 a0.Per,.int .i64 a0.Delay]) (r:=.agg (Za0 a0)) Zat a5) Zab.f)) (tq (sq (rgX ⟨[(4,.loc 4 0),(15,Zae false l4),(16,iv ((List.length l4:Nat):Int)),(17,iv i5),(46,bv (if (e2.A==a0.A) then ((e2.B==a0.B)||((e2.A==a0.B)&&(e2.B==a0.A))) else ((e2.A==a0.B)&&(e2.B==a0.A))))],[(4,(Za0 e2))],H⟩ ?_ ?_)))
   ·rcases Bool.eq_false_or_eq_true (e2.A==a0.A) with a1|a2
    ·refine (EP.u 4 (Zam (c:=(e2.A==a0.A)) (h:=a1)) ?_)
     rcases Bool.eq_false_or_eq_true (e2.B==a0.B) with aa|a3
     ·exact (EP.u 5 (Zam (c:=(e2.B==a0.B)) (h:=aa)) (EP.f (by simp only [a1,aa];kernel_rfl)))
     refine (EP.u 5 (Zam (c:=(e2.B==a0.B)) (h:=a3)) ?_)
     rcases Bool.eq_false_or_eq_true (e2.A==a0.B) with a9|a8
     ·exact (EP.u 6 (Zam (c:=(e2.A==a0.B)) (h:=a9)) (EP.f (by simp only [a1,a3,a9];kernel_rfl)))
     exact (EP.u 6 (Zam (c:=(e2.A==a0.B)) (h:=a8)) (EP.f (by simp only [a1,a3,a8];kernel_rfl)))
    refine (EP.u 4 (Zam (c:=(e2.A==a0.A)) (h:=a2)) ?_)
    rcases Bool.eq_false_or_eq_true (e2.A==a0.B) with a7|a6
    ·exact (EP.u 12 (Zam (c:=(e2.A==a0.B)) (h:=a7)) (EP.f (by simp only [a2,a7];kernel_rfl)))
    exact (EP.u 12 (Zam (c:=(e2.A==a0.B)) (h:=a6)) (EP.f (by simp only [a2,a6];kernel_rfl)))
   refine tq (it h (λac h=>?_) (λac h=>?_))
   ·refine sq (rg Zab.f (tq (rt (br (tr ?_)))))
    cases h
    exact ⟨_,rfl,rfl,Zb8 kr kr⟩
   refine sk (bn (tq (kq (rg Zab.f ?_))))
   cases h
   exact ⟨_,rfl,kr⟩
  refine kq (xq (tx ?_))
  cases h
  exact ⟨_,rfl,rfl,kr⟩
 rintro e s hq
 rcases ab with af|ae
 ·dsimp only at h hq
  obtain ⟨rfl,hR⟩:=hq
  obtain rfl:=hR
  refine bx (tq (sq (rg Zab.f (tq (rt ?_)))))
  cases h
  exact Zb8 kr kr
 dsimp only at h hq
 obtain ⟨rfl,hq⟩:=hq
 refine br (tr ?_)
 cases h
 exact hq
theorem Zma (N:Nat)(a0_:Int)(c0_:Zag)(k0_:Nat)(H:List HO)(hH:HP H [.cel k0_ (Zac c0_)])(r:Bool)(h:ZgO N a0_ c0_=some r):Zcm Tryz.prog 91 [iv a0_,.ptr k0_ 0] H (bv r) H:=by
 unfold ZgO at h
 refine ZcN ZKy rfl rfl rfl (Zay _ _ _ (sq (rg Zab.f (tq (sq ?_)))))
 have hlc1:=HP.get hH 0 rfl
 obtain ⟨e2,he2,h⟩:=bs h
 refine rg (Zab.u 1 (ZaD (H:=H) (id:=k0_) (off:=2) (cs:=(Zac c0_)) (c:=[Zae false c0_.Links]) (r:=Zae false c0_.Links) (hl:=hlc1)) (Zab.u 1 (Zan (ys:=[Zae false c0_.Links,iv a0_]) (h:=Zal Zat he2)) (Zab.u 0 (Zav (sz:=4) (off:=0) (cs:=[.int .i64 e2.A,.int .i64 e2.B,.int .i64 e2.Per,.int .i64 e2.Delay]) (r:=.agg (Za0 e2)) Zat he2) Zab.f))) ?_
 replace hH:HP _ []:=HP.pick hH [] rfl
 refine tq (sq (rgX ⟨[(3,bv ((decide (e2.Per≥1))&&((decide (e2.Per<=1000))&&((decide (e2.Delay≥0))&&(decide (e2.Delay<=10000))))))],[],H⟩ ?_ ?_))
 ·rcases Bool.eq_false_or_eq_true (decide (e2.Per≥1)) with hc3|hc8
  ·refine (EP.u 2 (Zam (c:=(decide (e2.Per≥1))) (h:=hc3)) ?_)
   rcases Bool.eq_false_or_eq_true (decide (e2.Per<=1000)) with hc4|hc7
   ·refine (EP.u 3 (Zam (c:=(decide (e2.Per<=1000))) (h:=hc4)) ?_)
    rcases Bool.eq_false_or_eq_true (decide (e2.Delay≥0)) with hc5|hc6
    ·exact (EP.u 4 (Zam (c:=(decide (e2.Delay≥0))) (h:=hc5)) (EP.f (by simp only [hc3,hc4,hc5];kernel_rfl)))
    exact (EP.u 4 (Zam (c:=(decide (e2.Delay≥0))) (h:=hc6)) (EP.f (by simp only [hc3,hc4,hc6];kernel_rfl)))
   exact (EP.u 3 (Zam (c:=(decide (e2.Per<=1000))) (h:=hc7)) (EP.f (by simp only [hc3,hc7];kernel_rfl)))
  exact (EP.u 2 (Zam (c:=(decide (e2.Per≥1))) (h:=hc8)) (EP.f (by simp only [hc8];kernel_rfl)))
 refine tq (rt ?_)
 cases h
 exact Zb8 kr kr
theorem ZgN (N:Nat)(a0_:(List Bool))(a1_:Bool)(r:Int)(h:ZcP N a0_ a1_=some r):Zba Tryz.prog 92 [s_eB false a0_,bv a1_] (iv r):=by
 unfold ZcP at h
 have hH  := hp0
 refine ZaG ZKx rfl rfl (Zay _ _ _ ?_) rfl
 refine sq (rg Zab.f (tq (sq (sq (rg (Zab.u 1 (Zan (ys:=[s_eB false a0_]) (h:=Zax eB)) Zab.f) (tq (bk ?_)))))))
 obtain ⟨a2,a0,h⟩:=bs h
 refine ZaT ((ZaI (λ(x:Int) s=>s=⟨[(0,s_eB false a0_),(1,bv a1_),(7,iv ((List.length a0_:Nat):Int)),(8,iv x)],[],[]⟩) (λx:Int=>Zbh N a0_ a1_ x) (λ(p:(Unit)⊕(Int)) e s=>match p with|(.inl p)=>e=.exit 0/\(s=⟨[],[],[]⟩)|(.inr p)=>e=.ret/\∃ xs,resL s i92.res=some xs/\ZbV xs=iv p) ?_ N _ a2 _ a0 kr).mono ?_)
 ·clear h a0
  rintro i1 o s h hR
  obtain rfl:=hR
  replace h:Zbh N a0_ a1_ i1=some o:=h
  unfold Zbh at h
  refine sq (rg Zab.f (tq (sq (it h (λa4 h=>?_) (λa4 h=>?_)))))
  ·refine sk (tq (kq (sq (bk (sq (rg Zab.f (tq (sq ?_))))))))
   obtain ⟨a5,a1,h⟩:=bs h
   refine rg (Zab.u 3 (Zan (ys:=[s_eB false a0_,iv i1]) (h:=Zal eB a1)) (Zab.u 0 (Zav (sz:=1) (off:=0) (cs:=[.bool a5]) (r:=bv a5) eB a1) Zab.f)) (tq (it h (λa3 h=>?_) (λa3 h=>?_)))
   ·refine sq (rg Zab.f (tq (rt (br (tr ?_)))))
    cases h
    exact ⟨_,rfl,rfl,ZaA kr⟩
   refine sk (bn (tq (kq (rg Zab.f ?_))))
   cases h
   exact ⟨_,rfl,kr⟩
  refine kq (xq (tx ?_))
  cases h
  exact ⟨_,rfl,rfl,kr⟩
 rintro e s hq
 rcases a2 with a7|a6
 ·dsimp only at h hq
  obtain ⟨rfl,hR⟩:=hq
  obtain rfl:=hR
  refine bx (tq (sq (rg Zab.f (tq (rt ?_)))))
  cases h
  exact ZaA kr
 dsimp only at h hq
 obtain ⟨rfl,hq⟩:=hq
 refine br (tr ?_)
 cases h
 exact hq
theorem Zge (N:Nat)(a0_:Int)(a1_:Int)(a2_:Int)(r:Bool)(h:ZdH N a0_ a1_ a2_=some r):Zba Tryz.prog 93 [iv a0_,iv a1_,iv a2_] (bv r):=by
 unfold ZdH at h
 have hH  := hp0
 refine ZaG ZKw rfl rfl (Zay _ _ _ ?_) rfl
 refine sq (rg Zab.f (tq (sq (rgX ⟨[(6,bv ((decide (a1_<=a0_))&&(decide (a0_<=a2_))))],[],[]⟩ ?_ ?_))))
 ·rcases Bool.eq_false_or_eq_true (decide (a1_<=a0_)) with hc1|hc2
  ·exact (EP.u 2 (Zam (c:=(decide (a1_<=a0_))) (h:=hc1)) (EP.f (by simp only [hc1];kernel_rfl)))
  exact (EP.u 2 (Zam (c:=(decide (a1_<=a0_))) (h:=hc2)) (EP.f (by simp only [hc2];kernel_rfl)))
 refine tq (rt ?_)
 cases h
 exact ZaA kr
theorem Zms (N:Nat)(a0_:(List Int))(a1_:(List Int))(r:Bool)(h:ZfW N a0_ a1_=some r):Zba Tryz.prog 98 [Zad false a0_,Zad false a1_] (bv r):=by
 unfold ZfW at h
 have hH  := hp0
 refine ZaG ZKr rfl rfl (Zay _ _ _ ?_) rfl
 refine sq (rg Zab.f (tq (sq (sq (rg (Zab.u 1 (Zan (ys:=[Zad false a0_]) (h:=Zax eI64)) Zab.f) (tq (bk ?_)))))))
 obtain ⟨a4,a0,h⟩:=bs h
 refine ZaT ((ZaI (λ(x:Int) s=>s=⟨[(1,Zad false a1_),(9,Zad false a0_),(10,iv ((List.length a0_:Nat):Int)),(11,iv x)],[],[]⟩) (λx:Int=>Zc7 N a0_ a1_ x) (λ(p:(Unit)⊕(Bool)) e s=>match p with|(.inl p)=>e=.exit 0/\(s=⟨[],[],[]⟩)|(.inr p)=>e=.ret/\∃ xs,resL s i98.res=some xs/\ZbV xs=bv p) ?_ N _ a4 _ a0 kr).mono ?_)
 ·clear h a0
  rintro i1 o s h hR
  obtain rfl:=hR
  replace h:Zc7 N a0_ a1_ i1=some o:=h
  unfold Zc7 at h
  refine sq (rg Zab.f (tq (sq (it h (λab h=>?_) (λab h=>?_)))))
  ·refine sk (tq (kq (sq (bk (sq ?_)))))
   obtain ⟨a3,a6,h⟩:=bs h
   refine rg (Zab.u 0 (Zan (ys:=[Zad false a0_,iv i1]) (h:=Zal eI64 a6)) (Zab.u 0 (Zav (sz:=1) (off:=0) (cs:=[.int .i64 a3]) (r:=iv a3) eI64 a6) Zab.f)) (tq (sq (rg (Zab.u 1 (Zan (ys:=[Zad false a1_]) (h:=Zax eI64)) Zab.f) (tq (bk ?_)))))
   obtain ⟨a5,a1,h⟩:=bs h
   refine ZaT ((ZaI (λ(x:Int) s=>s=⟨[(1,Zad false a1_),(6,iv a3),(9,Zad false a0_),(10,iv ((List.length a0_:Nat):Int)),(11,iv i1),(15,Zad false a1_),(16,iv ((List.length a1_:Nat):Int)),(17,iv x)],[],[]⟩) (λx:Int=>Zc6 N a1_ a3 x) (λ(p:(Unit)⊕(Bool)) e s=>match p with|(.inl p)=>e=.exit 2/\(s=⟨[(1,Zad false a1_),(9,Zad false a0_),(10,iv ((List.length a0_:Nat):Int)),(11,iv i1)],[],[]⟩)|(.inr p)=>e=.ret/\∃ xs,resL s i98.res=some xs/\ZbV xs=bv p) ?_ N _ a5 _ a1 kr).mono ?_)
   ·clear h a1
    rintro aa o s h hR
    obtain rfl:=hR
    replace h:Zc6 N a1_ a3 aa=some o:=h
    unfold Zc6 at h
    refine sq (rg Zab.f (tq (sq (it h (λa9 h=>?_) (λa9 h=>?_)))))
    ·refine sk (tq (kq (sq (bk (sq ?_)))))
     obtain ⟨a7,a2,h⟩:=bs h
     refine rg (Zab.u 0 (Zan (ys:=[Zad false a1_,iv aa]) (h:=Zal eI64 a2)) (Zab.u 0 (Zav (sz:=1) (off:=0) (cs:=[.int .i64 a7]) (r:=iv a7) eI64 a2) Zab.f)) (tq (sq (rg Zab.f (tq (it h (λa8 h=>?_) (λa8 h=>?_))))))
     ·refine sq (rg Zab.f (tq (rt (br (tr ?_)))))
      cases h
      exact ⟨_,rfl,rfl,ZaA kr⟩
     refine sk (bn (tq (kq (rg Zab.f ?_))))
     cases h
     exact ⟨_,rfl,kr⟩
    refine kq (xq (tx ?_))
    cases h
    exact ⟨_,rfl,rfl,kr⟩
   rintro e s hq
   rcases a5 with af|ae
   ·dsimp only at h hq
    obtain ⟨rfl,hR⟩:=hq
    obtain rfl:=hR
    refine bx (bn (tq (rg Zab.f ?_)))
    cases h
    exact ⟨_,rfl,kr⟩
   dsimp only at h hq
   obtain ⟨rfl,hq⟩:=hq
   refine br (br (tr ?_))
   cases h
   exact ⟨_,rfl,rfl,hq⟩
  refine kq (xq (tx ?_))
  cases h
  exact ⟨_,rfl,rfl,kr⟩
 rintro e s hq
 rcases a4 with ad|ac
 ·dsimp only at h hq
  obtain ⟨rfl,hR⟩:=hq
  obtain rfl:=hR
  refine bx (tq (sq (rg Zab.f (tq (rt ?_)))))
  cases h
  exact ZaA kr
 dsimp only at h hq
 obtain ⟨rfl,hq⟩:=hq
 refine br (tr ?_)
 cases h
 exact hq
theorem ZoE (N:Nat)(a0_:Zaw)(a1_:Int)(a2_:Int)(H:List HO)(r:Zaw×Int×Int)(h:ZkQ N a0_ a1_ a2_=some r):∃ (id0_ id1_ id2_:Nat) (H':List HO),Zcm Tryz.prog 100 [.agg (Zaj a0_),iv a1_,iv a2_] H (.fn 110 [] [.ptr id0_ 0,.ptr id1_ 0,.ptr id2_ 0]) H'/\Fp H H' [] [.cel id0_ [Zad false r.1.Periods,Zas false r.1.Uses],.cel id1_ [iv r.2.1],.cel id2_ [iv r.2.2]]:=by
 suffices hs:∃ r' H',Zcm Tryz.prog 100 [.agg (Zaj a0_),iv a1_,iv a2_] H r' H'/\∃ (id0_ id1_ id2_:Nat),r'=.fn 110 [] [.ptr id0_ 0,.ptr id1_ 0,.ptr id2_ 0]/\Fp H H' [] [.cel id0_ [Zad false r.1.Periods,Zas false r.1.Uses],.cel id1_ [iv r.2.1],.cel id2_ [iv r.2.2]] by
  obtain ⟨_,H',h1,id0_,id1_,id2_,rfl,h2⟩:=hs
  exact ⟨id0_,id1_,id2_,H',h1,h2⟩
 unfold ZkQ at h
 have hH:Fp H H [] []:=Fp.refl trivial
 refine Zk9 Zy1 (λr' H'=>∃ (id0_ id1_ id2_:Nat),r'=.fn 110 [] [.ptr id0_ 0,.ptr id1_ 0,.ptr id2_ 0]/\Fp H H' [] [.cel id0_ [Zad false r.1.Periods,Zas false r.1.Uses],.cel id1_ [iv r.2.1],.cel id2_ [iv r.2.2]]) (λr' H' ⟨_,_,_,e,_⟩=>by rw [e];rfl) rfl rfl (sq ?_)
 obtain ⟨id1,H2,hid1,hH2,hH⟩:=Fp.newCell hH (Zaj a0_)
 replace hH:Fp _ _ _ [.cel id1 (Zaj a0_)]:=hH
 obtain ⟨id3,H4,hid3,hH4,hH⟩:=Fp.newCell hH [iv a1_]
 replace hH:Fp _ _ _ [.cel id3 [iv a1_],.cel id1 (Zaj a0_)]:=hH
 obtain ⟨id5,H6,hid5,hH6,hH⟩:=Fp.newCell hH [iv a2_]
 replace hH:Fp _ _ _ [.cel id5 [iv a2_],.cel id3 [iv a1_],.cel id1 (Zaj a0_)]:=hH
 refine rg (Zab.h 0 (Zdn (H:=H) (v:=.agg (Zaj a0_)) (hid:=hid1) (hH:=hH2)) (Zab.h 0 (Zdn (H:=H2) (v:=iv a1_) (hid:=hid3) (hH:=hH4)) (Zab.h 0 (Zdn (H:=H4) (v:=iv a2_) (hid:=hid5) (hH:=hH6)) Zab.f))) (tq (sq (rg Zab.f (tq (rt ?_)))))
 cases h
 exact ⟨[.fn 110 [] [.ptr id1 0,.ptr id3 0,.ptr id5 0]],kr,id1,id3,id5,rfl,Fp.pk hH [2,1,0] rfl⟩
theorem Zie (N:Nat)(a0_:Zaw)(a1_:ZaB)(a2_:Int)(r:ZaL)(h:Zgj N a0_ a1_ a2_=some r):Zba Tryz.prog 102 [.agg (Zaj a0_),.agg (Zbb a1_),iv a2_] (.agg [iv r.Period,iv r.From,iv r.Long]):=by
 unfold Zgj at h
 have hH  := hp0
 refine ZaG ZyZ rfl rfl (Zay _ _ _ ?_) rfl
 refine sq (rg Zab.f (tq (sq ?_)))
 obtain ⟨e1,he1,h⟩:=bs h
 refine rg (Zab.u 4 (Zan (ys:=[Zad false a0_.Periods,iv a1_.Stream]) (h:=Zal eI64 he1)) (Zab.u 0 (Zav (sz:=1) (off:=0) (cs:=[.int .i64 e1]) (r:=iv e1) eI64 he1) Zab.f)) (tq (sq ?_))
 obtain ⟨m2,hm2,h⟩:=bs h
 refine rq (Zab.u 6 (Zan (ys:=[iv (w64 (a1_.From+a2_)),iv e1]) (h:=Zc4 hm2)) Zab.f) (tq (rt ?_))
 cases h
 exact ZaA kr
theorem Zf8 (N:Nat)(a0_:ZaL)(r:Int)(h:ZdO N a0_=some r):Zba Tryz.prog 103 [.agg (ZdG a0_)] (iv r):=by
 unfold ZdO at h
 have hH  := hp0
 refine ZaG ZyY rfl rfl (Zay _ _ _ ?_) rfl
 refine sq (rg Zab.f (tq (sq (sq (rgX ⟨[(1,.loc 1 0),(22,bv ((decide (a0_.Period<1))||((decide (a0_.Period>960))||((decide (a0_.From<0))||(decide (a0_.From≥a0_.Period))))))],[(1,(ZdG a0_))],[]⟩ ?_ ?_)))))
 ·rcases Bool.eq_false_or_eq_true (decide (a0_.Period<1)) with hc1|hc2
  ·exact (EP.u 2 (Zam (c:=(decide (a0_.Period<1))) (h:=hc1)) (EP.f (by simp only [hc1];kernel_rfl)))
  refine (EP.u 2 (Zam (c:=(decide (a0_.Period<1))) (h:=hc2)) ?_)
  rcases Bool.eq_false_or_eq_true (decide (a0_.Period>960)) with hc3|hc4
  ·exact (EP.u 3 (Zam (c:=(decide (a0_.Period>960))) (h:=hc3)) (EP.f (by simp only [hc2,hc3];kernel_rfl)))
  refine (EP.u 3 (Zam (c:=(decide (a0_.Period>960))) (h:=hc4)) ?_)
  rcases Bool.eq_false_or_eq_true (decide (a0_.From<0)) with hc5|hc6
  ·exact (EP.u 4 (Zam (c:=(decide (a0_.From<0))) (h:=hc5)) (EP.f (by simp only [hc2,hc4,hc5];kernel_rfl)))
  exact (EP.u 4 (Zam (c:=(decide (a0_.From<0))) (h:=hc6)) (EP.f (by simp only [hc2,hc4,hc6];kernel_rfl)))
 refine tq (it h (λhc7 h=>?_) (λhc7 h=>?_))
 ·refine sq (rg Zab.f (tq (rt (tr ?_))))
  cases h
  exact ZaA kr
 refine sk (tq (kq (sq (sq (rgX ⟨[(32,bv ((decide (a0_.Long<1))||(decide (a0_.Long>a0_.Period))))],[],[]⟩ ?_ ?_)))))
 ·rcases Bool.eq_false_or_eq_true (decide (a0_.Long<1)) with hc8|hc9
  ·exact (EP.u 2 (Zam (c:=(decide (a0_.Long<1))) (h:=hc8)) (EP.f (by simp only [hc8];kernel_rfl)))
  exact (EP.u 2 (Zam (c:=(decide (a0_.Long<1))) (h:=hc9)) (EP.f (by simp only [hc9];kernel_rfl)))
 refine tq (it h (λa0 h=>?_) (λa0 h=>?_))
 ·refine sq (rg Zab.f (tq (rt (tr ?_))))
  cases h
  exact ZaA kr
 refine sk (tq (kq (sq (rg Zab.f (tq (rt ?_))))))
 cases h
 exact ZaA kr
theorem Zjq (N:Nat)(a0_:Int)(a1_:Int)(r:Int)(h:Zfu N a0_ a1_=some r):Zba Tryz.prog 104 [iv a0_,iv a1_] (iv r):=by
 unfold Zfu at h
 have hH  := hp0
 refine ZaG ZyX rfl rfl (Zay _ _ _ ?_) rfl
 refine sq (rg Zab.f (tq (sq (bk ?_))))
 obtain ⟨a3,a0,h⟩:=bs h
 refine ZaT ((ZaI (λ(x:Int×Int) s=>s=⟨[(0,iv x.1),(1,iv x.2)],[],[]⟩) (λx:Int×Int=>Zdo N x.1 x.2) (λ(p:Int) e s=>e=.exit 0/\(s=⟨[(0,iv p)],[],[]⟩)) ?_ N _ a3 _ a0 kr).mono ?_)
 ·clear h a0
  rintro ⟨i1,i2⟩ o s h hR
  obtain rfl:=hR
  replace h:Zdo N i1 i2=some o:=h
  unfold Zdo at h
  refine sq (sq (rg Zab.f (tq (it h (λa2 h=>?_) (λa2 h=>?_)))))
  ·refine sk (tq (kq (bk ?_)))
   obtain ⟨a4,a1,h⟩:=bs h
   refine rq (Zab.u 3 (Zan (ys:=[iv i1,iv i2]) (h:=Zc4 a1)) Zab.f) (bn ?_)
   cases h
   exact ⟨_,rfl,kr⟩
  refine kq (xq (tx ?_))
  cases h
  exact ⟨_,rfl,rfl,kr⟩
 rintro e s hq
 obtain ⟨rfl,hR⟩:=hq
 obtain rfl:=hR
 refine bx (tq (sq (rg Zab.f (tq (rt ?_)))))
 cases h
 exact ZaA kr
theorem ZgV (N:Nat)(a0_:Za7)(a1_:(List Int))(H:List HO)(r:(List Int)×Za7)(h:ZdE N a0_ a1_=some r):∃ (id0_ id1_:Nat) (H':List HO),Zcm Tryz.prog 107 [.agg (Zac a0_.Topo),Zad false a1_] H (.fn 114 [] [.ptr id0_ 0,.ptr id1_ 0]) H'/\Fp H H' [] [.cel id0_ [Zad false r.1],.cel id1_ [iv r.2.Topo.Nodes,s_eB false r.2.Topo.Station,Zae false r.2.Topo.Links]]:=by
 suffices hs:∃ r' H',Zcm Tryz.prog 107 [.agg (Zac a0_.Topo),Zad false a1_] H r' H'/\∃ (id0_ id1_:Nat),r'=.fn 114 [] [.ptr id0_ 0,.ptr id1_ 0]/\Fp H H' [] [.cel id0_ [Zad false r.1],.cel id1_ [iv r.2.Topo.Nodes,s_eB false r.2.Topo.Station,Zae false r.2.Topo.Links]] by
  obtain ⟨_,H',h1,id0_,id1_,rfl,h2⟩:=hs
  exact ⟨id0_,id1_,H',h1,h2⟩
 unfold ZdE at h
 have hH:Fp H H [] []:=Fp.refl trivial
 refine Zk9 ZyU (λr' H'=>∃ (id0_ id1_:Nat),r'=.fn 114 [] [.ptr id0_ 0,.ptr id1_ 0]/\Fp H H' [] [.cel id0_ [Zad false r.1],.cel id1_ [iv r.2.Topo.Nodes,s_eB false r.2.Topo.Station,Zae false r.2.Topo.Links]]) (λr' H' ⟨_,_,e,_⟩=>by rw [e];rfl) rfl rfl (sq ?_)
 obtain ⟨id1,H2,hid1,hH2,hH⟩:=Fp.newCell hH (Zac a0_.Topo)
 replace hH:Fp _ _ _ [.cel id1 (Zac a0_.Topo)]:=hH
 obtain ⟨id3,H4,hid3,hH4,hH⟩:=Fp.newCell hH [Zad false a1_]
 replace hH:Fp _ _ _ [.cel id3 [Zad false a1_],.cel id1 (Zac a0_.Topo)]:=hH
 refine rg (Zab.h 0 (Zdn (H:=H) (v:=.agg (Zac a0_.Topo)) (hid:=hid1) (hH:=hH2)) (Zab.h 0 (Zdn (H:=H2) (v:=Zad false a1_) (hid:=hid3) (hH:=hH4)) Zab.f)) (tq (sq (rg Zab.f (tq (rt ?_)))))
 cases h
 exact ⟨[.fn 114 [] [.ptr id3 0,.ptr id1 0]],kr,id3,id1,rfl,Fp.pk hH [0,1] rfl⟩
theorem ZmF {σ:Type}(N:Nat)(y_:σ->ZaB->ZaB->Option (σ×Bool))(c0_:Zaw)(c1_:Int)(c2_:Int)(s_:σ)(k0_:Nat)(k1_:Nat)(k2_:Nat)(yid_:Nat)(T_:σ->List Za9->Prop)(hy_:∀ (x0:ZaB) (x1:ZaB) (s:σ) (r:σ×Bool) (H:List HO) (its:List Za9),T_ s its->HP H its->y_ s x0 x1=some r->∃ H' its',ZiY Tryz.prog yid_ [.agg [iv x0.Stream,iv x0.Port,iv x0.From,iv x0.Long],.agg [iv x1.Stream,iv x1.Port,iv x1.From,iv x1.Long]] H r.2 H'/\T_ r.1 its'/\Fp H H' its its')(H:List HO)(its:List Za9)(hT:T_ s_ its)(hH:HP H (.cel k0_ (Zaj c0_)::.cel k1_ [iv c1_]::.cel k2_ [iv c2_]::its))(r:σ)(h:ZiG N y_ c0_ c1_ c2_ s_=some r):∃ H' its',Zcm Tryz.prog 110 [.yl yid_,.ptr k0_ 0,.ptr k1_ 0,.ptr k2_ 0] H (.tup []) H'/\T_ r its'/\Fp H H' (.cel k0_ (Zaj c0_)::.cel k1_ [iv c1_]::.cel k2_ [iv c2_]::its) (.cel k0_ (Zaj c0_)::.cel k1_ [iv c1_]::.cel k2_ [iv c2_]::its'):=by
 suffices hs:∃ H',Zcm Tryz.prog 110 [.yl yid_,.ptr k0_ 0,.ptr k1_ 0,.ptr k2_ 0] H (.tup []) H'/\∃ its',T_ r its'/\Fp H H' (.cel k0_ (Zaj c0_)::.cel k1_ [iv c1_]::.cel k2_ [iv c2_]::its) (.cel k0_ (Zaj c0_)::.cel k1_ [iv c1_]::.cel k2_ [iv c2_]::its') by
  obtain ⟨H',h1,its',h2,h3⟩:=hs
  exact ⟨H',its',h1,h2,h3⟩
 unfold ZiG at h
 replace hH:Fp H H (.cel k0_ (Zaj c0_)::.cel k1_ [iv c1_]::.cel k2_ [iv c2_]::its) (.cel k0_ (Zaj c0_)::.cel k1_ [iv c1_]::.cel k2_ [iv c2_]::its):=Fp.refl hH
 refine Zno ZyR (λH'=>∃ its',T_ r its'/\Fp H H' (.cel k0_ (Zaj c0_)::.cel k1_ [iv c1_]::.cel k2_ [iv c2_]::its) (.cel k0_ (Zaj c0_)::.cel k1_ [iv c1_]::.cel k2_ [iv c2_]::its')) rfl rfl rfl (sq ?_)
 have hlc1:=Fp.get hH 0 rfl
 refine rg (Zab.u 1 (ZaD (H:=H) (id:=k0_) (off:=1) (cs:=(Zaj c0_)) (c:=[Zas false c0_.Uses]) (r:=Zas false c0_.Uses) (hl:=hlc1)) (Zab.u 0 (Zan (ys:=[Zas false c0_.Uses]) (h:=Zax Zap)) Zab.f)) (tq (bk ?_))
 obtain ⟨ag,a9,h⟩:=bs h
 refine ZaT ((ZaI (λ(x:Int×σ) s=>∃ (its2:List Za9) (H3:List HO),s=⟨[(0,.yl yid_),(1,.ptr k0_ 0),(2,.ptr k1_ 0),(3,.ptr k2_ 0),(10,Zas false c0_.Uses),(11,iv ((List.length c0_.Uses:Nat):Int)),(12,iv x.1)],[],H3⟩/\T_ x.2 its2/\Fp H H3 (.cel k0_ (Zaj c0_)::.cel k1_ [iv c1_]::.cel k2_ [iv c2_]::its) (.cel k0_ (Zaj c0_)::.cel k1_ [iv c1_]::.cel k2_ [iv c2_]::its2)) (λx:Int×σ=>Zfh N y_ c0_ c1_ c2_ x.1 x.2) (λ(p:(σ)⊕(σ)) e s=>match p with|(.inl p)=>e=.exit 0/\(∃ (a3:List Za9) (af:List HO),s=⟨[],[],af⟩/\T_ p a3/\Fp H af (.cel k0_ (Zaj c0_)::.cel k1_ [iv c1_]::.cel k2_ [iv c2_]::its) (.cel k0_ (Zaj c0_)::.cel k1_ [iv c1_]::.cel k2_ [iv c2_]::a3))|(.inr p)=>e=.ret/\∃ xs,rawL s i110.res=some xs/\ZbV xs=.tup []/\∃ its',T_ p its'/\Fp H s.H (.cel k0_ (Zaj c0_)::.cel k1_ [iv c1_]::.cel k2_ [iv c2_]::its) (.cel k0_ (Zaj c0_)::.cel k1_ [iv c1_]::.cel k2_ [iv c2_]::its')) ?_ N _ ag _ a9 ⟨its,H,kr,hT,Fp.at hH⟩).mono ?_)
 ·clear h a9
  rintro ⟨i4,g5⟩ o s h hR
  obtain ⟨its2,H3,rfl,hT,hH⟩:=hR
  replace hH:Fp H H3 (.cel k0_ (Zaj c0_)::.cel k1_ [iv c1_]::.cel k2_ [iv c2_]::its) (.cel k0_ (Zaj c0_)::.cel k1_ [iv c1_]::.cel k2_ [iv c2_]::its2):=hH
  replace h:Zfh N y_ c0_ c1_ c2_ i4 g5=some o:=h
  unfold Zfh at h
  refine sq (rg Zab.f (tq (sq (it h (λaA h=>?_) (λaA h=>?_)))))
  ·refine sk (tq (kq (sq (bk (sq ?_)))))
   obtain ⟨a4,aj,h⟩:=bs h
   refine rg (Zab.u 1 (Zan (ys:=[Zas false c0_.Uses,iv i4]) (h:=Zal Zap aj)) (Zab.u 0 (Zav (sz:=4) (off:=0) (cs:=[.int .i64 a4.Stream,.int .i64 a4.Port,.int .i64 a4.From,.int .i64 a4.Long]) (r:=.agg (Zbb a4)) Zap aj) Zab.f)) (tq (sq (sq ?_)))
   have an:=Fp.get hH 1 rfl
   refine rg (Zab.u 2 (ZaD (H:=H3) (id:=k1_) (off:=0) (cs:=[iv c1_]) (c:=[iv c1_]) (r:=iv c1_) (hl:=an)) Zab.f) (tq (it h (λaz h=>?_) (λaz h=>?_)))
   ·refine kq (xq (tx (bx (tq (kq (rg Zab.f ?_))))))
    cases h
    exact ⟨_,rfl,⟨its2,H3,kr,hT,Fp.at hH⟩⟩
   refine sk (tq (kq (sq ?_)))
   have am:=Fp.get hH 0 rfl
   refine rg (Zab.u 1 (ZaD (H:=H3) (id:=k0_) (off:=1) (cs:=(Zaj c0_)) (c:=[Zas false c0_.Uses]) (r:=Zas false c0_.Uses) (hl:=am)) (Zab.u 0 (Zan (ys:=[Zas false c0_.Uses]) (h:=Zax Zap)) Zab.f)) (tq (bk ?_))
   obtain ⟨ai,aa,h⟩:=bs h
   refine ZaT ((ZaI (λ(x:Int×σ) s=>∃ (a0:List Za9) (a5:List HO),s=⟨[(0,.yl yid_),(1,.ptr k0_ 0),(2,.ptr k1_ 0),(3,.ptr k2_ 0),(5,iv i4),(6,.loc 6 0),(10,Zas false c0_.Uses),(11,iv ((List.length c0_.Uses:Nat):Int)),(12,iv i4),(22,Zas false c0_.Uses),(23,iv ((List.length c0_.Uses:Nat):Int)),(24,iv x.1)],[(6,(Zbb a4))],a5⟩/\T_ x.2 a0/\Fp H a5 (.cel k0_ (Zaj c0_)::.cel k1_ [iv c1_]::.cel k2_ [iv c2_]::its) (.cel k0_ (Zaj c0_)::.cel k1_ [iv c1_]::.cel k2_ [iv c2_]::a0)) (λx:Int×σ=>Zfg N y_ c0_ c2_ i4 a4 x.1 x.2) (λ(p:(σ)⊕(σ)) e s=>match p with|(.inl p)=>e=.exit 2/\(∃ (a2:List Za9) (a7:List HO),s=⟨[(0,.yl yid_),(1,.ptr k0_ 0),(2,.ptr k1_ 0),(3,.ptr k2_ 0),(10,Zas false c0_.Uses),(11,iv ((List.length c0_.Uses:Nat):Int)),(12,iv i4)],[],a7⟩/\T_ p a2/\Fp H a7 (.cel k0_ (Zaj c0_)::.cel k1_ [iv c1_]::.cel k2_ [iv c2_]::its) (.cel k0_ (Zaj c0_)::.cel k1_ [iv c1_]::.cel k2_ [iv c2_]::a2))|(.inr p)=>e=.ret/\∃ xs,rawL s i110.res=some xs/\ZbV xs=.tup []/\∃ its',T_ p its'/\Fp H s.H (.cel k0_ (Zaj c0_)::.cel k1_ [iv c1_]::.cel k2_ [iv c2_]::its) (.cel k0_ (Zaj c0_)::.cel k1_ [iv c1_]::.cel k2_ [iv c2_]::its')) ?_ N _ ai _ aa ⟨its2,H3,kr,hT,Fp.at hH⟩).mono ?_)
   ·clear h aa
    rintro ⟨a8,aB⟩ o s h hR
    obtain ⟨a0,a5,rfl,hT,hH⟩:=hR
    replace hH:Fp H a5 (.cel k0_ (Zaj c0_)::.cel k1_ [iv c1_]::.cel k2_ [iv c2_]::its) (.cel k0_ (Zaj c0_)::.cel k1_ [iv c1_]::.cel k2_ [iv c2_]::a0):=hH
    replace h:Zfg N y_ c0_ c2_ i4 a4 a8 aB=some o:=h
    unfold Zfg at h
    refine sq (rg Zab.f (tq (sq (it h (λaw h=>?_) (λaw h=>?_)))))
    ·refine sk (tq (kq (sq (bk (sq ?_)))))
     obtain ⟨a1,ab,h⟩:=bs h
     refine rg (Zab.u 1 (Zan (ys:=[Zas false c0_.Uses,iv a8]) (h:=Zal Zap ab)) (Zab.u 0 (Zav (sz:=4) (off:=0) (cs:=[.int .i64 a1.Stream,.int .i64 a1.Port,.int .i64 a1.From,.int .i64 a1.Long]) (r:=.agg (Zbb a1)) Zap ab) Zab.f)) (tq (sq (sq ?_)))
     obtain ⟨ay,hj,h⟩:=bs h
     refine rgR (λs=>s=⟨[(0,.yl yid_),(1,.ptr k0_ 0),(2,.ptr k1_ 0),(3,.ptr k2_ 0),(5,iv i4),(6,.loc 6 0),(8,.loc 8 0),(10,Zas false c0_.Uses),(11,iv ((List.length c0_.Uses:Nat):Int)),(12,iv i4),(22,Zas false c0_.Uses),(23,iv ((List.length c0_.Uses:Nat):Int)),(24,iv a8),(44,bv ay)],[(6,(Zbb a4)),(8,(Zbb a1))],a5⟩) ?_ ?_
     ·clear h
      rcases ZaC hj with ⟨av,hj⟩|⟨au,hj⟩
      ·obtain rfl:=Zao hj
       exact (EP.u 2 (Zam (c:=(a8==i4)) (h:=av)) (EP.f kr))
      refine (EP.u 2 (Zam (c:=(a8==i4)) (h:=au)) ?_)
      have ad:=Fp.get hH 2 rfl
      refine (EP.u 3 (ZaD (H:=a5) (id:=k2_) (off:=0) (cs:=[iv c2_]) (c:=[iv c2_]) (r:=iv c2_) (hl:=ad)) ?_)
      rcases ZaC hj with ⟨ar,hj⟩|⟨aq,hj⟩
      ·obtain rfl:=Zao hj
       exact (EP.u 0 (Zam (c:=(a1.Stream != c2_)) (h:=ar)) (EP.f kr))
      obtain rfl:=Zao hj
      exact (EP.u 0 (Zam (c:=(a1.Stream != c2_)) (h:=aq)) (EP.f kr))
     clear hj
     rintro s hR
     obtain rfl:=hR
     refine tq (it h (λap h=>?_) (λap h=>?_))
     ·refine kq (xq (tx (bx (tq (kq (rg Zab.f ?_))))))
      cases h
      exact ⟨_,rfl,⟨a0,a5,kr,hT,Fp.at hH⟩⟩
     refine sk (tq (kq (sq ?_)))
     obtain ⟨ax,al,h⟩:=bs h
     obtain ⟨ak,a6,ac,hT,ae⟩:=hy_ a4 a1 aB ax a5 a0 hT (Fp.tail (own:=[.cel k0_ (Zaj c0_),.cel k1_ [iv c1_],.cel k2_ [iv c2_]]) (its:=a0) hH) al
     replace hH:Fp H ak (.cel k0_ (Zaj c0_)::.cel k1_ [iv c1_]::.cel k2_ [iv c2_]::its) (.cel k0_ (Zaj c0_)::.cel k1_ [iv c1_]::.cel k2_ [iv c2_]::a6):=Fp.callT (own:=[.cel k0_ (Zaj c0_),.cel k1_ [iv c1_],.cel k2_ [iv c2_]]) (its:=a0) hH ae
     refine rg (Zab.v 3 (Zou (H:=a5) (id:=yid_) (ys:=[.agg (Zbb a4),.agg (Zbb a1)]) kr kr kr kr ac) Zab.f) (tq (it h (λao h=>?_) (λao h=>?_)))
     ·refine rt (br (tr ?_))
      cases h
      exact ⟨_,rfl,rfl,⟨[],kr,kr,a6,hT,Fp.at hH⟩⟩
     refine sk (bn (tq (kq (rg Zab.f ?_))))
     cases h
     exact ⟨_,rfl,⟨a6,ak,kr,hT,Fp.at hH⟩⟩
    refine kq (xq (tx ?_))
    cases h
    exact ⟨_,rfl,rfl,⟨a0,a5,kr,hT,Fp.at hH⟩⟩
   rintro e s hq
   rcases ai with aG|aE
   ·dsimp only at h hq
    obtain ⟨rfl,hR⟩:=hq
    obtain ⟨a2,a7,rfl,hT,hH⟩:=hR
    replace hH:Fp H a7 (.cel k0_ (Zaj c0_)::.cel k1_ [iv c1_]::.cel k2_ [iv c2_]::its) (.cel k0_ (Zaj c0_)::.cel k1_ [iv c1_]::.cel k2_ [iv c2_]::a2):=hH
    refine bx (bn (tq (kq (rg Zab.f ?_))))
    cases h
    exact ⟨_,rfl,⟨a2,a7,kr,hT,Fp.at hH⟩⟩
   dsimp only at h hq
   obtain ⟨rfl,hq⟩:=hq
   refine br (br (tr ?_))
   cases h
   exact ⟨_,rfl,rfl,hq⟩
  refine kq (xq (tx ?_))
  cases h
  exact ⟨_,rfl,rfl,⟨its2,H3,kr,hT,Fp.at hH⟩⟩
 rintro e s hq
 rcases ag with aD|aC
 ·dsimp only at h hq
  obtain ⟨rfl,hR⟩:=hq
  obtain ⟨a3,af,rfl,hT,hH⟩:=hR
  replace hH:Fp H af (.cel k0_ (Zaj c0_)::.cel k1_ [iv c1_]::.cel k2_ [iv c2_]::its) (.cel k0_ (Zaj c0_)::.cel k1_ [iv c1_]::.cel k2_ [iv c2_]::a3):=hH
  refine bx ?_
  cases h
  exact ⟨[],kr,kr,a3,hT,Fp.at hH⟩
 dsimp only at h hq
 obtain ⟨rfl,hq⟩:=hq
 refine br ?_
 cases h
 exact hq
theorem Zgd {σ:Type}(N:Nat)(y_:σ->Int->ZbU->Option (σ×Bool))(c0_:(List Int))(c1_:Za7)(s_:σ)(k0_:Nat)(k1_:Nat)(yid_:Nat)(T_:σ->List Za9->Prop)(hy_:∀ (x0:Int) (x1:ZbU) (s:σ) (r:σ×Bool) (H:List HO) (its:List Za9),T_ s its->HP H its->y_ s x0 x1=some r->∃ H' its',ZiY Tryz.prog yid_ [iv x0,.agg [iv x1.port,iv x1.from_,iv x1.to_]] H r.2 H'/\T_ r.1 its'/\Fp H H' its its')(H:List HO)(its:List Za9)(hT:T_ s_ its)(hH:HP H (.cel k0_ [Zad false c0_]::.cel k1_ (Zac c1_.Topo)::its))(r:σ)(h:Zc0 N y_ c0_ c1_ s_=some r):∃ H' its',Zcm Tryz.prog 114 [.yl yid_,.ptr k0_ 0,.ptr k1_ 0] H (.tup []) H'/\T_ r its'/\Fp H H' (.cel k0_ [Zad false c0_]::.cel k1_ (Zac c1_.Topo)::its) (.cel k0_ [Zad false c0_]::.cel k1_ (Zac c1_.Topo)::its'):=by
 suffices hs:∃ H',Zcm Tryz.prog 114 [.yl yid_,.ptr k0_ 0,.ptr k1_ 0] H (.tup []) H'/\∃ its',T_ r its'/\Fp H H' (.cel k0_ [Zad false c0_]::.cel k1_ (Zac c1_.Topo)::its) (.cel k0_ [Zad false c0_]::.cel k1_ (Zac c1_.Topo)::its') by
  obtain ⟨H',h1,its',h2,h3⟩:=hs
  exact ⟨H',its',h1,h2,h3⟩
 unfold Zc0 at h
 replace hH:Fp H H (.cel k0_ [Zad false c0_]::.cel k1_ (Zac c1_.Topo)::its) (.cel k0_ [Zad false c0_]::.cel k1_ (Zac c1_.Topo)::its):=Fp.refl hH
 refine Zno ZyN (λH'=>∃ its',T_ r its'/\Fp H H' (.cel k0_ [Zad false c0_]::.cel k1_ (Zac c1_.Topo)::its) (.cel k0_ [Zad false c0_]::.cel k1_ (Zac c1_.Topo)::its')) rfl rfl rfl (ZsN (EvI.scope (sq (ZsO (tq (sq ?_))))))
 have hlc1:=Fp.get hH 0 rfl
 refine rg (Zab.u 0 (ZaD (H:=H) (id:=k0_) (off:=0) (cs:=[Zad false c0_]) (c:=[Zad false c0_]) (r:=Zad false c0_) (hl:=hlc1)) (Zab.u 0 (Zan (ys:=[Zad false c0_]) (h:=Zax eI64)) Zab.f)) (tq (bk ?_))
 obtain ⟨ak,a4,h⟩:=bs h
 refine ZaT ((ZaI (λ(x:Int×σ) s=>∃ (its2:List Za9) (H3:List HO),s=⟨[(0,.yl yid_),(2,.ptr k1_ 0),(8,Zad false c0_),(9,iv ((List.length c0_:Nat):Int)),(10,iv x.1)],[],H3⟩/\T_ x.2 its2/\Fp H H3 (.cel k0_ [Zad false c0_]::.cel k1_ (Zac c1_.Topo)::its) (.cel k0_ [Zad false c0_]::.cel k1_ (Zac c1_.Topo)::its2)) (λx:Int×σ=>Za4 N y_ c0_ c1_ x.1 x.2) (λ(p:σ) e s=>e=.exit 0/\(∃ (a0:List Za9) (aa:List HO),s=⟨[],[],aa⟩/\T_ p a0/\Fp H aa (.cel k0_ [Zad false c0_]::.cel k1_ (Zac c1_.Topo)::its) (.cel k0_ [Zad false c0_]::.cel k1_ (Zac c1_.Topo)::a0))) ?_ N _ ak _ a4 ⟨its,H,kr,hT,Fp.at hH⟩).mono ?_)
 ·clear h a4
  rintro ⟨i4,g5⟩ o s h hR
  obtain ⟨its2,H3,rfl,hT,hH⟩:=hR
  replace hH:Fp H H3 (.cel k0_ [Zad false c0_]::.cel k1_ (Zac c1_.Topo)::its) (.cel k0_ [Zad false c0_]::.cel k1_ (Zac c1_.Topo)::its2):=hH
  replace h:Za4 N y_ c0_ c1_ i4 g5=some o:=h
  unfold Za4 at h
  refine sq (rg Zab.f (tq (sq (it h (λao h=>?_) (λao h=>?_)))))
  ·refine sk (tq (kq (sq (bk (sq ?_)))))
   obtain ⟨a3,ac,h⟩:=bs h
   refine rg (Zab.u 1 (Zan (ys:=[Zad false c0_,iv i4]) (h:=Zal eI64 ac)) (Zab.u 0 (Zav (sz:=1) (off:=0) (cs:=[.int .i64 a3]) (r:=iv a3) eI64 ac) Zab.f)) (tq (sq (sq ?_)))
   obtain ⟨ap,hj,h⟩:=bs h
   refine rgR (λs=>s=⟨[(0,.yl yid_),(2,.ptr k1_ 0),(4,iv i4),(5,iv a3),(8,Zad false c0_),(9,iv ((List.length c0_:Nat):Int)),(10,iv i4),(25,bv ap)],[],H3⟩) ?_ ?_
   ·clear h
    rcases ZaC hj with ⟨an,hj⟩|⟨am,hj⟩
    ·obtain rfl:=Zao hj
     exact (EP.u 1 (Zam (c:=(decide (a3<0))) (h:=an)) (EP.f kr))
    refine (EP.u 1 (Zam (c:=(decide (a3<0))) (h:=am)) ?_)
    have af:=Fp.get hH 1 rfl
    obtain rfl:=Zao hj
    exact (EP.u 4 (ZaD (H:=H3) (id:=k1_) (off:=2) (cs:=(Zac c1_.Topo)) (c:=[Zae false c1_.Topo.Links]) (r:=Zae false c1_.Topo.Links) (hl:=af)) (EP.u 0 (Zan (ys:=[Zae false c1_.Topo.Links]) (h:=Zax Zat)) (EP.f kr)))
   clear hj
   rintro s hR
   obtain rfl:=hR
   refine tq (it h (λal h=>?_) (λal h=>?_))
   ·refine kq (xq (tx (bo (tx ?_))))
    cases h
    exact ⟨_,rfl,rfl,⟨its2,H3,kr,hT,Fp.at hH⟩⟩
   refine sk (tq (kq (sq ?_)))
   have ae:=Fp.get hH 1 rfl
   obtain ⟨a6,ab,h⟩:=bs h
   refine rg (Zab.u 2 (ZaD (H:=H3) (id:=k1_) (off:=2) (cs:=(Zac c1_.Topo)) (c:=[Zae false c1_.Topo.Links]) (r:=Zae false c1_.Topo.Links) (hl:=ae)) (Zab.u 2 (Zan (ys:=[Zae false c1_.Topo.Links,iv (w64 (Int.tdiv a3 2))]) (h:=Zal Zat ab)) (Zab.u 0 (Zav (sz:=4) (off:=0) (cs:=[.int .i64 a6.A,.int .i64 a6.B,.int .i64 a6.Per,.int .i64 a6.Delay]) (r:=.agg (Za0 a6)) Zat ab) Zab.f))) (tq (sq (rg Zab.f (tq ?_))))
   obtain ⟨a1,a5,h⟩:=bs h
   refine ZcD [0,2,4,7,8,9,10] (λs=>s=⟨[(0,.yl yid_),(2,.ptr k1_ 0),(4,iv i4),(7,.loc 7 0),(8,Zad false c0_),(9,iv ((List.length c0_:Nat):Int)),(10,iv i4)],[(7,[iv a3,iv a1.1,iv a1.2])],H3⟩) ?_ ?_
   ·clear h
    have h:=a5
    refine sq (rg Zab.f (tq (it h (λai h=>?_) (λai h=>?_))))
    ·refine rg Zab.f ?_
     cases h
     exact ⟨rfl,kr⟩
    refine sk ?_
    cases h
    exact ⟨rfl,kr⟩
   clear a5
   rintro s hR
   obtain rfl:=hR
   refine sq ?_
   obtain ⟨aj,ad,h⟩:=bs h
   obtain ⟨a7,a2,a8,hT,a9⟩:=hy_ i4 (ZbU.mk a3 a1.1 a1.2) g5 aj H3 its2 hT (Fp.tail (own:=[.cel k0_ [Zad false c0_],.cel k1_ (Zac c1_.Topo)]) (its:=its2) hH) ad
   replace hH:Fp H a7 (.cel k0_ [Zad false c0_]::.cel k1_ (Zac c1_.Topo)::its) (.cel k0_ [Zad false c0_]::.cel k1_ (Zac c1_.Topo)::a2):=Fp.callT (own:=[.cel k0_ [Zad false c0_],.cel k1_ (Zac c1_.Topo)]) (its:=its2) hH a9
   refine rg (Zab.v 3 (Zou (H:=H3) (id:=yid_) (ys:=[iv i4,.agg [iv a3,iv a1.1,iv a1.2]]) kr kr kr kr a8) Zab.f) (tq (it h (λag h=>?_) (λag h=>?_)))
   ·refine kq (xq (bo (tx ?_)))
    cases h
    exact ⟨_,rfl,rfl,⟨a2,a7,kr,hT,Fp.at hH⟩⟩
   refine sk (bn (tq (kq (rg Zab.f ?_))))
   cases h
   exact ⟨_,rfl,⟨a2,a7,kr,hT,Fp.at hH⟩⟩
  refine kq (xq (tx ?_))
  cases h
  exact ⟨_,rfl,rfl,⟨its2,H3,kr,hT,Fp.at hH⟩⟩
 rintro e s hq
 obtain ⟨rfl,hR⟩:=hq
 obtain ⟨a0,aa,rfl,hT,hH⟩:=hR
 replace hH:Fp H aa (.cel k0_ [Zad false c0_]::.cel k1_ (Zac c1_.Topo)::its) (.cel k0_ [Zad false c0_]::.cel k1_ (Zac c1_.Topo)::a0):=hH
 refine bx (nn ?_)
 cases h
 exact ⟨[],kr,kr,a0,hT,Fp.at hH⟩
theorem Zht (N:Nat)(a0_:(List Int))(a1_:Int)(r:Int)(h:Zdg N a0_ a1_=some r):Zba Tryz.prog 115 [Zad false a0_,iv a1_] (iv r):=by
 unfold Zdg at h
 have hH  := hp0
 refine ZaG ZyM rfl rfl (Zay _ _ _ ?_) rfl
 refine sq (rg Zab.f (tq (sq (sq (rg (Zab.u 1 (Zan (ys:=[Zad false a0_]) (h:=Zax eI64)) Zab.f) (tq (bk ?_)))))))
 obtain ⟨a2,a0,h⟩:=bs h
 refine ZaT ((ZaI (λ(x:Int) s=>s=⟨[(0,Zad false a0_),(1,iv a1_),(7,iv ((List.length a0_:Nat):Int)),(8,iv x)],[],[]⟩) (λx:Int=>Zbr N a0_ a1_ x) (λ(p:(Unit)⊕(Int)) e s=>match p with|(.inl p)=>e=.exit 0/\(s=⟨[],[],[]⟩)|(.inr p)=>e=.ret/\∃ xs,resL s i115.res=some xs/\ZbV xs=iv p) ?_ N _ a2 _ a0 kr).mono ?_)
 ·clear h a0
  rintro i1 o s h hR
  obtain rfl:=hR
  replace h:Zbr N a0_ a1_ i1=some o:=h
  unfold Zbr at h
  refine sq (rg Zab.f (tq (sq (it h (λa4 h=>?_) (λa4 h=>?_)))))
  ·refine sk (tq (kq (sq (bk (sq (rg Zab.f (tq (sq ?_))))))))
   obtain ⟨a5,a1,h⟩:=bs h
   refine rg (Zab.u 3 (Zan (ys:=[Zad false a0_,iv i1]) (h:=Zal eI64 a1)) (Zab.u 0 (Zav (sz:=1) (off:=0) (cs:=[.int .i64 a5]) (r:=iv a5) eI64 a1) Zab.f)) (tq (it h (λa3 h=>?_) (λa3 h=>?_)))
   ·refine sq (rg Zab.f (tq (rt (br (tr ?_)))))
    cases h
    exact ⟨_,rfl,rfl,ZaA kr⟩
   refine sk (bn (tq (kq (rg Zab.f ?_))))
   cases h
   exact ⟨_,rfl,kr⟩
  refine kq (xq (tx ?_))
  cases h
  exact ⟨_,rfl,rfl,kr⟩
 rintro e s hq
 rcases a2 with a7|a6
 ·dsimp only at h hq
  obtain ⟨rfl,hR⟩:=hq
  obtain rfl:=hR
  refine bx (tq (sq (rg Zab.f (tq (rt ?_)))))
  cases h
  exact ZaA kr
 dsimp only at h hq
 obtain ⟨rfl,hq⟩:=hq
 refine br (tr ?_)
 cases h
 exact hq
theorem Zmy (N:Nat)(a0_:ZaL)(a1_:ZaL)(r:Int×Int×Int)(h:Ziy N a0_ a1_=some r):Zba Tryz.prog 116 [.agg (ZdG a0_),.agg (ZdG a1_)] (.tup [iv r.1,iv r.2.1,iv r.2.2]):=by
 unfold Ziy at h
 have hH  := hp0
 refine ZaG ZyL rfl rfl (Zay _ _ _ ?_) rfl
 refine sq (rg Zab.f (tq (sq ?_)))
 obtain ⟨r1,hr1,h⟩:=bs h
 refine rg (Zab.v 4 (Zaz (hc:=Zjq N a0_.Period a1_.Period r1 hr1)) Zab.f) (tq (sq (rq Zab.f (tq (rt ?_)))))
 cases h
 exact ZaA kr
theorem ZnA (N:Nat)(a0_:Int)(a1_:Int)(r:Int)(h:ZjJ N a0_ a1_=some r):Zba Tryz.prog 117 [iv a0_,iv a1_] (iv r):=by
 unfold ZjJ at h
 have hH  := hp0
 refine ZaG ZyK rfl rfl (Zay _ _ _ ?_) rfl
 refine sq (rg Zab.f (tq (sq ?_)))
 obtain ⟨m1,hm1,h⟩:=bs h
 obtain ⟨m2,hm2,h⟩:=bs h
 refine rg (Zab.u 2 (Zan (ys:=[iv a0_,iv a1_]) (h:=Zc4 hm1)) (Zab.u 3 (Zan (ys:=[iv (w64 (m1+a1_)),iv a1_]) (h:=Zc4 hm2)) Zab.f)) (tq (rt ?_))
 cases h
 exact ZaA kr
theorem Zgb (N:Nat)(a0_:ZaE)(r:Int)(h:ZcZ N a0_=some r):Zba Tryz.prog 19 [.agg (Zak a0_)] (iv r):=by
 unfold ZcZ at h
 have hH  := hp0
 refine ZaG ZLI rfl rfl (Zay _ _ _ ?_) rfl
 refine sq (rg Zab.f (tq (sq (sq ?_))))
 obtain ⟨j5,hj,h⟩:=bs h
 refine rgR (λs=>s=⟨[(1,.loc 1 0),(12,bv j5)],[(1,(Zak a0_))],[]⟩) ?_ ?_
 ·clear h
  obtain ⟨r1,hr1,hj⟩:=bs hj
  refine (EP.v 2 (Zaz (hc:=Zbf N a0_.Grid 1 10000 r1 hr1)) ?_)
  rcases ZaC hj with ⟨hc2,hj⟩|⟨hc3,hj⟩
  ·obtain rfl:=Zao hj
   exact (EP.u 0 (Zam (c:=(!r1)) (h:=hc2)) (EP.f kr))
  refine (EP.u 0 (Zam (c:=(!r1)) (h:=hc3)) ?_)
  obtain ⟨r4,hr4,hj⟩:=bs hj
  obtain rfl:=Zao hj
  exact (EP.v 3 (Zaz (hc:=Zbf N a0_.Slack 0 1000 r4 hr4)) (EP.f kr))
 clear hj
 rintro s hR
 obtain rfl:=hR
 refine tq (it h (λhc6 h=>?_) (λhc6 h=>?_))
 ·refine sq (rg Zab.f (tq (rt (tr ?_))))
  cases h
  exact ZaA kr
 refine sk (tq (kq (sq (sq ?_))))
 obtain ⟨a3,hj,h⟩:=bs h
 refine rgR (λs=>s=⟨[(22,bv a3)],[],[]⟩) ?_ ?_
 ·clear h
  obtain ⟨r7,hr7,hj⟩:=bs hj
  refine (EP.v 2 (Zaz (hc:=Zbf N a0_.Proc 0 10000 r7 hr7)) ?_)
  rcases ZaC hj with ⟨hc8,hj⟩|⟨hc9,hj⟩
  ·obtain rfl:=Zao hj
   exact (EP.u 0 (Zam (c:=(!r7)) (h:=hc8)) (EP.f kr))
  refine (EP.u 0 (Zam (c:=(!r7)) (h:=hc9)) ?_)
  obtain ⟨a2,a0,hj⟩:=bs hj
  obtain rfl:=Zao hj
  exact (EP.v 3 (Zaz (hc:=Zbf N a0_.Cap 1542 65536 a2 a0)) (EP.f kr))
 clear hj
 rintro s hR
 obtain rfl:=hR
 refine tq (it h (λa1 h=>?_) (λa1 h=>?_))
 ·refine sq (rg Zab.f (tq (rt (tr ?_))))
  cases h
  exact ZaA kr
 refine sk (tq (kq (sq (rg Zab.f (tq (rt ?_))))))
 cases h
 exact ZaA kr
theorem ZnD (N:Nat)(a0_:ZaE)(r:Bool)(h:ZgE N a0_=some r):Zba Tryz.prog 23 [.agg (Zak a0_)] (bv r):=by
 unfold ZgE at h
 have hH  := hp0
 refine ZaG ZLE rfl rfl (Zay _ _ _ ?_) rfl
 refine sq (rg Zab.f (tq (sq ?_)))
 obtain ⟨a1,hj,h⟩:=bs h
 refine rgR (λs=>s=⟨[(2,bv a1)],[],[]⟩) ?_ ?_
 ·clear h
  obtain ⟨r1,hr1,hj⟩:=bs hj
  rcases ZaC hj with ⟨hc2,hj⟩|⟨a0,hj⟩
  ·refine (EP.h 2 (ZbB kr (Zb0 N a0_.Grid 1 10000 r1 hr1) hc2) ?_)
   obtain ⟨r3,hr3,hj⟩:=bs hj
   rcases ZaC hj with ⟨hc4,hj⟩|⟨hc9,hj⟩
   ·refine (EP.h 3 (ZbB kr (Zb0 N a0_.Slack 0 1000 r3 hr3) hc4) ?_)
    obtain ⟨r5,hr5,hj⟩:=bs hj
    rcases ZaC hj with ⟨hc6,hj⟩|⟨hc8,hj⟩
    ·refine (EP.h 4 (ZbB kr (Zb0 N a0_.Proc 0 10000 r5 hr5) hc6) ?_)
     obtain ⟨r7,hr7,hj⟩:=bs hj
     obtain rfl:=Zao hj
     exact (EP.v 4 (Zaz (hc:=Zb0 N a0_.Cap 1542 65536 r7 hr7)) (EP.f kr))
    obtain rfl:=Zao hj
    exact (EP.h 4 (ZbB kr (Zb0 N a0_.Proc 0 10000 r5 hr5) hc8) (EP.f kr))
   obtain rfl:=Zao hj
   exact (EP.h 3 (ZbB kr (Zb0 N a0_.Slack 0 1000 r3 hr3) hc9) (EP.f kr))
  obtain rfl:=Zao hj
  exact (EP.h 2 (ZbB kr (Zb0 N a0_.Grid 1 10000 r1 hr1) a0) (EP.f kr))
 clear hj
 rintro s hR
 obtain rfl:=hR
 refine tq (rt ?_)
 cases h
 exact ZaA kr
theorem Zli (N:Nat)(a0_:Zag)(a1_:ZaE)(a2_:Zah)(a3_:(List Int))(r:(List ZaQ))(h:Zhy N a0_ a1_ a2_ a3_=some r):Zba Tryz.prog 25 [.agg (Zac a0_),.agg (Zak a1_),.agg (Zai a2_),Zad false a3_] (Zbg false r):=by
 unfold Zhy at h
 have hH  := hp0
 refine ZaG ZLC rfl rfl (Zay _ _ _ ?_) rfl
 refine sq (rg Zab.f (tq (sq ?_)))
 obtain ⟨e1,he1,h⟩:=bs h
 obtain ⟨e2,he2,h⟩:=bs h
 obtain ⟨r3,hr3,h⟩:=bs h
 obtain ⟨a4,H5,ha4,hH5,hH⟩:=HP.lit 5 [(ZaQ.mk e1 0 0 0 (w64 (a2_.Size*r3)))] ZaZ hH
 replace hH:HP _ [.arr a4 5 false (List.map ZaZ [(ZaQ.mk e1 0 0 0 (w64 (a2_.Size*r3)))])]:=hH
 have hfa4:=ZaS (HP.get hH 0 rfl)
 refine rqS ⟨[(3,Zad false a3_),(4,.loc 4 0),(5,.loc 5 0),(6,.loc 6 0),(9,a4)],[(4,(Zac a0_)),(5,(Zak a1_)),(6,(Zai a2_))],H5⟩ (Zab.u 1 (Zan (ys:=[Zad false a3_,iv 0]) (h:=Zal eI64 he1)) (Zab.u 0 (ZaK (Zav (sz:=1) (off:=0) (cs:=[.int .i64 e1]) (r:=iv e1) eI64 he1)) (Zab.u 4 (Zan (ys:=[Zad false a3_,iv 0]) (h:=Zal eI64 he2)) (Zab.u 0 (ZaK (Zav (sz:=1) (off:=0) (cs:=[.int .i64 e2]) (r:=iv e2) eI64 he2)) (Zab.u 0 (Za1 (hc:=Zll N a0_ e2 r3 hr3)) (Zab.h 2 (ZlU (H:=[]) (ys:=[.agg [iv e1,iv 0,iv 0,iv 0,iv (w64 (a2_.Size*r3))]]) (rows:=(List.map ZaZ [(ZaQ.mk e1 0 0 0 (w64 (a2_.Size*r3)))])) kr kr kr ha4 hH5) Zab.f)))))) (by cases hfa4<;>kernel_rfl) (tq (sq (sq (rgS ⟨[(3,Zad false a3_),(4,.loc 4 0),(5,.loc 5 0),(6,.loc 6 0),(9,a4),(10,iv 1)],[(4,(Zac a0_)),(5,(Zak a1_)),(6,(Zai a2_))],H5⟩ Zab.f (by cases hfa4<;>kernel_rfl) (tq (bk ?_))))))
 obtain ⟨aa,ab,h⟩:=bs h
 refine ZaT ((ZaI (λ(x:Int×(List ZaQ)) s=>∃ (a6:AV) (H7:List HO),s=⟨[(3,Zad false a3_),(4,.loc 4 0),(5,.loc 5 0),(6,.loc 6 0),(9,a6),(10,iv x.1)],[(4,(Zac a0_)),(5,(Zak a1_)),(6,(Zai a2_))],H7⟩/\HP H7 [.arr a6 5 false (List.map ZaZ x.2)]) (λx:Int×(List ZaQ)=>Zdk N a0_ a1_ a2_ a3_ x.1 x.2) (λ(p:(List ZaQ)) e s=>e=.exit 0/\(∃ (a9:AV) (ad:List HO),s=⟨[(9,a9)],[],ad⟩/\HP ad [.arr a9 5 false (List.map ZaZ p)])) ?_ N _ aa _ ab ⟨a4,H5,(by show _=_;cases hfa4<;>kernel_rfl),(HP.pick hH [0] rfl)⟩).mono ?_)
 ·clear h ab
  rintro ⟨i8,l9⟩ o s h hR
  obtain ⟨a6,H7,rfl,hH⟩:=hR
  replace hH:HP _ [.arr a6 5 false (List.map ZaZ l9)]:=hH
  have hfa6:=ZaS (HP.get hH 0 rfl)
  replace h:Zdk N a0_ a1_ a2_ a3_ i8 l9=some o:=h
  unfold Zdk at h
  refine sq (sq (rgS ⟨[(3,Zad false a3_),(4,.loc 4 0),(5,.loc 5 0),(6,.loc 6 0),(9,a6),(10,iv i8),(30,bv (decide (i8<((List.length a3_:Nat):Int))))],[(4,(Zac a0_)),(5,(Zak a1_)),(6,(Zai a2_))],H7⟩ (Zab.u 2 (Zan (ys:=[Zad false a3_]) (h:=Zax eI64)) Zab.f) (by cases hfa6<;>kernel_rfl) (tq (it h (λaw h=>?_) (λaw h=>?_)))))
  ·refine sk (tq (kq (sq (bk (sq ?_)))))
   obtain ⟨a0,al,h⟩:=bs h
   obtain ⟨aA,az,_,ax,an,ay,ag⟩:=HP.elem (k:=0) (a:=a6) (sz:=5) (frz:=false) ZaZ hH rfl al
   refine rgS ⟨[(3,Zad false a3_),(4,.loc 4 0),(5,.loc 5 0),(6,.loc 6 0),(9,a6),(10,iv i8),(11,.loc 11 0)],[(4,(Zac a0_)),(5,(Zak a1_)),(6,(Zai a2_)),(11,(Zcn a0))],H7⟩ (Zab.u 3 (Zan (ys:=[a6,iv (w64 (i8-1))]) (by cases hfa6<;>kernel_rfl) (ag .i64)) (Zab.u 0 (ZbH (H:=H7) (off:=0) (cs:=[.int .i64 a0.Port,.int .i64 a0.Early,.int .i64 a0.Late,.int .i64 a0.Open,.int .i64 a0.Long]) (r:=.agg (Zcn a0)) ZaZ al an) (Zab.f (h:=(by cases hfa6<;>kernel_rfl))))) (by cases hfa6<;>kernel_rfl) (tq (sq ?_))
   obtain ⟨a1,av,h⟩:=bs h
   refine rqS ⟨[(3,Zad false a3_),(4,.loc 4 0),(5,.loc 5 0),(6,.loc 6 0),(9,a6),(10,iv i8),(12,iv (w64 ((w64 ((w64 (a0.Open+a0.Long))+a1))+a1_.Proc)))],[(4,(Zac a0_)),(5,(Zak a1_)),(6,(Zai a2_))],H7⟩ (Zab.u 8 (Za1 (hc:=ZjA N a0_ a0.Port a1 av)) Zab.f) (by cases hfa6<;>kernel_rfl) (tq (sq ?_))
   obtain ⟨a3,ak,h⟩:=bs h
   obtain ⟨aq,aj,h⟩:=bs h
   obtain ⟨a5,au,h⟩:=bs h
   refine rqS (hs:=(by cases hfa6<;>kernel_rfl)) ⟨[(3,Zad false a3_),(4,.loc 4 0),(5,.loc 5 0),(6,.loc 6 0),(9,a6),(10,iv i8),(13,.loc 13 0)],[(4,(Zac a0_)),(5,(Zak a1_)),(6,(Zai a2_)),(13,[iv a3,iv (w64 ((w64 ((w64 ((w64 (a0.Open+a0.Long))+a1))+a1_.Proc))-(w64 (2*a1_.Slack)))),iv (w64 ((w64 ((w64 ((w64 (a0.Open+a0.Long))+a1))+a1_.Proc))+(w64 (2*a1_.Slack)))),iv 0,iv (w64 (a2_.Size*a5))])],H7⟩ (Zab.u 2 (Zan (ys:=[Zad false a3_,iv i8]) (h:=Zal eI64 ak)) (Zab.u 0 (ZaK (Zav (sz:=1) (off:=0) (cs:=[.int .i64 a3]) (r:=iv a3) eI64 ak)) (Zab.u 15 (Zan (ys:=[Zad false a3_,iv i8]) (h:=Zal eI64 aj)) (Zab.u 0 (ZaK (Zav (sz:=1) (off:=0) (cs:=[.int .i64 aq]) (r:=iv aq) eI64 aj)) (Zab.u 0 (Za1 (hc:=Zll N a0_ aq a5 au)) (Zab.f (h:=(by cases hfa6<;>kernel_rfl)))))))) (by cases hfa6<;>kernel_rfl) (tq (sq (bk ?_)))
   obtain ⟨ai,ac,h⟩:=bs h
   refine ZaT ((ZaI (λ(x:Int) s=>s=⟨[(3,Zad false a3_),(4,.loc 4 0),(5,.loc 5 0),(6,.loc 6 0),(9,a6),(10,iv i8),(13,.loc 13 0)],[(4,(Zac a0_)),(5,(Zak a1_)),(6,(Zai a2_)),(13,[iv a3,iv (w64 ((w64 ((w64 ((w64 (a0.Open+a0.Long))+a1))+a1_.Proc))-(w64 (2*a1_.Slack)))),iv (w64 ((w64 ((w64 ((w64 (a0.Open+a0.Long))+a1))+a1_.Proc))+(w64 (2*a1_.Slack)))),iv x,iv (w64 (a2_.Size*a5))])],H7⟩) (λx:Int=>Ze1 N a1_ a0 a1 x) (λ(p:Int) e s=>e=.exit 2/\(s=⟨[(3,Zad false a3_),(4,.loc 4 0),(5,.loc 5 0),(6,.loc 6 0),(9,a6),(10,iv i8),(13,.loc 13 0)],[(4,(Zac a0_)),(5,(Zak a1_)),(6,(Zai a2_)),(13,[iv a3,iv (w64 ((w64 ((w64 ((w64 (a0.Open+a0.Long))+a1))+a1_.Proc))-(w64 (2*a1_.Slack)))),iv (w64 ((w64 ((w64 ((w64 (a0.Open+a0.Long))+a1))+a1_.Proc))+(w64 (2*a1_.Slack)))),iv p,iv (w64 (a2_.Size*a5))])],H7⟩)) ?_ N _ ai _ ac (by show _=_;cases hfa6<;>kernel_rfl)).mono ?_)
   ·clear h ac
    rintro af o s h hR
    obtain rfl:=hR
    replace h:Ze1 N a1_ a0 a1 af=some o:=h
    unfold Ze1 at h
    refine sq (sq (rgS ⟨[(3,Zad false a3_),(4,.loc 4 0),(5,.loc 5 0),(6,.loc 6 0),(9,a6),(10,iv i8),(13,.loc 13 0),(79,bv (decide (af<(w64 ((w64 ((w64 ((w64 (a0.Open+a0.Long))+a1))+a1_.Proc))+(w64 (2*a1_.Slack)))))))],[(4,(Zac a0_)),(5,(Zak a1_)),(6,(Zai a2_)),(13,[iv a3,iv (w64 ((w64 ((w64 ((w64 (a0.Open+a0.Long))+a1))+a1_.Proc))-(w64 (2*a1_.Slack)))),iv (w64 ((w64 ((w64 ((w64 (a0.Open+a0.Long))+a1))+a1_.Proc))+(w64 (2*a1_.Slack)))),iv af,iv (w64 (a2_.Size*a5))])],H7⟩ Zab.f (by cases hfa6<;>kernel_rfl) (tq (it h (λao h=>?_) (λao h=>?_)))))
    ·refine sk (tq (kq (bk (rgS ⟨[(3,Zad false a3_),(4,.loc 4 0),(5,.loc 5 0),(6,.loc 6 0),(9,a6),(10,iv i8),(13,.loc 13 0)],[(4,(Zac a0_)),(5,(Zak a1_)),(6,(Zai a2_)),(13,[iv a3,iv (w64 ((w64 ((w64 ((w64 (a0.Open+a0.Long))+a1))+a1_.Proc))-(w64 (2*a1_.Slack)))),iv (w64 ((w64 ((w64 ((w64 (a0.Open+a0.Long))+a1))+a1_.Proc))+(w64 (2*a1_.Slack)))),iv (w64 (af+a1_.Grid)),iv (w64 (a2_.Size*a5))])],H7⟩ Zab.f (by cases hfa6<;>kernel_rfl) (bn ?_)))))
     cases h
     exact ⟨_,rfl,(by show _=_;cases hfa6<;>kernel_rfl)⟩
    refine kq (xq (tx ?_))
    cases h
    exact ⟨_,rfl,rfl,(by show _=_;cases hfa6<;>kernel_rfl)⟩
   rintro e s hq
   obtain ⟨rfl,hR⟩:=hq
   obtain rfl:=hR
   refine bx (tq ?_)
   obtain ⟨ar,am,h⟩:=bs h
   obtain ⟨a8,ae,ap,hH⟩:=HP.app (k:=0) (a:=a6) (sz:=5) (frz:=false) ZaZ hH rfl am
   replace hH:HP _ [.arr a8 5 false (List.map ZaZ ar)]:=hH
   have a2:=ZaS (HP.get hH 0 rfl)
   refine rgS ⟨[(3,Zad false a3_),(4,.loc 4 0),(5,.loc 5 0),(6,.loc 6 0),(9,a8),(10,iv i8)],[(4,(Zac a0_)),(5,(Zak a1_)),(6,(Zai a2_))],ae⟩ (Zab.h 3 (Ze9 (H:=H7) (a:=a6) (b:=Zbg true [(ZaQ.mk a3 (w64 ((w64 ((w64 ((w64 (a0.Open+a0.Long))+a1))+a1_.Proc))-(w64 (2*a1_.Slack)))) (w64 ((w64 ((w64 ((w64 (a0.Open+a0.Long))+a1))+a1_.Proc))+(w64 (2*a1_.Slack)))) ai (w64 (a2_.Size*a5)))]) (by cases hfa6<;>kernel_rfl) (by cases hfa6<;>kernel_rfl) (by cases hfa6<;>kernel_rfl) (by cases hfa6<;>kernel_rfl) ap) Zab.f) (by cases a2<;>cases hfa6<;>kernel_rfl) (bn (tq (rgS ⟨[(3,Zad false a3_),(4,.loc 4 0),(5,.loc 5 0),(6,.loc 6 0),(9,a8),(10,iv (w64 (i8+1)))],[(4,(Zac a0_)),(5,(Zak a1_)),(6,(Zai a2_))],ae⟩ Zab.f (by cases a2<;>kernel_rfl) ?_)))
   cases h
   exact ⟨_,rfl,⟨a8,ae,(by show _=_;cases a2<;>kernel_rfl),(HP.pick hH [0] rfl)⟩⟩
  refine kq (xq (tx ?_))
  cases h
  exact ⟨_,rfl,rfl,⟨a6,H7,(by show _=_;cases hfa6<;>kernel_rfl),(HP.pick hH [0] rfl)⟩⟩
 rintro e s hq
 obtain ⟨rfl,hR⟩:=hq
 obtain ⟨a9,ad,rfl,hH⟩:=hR
 replace hH:HP _ [.arr a9 5 false (List.map ZaZ aa)]:=hH
 have a7:=ZaS (HP.get hH 0 rfl)
 refine bx (tq (sq (rgS ⟨[(8,a9)],[],ad⟩ Zab.f (by cases a7<;>kernel_rfl) (tq (rt ?_)))))
 obtain rfl:=Zao h
 exact ZeB (H:=ad) (ys:=[a9]) (xs:=[.p (.sl 5 false (List.map ZaZ aa))]) (by cases a7<;>kernel_rfl) (by cases a7<;>kernel_rfl) (Zbs (HP.pure (k:=0) (frz:=false) ZaZ hH rfl).2 Zci) kr
theorem Zpu (N:Nat)(a0_:Zag)(a1_:ZaE)(a2_:Zah)(a3_:(List Int))(r:Int)(h:ZiC N a0_ a1_ a2_ a3_=some r):Zba Tryz.prog 27 [.agg (Zac a0_),.agg (Zak a1_),.agg (Zai a2_),Zad false a3_] (iv r):=by
 unfold ZiC at h
 have hH  := hp0
 refine ZaG ZLA rfl rfl (Zay _ _ _ ?_) rfl
 refine sq (rg Zab.f (tq (sq ?_)))
 obtain ⟨r1,hr1,h⟩:=bs h
 refine rg (Zab.v 4 (Zaz (hc:=Zli N a0_ a1_ a2_ a3_ r1 hr1)) Zab.f) (tq (sq ?_))
 obtain ⟨e2,he2,h⟩:=bs h
 refine rg (Zab.u 2 (Zan (ys:=[Zbg false r1]) (h:=Zax ZaZ)) (Zab.u 1 (Zan (ys:=[Zbg false r1,iv (w64 (((List.length r1:Nat):Int)-1))]) (h:=Zal ZaZ he2)) (Zab.u 0 (Zav (sz:=5) (off:=0) (cs:=[.int .i64 e2.Port,.int .i64 e2.Early,.int .i64 e2.Late,.int .i64 e2.Open,.int .i64 e2.Long]) (r:=.agg (Zcn e2)) ZaZ he2) Zab.f))) (tq (sq ?_))
 obtain ⟨r3,hr3,h⟩:=bs h
 refine rq (Zab.u 8 (Za1 (hc:=ZjA N a0_ e2.Port r3 hr3)) Zab.f) (tq (rt ?_))
 cases h
 exact ZaA kr
theorem Zka (N:Nat)(a0_:Zag)(a1_:ZaF)(r:Bool)(h:Zgs N a0_ a1_=some r):Zba Tryz.prog 37 [.agg (Zac a0_),.agg (Za0 a1_)] (bv r):=by
 unfold Zgs at h
 have hH  := hp0
 refine ZaG ZLq rfl rfl (Zay _ _ _ ?_) rfl
 refine sq (rg Zab.f (tq (sq (sq ?_))))
 obtain ⟨ab,hj,h⟩:=bs h
 refine rgR (λs=>s=⟨[(3,.loc 3 0),(39,bv ab)],[(3,(Za0 a1_))],[]⟩) ?_ ?_
 ·clear h
  obtain ⟨r1,hr1,hj⟩:=bs hj
  refine (EP.v 3 (Zaz (hc:=Zj8 N a0_ a1_.A r1 hr1)) ?_)
  rcases ZaC hj with ⟨hc2,hj⟩|⟨hc3,hj⟩
  ·obtain rfl:=Zao hj
   exact (EP.u 0 (Zam (c:=(!r1)) (h:=hc2)) (EP.f kr))
  refine (EP.u 0 (Zam (c:=(!r1)) (h:=hc3)) ?_)
  obtain ⟨r4,hr4,hj⟩:=bs hj
  refine (EP.v 4 (Zaz (hc:=Zj8 N a0_ a1_.B r4 hr4)) ?_)
  rcases ZaC hj with ⟨hc5,hj⟩|⟨hc6,hj⟩
  ·obtain rfl:=Zao hj
   exact (EP.u 0 (Zam (c:=(!r4)) (h:=hc5)) (EP.f kr))
  refine (EP.u 0 (Zam (c:=(!r4)) (h:=hc6)) ?_)
  rcases ZaC hj with ⟨hc7,hj⟩|⟨hc8,hj⟩
  ·obtain rfl:=Zao hj
   exact (EP.u 6 (Zam (c:=(a1_.A==a1_.B)) (h:=hc7)) (EP.f kr))
  refine (EP.u 6 (Zam (c:=(a1_.A==a1_.B)) (h:=hc8)) ?_)
  obtain ⟨e9,he9,hj⟩:=bs hj
  refine (EP.u 6 (Zan (ys:=[s_eB false a0_.Station,iv a1_.A]) (h:=Zal eB he9)) ?_)
  rcases ZaC hj with ⟨a9,hj⟩|⟨a8,hj⟩
  ·refine (EP.u 0 (ZaM.bool (Zav (sz:=1) (off:=0) (cs:=[.bool e9]) (r:=bv e9) eB he9) a9) ?_)
   obtain ⟨aa,a2,hj⟩:=bs hj
   obtain rfl:=Zao hj
   exact (EP.u 5 (Zan (ys:=[s_eB false a0_.Station,iv a1_.B]) (h:=Zal eB a2)) (EP.u 0 (Zav (sz:=1) (off:=0) (cs:=[.bool aa]) (r:=bv aa) eB a2) (EP.f kr)))
  obtain rfl:=Zao hj
  exact (EP.u 0 (ZaM.bool (Zav (sz:=1) (off:=0) (cs:=[.bool e9]) (r:=bv e9) eB he9) a8) (EP.f kr))
 clear hj
 rintro s hR
 obtain rfl:=hR
 refine tq (it h (λa7 h=>?_) (λa7 h=>?_))
 ·refine sq (rg Zab.f (tq (rt (tr ?_))))
  cases h
  exact ZaA kr
 refine sk (tq (kq (sq (rgX ⟨[(4,bv ((decide (a1_.Per≥1))&&((decide (a1_.Per<=1000))&&((decide (a1_.Delay≥0))&&(decide (a1_.Delay<=10000))))))],[],[]⟩ ?_ ?_))))
 ·rcases Bool.eq_false_or_eq_true (decide (a1_.Per≥1)) with a0|a3
  ·refine (EP.u 2 (Zam (c:=(decide (a1_.Per≥1))) (h:=a0)) ?_)
   rcases Bool.eq_false_or_eq_true (decide (a1_.Per<=1000)) with a1|a4
   ·refine (EP.u 3 (Zam (c:=(decide (a1_.Per<=1000))) (h:=a1)) ?_)
    rcases Bool.eq_false_or_eq_true (decide (a1_.Delay≥0)) with a6|a5
    ·exact (EP.u 4 (Zam (c:=(decide (a1_.Delay≥0))) (h:=a6)) (EP.f (by simp only [a0,a1,a6];kernel_rfl)))
    exact (EP.u 4 (Zam (c:=(decide (a1_.Delay≥0))) (h:=a5)) (EP.f (by simp only [a0,a1,a5];kernel_rfl)))
   exact (EP.u 3 (Zam (c:=(decide (a1_.Per<=1000))) (h:=a4)) (EP.f (by simp only [a0,a4];kernel_rfl)))
  exact (EP.u 2 (Zam (c:=(decide (a1_.Per≥1))) (h:=a3)) (EP.f (by simp only [a3];kernel_rfl)))
 refine tq (rt ?_)
 cases h
 exact ZaA kr
theorem ZnG (N:Nat)(a0_:Zag)(a1_:Int)(a2_:(List Int))(r:(List Bool))(h:ZgF N a0_ a1_ a2_=some r):Zba Tryz.prog 48 [.agg (Zac a0_),iv a1_,Zad false a2_] (s_eB false r):=by
 unfold ZgF at h
 have hH  := hp0
 refine ZaG ZLf rfl rfl (Zay _ _ _ ?_) rfl
 refine sq (rg Zab.f (tq (sq ?_)))
 obtain ⟨l3,hl3,h⟩:=bs h
 obtain ⟨a1,H2,ha1,hH2,ha1b,hH⟩:=HP.make eB hH hl3
 replace hH:HP _ [.arr a1 1 false (List.map eB l3)]:=hH
 have hfa1:=ZaS (HP.get hH 0 rfl)
 refine rgS ⟨[(1,iv a1_),(2,Zad false a2_),(3,.loc 3 0),(7,a1)],[(3,(Zac a0_))],H2⟩ (Zab.h 2 (ZjI (H:=[]) (zero:=[.bool false]) (bytes:=1) kr kr kr ha1 hH2 ha1b) Zab.f) (by cases hfa1<;>kernel_rfl) (tq (sq ?_))
 obtain ⟨e4,he4,h⟩:=bs h
 obtain ⟨id5,ver6,_,hid5f,hid5,hid5a,hid5v⟩:=HP.elem (k:=0) (a:=a1) (sz:=1) (frz:=false) eB hH rfl he4
 obtain ⟨H7,hH7,hH⟩:=HP.setRow (k:=0) (off:=0) (cs:=[bv true]) (ps:=[.bool true]) (e':=true) eB hH rfl hid5a hid5 (hid5f rfl) he4 kr kr
 replace hH:HP _ [.arr a1 1 false (List.map eB (List.set l3 (Int.toNat a1_) true))]:=hH
 refine rgS ⟨[(2,Zad false a2_),(3,.loc 3 0),(7,a1)],[(3,(Zac a0_))],H7⟩ (Zab.u 2 (Zan (ys:=[a1,iv a1_]) (by cases hfa1<;>kernel_rfl) (hid5v .i64)) (Zab.o 0 (Zbe (H:=H2) (v:=bv true) (hw:=hH7)) Zab.f)) (by cases hfa1<;>kernel_rfl) (tq (sq (sq (rgS ⟨[(2,Zad false a2_),(3,.loc 3 0),(7,a1),(8,iv 0)],[(3,(Zac a0_))],H7⟩ Zab.f (by cases hfa1<;>kernel_rfl) (tq (bk ?_))))))
 obtain ⟨ak,al,h⟩:=bs h
 refine ZaT ((ZaI (λ(x:Int×(List Bool)) s=>∃ (a8:AV) (H9:List HO),s=⟨[(2,Zad false a2_),(3,.loc 3 0),(7,a8),(8,iv x.1)],[(3,(Zac a0_))],H9⟩/\HP H9 [.arr a8 1 false (List.map eB x.2)]) (λx:Int×(List Bool)=>Zcz N a0_ a2_ x.1 x.2) (λ(p:(List Bool)) e s=>e=.exit 0/\(∃ (ai:AV) (aC:List HO),s=⟨[(7,ai)],[],aC⟩/\HP aC [.arr ai 1 false (List.map eB p)])) ?_ N _ ak _ al ⟨a1,H7,(by show _=_;cases hfa1<;>kernel_rfl),(HP.pick hH [0] rfl)⟩).mono ?_)
 ·clear h al
  rintro ⟨i10,bq⟩ o s h hR
  obtain ⟨a8,H9,rfl,hH⟩:=hR
  replace hH:HP _ [.arr a8 1 false (List.map eB bq)]:=hH
  have hfa8:=ZaS (HP.get hH 0 rfl)
  replace h:Zcz N a0_ a2_ i10 bq=some o:=h
  unfold Zcz at h
  refine sq (sq (rgS ⟨[(2,Zad false a2_),(3,.loc 3 0),(7,a8),(8,iv i10),(20,bv (decide (i10<a0_.Nodes)))],[(3,(Zac a0_))],H9⟩ Zab.f (by cases hfa8<;>kernel_rfl) (tq (it h (λbc h=>?_) (λbc h=>?_)))))
  ·refine sk (tq (kq (sq (bk (sq (rgS ⟨[(2,Zad false a2_),(3,.loc 3 0),(7,a8),(8,iv i10),(9,iv 0)],[(3,(Zac a0_))],H9⟩ Zab.f (by cases hfa8<;>kernel_rfl) (tq (bk ?_))))))))
   obtain ⟨aJ,am,h⟩:=bs h
   refine ZaT ((ZaI (λ(x:Int×(List Bool)) s=>∃ (a3:AV) (a4:List HO),s=⟨[(2,Zad false a2_),(3,.loc 3 0),(7,a3),(8,iv i10),(9,iv x.1)],[(3,(Zac a0_))],a4⟩/\HP a4 [.arr a3 1 false (List.map eB x.2)]) (λx:Int×(List Bool)=>Zcb N a0_ a2_ x.1 x.2) (λ(p:(List Bool)) e s=>e=.exit 2/\(∃ (a7:AV) (aa:List HO),s=⟨[(2,Zad false a2_),(3,.loc 3 0),(7,a7),(8,iv i10)],[(3,(Zac a0_))],aa⟩/\HP aa [.arr a7 1 false (List.map eB p)])) ?_ N _ aJ _ am ⟨a8,H9,(by show _=_;cases hfa8<;>kernel_rfl),(HP.pick hH [0] rfl)⟩).mono ?_)
   ·clear h am
    rintro ⟨a5,aD⟩ o s h hR
    obtain ⟨a3,a4,rfl,hH⟩:=hR
    replace hH:HP _ [.arr a3 1 false (List.map eB aD)]:=hH
    have a0:=ZaS (HP.get hH 0 rfl)
    replace h:Zcb N a0_ a2_ a5 aD=some o:=h
    unfold Zcb at h
    refine sq (sq (rgS ⟨[(2,Zad false a2_),(3,.loc 3 0),(7,a3),(8,iv i10),(9,iv a5),(27,bv (decide (a5<((List.length a0_.Links:Nat):Int))))],[(3,(Zac a0_))],a4⟩ (Zab.u 3 (Zan (ys:=[Zae false a0_.Links]) (h:=Zax Zat)) Zab.f) (by cases a0<;>kernel_rfl) (tq (it h (λaX h=>?_) (λaX h=>?_)))))
    ·refine sk (tq (kq ?_))
     obtain ⟨aK,an,h⟩:=bs h
     refine ZcD [2,3,7,8,9] (λs=>∃ (a6:AV) (a9:List HO),s=⟨[(2,Zad false a2_),(3,.loc 3 0),(7,a6),(8,iv i10),(9,iv a5)],[(3,(Zac a0_))],a9⟩/\HP a9 [.arr a6 1 false (List.map eB aK)]) ?_ ?_
     ·clear h
      have h:=an
      refine bk (sq ?_)
      obtain ⟨a2,aB,h⟩:=bs h
      refine rgS ⟨[(2,Zad false a2_),(3,.loc 3 0),(7,a3),(8,iv i10),(9,iv a5),(10,.loc 10 0)],[(3,(Zac a0_)),(10,(Za0 a2))],a4⟩ (Zab.u 3 (Zan (ys:=[Zae false a0_.Links,iv a5]) (h:=Zal Zat aB)) (Zab.u 0 (Zav (sz:=4) (off:=0) (cs:=[.int .i64 a2.A,.int .i64 a2.B,.int .i64 a2.Per,.int .i64 a2.Delay]) (r:=.agg (Za0 a2)) Zat aB) (Zab.f (h:=(by cases a0<;>kernel_rfl))))) (by cases a0<;>kernel_rfl) (tq (sq ?_))
      obtain ⟨b0,hj,h⟩:=bs h
      refine rgR (λs=>s=⟨[(2,Zad false a2_),(3,.loc 3 0),(7,a3),(8,iv i10),(9,iv a5),(10,.loc 10 0),(52,bv b0)],[(3,(Zac a0_)),(10,(Za0 a2))],a4⟩) ?_ ?_
      ·clear h
       obtain ⟨aj,aR,hj⟩:=bs hj
       refine (EP.v 2 (Zaz (hc:=ZhU N a2_ a5 aj aR)) ?_)
       rcases ZaC hj with ⟨aW,hj⟩|⟨aT,hj⟩
       ·refine (EP.u 0 (Zam (c:=(!aj)) (h:=aW)) ?_)
        obtain ⟨ag,ac,hj⟩:=bs hj
        obtain ⟨bp,bi,_,ba,ad,bb,ax⟩:=HP.elem (k:=0) (a:=a3) (sz:=1) (frz:=false) eB hH rfl ac
        refine (EP.u 4 (Zan (ys:=[a3,iv a2.A]) (by cases a0<;>kernel_rfl) (ax .i64)) ?_)
        rcases ZaC hj with ⟨aV,hj⟩|⟨aU,hj⟩
        ·obtain rfl:=Zao hj
         exact (EP.u 0 (ZaM.bool (ZbH (H:=a4) (off:=0) (cs:=[.bool ag]) (r:=bv ag) eB ac ad) aV) (EP.f (by show _=_;cases a0<;>kernel_rfl)))
        refine (EP.u 0 (ZaM.bool (ZbH (H:=a4) (off:=0) (cs:=[.bool ag]) (r:=bv ag) eB ac ad) aU) ?_)
        obtain ⟨aL,aA,hj⟩:=bs hj
        obtain ⟨bm,bf,_,b1,aI,b2,aw⟩:=HP.elem (k:=0) (a:=a3) (sz:=1) (frz:=false) eB hH rfl aA
        obtain rfl:=Zao hj
        exact (EP.u 4 (Zan (ys:=[a3,iv a2.B]) (by cases a0<;>kernel_rfl) (aw .i64)) (EP.u 0 (ZbH (H:=a4) (off:=0) (cs:=[.bool aL]) (r:=bv aL) eB aA aI) (EP.f (by show _=_;cases a0<;>kernel_rfl))))
       obtain rfl:=Zao hj
       exact (EP.u 0 (Zam (c:=(!aj)) (h:=aT)) (EP.f (by show _=_;cases a0<;>kernel_rfl)))
      clear hj
      rintro s hR
      obtain rfl:=hR
      refine tq (it h (λaS h=>?_) (λaS h=>?_))
      ·refine sq ?_
       obtain ⟨bu,az,h⟩:=bs h
       obtain ⟨bl,be,_,au,aG,av,ar⟩:=HP.elem (k:=0) (a:=a3) (sz:=1) (frz:=false) eB hH rfl az
       obtain ⟨aQ,aZ,hH⟩:=HP.setRow (k:=0) (off:=0) (cs:=[bv true]) (ps:=[.bool true]) (e':=true) eB hH rfl av aG (au rfl) az kr kr
       replace hH:HP _ [.arr a3 1 false (List.map eB (List.set aD (Int.toNat a2.A) true))]:=hH
       refine rgS ⟨[(2,Zad false a2_),(3,.loc 3 0),(7,a3),(8,iv i10),(9,iv a5),(10,.loc 10 0)],[(3,(Zac a0_)),(10,(Za0 a2))],aQ⟩ (Zab.u 3 (Zan (ys:=[a3,iv a2.A]) (by cases a0<;>kernel_rfl) (ar .i64)) (Zab.o 0 (Zbe (H:=a4) (v:=bv true) (hw:=aZ)) Zab.f)) (by cases a0<;>kernel_rfl) (tq ?_)
       obtain ⟨bt,ay,h⟩:=bs h
       obtain ⟨bj,bd,_,ap,aE,aq,ao⟩:=HP.elem (k:=0) (a:=a3) (sz:=1) (frz:=false) eB hH rfl ay
       obtain ⟨aM,aY,hH⟩:=HP.setRow (k:=0) (off:=0) (cs:=[bv true]) (ps:=[.bool true]) (e':=true) eB hH rfl aq aE (ap rfl) ay kr kr
       replace hH:HP _ [.arr a3 1 false (List.map eB (List.set (List.set aD (Int.toNat a2.A) true) (Int.toNat a2.B) true))]:=hH
       refine rgS ⟨[(2,Zad false a2_),(3,.loc 3 0),(7,a3),(8,iv i10),(9,iv a5)],[(3,(Zac a0_))],aM⟩ (Zab.u 3 (Zan (ys:=[a3,iv a2.B]) (by cases a0<;>kernel_rfl) (ao .i64)) (Zab.o 0 (Zbe (H:=aQ) (v:=bv true) (hw:=aY)) Zab.f)) (by cases a0<;>kernel_rfl) (bn ?_)
       cases h
       exact ⟨rfl,⟨a3,aM,(by show _=_;cases a0<;>kernel_rfl),(HP.pick hH [0] rfl)⟩⟩
      refine sk (bn ?_)
      cases h
      exact ⟨rfl,⟨a3,a4,(by show _=_;cases a0<;>kernel_rfl),(HP.pick hH [0] rfl)⟩⟩
     clear an
     rintro s hR
     obtain ⟨a6,a9,rfl,hH⟩:=hR
     replace hH:HP _ [.arr a6 1 false (List.map eB aK)]:=hH
     have ae:=ZaS (HP.get hH 0 rfl)
     refine rgS ⟨[(2,Zad false a2_),(3,.loc 3 0),(7,a6),(8,iv i10),(9,iv (w64 (a5+1)))],[(3,(Zac a0_))],a9⟩ Zab.f (by cases ae<;>kernel_rfl) ?_
     cases h
     exact ⟨_,rfl,⟨a6,a9,(by show _=_;cases ae<;>kernel_rfl),(HP.pick hH [0] rfl)⟩⟩
    refine kq (xq (tx ?_))
    cases h
    exact ⟨_,rfl,rfl,⟨a3,a4,(by show _=_;cases a0<;>kernel_rfl),(HP.pick hH [0] rfl)⟩⟩
   rintro e s hq
   obtain ⟨rfl,hR⟩:=hq
   obtain ⟨a7,aa,rfl,hH⟩:=hR
   replace hH:HP _ [.arr a7 1 false (List.map eB aJ)]:=hH
   have af:=ZaS (HP.get hH 0 rfl)
   refine bx (bn (tq (rgS ⟨[(2,Zad false a2_),(3,.loc 3 0),(7,a7),(8,iv (w64 (i10+1)))],[(3,(Zac a0_))],aa⟩ Zab.f (by cases af<;>kernel_rfl) ?_)))
   cases h
   exact ⟨_,rfl,⟨a7,aa,(by show _=_;cases af<;>kernel_rfl),(HP.pick hH [0] rfl)⟩⟩
  refine kq (xq (tx ?_))
  cases h
  exact ⟨_,rfl,rfl,⟨a8,H9,(by show _=_;cases hfa8<;>kernel_rfl),(HP.pick hH [0] rfl)⟩⟩
 rintro e s hq
 obtain ⟨rfl,hR⟩:=hq
 obtain ⟨ai,aC,rfl,hH⟩:=hR
 replace hH:HP _ [.arr ai 1 false (List.map eB ak)]:=hH
 have ab:=ZaS (HP.get hH 0 rfl)
 refine bx (tq (sq (rgS ⟨[(6,ai)],[],aC⟩ Zab.f (by cases ab<;>kernel_rfl) (tq (rt ?_)))))
 obtain rfl:=Zao h
 exact ZeB (H:=aC) (ys:=[ai]) (xs:=[.p (.sl 1 false (List.map eB ak))]) (by cases ab<;>kernel_rfl) (by cases ab<;>kernel_rfl) (Zbs (HP.pure (k:=0) (frz:=false) eB hH rfl).2 Zci) kr
theorem Zjr (N:Nat)(a0_:Int)(a1_:Int)(r:Int)(h:Zfv N a0_ a1_=some r):Zba Tryz.prog 52 [iv a0_,iv a1_] (iv r):=by
 unfold Zfv at h
 have hH  := hp0
 refine ZaG ZLb rfl rfl (Zay _ _ _ ?_) rfl
 refine sq (rg Zab.f (tq (sq ?_)))
 obtain ⟨r1,hr1,h⟩:=bs h
 obtain ⟨q2,hq2,h⟩:=bs h
 refine rg (Zab.v 3 (Zaz (hc:=Zlg N a0_ a1_ r1 hr1)) (Zab.u 2 (Zan (ys:=[iv (w64 (a0_-r1)),iv a1_]) (h:=Zhn hq2)) Zab.f)) (tq (rt ?_))
 cases h
 exact ZaA kr
theorem ZoA (N:Nat)(a0_:Zag)(a1_:Int)(a2_:Int)(r:(List Int))(h:Zhz N a0_ a1_ a2_=some r):Zba Tryz.prog 60 [.agg (Zac a0_),.p (.int .u8 a1_),.p (.int .u8 a2_)] (Zad false r):=by
 unfold Zhz at h
 have hH  := hp0
 refine ZaG ZK3 rfl rfl (Zay _ _ _ ?_) rfl
 refine sq (rg Zab.f (tq (sq ?_)))
 obtain ⟨m1,hm1,h⟩:=bs h
 refine rg (Zab.u 4 (Zan (ys:=[iv (w64 (a1_)),iv a0_.Nodes]) (h:=Zc4 hm1)) Zab.f) (tq (sq ?_))
 obtain ⟨a2,H3,ha2,hH3,hH⟩:=HP.lit 1 [m1] eI64 hH
 replace hH:HP _ [.arr a2 1 false (List.map eI64 [m1])]:=hH
 have hfa2:=ZaS (HP.get hH 0 rfl)
 refine rgS ⟨[(2,.p (.int .u8 a2_)),(3,.loc 3 0),(7,iv m1),(8,a2)],[(3,(Zac a0_))],H3⟩ (Zab.h 1 (ZlU (H:=[]) (ys:=[iv m1]) (rows:=(List.map eI64 [m1])) kr kr kr ha2 hH3) Zab.f) (by cases hfa2<;>kernel_rfl) (tq (sq (rgS ⟨[(2,.p (.int .u8 a2_)),(3,.loc 3 0),(7,iv m1),(8,a2),(9,Zad true [])],[(3,(Zac a0_))],H3⟩ Zab.f (by cases hfa2<;>kernel_rfl) (tq (sq (bk ?_))))))
 obtain ⟨ba,aE,h⟩:=bs h
 refine ZaT ((ZaI (λ(x:Int×(List Int)×(List Int)) s=>∃ (a4:AV) (a5:AV) (H6:List HO),s=⟨[(2,.p (.int .u8 a2_)),(3,.loc 3 0),(7,iv x.1),(8,a4),(9,a5)],[(3,(Zac a0_))],H6⟩/\HP H6 [.arr a4 1 true (List.map eI64 x.2.1),.arr a5 1 false (List.map eI64 x.2.2)]) (λx:Int×(List Int)×(List Int)=>Zdl N a0_ a2_ x.1 x.2.1 x.2.2) (λ(p:((List Int))⊕((List Int))) e s=>match p with|(.inl p)=>e=.exit 0/\(∃ (aA:AV) (aU:List HO),s=⟨[(9,aA)],[],aU⟩/\HP aU [.arr aA 1 false (List.map eI64 p)])|(.inr p)=>e=.ret/\∃ xs,resL s i60.res=some xs/\ZbV xs=Zad false p) ?_ N _ ba _ aE ⟨a2,(.p (.sl 1 true [])),H3,(by show _=_;cases hfa2<;>kernel_rfl),(HP.frzUp (k:=0) (HP.pick (HP.nilArr hH 1 false) [1,0] rfl) rfl)⟩).mono ?_)
 ·clear h aE
  rintro ⟨i7,l8,l9⟩ o s h hR
  obtain ⟨a4,a5,H6,rfl,hH⟩:=hR
  replace hH:HP _ [.arr a4 1 true (List.map eI64 l8),.arr a5 1 false (List.map eI64 l9)]:=hH
  have hfa4:=ZaS (HP.get hH 0 rfl)
  have hfa5:=ZaS (HP.get hH 1 rfl)
  replace h:Zdl N a0_ a2_ i7 l8 l9=some o:=h
  unfold Zdl at h
  refine sq (sq ?_)
  obtain ⟨bZ,hj,h⟩:=bs h
  refine rgR (λs=>s=⟨[(2,.p (.int .u8 a2_)),(3,.loc 3 0),(7,iv i7),(8,a4),(9,a5),(36,bv bZ)],[(3,(Zac a0_))],H6⟩) ?_ ?_
  ·clear h
   have bt:=HP.len (k:=1) (a:=a5) (sz:=1) (frz:=false) (l:=l9) eI64 hH rfl
   refine (EP.u 1 (Zan (ys:=[a5]) (by cases hfa5<;>kernel_rfl) bt) ?_)
   rcases ZaC hj with ⟨bV,hj⟩|⟨bS,hj⟩
   ·refine (EP.u 0 (Zam (c:=(decide (((List.length l9:Nat):Int)<8))) (h:=bV)) ?_)
    have bq:=HP.len (k:=1) (a:=a5) (sz:=1) (frz:=false) (l:=l9) eI64 hH rfl
    refine (EP.u 2 (Zan (ys:=[a5]) (by cases hfa5<;>kernel_rfl) bq) ?_)
    rcases ZaC hj with ⟨bU,hj⟩|⟨bT,hj⟩
    ·obtain rfl:=Zao hj
     exact (EP.u 0 (Zam (c:=(((List.length l9:Nat):Int)==0)) (h:=bU)) (EP.f (by show _=_;cases hfa4<;>cases hfa5<;>kernel_rfl)))
    refine (EP.u 0 (Zam (c:=(((List.length l9:Nat):Int)==0)) (h:=bT)) ?_)
    obtain ⟨bW,bd,hj⟩:=bs hj
    obtain rfl:=Zao hj
    exact (EP.u 4 (Zan (ys:=[s_eB false a0_.Station,iv i7]) (h:=Zal eB bd)) (EP.u 0 (Zav (sz:=1) (off:=0) (cs:=[.bool bW]) (r:=bv bW) eB bd) (EP.f (by show _=_;cases hfa4<;>cases hfa5<;>kernel_rfl))))
   obtain rfl:=Zao hj
   exact (EP.u 0 (Zam (c:=(decide (((List.length l9:Nat):Int)<8))) (h:=bS)) (EP.f (by show _=_;cases hfa4<;>cases hfa5<;>kernel_rfl)))
  clear hj
  rintro s hR
  obtain rfl:=hR
  refine tq (it h (λbR h=>?_) (λbR h=>?_))
  ·refine sk (tq (kq (bk (sq (rgS ⟨[(2,.p (.int .u8 a2_)),(3,.loc 3 0),(7,iv i7),(8,a4),(9,a5),(10,Zad true [])],[(3,(Zac a0_))],H6⟩ Zab.f (by cases hfa4<;>cases hfa5<;>kernel_rfl) (tq (sq ?_)))))))
   obtain ⟨ab,bL,h⟩:=bs h
   refine rgS ⟨[(2,.p (.int .u8 a2_)),(3,.loc 3 0),(8,a4),(9,a5),(10,Zad true []),(11,Zad false ab)],[(3,(Zac a0_))],H6⟩ (Zab.v 2 (Zaz (hc:=ZnI N a0_ i7 ab bL)) Zab.f) (by cases hfa4<;>cases hfa5<;>kernel_rfl) (tq (sq (sq (rgS ⟨[(2,.p (.int .u8 a2_)),(3,.loc 3 0),(8,a4),(9,a5),(10,Zad true []),(11,Zad false ab),(12,iv 0)],[(3,(Zac a0_))],H6⟩ Zab.f (by cases hfa4<;>cases hfa5<;>kernel_rfl) (tq (bk ?_))))))
   obtain ⟨aj,aG,h⟩:=bs h
   refine ZaT ((ZaI (λ(x:Int×(List Int)) s=>∃ (ac:AV) (af:AV) (ai:AV) (aB:List HO),s=⟨[(2,.p (.int .u8 a2_)),(3,.loc 3 0),(8,ac),(9,af),(10,ai),(11,Zad false ab),(12,iv x.1)],[(3,(Zac a0_))],aB⟩/\HP aB [.arr ac 1 true (List.map eI64 l8),.arr af 1 false (List.map eI64 l9),.arr ai 1 false (List.map eI64 x.2)]) (λx:Int×(List Int)=>Zce N a0_ l8 ab x.1 x.2) (λ(p:(List Int)) e s=>e=.exit 2/\(∃ (a7:AV) (a3:AV) (a9:AV) (ad:List HO),s=⟨[(2,.p (.int .u8 a2_)),(3,.loc 3 0),(8,a7),(9,a3),(10,a9)],[(3,(Zac a0_))],ad⟩/\HP ad [.arr a7 1 true (List.map eI64 l8),.arr a3 1 false (List.map eI64 l9),.arr a9 1 false (List.map eI64 p)])) ?_ N _ aj _ aG ⟨a4,a5,(.p (.sl 1 true [])),H6,(by show _=_;cases hfa4<;>cases hfa5<;>kernel_rfl),(HP.pick (HP.nilArr hH 1 false) [1,2,0] rfl)⟩).mono ?_)
   ·clear h aG
    rintro ⟨ap,bi⟩ o s h hR
    obtain ⟨ac,af,ai,aB,rfl,hH⟩:=hR
    replace hH:HP _ [.arr ac 1 true (List.map eI64 l8),.arr af 1 false (List.map eI64 l9),.arr ai 1 false (List.map eI64 bi)]:=hH
    have a8:=ZaS (HP.get hH 0 rfl)
    have ae:=ZaS (HP.get hH 1 rfl)
    have a6:=ZaS (HP.get hH 2 rfl)
    replace h:Zce N a0_ l8 ab ap bi=some o:=h
    unfold Zce at h
    refine sq (sq (rgS ⟨[(2,.p (.int .u8 a2_)),(3,.loc 3 0),(8,ac),(9,af),(10,ai),(11,Zad false ab),(12,iv ap),(43,bv (decide (ap<((List.length ab:Nat):Int))))],[(3,(Zac a0_))],aB⟩ (Zab.u 2 (Zan (ys:=[Zad false ab]) (h:=Zax eI64)) Zab.f) (by cases a8<;>cases ae<;>cases a6<;>kernel_rfl) (tq (it h (λbC h=>?_) (λbC h=>?_)))))
    ·refine sk (tq (kq ?_))
     obtain ⟨bc,aI,h⟩:=bs h
     refine ZcD [2,3,8,9,10,11,12] (λs=>∃ (ao:AV) (an:AV) (am:AV) (aq:List HO),s=⟨[(2,.p (.int .u8 a2_)),(3,.loc 3 0),(8,ao),(9,an),(10,am),(11,Zad false ab),(12,iv ap)],[(3,(Zac a0_))],aq⟩/\HP aq [.arr ao 1 true (List.map eI64 l8),.arr an 1 false (List.map eI64 l9),.arr am 1 false (List.map eI64 bc)]) ?_ ?_
     ·clear h
      have h:=aI
      refine bk (sq ?_)
      obtain ⟨aR,aM,h⟩:=bs h
      obtain ⟨aC,bm,h⟩:=bs h
      obtain ⟨b1,bl,h⟩:=bs h
      obtain ⟨aW,bY,aD,hH⟩:=HP.frz (k:=0) (a:=ac) (sz:=1) (frz:=true) eI64 hH rfl
      replace hH:HP _ [.arr ac 1 true (List.map eI64 l8),.arr af 1 false (List.map eI64 l9),.arr ai 1 false (List.map eI64 bi)]:=hH
      refine rqS ⟨[(2,.p (.int .u8 a2_)),(3,.loc 3 0),(8,ac),(9,af),(10,ai),(11,Zad false ab),(12,iv ap),(54,bv (!b1))],[(3,(Zac a0_))],aW⟩ (Zab.u 4 (Zan (ys:=[Zad false ab,iv ap]) (h:=Zal eI64 aM)) (Zab.u 0 (ZaK (Zav (sz:=1) (off:=0) (cs:=[.int .i64 aR]) (r:=iv aR) eI64 aM)) (Zab.u 0 (Za1 (hc:=Zej N a0_ aR aC bm)) (Zab.v 0 (Zi0 (H:=aB) (ys:=[ac,iv aC]) (by cases a8<;>kernel_rfl) (by cases a8<;>kernel_rfl) (Zfm aD (Zfm rfl Zi8)) (ZhU N l8 aC b1 bl)) Zab.f)))) (by cases a8<;>cases ae<;>cases a6<;>kernel_rfl) (tq (it h (λbB h=>?_) (λbB h=>?_)))
      ·obtain ⟨aQ,aL,h⟩:=bs h
       obtain ⟨bK,bz,h⟩:=bs h
       obtain ⟨aT,bf,bG,hH⟩:=HP.app (k:=2) (a:=ai) (sz:=1) (frz:=false) eI64 hH rfl bz
       replace hH:HP _ [.arr ac 1 true (List.map eI64 l8),.arr af 1 false (List.map eI64 l9),.arr aT 1 false (List.map eI64 bK)]:=hH
       have aw:=ZaS (HP.get hH 2 rfl)
       refine rgS ⟨[(2,.p (.int .u8 a2_)),(3,.loc 3 0),(8,ac),(9,af),(10,aT),(11,Zad false ab),(12,iv ap)],[(3,(Zac a0_))],bf⟩ (Zab.u 3 (Zan (ys:=[Zad false ab,iv ap]) (h:=Zal eI64 aL)) (Zab.u 0 (Zav (sz:=1) (off:=0) (cs:=[.int .i64 aQ]) (r:=iv aQ) eI64 aL) (Zab.h 1 (Ze9 (H:=aW) (a:=ai) (b:=Zad true [aQ]) (by cases a6<;>kernel_rfl) (by cases a6<;>kernel_rfl) (by cases a6<;>kernel_rfl) (by cases a6<;>kernel_rfl) bG) Zab.f))) (by cases aw<;>cases a8<;>cases ae<;>cases a6<;>kernel_rfl) (bn ?_)
       cases h
       exact ⟨rfl,⟨ac,af,aT,bf,(by show _=_;cases aw<;>cases a8<;>cases ae<;>kernel_rfl),(HP.pick hH [0,1,2] rfl)⟩⟩
      refine sk (bn ?_)
      cases h
      exact ⟨rfl,⟨ac,af,ai,aW,(by show _=_;cases a8<;>cases ae<;>cases a6<;>kernel_rfl),(HP.pick hH [0,1,2] rfl)⟩⟩
     clear aI
     rintro s hR
     obtain ⟨ao,an,am,aq,rfl,hH⟩:=hR
     replace hH:HP _ [.arr ao 1 true (List.map eI64 l8),.arr an 1 false (List.map eI64 l9),.arr am 1 false (List.map eI64 bc)]:=hH
     have az:=ZaS (HP.get hH 0 rfl)
     have ay:=ZaS (HP.get hH 1 rfl)
     have ax:=ZaS (HP.get hH 2 rfl)
     refine rgS ⟨[(2,.p (.int .u8 a2_)),(3,.loc 3 0),(8,ao),(9,an),(10,am),(11,Zad false ab),(12,iv (w64 (ap+1)))],[(3,(Zac a0_))],aq⟩ Zab.f (by cases az<;>cases ay<;>cases ax<;>kernel_rfl) ?_
     cases h
     exact ⟨_,rfl,⟨ao,an,am,aq,(by show _=_;cases az<;>cases ay<;>cases ax<;>kernel_rfl),(HP.pick hH [0,1,2] rfl)⟩⟩
    refine kq (xq (tx ?_))
    cases h
    exact ⟨_,rfl,rfl,⟨ac,af,ai,aB,(by show _=_;cases a8<;>cases ae<;>cases a6<;>kernel_rfl),(HP.pick hH [0,1,2] rfl)⟩⟩
   rintro e s hq
   obtain ⟨rfl,hR⟩:=hq
   obtain ⟨a7,a3,a9,ad,rfl,hH⟩:=hR
   replace hH:HP _ [.arr a7 1 true (List.map eI64 l8),.arr a3 1 false (List.map eI64 l9),.arr a9 1 false (List.map eI64 aj)]:=hH
   have a1:=ZaS (HP.get hH 0 rfl)
   have a0:=ZaS (HP.get hH 1 rfl)
   have aa:=ZaS (HP.get hH 2 rfl)
   refine bx (tq (sq (sq ?_)))
   have aZ:=HP.len (k:=2) (a:=a9) (sz:=1) (frz:=false) (l:=aj) eI64 hH rfl
   refine rgS ⟨[(2,.p (.int .u8 a2_)),(3,.loc 3 0),(8,a7),(9,a3),(10,a9),(64,bv (((List.length aj:Nat):Int)==0))],[(3,(Zac a0_))],ad⟩ (Zab.u 1 (Zan (ys:=[a9]) (by cases aa<;>kernel_rfl) aZ) Zab.f) (by cases a1<;>cases a0<;>cases aa<;>kernel_rfl) (tq (it h (λbA h=>?_) (λbA h=>?_)))
   ·refine sq (rgS ⟨[(6,a3)],[],ad⟩ Zab.f (by cases a1<;>cases a0<;>cases aa<;>kernel_rfl) ?_)
    replace hH:HP _ [.arr a3 1 false (List.map eI64 l9)]:=HP.pick hH [1] rfl
    refine tq (rt (tr (br ?_)))
    obtain rfl:=Zao h
    exact ⟨_,rfl,rfl,ZeB (H:=ad) (ys:=[a3]) (xs:=[.p (.sl 1 false (List.map eI64 l9))]) (by cases a0<;>kernel_rfl) (by cases a0<;>kernel_rfl) (Zbs (HP.pure (k:=0) (frz:=false) eI64 hH rfl).2 Zci) kr⟩
   refine sk (tq (kq (sq ?_)))
   have aY:=HP.len (k:=1) (a:=a3) (sz:=1) (frz:=false) (l:=l9) eI64 hH rfl
   have aX:=HP.len (k:=2) (a:=a9) (sz:=1) (frz:=false) (l:=aj) eI64 hH rfl
   obtain ⟨bI,bp,h⟩:=bs h
   obtain ⟨ak,aK,h⟩:=bs h
   obtain ⟨c0,bX,_,bM,b0,bQ,aJ⟩:=HP.elem (k:=2) (a:=a9) (sz:=1) (frz:=false) eI64 hH rfl aK
   refine rgS ⟨[(2,.p (.int .u8 a2_)),(3,.loc 3 0),(8,a7),(9,a3),(13,iv ak)],[(3,(Zac a0_))],ad⟩ (Zab.u 4 (Zan (ys:=[a3]) (by cases a0<;>kernel_rfl) aY) (Zab.u 3 (Zan (ys:=[a9]) (by cases aa<;>kernel_rfl) aX) (Zab.u 0 (Zan (ys:=[iv (w64 ((w64 (a2_))+(w64 (3*((List.length l9:Nat):Int))))),iv ((List.length aj:Nat):Int)]) (h:=Zc4 bp)) (Zab.u 0 (Zan (ys:=[a9,iv bI]) (by cases aa<;>kernel_rfl) (aJ .i64)) (Zab.u 0 (ZbH (H:=ad) (off:=0) (cs:=[.int .i64 ak]) (r:=iv ak) eI64 aK b0) Zab.f))))) (by cases a1<;>cases a0<;>cases aa<;>kernel_rfl) ?_
   replace hH:HP _ [.arr a7 1 true (List.map eI64 l8),.arr a3 1 false (List.map eI64 l9)]:=HP.pick hH [0,1] rfl
   refine tq (sq ?_)
   obtain ⟨bb,bw,h⟩:=bs h
   obtain ⟨al,aV,bE,hH⟩:=HP.app (k:=1) (a:=a3) (sz:=1) (frz:=false) eI64 hH rfl bw
   replace hH:HP _ [.arr a7 1 true (List.map eI64 l8),.arr al 1 false (List.map eI64 bb)]:=hH
   have ag:=ZaS (HP.get hH 1 rfl)
   refine rgS ⟨[(2,.p (.int .u8 a2_)),(3,.loc 3 0),(8,a7),(9,al),(13,iv ak)],[(3,(Zac a0_))],aV⟩ (Zab.h 3 (Ze9 (H:=ad) (a:=a3) (b:=Zad true [ak]) (by cases a0<;>kernel_rfl) (by cases a0<;>kernel_rfl) (by cases a0<;>kernel_rfl) (by cases a0<;>kernel_rfl) bE) Zab.f) (by cases a1<;>cases a0<;>cases ag<;>kernel_rfl) (tq (sq ?_))
   obtain ⟨au,bj,h⟩:=bs h
   refine rgS ⟨[(2,.p (.int .u8 a2_)),(3,.loc 3 0),(7,iv au),(8,a7),(9,al)],[(3,(Zac a0_))],aV⟩ (Zab.v 2 (Zaz (hc:=Zej N a0_ ak au bj)) Zab.f) (by cases a1<;>cases ag<;>kernel_rfl) (tq ?_)
   obtain ⟨bJ,bu,h⟩:=bs h
   obtain ⟨aS,be,bD,hH⟩:=HP.app (k:=0) (a:=a7) (sz:=1) (frz:=true) eI64 hH rfl bu
   replace hH:HP _ [.arr aS 1 true (List.map eI64 bJ),.arr al 1 false (List.map eI64 bb)]:=hH
   have av:=ZaS (HP.get hH 0 rfl)
   refine rgS ⟨[(2,.p (.int .u8 a2_)),(3,.loc 3 0),(7,iv au),(8,aS),(9,al)],[(3,(Zac a0_))],be⟩ (Zab.h 3 (Ze9 (H:=aV) (a:=a7) (b:=Zad true [au]) (by cases a1<;>kernel_rfl) (by cases a1<;>kernel_rfl) (by cases a1<;>kernel_rfl) (by cases a1<;>kernel_rfl) bD) Zab.f) (by cases a1<;>cases ag<;>cases av<;>kernel_rfl) (bn ?_)
   cases h
   exact ⟨_,rfl,⟨aS,al,be,(by show _=_;cases ag<;>cases av<;>kernel_rfl),(HP.pick hH [0,1] rfl)⟩⟩
  refine kq ?_
  replace hH:HP _ [.arr a5 1 false (List.map eI64 l9)]:=HP.pick hH [1] rfl
  refine xq (tx ?_)
  cases h
  exact ⟨_,rfl,rfl,⟨a5,H6,(by show _=_;cases hfa5<;>kernel_rfl),(HP.pick hH [0] rfl)⟩⟩
 rintro e s hq
 rcases ba with b2|c1
 ·dsimp only at h hq
  obtain ⟨rfl,hR⟩:=hq
  obtain ⟨aA,aU,rfl,hH⟩:=hR
  replace hH:HP _ [.arr aA 1 false (List.map eI64 b2)]:=hH
  have ar:=ZaS (HP.get hH 0 rfl)
  refine bx (tq (sq (rgS ⟨[(6,aA)],[],aU⟩ Zab.f (by cases ar<;>kernel_rfl) (tq (rt ?_)))))
  obtain rfl:=Zao h
  exact ZeB (H:=aU) (ys:=[aA]) (xs:=[.p (.sl 1 false (List.map eI64 b2))]) (by cases ar<;>kernel_rfl) (by cases ar<;>kernel_rfl) (Zbs (HP.pure (k:=0) (frz:=false) eI64 hH rfl).2 Zci) kr
 dsimp only at h hq
 obtain ⟨rfl,hq⟩:=hq
 refine br (tr ?_)
 cases h
 exact hq
theorem ZfP (N:Nat)(a0_:Zag)(a1_:(List Int))(r:Bool)(h:Zdr N a0_ a1_=some r):Zba Tryz.prog 61 [.agg (Zac a0_),Zad false a1_] (bv r):=by
 unfold Zdr at h
 have hH  := hp0
 refine ZaG ZK2 rfl rfl (Zay _ _ _ ?_) rfl
 refine sq (rg Zab.f (tq (sq (sq (rgX ⟨[(1,Zad false a1_),(2,.loc 2 0),(15,bv ((decide (((List.length a1_:Nat):Int)<1))||(decide (((List.length a1_:Nat):Int)>8))))],[(2,(Zac a0_))],[]⟩ ?_ ?_)))))
 ·refine (EP.u 1 (Zan (ys:=[Zad false a1_]) (h:=Zax eI64)) ?_)
  rcases Bool.eq_false_or_eq_true (decide (((List.length a1_:Nat):Int)<1)) with hc1|hc2
  ·exact (EP.u 0 (Zam (c:=(decide (((List.length a1_:Nat):Int)<1))) (h:=hc1)) (EP.f (by simp only [hc1];kernel_rfl)))
  exact (EP.u 0 (Zam (c:=(decide (((List.length a1_:Nat):Int)<1))) (h:=hc2)) (EP.u 2 (Zan (ys:=[Zad false a1_]) (h:=Zax eI64)) (EP.f (by simp only [hc2];kernel_rfl))))
 refine tq (it h (λhc3 h=>?_) (λhc3 h=>?_))
 ·refine sq (rg Zab.f (tq (rt (tr ?_))))
  cases h
  exact ZaA kr
 refine sk (tq (kq (sq (sq (rg Zab.f (tq (bk ?_)))))))
 obtain ⟨ay,ad,h⟩:=bs h
 refine ZaT ((ZaI (λ(x:Int) s=>s=⟨[(1,Zad false a1_),(2,.loc 2 0),(5,iv x)],[(2,(Zac a0_))],[]⟩) (λx:Int=>Zdq N a0_ a1_ x) (λ(p:(Unit)⊕(Bool)) e s=>match p with|(.inl p)=>e=.exit 0/\(s=⟨[(1,Zad false a1_),(2,.loc 2 0)],[(2,(Zac a0_))],[]⟩)|(.inr p)=>e=.ret/\∃ xs,resL s i61.res=some xs/\ZbV xs=bv p) ?_ N _ ay _ ad kr).mono ?_)
 ·clear h ad
  rintro i4 o s h hR
  obtain rfl:=hR
  replace h:Zdq N a0_ a1_ i4=some o:=h
  unfold Zdq at h
  refine sq (sq (rg (Zab.u 2 (Zan (ys:=[Zad false a1_]) (h:=Zax eI64)) Zab.f) (tq (it h (λaE h=>?_) (λaE h=>?_)))))
  ·refine sk (tq (kq (sq (bk (sq ?_)))))
   obtain ⟨av,ae,h⟩:=bs h
   obtain ⟨aG,aC,h⟩:=bs h
   refine rq (Zab.u 3 (Zan (ys:=[Zad false a1_,iv i4]) (h:=Zal eI64 ae)) (Zab.u 0 (ZaK (Zav (sz:=1) (off:=0) (cs:=[.int .i64 av]) (r:=iv av) eI64 ae)) (Zab.v 0 (Zaz (hc:=ZoB N a0_ av aG aC)) Zab.f))) (tq (it h (λaD h=>?_) (λaD h=>?_)))
   ·refine sq (rg Zab.f (tq (rt (br (tr ?_)))))
    cases h
    exact ⟨_,rfl,rfl,ZaA kr⟩
   refine sk (bn (tq (kq (rg Zab.f ?_))))
   cases h
   exact ⟨_,rfl,kr⟩
  refine kq (xq (tx ?_))
  cases h
  exact ⟨_,rfl,rfl,kr⟩
 rintro e s hq
 rcases ay with aL|aI
 ·dsimp only at h hq
  obtain ⟨rfl,hR⟩:=hq
  obtain rfl:=hR
  refine bx (tq (sq ?_))
  obtain ⟨a1,aB,h⟩:=bs h
  refine rg (Zab.v 2 (Zaz (hc:=ZeH N a0_ a1_ a1 aB)) Zab.f) (tq (sq (sq (rg Zab.f (tq (bk ?_))))))
  obtain ⟨ac,a4,h⟩:=bs h
  refine ZaT ((ZaI (λ(x:Int) s=>s=⟨[(1,Zad false a1_),(2,.loc 2 0),(6,Zad false a1),(7,iv x)],[(2,(Zac a0_))],[]⟩) (λx:Int=>Zdp N a0_ a1_ a1 x) (λ(p:(Unit)⊕(Bool)) e s=>match p with|(.inl p)=>e=.exit 2/\(s=⟨[],[],[]⟩)|(.inr p)=>e=.ret/\∃ xs,resL s i61.res=some xs/\ZbV xs=bv p) ?_ N _ ac _ a4 kr).mono ?_)
  ·clear h a4
   rintro a0 o s h hR
   obtain rfl:=hR
   replace h:Zdp N a0_ a1_ a1 a0=some o:=h
   unfold Zdp at h
   refine sq (sq (rg (Zab.u 2 (Zan (ys:=[Zad false a1]) (h:=Zax eI64)) Zab.f) (tq (it h (λau h=>?_) (λau h=>?_)))))
   ·refine sk (tq (kq (sq (bk (sq (sq ?_))))))
    obtain ⟨az,aj,h⟩:=bs h
    obtain ⟨ab,a8,h⟩:=bs h
    obtain ⟨ax,ai,h⟩:=bs h
    refine rq (Zab.u 2 (Zan (ys:=[Zad false a1,iv a0]) (h:=ZhH eI64 aj)) (Zab.u 2 (Zan (ys:=[Zad false a1,iv a0]) (h:=Zal eI64 a8)) (Zab.u 0 (ZaK (Zav (sz:=1) (off:=0) (cs:=[.int .i64 ab]) (r:=iv ab) eI64 a8)) (Zab.v 0 (Zaz (hc:=ZhU N az ab ax ai)) Zab.f)))) (tq (it h (λar h=>?_) (λar h=>?_)))
    ·refine sq (rg Zab.f (tq (rt (tr (br (tr ?_))))))
     cases h
     exact ⟨_,rfl,rfl,ZaA kr⟩
    refine sk (tq (kq (sq ?_)))
    obtain ⟨aA,hj,h⟩:=bs h
    refine rqR (λs=>s=⟨[(1,Zad false a1_),(2,.loc 2 0),(6,Zad false a1),(7,iv a0),(76,bv aA)],[(2,(Zac a0_))],[]⟩) ?_ ?_
    ·clear h
     rcases ZaC hj with ⟨aq,hj⟩|⟨al,hj⟩
     ·refine (EP.u 1 (Zam (c:=(decide (a0>0))) (h:=aq)) (EP.u 3 (Zan (ys:=[Zad false a1_]) (h:=Zax eI64)) ?_))
      rcases ZaC hj with ⟨ap,hj⟩|⟨am,hj⟩
      ·refine (EP.u 0 (Zam (c:=(decide (a0<((List.length a1_:Nat):Int)))) (h:=ap)) ?_)
       obtain ⟨aa,a7,hj⟩:=bs hj
       refine (EP.u 6 (Zan (ys:=[Zad false a1,iv a0]) (h:=Zal eI64 a7)) (EP.u 0 (ZaK (Zav (sz:=1) (off:=0) (cs:=[.int .i64 aa]) (r:=iv aa) eI64 a7)) ?_))
       obtain ⟨a3,a2,hj⟩:=bs hj
       refine (EP.u 0 (Zan (ys:=[s_eB false a0_.Station,iv aa]) (h:=Zal eB a2)) ?_)
       rcases ZaC hj with ⟨ao,hj⟩|⟨an,hj⟩
       ·obtain rfl:=Zao hj
        exact (EP.u 0 (ZaM.bool (ZaK (Zav (sz:=1) (off:=0) (cs:=[.bool a3]) (r:=bv a3) eB a2)) ao) (EP.f kr))
       refine (EP.u 0 (ZaM.bool (ZaK (Zav (sz:=1) (off:=0) (cs:=[.bool a3]) (r:=bv a3) eB a2)) an) ?_)
       obtain ⟨a9,a6,hj⟩:=bs hj
       refine (EP.u 4 (Zan (ys:=[Zad false a1_,iv a0]) (h:=Zal eI64 a6)) (EP.u 0 (ZaK (Zav (sz:=1) (off:=0) (cs:=[.int .i64 a9]) (r:=iv a9) eI64 a6)) ?_))
       obtain ⟨aw,ag,hj⟩:=bs hj
       refine (EP.u 0 (Za1 (hc:=ZdR N a0_ a9 aw ag)) ?_)
       obtain ⟨af,a5,hj⟩:=bs hj
       obtain rfl:=Zao hj
       exact (EP.u 2 (Zan (ys:=[Zad false a1,iv a0]) (h:=Zal eI64 a5)) (EP.u 0 (ZaK (Zav (sz:=1) (off:=0) (cs:=[.int .i64 af]) (r:=iv af) eI64 a5)) (EP.f kr)))
      obtain rfl:=Zao hj
      exact (EP.u 0 (Zam (c:=(decide (a0<((List.length a1_:Nat):Int)))) (h:=am)) (EP.f kr))
     obtain rfl:=Zao hj
     exact (EP.u 1 (Zam (c:=(decide (a0>0))) (h:=al)) (EP.f kr))
    clear hj
    rintro s hR
    obtain rfl:=hR
    refine tq (it h (λak h=>?_) (λak h=>?_))
    ·refine sq (rg Zab.f (tq (rt (br (tr ?_)))))
     cases h
     exact ⟨_,rfl,rfl,ZaA kr⟩
    refine sk (bn (tq (kq (rg Zab.f ?_))))
    cases h
    exact ⟨_,rfl,kr⟩
   refine kq (xq (tx ?_))
   cases h
   exact ⟨_,rfl,rfl,kr⟩
  rintro e s hq
  rcases ac with aK|aJ
  ·dsimp only at h hq
   obtain ⟨rfl,hR⟩:=hq
   obtain rfl:=hR
   refine bx (tq (sq (rg Zab.f (tq (rt ?_)))))
   cases h
   exact ZaA kr
  dsimp only at h hq
  obtain ⟨rfl,hq⟩:=hq
  refine br (tr ?_)
  cases h
  exact hq
 dsimp only at h hq
 obtain ⟨rfl,hq⟩:=hq
 refine br (tr ?_)
 cases h
 exact hq
theorem Zic (N:Nat)(a0_:(List Int))(a1_:(List Int))(r:Bool)(h:Zeu N a0_ a1_=some r):Zba Tryz.prog 62 [Zad false a0_,Zad false a1_] (bv r):=by
 unfold Zeu at h
 have hH  := hp0
 refine ZaG ZK1 rfl rfl (Zay _ _ _ ?_) rfl
 refine sq (rg Zab.f (tq (sq (sq (rg Zab.f (tq (bk ?_)))))))
 obtain ⟨a3,a0,h⟩:=bs h
 refine ZaT ((ZaI (λ(x:Int) s=>s=⟨[(0,Zad false a0_),(1,Zad false a1_),(5,iv x)],[],[]⟩) (λx:Int=>ZcJ N a0_ a1_ x) (λ(p:(Unit)⊕(Bool)) e s=>match p with|(.inl p)=>e=.exit 0/\(s=⟨[],[],[]⟩)|(.inr p)=>e=.ret/\∃ xs,resL s i62.res=some xs/\ZbV xs=bv p) ?_ N _ a3 _ a0 kr).mono ?_)
 ·clear h a0
  rintro i1 o s h hR
  obtain rfl:=hR
  replace h:ZcJ N a0_ a1_ i1=some o:=h
  unfold ZcJ at h
  refine sq (sq (rg (Zab.u 2 (Zan (ys:=[Zad false a0_]) (h:=Zax eI64)) Zab.f) (tq (it h (λa6 h=>?_) (λa6 h=>?_)))))
  ·refine sk (tq (kq (sq (bk (sq ?_)))))
   obtain ⟨a2,a1,h⟩:=bs h
   obtain ⟨a7,a4,h⟩:=bs h
   refine rg (Zab.u 3 (Zan (ys:=[Zad false a0_,iv i1]) (h:=Zal eI64 a1)) (Zab.u 0 (Zav (sz:=1) (off:=0) (cs:=[.int .i64 a2]) (r:=iv a2) eI64 a1) (Zab.v 0 (Zaz (hc:=ZhU N a1_ a2 a7 a4)) Zab.f))) (tq (it h (λa5 h=>?_) (λa5 h=>?_)))
   ·refine sq (rg Zab.f (tq (rt (br (tr ?_)))))
    cases h
    exact ⟨_,rfl,rfl,ZaA kr⟩
   refine sk (bn (tq (kq (rg Zab.f ?_))))
   cases h
   exact ⟨_,rfl,kr⟩
  refine kq (xq (tx ?_))
  cases h
  exact ⟨_,rfl,rfl,kr⟩
 rintro e s hq
 rcases a3 with a9|a8
 ·dsimp only at h hq
  obtain ⟨rfl,hR⟩:=hq
  obtain rfl:=hR
  refine bx (tq (sq (rg Zab.f (tq (rt ?_)))))
  cases h
  exact ZaA kr
 dsimp only at h hq
 obtain ⟨rfl,hq⟩:=hq
 refine br (tr ?_)
 cases h
 exact hq
theorem Zf6 (N:Nat)(a0_:(List Bool))(a1_:Bool)(r:Bool)(h:ZbT N a0_ a1_=some r):Zba Tryz.prog 66 [s_eB false a0_,bv a1_] (bv r):=by
 unfold ZbT at h
 have hH  := hp0
 refine ZaG ZKX rfl rfl (Zay _ _ _ ?_) rfl
 refine sq (rg Zab.f (tq (sq ?_)))
 obtain ⟨r1,hr1,h⟩:=bs h
 refine rg (Zab.v 2 (Zaz (hc:=ZgN N a0_ a1_ r1 hr1)) Zab.f) (tq (rt ?_))
 cases h
 exact ZaA kr
theorem ZkF (N:Nat)(c0_:Zag)(c1_:Zah)(k0_:Nat)(k1_:Nat)(H:List HO)(hH:HP H [.cel k0_ (Zac c0_),.cel k1_ (Zai c1_)])(r:Bool)(h:ZfL N c0_ c1_=some r):Zcm Tryz.prog 69 [.ptr k0_ 0,.ptr k1_ 0] H (bv r) H:=by
 unfold ZfL at h
 refine ZcN ZKU rfl rfl rfl (Zay _ _ _ (sq (rg Zab.f (tq (sq ?_)))))
 obtain ⟨a3,hj,h⟩:=bs h
 refine rgR (λs=>s=⟨[(2,bv a3)],[],H⟩) ?_ ?_
 ·clear h
  have hlc1:=HP.get hH 0 rfl
  refine (EP.u 0 (ZaD (H:=H) (id:=k0_) (off:=0) (cs:=(Zac c0_)) (c:=(Zac c0_)) (r:=.agg (Zac c0_)) (hl:=hlc1)) ?_)
  have hlc2:=HP.get hH 1 rfl
  refine (EP.u 1 (ZaD (H:=H) (id:=k1_) (off:=1) (cs:=(Zai c1_)) (c:=[iv c1_.Talker]) (r:=iv c1_.Talker) (hl:=hlc2)) ?_)
  obtain ⟨r3,hr3,hj⟩:=bs hj
  rcases ZaC hj with ⟨hc4,hj⟩|⟨a1,hj⟩
  ·refine (EP.h 0 (ZbB kr (Zeo N c0_ c1_.Talker r3 hr3) hc4) ?_)
   have hlc5:=HP.get hH 0 rfl
   refine (EP.u 1 (ZaD (H:=H) (id:=k0_) (off:=0) (cs:=(Zac c0_)) (c:=(Zac c0_)) (r:=.agg (Zac c0_)) (hl:=hlc5)) ?_)
   have hlc6:=HP.get hH 1 rfl
   refine (EP.u 1 (ZaD (H:=H) (id:=k1_) (off:=2) (cs:=(Zai c1_)) (c:=[iv c1_.Listener]) (r:=iv c1_.Listener) (hl:=hlc6)) ?_)
   obtain ⟨r7,hr7,hj⟩:=bs hj
   rcases ZaC hj with ⟨hc8,hj⟩|⟨a2,hj⟩
   ·refine (EP.h 0 (ZbB kr (Zeo N c0_ c1_.Listener r7 hr7) hc8) ?_)
    have hlc9:=HP.get hH 1 rfl
    refine (EP.u 3 (ZaD (H:=H) (id:=k1_) (off:=1) (cs:=(Zai c1_)) (c:=[iv c1_.Talker]) (r:=iv c1_.Talker) (hl:=hlc9)) ?_)
    have a0:=HP.get hH 1 rfl
    obtain rfl:=Zao hj
    exact (EP.u 1 (ZaD (H:=H) (id:=k1_) (off:=2) (cs:=(Zai c1_)) (c:=[iv c1_.Listener]) (r:=iv c1_.Listener) (hl:=a0)) (EP.f kr))
   obtain rfl:=Zao hj
   exact (EP.h 0 (ZbB kr (Zeo N c0_ c1_.Listener r7 hr7) a2) (EP.f kr))
  obtain rfl:=Zao hj
  exact (EP.h 0 (ZbB kr (Zeo N c0_ c1_.Talker r3 hr3) a1) (EP.f kr))
 clear hj
 rintro s hR
 obtain rfl:=hR
 refine tq (rt ?_)
 cases h
 exact Zb8 kr kr
theorem Znh (N:Nat)(a0_:Zez)(r:Int)(h:Zha N a0_=some r):Zba Tryz.prog 74 [.agg (Zf1 a0_)] (iv r):=by
 unfold Zha at h
 have hH  := hp0
 refine ZaG ZKP rfl rfl (Zay _ _ _ ?_) rfl
 refine sq (rg Zab.f (tq (sq (sq ?_))))
 obtain ⟨j5,hj,h⟩:=bs h
 refine rgR (λs=>s=⟨[(12,bv j5)],[],[]⟩) ?_ ?_
 ·clear h
  obtain ⟨r1,hr1,hj⟩:=bs hj
  refine (EP.v 2 (Zaz (hc:=Zge N a0_.Burst 1 1048576 r1 hr1)) ?_)
  rcases ZaC hj with ⟨hc2,hj⟩|⟨hc3,hj⟩
  ·obtain rfl:=Zao hj
   exact (EP.u 0 (Zam (c:=(!r1)) (h:=hc2)) (EP.f kr))
  refine (EP.u 0 (Zam (c:=(!r1)) (h:=hc3)) ?_)
  obtain ⟨r4,hr4,hj⟩:=bs hj
  obtain rfl:=Zao hj
  exact (EP.v 3 (Zaz (hc:=Zge N a0_.Rate 1 2097152 r4 hr4)) (EP.f kr))
 clear hj
 rintro s hR
 obtain rfl:=hR
 refine tq (it h (λhc6 h=>?_) (λhc6 h=>?_))
 ·refine sq (rg Zab.f (tq (rt (tr ?_))))
  cases h
  exact ZaA kr
 refine sk (tq (kq (sq (rg Zab.f (tq (rt ?_))))))
 cases h
 exact ZaA kr
theorem ZjK (N:Nat)(a0_:(List ZaL))(r:Int)(h:ZdW N a0_=some r):Zba Tryz.prog 83 [ZbE false a0_] (iv r):=by
 unfold ZdW at h
 have hH  := hp0
 refine ZaG ZKG rfl rfl (Zay _ _ _ ?_) rfl
 refine sq (rg Zab.f (tq (sq (sq (rg (Zab.u 1 (Zan (ys:=[ZbE false a0_]) (h:=Zax ZbJ)) Zab.f) (tq (it h (λhc1 h=>?_) (λhc1 h=>?_))))))))
 ·refine sq (rg Zab.f (tq (rt (tr ?_))))
  cases h
  exact ZaA kr
 refine sk (tq (kq (sq (sq (rg (Zab.u 1 (Zan (ys:=[ZbE false a0_]) (h:=Zax ZbJ)) Zab.f) (tq (bk ?_)))))))
 obtain ⟨a3,a1,h⟩:=bs h
 refine ZaT ((ZaI (λ(x:Int) s=>s=⟨[(9,ZbE false a0_),(10,iv ((List.length a0_:Nat):Int)),(11,iv x)],[],[]⟩) (λx:Int=>ZbZ N a0_ x) (λ(p:(Unit)⊕(Int)) e s=>match p with|(.inl p)=>e=.exit 0/\(s=⟨[],[],[]⟩)|(.inr p)=>e=.ret/\∃ xs,resL s i83.res=some xs/\ZbV xs=iv p) ?_ N _ a3 _ a1 kr).mono ?_)
 ·clear h a1
  rintro i2 o s h hR
  obtain rfl:=hR
  replace h:ZbZ N a0_ i2=some o:=h
  unfold ZbZ at h
  refine sq (rg Zab.f (tq (sq (it h (λa6 h=>?_) (λa6 h=>?_)))))
  ·refine sk (tq (kq (sq (bk (sq ?_)))))
   obtain ⟨a0,a2,h⟩:=bs h
   refine rg (Zab.u 0 (Zan (ys:=[ZbE false a0_,iv i2]) (h:=Zal ZbJ a2)) (Zab.u 0 (Zav (sz:=3) (off:=0) (cs:=[.int .i64 a0.Period,.int .i64 a0.From,.int .i64 a0.Long]) (r:=.agg (ZdG a0)) ZbJ a2) Zab.f)) (tq (sq ?_))
   obtain ⟨a7,a4,h⟩:=bs h
   refine rg (Zab.v 1 (Zaz (hc:=Zf8 N a0 a7 a4)) Zab.f) (tq (sq (rg Zab.f (tq (it h (λa5 h=>?_) (λa5 h=>?_))))))
   ·refine sq (rg Zab.f (tq (rt (br (tr ?_)))))
    cases h
    exact ⟨_,rfl,rfl,ZaA kr⟩
   refine sk (bn (tq (kq (rg Zab.f ?_))))
   cases h
   exact ⟨_,rfl,kr⟩
  refine kq (xq (tx ?_))
  cases h
  exact ⟨_,rfl,rfl,kr⟩
 rintro e s hq
 rcases a3 with a9|a8
 ·dsimp only at h hq
  obtain ⟨rfl,hR⟩:=hq
  obtain rfl:=hR
  refine bx (tq (sq (rg Zab.f (tq (rt ?_)))))
  cases h
  exact ZaA kr
 dsimp only at h hq
 obtain ⟨rfl,hq⟩:=hq
 refine br (tr ?_)
 cases h
 exact hq
theorem Zmz (N:Nat)(a0_:Int)(a1_:(List Int))(r:Int)(h:ZfX N a0_ a1_=some r):Zba Tryz.prog 84 [iv a0_,Zad false a1_] (iv r):=by
 unfold ZfX at h
 have hH  := hp0
 refine ZaG ZKF rfl rfl (Zay _ _ _ ?_) rfl
 refine sq (rg Zab.f (tq (sq (rg Zab.f (tq (sq (sq (rg (Zab.u 1 (Zan (ys:=[Zad false a1_]) (h:=Zax eI64)) Zab.f) (tq (bk ?_))))))))))
 obtain ⟨a8,a0,h⟩:=bs h
 refine ZaT ((ZaI (λ(x:Int×Int) s=>s=⟨[(0,iv a0_),(5,iv x.1),(8,Zad false a1_),(9,iv ((List.length a1_:Nat):Int)),(10,iv x.2)],[],[]⟩) (λx:Int×Int=>Zcd N a0_ a1_ x.1 x.2) (λ(p:Int) e s=>e=.exit 0/\(s=⟨[(5,iv p)],[],[]⟩)) ?_ N _ a8 _ a0 kr).mono ?_)
 ·clear h a0
  rintro ⟨i1,i2⟩ o s h hR
  obtain rfl:=hR
  replace h:Zcd N a0_ a1_ i1 i2=some o:=h
  unfold Zcd at h
  refine sq (rg Zab.f (tq (sq (it h (λa7 h=>?_) (λa7 h=>?_)))))
  ·refine sk (tq (kq (sq (bk (sq ?_)))))
   obtain ⟨a2,a1,h⟩:=bs h
   refine rg (Zab.u 0 (Zan (ys:=[Zad false a1_,iv i2]) (h:=Zal eI64 a1)) (Zab.u 0 (Zav (sz:=1) (off:=0) (cs:=[.int .i64 a2]) (r:=iv a2) eI64 a1) Zab.f)) (tq (sq ?_))
   obtain ⟨a3,a4,h⟩:=bs h
   obtain ⟨a9,a5,h⟩:=bs h
   refine rg (Zab.v 3 (Zaz (hc:=Zjq N i1 a2 a3 a4)) (Zab.u 0 (Zan (ys:=[iv i1,iv a3]) (h:=Zhn a5)) Zab.f)) (tq (sq (rg Zab.f (tq (it h (λa6 h=>?_) (λa6 h=>?_))))))
   ·refine kq (xq (bo (tx ?_)))
    cases h
    exact ⟨_,rfl,rfl,kr⟩
   refine sk (bn (tq (kq (rg Zab.f ?_))))
   cases h
   exact ⟨_,rfl,kr⟩
  refine kq (xq (tx ?_))
  cases h
  exact ⟨_,rfl,rfl,kr⟩
 rintro e s hq
 obtain ⟨rfl,hR⟩:=hq
 obtain rfl:=hR
 refine bx (tq (sq (rg Zab.f (tq (rt ?_)))))
 cases h
 exact ZaA kr
theorem Zmd (N:Nat)(a0_:Int)(c0_:Zag)(k0_:Nat)(H:List HO)(hH:HP H [.cel k0_ (Zac c0_)])(r:Bool)(h:ZgQ N a0_ c0_=some r):Zcm Tryz.prog 87 [iv a0_,.ptr k0_ 0] H (bv r) H:=by
 unfold ZgQ at h
 refine ZcN ZKC rfl rfl rfl (Zay _ _ _ (sq (rg Zab.f (tq (sq ?_)))))
 have hlc1:=HP.get hH 0 rfl
 obtain ⟨e2,he2,h⟩:=bs h
 refine rg (Zab.u 1 (ZaD (H:=H) (id:=k0_) (off:=2) (cs:=(Zac c0_)) (c:=[Zae false c0_.Links]) (r:=Zae false c0_.Links) (hl:=hlc1)) (Zab.u 1 (Zan (ys:=[Zae false c0_.Links,iv a0_]) (h:=Zal Zat he2)) (Zab.u 0 (Zav (sz:=4) (off:=0) (cs:=[.int .i64 e2.A,.int .i64 e2.B,.int .i64 e2.Per,.int .i64 e2.Delay]) (r:=.agg (Za0 e2)) Zat he2) Zab.f))) (tq (sq ?_))
 obtain ⟨a1,hj,h⟩:=bs h
 refine rgR (λs=>s=⟨[(3,bv a1)],[],H⟩) ?_ ?_
 ·clear h
  have hlc3:=HP.get hH 0 rfl
  refine (EP.u 0 (ZaD (H:=H) (id:=k0_) (off:=0) (cs:=(Zac c0_)) (c:=(Zac c0_)) (r:=.agg (Zac c0_)) (hl:=hlc3)) ?_)
  obtain ⟨r4,hr4,hj⟩:=bs hj
  rcases ZaC hj with ⟨hc5,hj⟩|⟨a0,hj⟩
  ·refine (EP.h 2 (ZbB kr (ZgR N c0_ e2.A r4 hr4) hc5) ?_)
   have hlc6:=HP.get hH 0 rfl
   refine (EP.u 1 (ZaD (H:=H) (id:=k0_) (off:=0) (cs:=(Zac c0_)) (c:=(Zac c0_)) (r:=.agg (Zac c0_)) (hl:=hlc6)) ?_)
   obtain ⟨r7,hr7,hj⟩:=bs hj
   rcases ZaC hj with ⟨hc8,hj⟩|⟨hc9,hj⟩
   ·obtain rfl:=Zao hj
    exact (EP.h 2 (ZbB kr (ZgR N c0_ e2.B r7 hr7) hc8) (EP.f kr))
   obtain rfl:=Zao hj
   exact (EP.h 2 (ZbB kr (ZgR N c0_ e2.B r7 hr7) hc9) (EP.f kr))
  obtain rfl:=Zao hj
  exact (EP.h 2 (ZbB kr (ZgR N c0_ e2.A r4 hr4) a0) (EP.f kr))
 clear hj
 rintro s hR
 obtain rfl:=hR
 refine tq (rt ?_)
 cases h
 exact Zb8 kr kr
theorem ZgB (N:Nat)(a0_:Za7)(a1_:(List Int))(r:Bool)(h:Zck N a0_ a1_=some r):Zba Tryz.prog 97 [.agg (Zac a0_.Topo),Zad false a1_] (bv r):=by
 unfold Zck at h
 have hH  := hp0
 refine ZaG ZKs rfl rfl (Zay _ _ _ ?_) rfl
 refine sq ?_
 obtain ⟨id1,H2,hid1,hH2,hH⟩:=HP.newCell hH (Zac a0_.Topo)
 replace hH:HP _ [.cel id1 (Zac a0_.Topo)]:=hH
 refine rgS ⟨[(1,Zad false a1_),(2,.ptr id1 0)],[],H2⟩ (Zab.h 0 (Zdn (H:=[]) (v:=.agg (Zac a0_.Topo)) (hid:=hid1) (hH:=hH2)) Zab.f) kr (tq (sq (sq (rgX ⟨[(1,Zad false a1_),(2,.ptr id1 0),(17,bv ((decide (((List.length a1_:Nat):Int)<1))||(decide (((List.length a1_:Nat):Int)>8))))],[],H2⟩ ?_ ?_))))
 ·refine (EP.u 1 (Zan (ys:=[Zad false a1_]) (h:=Zax eI64)) ?_)
  rcases Bool.eq_false_or_eq_true (decide (((List.length a1_:Nat):Int)<1)) with hc3|hc4
  ·exact (EP.u 0 (Zam (c:=(decide (((List.length a1_:Nat):Int)<1))) (h:=hc3)) (EP.f (by simp only [hc3];kernel_rfl)))
  exact (EP.u 0 (Zam (c:=(decide (((List.length a1_:Nat):Int)<1))) (h:=hc4)) (EP.u 2 (Zan (ys:=[Zad false a1_]) (h:=Zax eI64)) (EP.f (by simp only [hc4];kernel_rfl))))
 refine tq (it h (λhc5 h=>?_) (λhc5 h=>?_))
 ·refine sq (rgS ⟨[(4,bv false)],[],H2⟩ Zab.f kr ?_)
  replace hH:HP _ []:=HP.pick hH [] rfl
  refine tq (rt (tr ?_))
  cases h
  exact ZaA kr
 refine sk (tq (kq (sq ?_)))
 obtain ⟨id6,H7,hid6,hH7,hH⟩:=HP.newCell hH (ZaJ (Zau.mk false false false false false false false false false false false false))
 replace hH:HP _ [.cel id6 (ZaJ (Zau.mk false false false false false false false false false false false false)),.cel id1 (Zac a0_.Topo)]:=hH
 refine rgS ⟨[(1,Zad false a1_),(2,.ptr id1 0),(5,.ptr id6 0)],[],H7⟩ (Zab.h 0 (Zir (H:=H2) kr hid6 hH7) Zab.f) kr (tq (sq ?_))
 obtain ⟨id8,H9,hid8,hH9,hH⟩:=HP.newCell hH [iv 0]
 replace hH:HP _ [.cel id8 [iv 0],.cel id6 (ZaJ (Zau.mk false false false false false false false false false false false false)),.cel id1 (Zac a0_.Topo)]:=hH
 obtain ⟨a1,bz,bc,bp,hH⟩:=HP.newCell hH [iv 0]
 replace hH:HP _ [.cel a1 [iv 0],.cel id8 [iv 0],.cel id6 (ZaJ (Zau.mk false false false false false false false false false false false false)),.cel id1 (Zac a0_.Topo)]:=hH
 obtain ⟨bw,bm,hH⟩:=HP.setCell (k:=1) (off:=0) (cs:=[iv 0]) (vs:=[iv 0]) (cs':=[iv 0]) hH rfl kr
 replace hH:HP _ [.cel a1 [iv 0],.cel id8 [iv 0],.cel id6 (ZaJ (Zau.mk false false false false false false false false false false false false)),.cel id1 (Zac a0_.Topo)]:=hH
 obtain ⟨bj,bl,hH⟩:=HP.setCell (k:=0) (off:=0) (cs:=[iv 0]) (vs:=[iv 0]) (cs':=[iv 0]) hH rfl kr
 replace hH:HP _ [.cel a1 [iv 0],.cel id8 [iv 0],.cel id6 (ZaJ (Zau.mk false false false false false false false false false false false false)),.cel id1 (Zac a0_.Topo)]:=hH
 refine rgS ⟨[(1,Zad false a1_),(2,.ptr id1 0),(5,.ptr id6 0),(6,.ptr id8 0),(7,.ptr a1 0)],[],bj⟩ (Zab.h 0 (Zir (H:=H7) kr hid8 hH9) (Zab.h 0 (Zir (H:=H9) kr bc bp) (Zab.o 0 (Zbe (H:=bz) (v:=iv 0) (hw:=bm)) (Zab.o 0 (Zbe (H:=bw) (v:=iv 0) (hw:=bl)) Zab.f)))) kr (tq ?_)
 obtain ⟨af,aB,h⟩:=bs h
 refine ZcD [1,7] (λs=>∃ (an:List HO),s=⟨[(1,Zad false a1_),(7,.ptr a1 0)],[],an⟩/\HP an [.cel a1 [iv af]]) ?_ ?_
 ·clear h
  have h:=aB
  refine sq ?_
  have aK:=HP.get hH 3 rfl
  obtain ⟨aa,bb,h⟩:=bs h
  obtain ⟨a9,a8,a4,aG,aI⟩:=ZgV N a0_ a1_ bj aa bb
  replace hH:HP _ [.cel a9 [Zad false aa.1],.cel a8 (Zac aa.2.Topo),.cel a1 [iv 0],.cel id8 [iv 0],.cel id6 (ZaJ (Zau.mk false false false false false false false false false false false false)),.cel id1 (Zac a0_.Topo)]:=HP.callee (fp:=[]) (rest:=[.cel a1 [iv 0],.cel id8 [iv 0],.cel id6 (ZaJ (Zau.mk false false false false false false false false false false false false)),.cel id1 (Zac a0_.Topo)]) hH aI
  refine rgS ⟨[(1,Zad false a1_),(2,.ptr id1 0),(5,.ptr id6 0),(6,.ptr id8 0),(7,.ptr a1 0),(20,.fn 114 [] [.ptr a9 0,.ptr a8 0])],[],a4⟩ (Zab.u 0 (ZaD (H:=bj) (id:=id1) (off:=0) (cs:=(Zac a0_.Topo)) (c:=(Zac a0_.Topo)) (r:=.agg (Zac a0_.Topo)) (hl:=aK)) (Zab.v 1 (ZhN (H:=bj) (ys:=[.agg (Zac a0_.Topo),Zad false a1_]) kr kr kr aG) Zab.f)) kr (tq (bk ?_))
  obtain ⟨ab,aJ,h⟩:=bs h
  have aq:∀ (a7:Int) (a0:ZbU) (s:(Int×Int×Zau)×Nat) (r:((Int×Int×Zau)×Nat)×Bool) (H:List HO) (its:List Za9),(λ(s:(Int×Int×Zau)×Nat) (its:List Za9)=>its=[.cel a1 [iv s.1.1],.cel id8 [iv s.1.2.1],.cel id6 (ZaJ s.1.2.2),.cel id1 (Zac a0_.Topo)]++[.lp (List.length a4) (lcOf Tryz.prog i97.nt [21,22] Zff Zfe) [(2,.ptr id1 0),(5,.ptr id6 0),(6,.ptr id8 0),(7,.ptr a1 0)] (stAt [.ready,.done (.exit 0)] s.2)]) s its->HP H its->(λ(s:(Int×Int×Zau)×Nat) (a7:Int) (a0:ZbU)=>Zim (λv:Int×Int×Zau=>Zbz N a0_ v.1 v.2.1 v.2.2 a7 a0) s) s a7 a0=some r->∃ H' its',ZiY Tryz.prog (List.length a4) [iv a7,.agg (Zbd a0)] H r.2 H'/\(λ(s:(Int×Int×Zau)×Nat) (its:List Za9)=>its=[.cel a1 [iv s.1.1],.cel id8 [iv s.1.2.1],.cel id6 (ZaJ s.1.2.2),.cel id1 (Zac a0_.Topo)]++[.lp (List.length a4) (lcOf Tryz.prog i97.nt [21,22] Zff Zfe) [(2,.ptr id1 0),(5,.ptr id6 0),(6,.ptr id8 0),(7,.ptr a1 0)] (stAt [.ready,.done (.exit 0)] s.2)]) r.1 its'/\Fp H H' its its':=by
   clear h
   intro a7 a0 s r ac its hT hH h
   obtain ⟨h0,q,hb,rfl⟩:=Zl7 h
   clear h
   obtain ⟨vs,e⟩:=s
   obtain rfl:e=0:=h0
   obtain ⟨a3,a5,a2⟩:=vs
   obtain rfl:=hT
   replace h:Zbz N a0_ a3 a5 a2 a7 a0=some q:=hb
   clear hb
   unfold Zbz at h
   replace hH:Fp _ _ _ [.cel a1 [iv a3],.cel id8 [iv a5],.cel id6 (ZaJ a2),.cel id1 (Zac a0_.Topo),.lp (List.length a4) (lcOf Tryz.prog i97.nt [21,22] Zff Zfe) [(2,.ptr id1 0),(5,.ptr id6 0),(6,.ptr id8 0),(7,.ptr a1 0)] .ready]:=Fp.refl hH
   suffices hs:∃ H',ZiY Tryz.prog (List.length a4) [iv a7,.agg (Zbd a0)] ac (q.2==0) H'/\∃ its',(λ(s:(Int×Int×Zau)×Nat) (its:List Za9)=>its=[.cel a1 [iv s.1.1],.cel id8 [iv s.1.2.1],.cel id6 (ZaJ s.1.2.2),.cel id1 (Zac a0_.Topo)]++[.lp (List.length a4) (lcOf Tryz.prog i97.nt [21,22] Zff Zfe) [(2,.ptr id1 0),(5,.ptr id6 0),(6,.ptr id8 0),(7,.ptr a1 0)] (stAt [.ready,.done (.exit 0)] s.2)]) q its'/\Fp ac H' [.cel a1 [iv a3],.cel id8 [iv a5],.cel id6 (ZaJ a2),.cel id1 (Zac a0_.Topo),.lp (List.length a4) (lcOf Tryz.prog i97.nt [21,22] Zff Zfe) [(2,.ptr id1 0),(5,.ptr id6 0),(6,.ptr id8 0),(7,.ptr a1 0)] .ready] its' by
    obtain ⟨H',h1,its',h2,h3⟩:=hs
    exact ⟨H',its',h1,h2,h3⟩
   refine Zin (id:=(List.length a4)) (args:=[iv a7,.agg (Zbd a0)]) (H:=ac) (n:=i97.nt) (ps:=[21,22]) (fr0:=[(2,.ptr id1 0),(5,.ptr id6 0),(6,.ptr id8 0),(7,.ptr a1 0)]) (ia:=Zff) (ib:=Zfe) (q.2==0) (λH'=>∃ its',(λ(s:(Int×Int×Zau)×Nat) (its:List Za9)=>its=[.cel a1 [iv s.1.1],.cel id8 [iv s.1.2.1],.cel id6 (ZaJ s.1.2.2),.cel id1 (Zac a0_.Topo)]++[.lp (List.length a4) (lcOf Tryz.prog i97.nt [21,22] Zff Zfe) [(2,.ptr id1 0),(5,.ptr id6 0),(6,.ptr id8 0),(7,.ptr a1 0)] (stAt [.ready,.done (.exit 0)] s.2)]) q its'/\Fp ac H' [.cel a1 [iv a3],.cel id8 [iv a5],.cel id6 (ZaJ a2),.cel id1 (Zac a0_.Topo),.lp (List.length a4) (lcOf Tryz.prog i97.nt [21,22] Zff Zfe) [(2,.ptr id1 0),(5,.ptr id6 0),(6,.ptr id8 0),(7,.ptr a1 0)] .ready] its') (Fp.get hH 4 rfl) rfl (by decide +kernel) rfl ?_
   show vc _ _ _ _ ⟨[(2,.ptr id1 0),(5,.ptr id6 0),(6,.ptr id8 0),(7,.ptr a1 0),(21,iv a7),(22,.agg (Zbd a0))],[],ac⟩
   refine sq (rgS ⟨[(2,.ptr id1 0),(5,.ptr id6 0),(6,.ptr id8 0),(7,.ptr a1 0),(8,iv a7),(22,.agg (Zbd a0))],[],ac⟩ Zab.f kr (tq (rgS ⟨[(2,.ptr id1 0),(5,.ptr id6 0),(6,.ptr id8 0),(7,.ptr a1 0),(8,iv a7),(9,.loc 9 0)],[(9,(Zbd a0))],ac⟩ Zab.f kr (Zm0 (k:=4) hH rfl ?_))))
   intro a6 hH
   replace hH:Fp _ _ _ [.cel a1 [iv a3],.cel id8 [iv a5],.cel id6 (ZaJ a2),.cel id1 (Zac a0_.Topo),.lp (List.length a4) (lcOf Tryz.prog i97.nt [21,22] Zff Zfe) [(2,.ptr id1 0),(5,.ptr id6 0),(6,.ptr id8 0),(7,.ptr a1 0)] .busy]:=hH
   show vc _ _ _ _ ⟨[(2,.ptr id1 0),(5,.ptr id6 0),(6,.ptr id8 0),(7,.ptr a1 0),(8,iv a7),(9,.loc 9 0)],[(9,(Zbd a0))],a6⟩
   refine bk (sq (sq (rgS ⟨[(2,.ptr id1 0),(5,.ptr id6 0),(6,.ptr id8 0),(7,.ptr a1 0),(9,.loc 9 0),(24,bv (a7==0))],[(9,(Zbd a0))],a6⟩ Zab.f kr (tq (it h (λaV h=>?_) (λaV h=>?_))))))
   ·obtain ⟨bu,am,h⟩:=bs h
    obtain ⟨ae,b2,hH⟩:=Fp.setCell (k:=2) (off:=0+Int.toNat a0.from_*1) (cs:=(ZaJ a2)) (vs:=[bv true]) (cs':=(ZaJ (Zau.set a2 a0.from_ true))) hH rfl (ZkI (λx=>bv x) [] [] (l:=a2.l) am rfl rfl rfl (Zqx (Zau.c_set a2 a0.from_ true) (by show (ZaJ (Zau.set a2 a0.from_ true))=[]++(ZaJ (Zau.set a2 a0.from_ true)++[]);rfl)))
    replace hH:Fp _ _ _ [.cel a1 [iv a3],.cel id8 [iv a5],.cel id6 (ZaJ (Zau.set a2 a0.from_ true)),.cel id1 (Zac a0_.Topo),.lp (List.length a4) (lcOf Tryz.prog i97.nt [21,22] Zff Zfe) [(2,.ptr id1 0),(5,.ptr id6 0),(6,.ptr id8 0),(7,.ptr a1 0)] .busy]:=hH
    refine rgS ⟨[(5,.ptr id6 0),(6,.ptr id8 0),(7,.ptr a1 0),(9,.loc 9 0)],[(9,(Zbd a0))],ae⟩ (Zab.u 2 (Zan (ys:=[.ptr id6 0,iv a0.from_]) (h:=ZfS (l:=a2.l) am rfl)) (Zab.o 0 (Zbe (H:=a6) (v:=bv true) (hw:=b2)) Zab.f)) kr (tq (kq (sq (sq ?_))))
    obtain ⟨be,al,h⟩:=bs h
    have aA:=Fp.get hH 2 rfl
    refine rgS ⟨[(5,.ptr id6 0),(6,.ptr id8 0),(7,.ptr a1 0),(9,.loc 9 0),(43,bv be)],[(9,(Zbd a0))],ae⟩ (Zab.u 2 (Zan (ys:=[.ptr id6 0,iv a0.to_]) (h:=ZfS (l:=(Zau.set a2 a0.from_ true).l) al rfl)) (Zab.u 0 (Zpg (H:=ae) (id:=id6) (off:=0) (cs:=(ZaJ (Zau.set a2 a0.from_ true))) (l:=(Zau.set a2 a0.from_ true).l) (λx=>bv x) [] [] al kr kr aA rfl rfl) Zab.f)) kr (tq (it h (λaU h=>?_) (λaU h=>?_)))
    ·refine kq (xq (tx (bo ?_)))
     cases h
     exact rbd (k:=4) (.done (.exit 0)) hH rfl rfl (λH6 hH=>⟨_,(Eq.refl _),(Fp.pick hH [0,1,2,3,4] rfl)⟩)
    refine sk (tq (kq (sq ?_)))
    obtain ⟨bt,ak,h⟩:=bs h
    obtain ⟨aE,b1,hH⟩:=Fp.setCell (k:=2) (off:=0+Int.toNat a0.to_*1) (cs:=(ZaJ (Zau.set a2 a0.from_ true))) (vs:=[bv true]) (cs':=(ZaJ (Zau.set (Zau.set a2 a0.from_ true) a0.to_ true))) hH rfl (ZkI (λx=>bv x) [] [] (l:=(Zau.set a2 a0.from_ true).l) ak rfl rfl rfl (Zqx (Zau.c_set (Zau.set a2 a0.from_ true) a0.to_ true) (by show (ZaJ (Zau.set (Zau.set a2 a0.from_ true) a0.to_ true))=[]++(ZaJ (Zau.set (Zau.set a2 a0.from_ true) a0.to_ true)++[]);rfl)))
    replace hH:Fp _ _ _ [.cel a1 [iv a3],.cel id8 [iv a5],.cel id6 (ZaJ (Zau.set (Zau.set a2 a0.from_ true) a0.to_ true)),.cel id1 (Zac a0_.Topo),.lp (List.length a4) (lcOf Tryz.prog i97.nt [21,22] Zff Zfe) [(2,.ptr id1 0),(5,.ptr id6 0),(6,.ptr id8 0),(7,.ptr a1 0)] .busy]:=hH
    refine rgS ⟨[(6,.ptr id8 0),(7,.ptr a1 0),(9,.loc 9 0)],[(9,(Zbd a0))],aE⟩ (Zab.u 2 (Zan (ys:=[.ptr id6 0,iv a0.to_]) (h:=ZfS (l:=(Zau.set a2 a0.from_ true).l) ak rfl)) (Zab.o 0 (Zbe (H:=ae) (v:=bv true) (hw:=b1)) Zab.f)) kr (tq (sq ?_))
    obtain ⟨ap,b0,hH⟩:=Fp.setCell (k:=1) (off:=0) (cs:=[iv a5]) (vs:=[iv a0.to_]) (cs':=[iv a0.to_]) hH rfl kr
    replace hH:Fp _ _ _ [.cel a1 [iv a3],.cel id8 [iv a0.to_],.cel id6 (ZaJ (Zau.set (Zau.set a2 a0.from_ true) a0.to_ true)),.cel id1 (Zac a0_.Topo),.lp (List.length a4) (lcOf Tryz.prog i97.nt [21,22] Zff Zfe) [(2,.ptr id1 0),(5,.ptr id6 0),(6,.ptr id8 0),(7,.ptr a1 0)] .busy]:=hH
    refine rgS ⟨[(7,.ptr a1 0)],[],ap⟩ (Zab.o 2 (Zbe (H:=aE) (v:=iv a0.to_) (hw:=b0)) Zab.f) kr (tq ?_)
    have az:=Fp.get hH 0 rfl
    obtain ⟨bi,aZ,hH⟩:=Fp.setCell (k:=0) (off:=0) (cs:=[iv a3]) (vs:=[iv (w64 (a3+1))]) (cs':=[iv (w64 (a3+1))]) hH rfl kr
    replace hH:Fp _ _ _ [.cel a1 [iv (w64 (a3+1))],.cel id8 [iv a0.to_],.cel id6 (ZaJ (Zau.set (Zau.set a2 a0.from_ true) a0.to_ true)),.cel id1 (Zac a0_.Topo),.lp (List.length a4) (lcOf Tryz.prog i97.nt [21,22] Zff Zfe) [(2,.ptr id1 0),(5,.ptr id6 0),(6,.ptr id8 0),(7,.ptr a1 0)] .busy]:=hH
    refine rgS ⟨[],[],bi⟩ (Zab.u 0 (ZaD (H:=ap) (id:=a1) (off:=0) (cs:=[iv a3]) (c:=[iv a3]) (r:=iv a3) (hl:=az)) (Zab.o 1 (Zbe (H:=ap) (v:=iv (w64 (a3+1))) (hw:=aZ)) Zab.f)) kr (bn ?_)
    cases h
    exact rbd (k:=4) (.ready) hH rfl rfl (λH6 hH=>⟨_,(Eq.refl _),(Fp.pick hH [0,1,2,3,4] rfl)⟩)
   refine sq ?_
   obtain ⟨ba,hj,h⟩:=bs h
   refine rgR (λs=>s=⟨[(5,.ptr id6 0),(6,.ptr id8 0),(7,.ptr a1 0),(9,.loc 9 0),(39,bv ba)],[(9,(Zbd a0))],a6⟩) ?_ ?_
   ·clear h
    have ay:=Fp.get hH 1 rfl
    refine (EP.u 2 (ZaD (H:=a6) (id:=id8) (off:=0) (cs:=[iv a5]) (c:=[iv a5]) (r:=iv a5) (hl:=ay)) ?_)
    rcases ZaC hj with ⟨aT,hj⟩|⟨aS,hj⟩
    ·obtain rfl:=Zao hj
     exact (EP.u 0 (Zam (c:=(a0.from_ != a5)) (h:=aT)) (EP.f kr))
    refine (EP.u 0 (Zam (c:=(a0.from_ != a5)) (h:=aS)) ?_)
    have ax:=Fp.get hH 3 rfl
    refine (EP.u 3 (ZaD (H:=a6) (id:=id1) (off:=1) (cs:=(Zac a0_.Topo)) (c:=[s_eB false a0_.Topo.Station]) (r:=s_eB false a0_.Topo.Station) (hl:=ax)) ?_)
    have aw:=Fp.get hH 1 rfl
    refine (EP.u 0 (ZaD (H:=a6) (id:=id8) (off:=0) (cs:=[iv a5]) (c:=[iv a5]) (r:=iv a5) (hl:=aw)) ?_)
    obtain ⟨aC,aj,hj⟩:=bs hj
    obtain rfl:=Zao hj
    exact (EP.u 0 (Zan (ys:=[s_eB false a0_.Topo.Station,iv a5]) (h:=Zal eB aj)) (EP.u 0 (Zav (sz:=1) (off:=0) (cs:=[.bool aC]) (r:=bv aC) eB aj) (EP.f kr)))
   clear hj
   rintro s hR
   obtain rfl:=hR
   refine tq (it h (λaR h=>?_) (λaR h=>?_))
   ·refine kq (xq (tx (bo ?_)))
    cases h
    exact rbd (k:=4) (.done (.exit 0)) hH rfl rfl (λH6 hH=>⟨_,(Eq.refl _),(Fp.pick hH [0,1,2,3,4] rfl)⟩)
   refine sk (tq (kq (sq (sq ?_))))
   obtain ⟨bd,ai,h⟩:=bs h
   have av:=Fp.get hH 2 rfl
   refine rgS ⟨[(5,.ptr id6 0),(6,.ptr id8 0),(7,.ptr a1 0),(9,.loc 9 0),(43,bv bd)],[(9,(Zbd a0))],a6⟩ (Zab.u 2 (Zan (ys:=[.ptr id6 0,iv a0.to_]) (h:=ZfS (l:=a2.l) ai rfl)) (Zab.u 0 (Zpg (H:=a6) (id:=id6) (off:=0) (cs:=(ZaJ a2)) (l:=a2.l) (λx=>bv x) [] [] ai kr kr av rfl rfl) Zab.f)) kr (tq (it h (λaQ h=>?_) (λaQ h=>?_)))
   ·refine kq (xq (tx (bo ?_)))
    cases h
    exact rbd (k:=4) (.done (.exit 0)) hH rfl rfl (λH6 hH=>⟨_,(Eq.refl _),(Fp.pick hH [0,1,2,3,4] rfl)⟩)
   refine sk (tq (kq (sq ?_)))
   obtain ⟨bq,ag,h⟩:=bs h
   obtain ⟨aD,aY,hH⟩:=Fp.setCell (k:=2) (off:=0+Int.toNat a0.to_*1) (cs:=(ZaJ a2)) (vs:=[bv true]) (cs':=(ZaJ (Zau.set a2 a0.to_ true))) hH rfl (ZkI (λx=>bv x) [] [] (l:=a2.l) ag rfl rfl rfl (Zqx (Zau.c_set a2 a0.to_ true) (by show (ZaJ (Zau.set a2 a0.to_ true))=[]++(ZaJ (Zau.set a2 a0.to_ true)++[]);rfl)))
   replace hH:Fp _ _ _ [.cel a1 [iv a3],.cel id8 [iv a5],.cel id6 (ZaJ (Zau.set a2 a0.to_ true)),.cel id1 (Zac a0_.Topo),.lp (List.length a4) (lcOf Tryz.prog i97.nt [21,22] Zff Zfe) [(2,.ptr id1 0),(5,.ptr id6 0),(6,.ptr id8 0),(7,.ptr a1 0)] .busy]:=hH
   refine rgS ⟨[(6,.ptr id8 0),(7,.ptr a1 0),(9,.loc 9 0)],[(9,(Zbd a0))],aD⟩ (Zab.u 2 (Zan (ys:=[.ptr id6 0,iv a0.to_]) (h:=ZfS (l:=a2.l) ag rfl)) (Zab.o 0 (Zbe (H:=a6) (v:=bv true) (hw:=aY)) Zab.f)) kr (tq (sq ?_))
   obtain ⟨ao,aX,hH⟩:=Fp.setCell (k:=1) (off:=0) (cs:=[iv a5]) (vs:=[iv a0.to_]) (cs':=[iv a0.to_]) hH rfl kr
   replace hH:Fp _ _ _ [.cel a1 [iv a3],.cel id8 [iv a0.to_],.cel id6 (ZaJ (Zau.set a2 a0.to_ true)),.cel id1 (Zac a0_.Topo),.lp (List.length a4) (lcOf Tryz.prog i97.nt [21,22] Zff Zfe) [(2,.ptr id1 0),(5,.ptr id6 0),(6,.ptr id8 0),(7,.ptr a1 0)] .busy]:=hH
   refine rgS ⟨[(7,.ptr a1 0)],[],ao⟩ (Zab.o 2 (Zbe (H:=aD) (v:=iv a0.to_) (hw:=aX)) Zab.f) kr (tq ?_)
   have au:=Fp.get hH 0 rfl
   obtain ⟨bf,aW,hH⟩:=Fp.setCell (k:=0) (off:=0) (cs:=[iv a3]) (vs:=[iv (w64 (a3+1))]) (cs':=[iv (w64 (a3+1))]) hH rfl kr
   replace hH:Fp _ _ _ [.cel a1 [iv (w64 (a3+1))],.cel id8 [iv a0.to_],.cel id6 (ZaJ (Zau.set a2 a0.to_ true)),.cel id1 (Zac a0_.Topo),.lp (List.length a4) (lcOf Tryz.prog i97.nt [21,22] Zff Zfe) [(2,.ptr id1 0),(5,.ptr id6 0),(6,.ptr id8 0),(7,.ptr a1 0)] .busy]:=hH
   refine rgS ⟨[],[],bf⟩ (Zab.u 0 (ZaD (H:=ao) (id:=a1) (off:=0) (cs:=[iv a3]) (c:=[iv a3]) (r:=iv a3) (hl:=au)) (Zab.o 1 (Zbe (H:=ao) (v:=iv (w64 (a3+1))) (hw:=aW)) Zab.f)) kr (bn ?_)
   cases h
   exact rbd (k:=4) (.ready) hH rfl rfl (λH6 hH=>⟨_,(Eq.refl _),(Fp.pick hH [0,1,2,3,4] rfl)⟩)
  refine ZjY (s:=⟨[(1,Zad false a1_),(2,.ptr id1 0),(5,.ptr id6 0),(6,.ptr id8 0),(7,.ptr a1 0),(20,.fn 114 [] [.ptr a9 0,.ptr a8 0])],[],a4⟩) [(2,.ptr id1 0),(5,.ptr id6 0),(6,.ptr id8 0),(7,.ptr a1 0)] (FrOK.cons kr kr (FrOK.cons kr kr (FrOK.cons kr kr (FrOK.cons kr kr FrOK.nil)))) kr (λH=>rfl) (capT:=[.cel a9 [Zad false aa.1],.cel a8 (Zac aa.2.Topo)]) (cells0:=[.cel a1 [iv 0],.cel id8 [iv 0],.cel id6 (ZaJ (Zau.mk false false false false false false false false false false false false)),.cel id1 (Zac a0_.Topo)]) (rest:=[]) (HP.now (HP.pick hH [0,1,2,3,4,5] rfl)) (λ(s:(Int×Int×Zau)×Nat) (its:List Za9)=>its=[.cel a1 [iv s.1.1],.cel id8 [iv s.1.2.1],.cel id6 (ZaJ s.1.2.2),.cel id1 (Zac a0_.Topo)]++[.lp (List.length a4) (lcOf Tryz.prog i97.nt [21,22] Zff Zfe) [(2,.ptr id1 0),(5,.ptr id6 0),(6,.ptr id8 0),(7,.ptr a1 0)] (stAt [.ready,.done (.exit 0)] s.2)]) ((0,0,(Zau.mk false false false false false false false false false false false false)),0) ab (by exact (Eq.refl _)) (λH its hT hH=>Zgd N (λ(s:(Int×Int×Zau)×Nat) (a7:Int) (a0:ZbU)=>Zim (λv:Int×Int×Zau=>Zbz N a0_ v.1 v.2.1 v.2.2 a7 a0) s) aa.1 aa.2 ((0,0,(Zau.mk false false false false false false false false false false false false)),0) a9 a8 (List.length a4) (λ(s:(Int×Int×Zau)×Nat) (its:List Za9)=>its=[.cel a1 [iv s.1.1],.cel id8 [iv s.1.2.1],.cel id6 (ZaJ s.1.2.2),.cel id1 (Zac a0_.Topo)]++[.lp (List.length a4) (lcOf Tryz.prog i97.nt [21,22] Zff Zfe) [(2,.ptr id1 0),(5,.ptr id6 0),(6,.ptr id8 0),(7,.ptr a1 0)] (stAt [.ready,.done (.exit 0)] s.2)]) aq H its hT hH ab aJ) ?_
  rintro its hT
  obtain rfl:=hT
  refine ⟨_,_,rfl,?_⟩
  intro ad hF
  replace hH:HP _ [.cel a9 [Zad false aa.1],.cel a8 (Zac aa.2.Topo),.cel a1 [iv ab.1.1],.cel id8 [iv ab.1.2.1],.cel id6 (ZaJ ab.1.2.2),.cel id1 (Zac a0_.Topo)]:=HP.after (HP.pick hH [0,1,2,3,4,5] rfl) hF
  rcases ZaC h with ⟨aM,h⟩|⟨_,h⟩
  ·refine ZoG (S:=⟨[(1,Zad false a1_),(2,.ptr id1 0),(5,.ptr id6 0),(6,.ptr id8 0),(7,.ptr a1 0),(20,.fn 114 [] [.ptr a9 0,.ptr a8 0])],[],ad⟩) (e:=.normal) aM rfl (bn ?_)
   cases h
   exact ⟨rfl,⟨ad,kr,(HP.pick hH [2] rfl)⟩⟩
  rcases ZaC h with ⟨aL,h⟩|⟨_,h⟩
  ·refine ZoG (S:=⟨[(1,Zad false a1_),(2,.ptr id1 0),(5,.ptr id6 0),(6,.ptr id8 0),(7,.ptr a1 0),(20,.fn 114 [] [.ptr a9 0,.ptr a8 0])],[],ad⟩) (e:=(.exit 0)) aL rfl (bx ?_)
   cases h
   exact ⟨rfl,⟨ad,kr,(HP.pick hH [2] rfl)⟩⟩
  cases h
 clear aB
 rintro s hR
 obtain ⟨an,rfl,hH⟩:=hR
 replace hH:HP _ [.cel a1 [iv af]]:=hH
 refine sq ?_
 have ar:=HP.get hH 0 rfl
 refine rgS ⟨[(4,bv (af==((List.length a1_:Nat):Int)))],[],an⟩ (Zab.u 0 (ZaD (H:=an) (id:=a1) (off:=0) (cs:=[iv af]) (c:=[iv af]) (r:=iv af) (hl:=ar)) (Zab.u 1 (Zan (ys:=[Zad false a1_]) (h:=Zax eI64)) Zab.f)) kr ?_
 replace hH:HP _ []:=HP.pick hH [] rfl
 refine tq (rt ?_)
 cases h
 exact ZaA kr
end Go.Sh

