/- Part of the proof. -/
import Derived.Test.YthipedbbcjemhaaPlanKnownSh
import Derived.Test.YthipedbbcjemhaaPlanKnownChk
namespace Go.Sh
open Go Go.Eng Go.Proofs
set_option maxRecDepth 100000
set_option maxHeartbeats 4000000
attribute [local irreducible] vc ev ZcK opsD opsF ZeM upd updH updO
theorem ZY (N:Nat)(a0_:Int)(a1_:Int)(a2_:Int)(a3_:Int)(r:Zd)(h:ZZ N a0_ a1_ a2_ a3_=some r):PCall Try.prog 22 [iv a0_,iv a1_,iv a2_,iv a3_] (.agg [Zi false r.Periods,Zw false r.Uses]):=by
 unfold ZZ at h
 have hH:HP ([]:List HO) []:=trivial
 refine ZE Zxk rfl rfl (Zq _ _ _ ?_) rfl
 refine sq (rg Za.f (tq (sq (rg Za.f (tq (rt ?_))))))
 obtain rfl:=Zb h
 exact Zu kr
theorem Zfp (N:Nat)(r:Zs)(h:ZeD N=some r):PCall Try.prog 24 [] (.agg [iv r.Nodes,s_eB false r.Station,Zk false r.Links]):=by
 unfold ZeD at h
 have hH:HP ([]:List HO) []:=trivial
 refine ZE Zxi rfl rfl (Zq _ _ _ ?_) rfl
 refine sq (rg Za.f (tq (sq (rg Za.f (tq (rt ?_))))))
 obtain rfl:=Zb h
 exact Zu kr
theorem ZO (N:Nat)(a0_:Int)(a1_:Int)(a2_:Int)(r:Zt)(h:ZU N a0_ a1_ a2_=some r):PCall Try.prog 26 [iv a0_,iv a1_,iv a2_] (.agg [iv r.Id,iv r.Talker,iv r.Listener,iv r.Class,iv r.Size,iv r.Period,iv r.Bucket.Burst,iv r.Bucket.Rate,iv r.Deadline,ZG false r.Routes]):=by
 unfold ZU at h
 have hH:HP ([]:List HO) []:=trivial
 refine ZE Zxg rfl rfl (Zq _ _ _ ?_) rfl
 refine sq (rg Za.f (tq (sq (rg Za.f (tq (rt ?_))))))
 obtain rfl:=Zb h
 exact Zu kr
theorem Zca (N:Nat)(a0_:Zd)(a1_:Int)(a2_:Int)(r:Bool)(h:Zb5 N a0_ a1_ a2_=some r):PCall Try.prog 28 [.agg (Ze a0_),iv a1_,iv a2_] (bv r):=by
 unfold Zb5 at h
 have hH:HP ([]:List HO) []:=trivial
 refine ZE Zxe rfl rfl (Zq _ _ _ ?_) rfl
 refine sq (rg Za.f (tq (sq ?_)))
 obtain ⟨j4,hj,h⟩:=bs h
 refine rgR (fun s=>s=⟨[(6,bv j4)],[],[]⟩) ?_ ?_
 ·clear h
  rcases Zz hj with ⟨hc1,hj⟩|⟨hc3,hj⟩
  ·refine (EP.u 1 (Zh (c:=(decide (a2_≥0))) (h:=hc1)) ?_)
   obtain ⟨e2,he2,hj⟩:=bs hj
   obtain rfl:=Zb hj
   exact (EP.u 5 (Zo (ys:=[Zi false a0_.Periods,iv a1_]) (h:=Zn eI64 he2)) (EP.u 0 (ZD (sz:=1) (off:=0) (cs:=[.int .i64 e2]) (r:=iv e2) eI64 he2) (EP.f kr)))
  obtain rfl:=Zb hj
  exact (EP.u 1 (Zh (c:=(decide (a2_≥0))) (h:=hc3)) (EP.f kr))
 clear hj
 rintro s hR
 obtain rfl:=hR
 refine tq (rt ?_)
 obtain rfl:=Zb h
 exact Zu kr
theorem Zh3 (N:Nat)(a0_:Zd)(a1_:Zd)(r:Bool)(h:ZfN N a0_ a1_=some r):PCall Try.prog 35 [.agg (Ze a0_),.agg (Ze a1_)] (bv r):=by
 unfold ZfN at h
 have hH:HP ([]:List HO) []:=trivial
 refine ZE Zxc rfl rfl (Zq _ _ _ ?_) rfl
 refine sq (rg Za.f (tq (sq (sq (rgX ⟨[(2,.loc 2 0),(3,.loc 3 0),(22,bv ((((List.length a0_.Periods:Nat):Int)!=((List.length a1_.Periods:Nat):Int))||(((List.length a0_.Uses:Nat):Int)!=((List.length a1_.Uses:Nat):Int))))],[(2,(Ze a0_)),(3,(Ze a1_))],[]⟩ ?_ ?_)))))
 ·refine (EP.u 2 (Zo (ys:=[Zi false a0_.Periods]) (h:=Zv eI64)) (EP.u 2 (Zo (ys:=[Zi false a1_.Periods]) (h:=Zv eI64)) ?_))
  rcases Bool.eq_false_or_eq_true (((List.length a0_.Periods:Nat):Int)!=((List.length a1_.Periods:Nat):Int)) with hc1|hc2
  ·exact (EP.u 0 (Zh (c:=(((List.length a0_.Periods:Nat):Int)!=((List.length a1_.Periods:Nat):Int))) (h:=hc1)) (EP.f (by simp only [hc1];kernel_rfl)))
  exact (EP.u 0 (Zh (c:=(((List.length a0_.Periods:Nat):Int)!=((List.length a1_.Periods:Nat):Int))) (h:=hc2)) (EP.u 3 (Zo (ys:=[Zw false a0_.Uses]) (h:=Zv Zj)) (EP.u 2 (Zo (ys:=[Zw false a1_.Uses]) (h:=Zv Zj)) (EP.f (by simp only [hc2];kernel_rfl)))))
 refine tq (it h (fun hc3 h=>?_) (fun hc3 h=>?_))
 ·refine sq (rg Za.f (tq (rt (tr ?_))))
  obtain rfl:=Zb h
  exact Zu kr
 refine sk (tq (kq (sq (sq (rg Za.f (tq (bk ?_)))))))
 obtain ⟨ac,a6,h⟩:=bs h
 refine Z9 ((ZV (fun (x:Int) s=>s=⟨[(2,.loc 2 0),(3,.loc 3 0),(5,iv x)],[(2,(Ze a0_)),(3,(Ze a1_))],[]⟩) (fun x:Int=>ZcE N a0_ a1_ x) (fun (p:(Unit)⊕(Bool)) e s=>match p with|(.inl p)=>e=.exit 0∧(s=⟨[(2,.loc 2 0),(3,.loc 3 0)],[(2,(Ze a0_)),(3,(Ze a1_))],[]⟩)|(.inr p)=>e=.ret∧∃ xs,resL s i35.res=some xs∧ZaA xs=bv p) ?_ N _ ac _ a6 kr).mono ?_)
 ·clear h a6
  rintro i4 o s h hR
  obtain rfl:=hR
  replace h:ZcE N a0_ a1_ i4=some o:=h
  unfold ZcE at h
  refine sq (sq (rg (Za.u 3 (Zo (ys:=[Zi false a0_.Periods]) (h:=Zv eI64)) Za.f) (tq (it h (fun ae h=>?_) (fun ae h=>?_)))))
  ·refine sk (tq (kq (sq (bk (sq ?_)))))
   obtain ⟨ag,a8,h⟩:=bs h
   obtain ⟨af,a7,h⟩:=bs h
   refine rq (Za.u 3 (Zo (ys:=[Zi false a0_.Periods,iv i4]) (h:=Zn eI64 a8)) (Za.u 0 (Z3 (ZD (sz:=1) (off:=0) (cs:=[.int .i64 ag]) (r:=iv ag) eI64 a8)) (Za.u 3 (Zo (ys:=[Zi false a1_.Periods,iv i4]) (h:=Zn eI64 a7)) (Za.u 0 (Z3 (ZD (sz:=1) (off:=0) (cs:=[.int .i64 af]) (r:=iv af) eI64 a7)) Za.f)))) (tq (it h (fun ad h=>?_) (fun ad h=>?_)))
   ·refine sq (rg Za.f (tq (rt (br (tr ?_)))))
    obtain rfl:=Zb h
    exact ⟨_,rfl,rfl,Zu kr⟩
   refine sk (bn (tq (kq (rg Za.f ?_))))
   obtain rfl:=Zb h
   exact ⟨_,rfl,kr⟩
  refine kq (xq (tx ?_))
  obtain rfl:=Zb h
  exact ⟨_,rfl,rfl,kr⟩
 rintro e s hq
 rcases ac with al|ai
 ·dsimp only at h hq
  obtain ⟨rfl,hR⟩:=hq
  obtain rfl:=hR
  refine bx (tq (sq (sq (rg Za.f (tq (bk ?_))))))
  obtain ⟨a5,a2,h⟩:=bs h
  refine Z9 ((ZV (fun (x:Int) s=>s=⟨[(2,.loc 2 0),(3,.loc 3 0),(6,iv x)],[(2,(Ze a0_)),(3,(Ze a1_))],[]⟩) (fun x:Int=>ZcD N a0_ a1_ x) (fun (p:(Unit)⊕(Bool)) e s=>match p with|(.inl p)=>e=.exit 2∧(s=⟨[],[],[]⟩)|(.inr p)=>e=.ret∧∃ xs,resL s i35.res=some xs∧ZaA xs=bv p) ?_ N _ a5 _ a2 kr).mono ?_)
  ·clear h a2
   rintro a9 o s h hR
   obtain rfl:=hR
   replace h:ZcD N a0_ a1_ a9=some o:=h
   unfold ZcD at h
   refine sq (sq (rg (Za.u 3 (Zo (ys:=[Zw false a0_.Uses]) (h:=Zv Zj)) Za.f) (tq (it h (fun ab h=>?_) (fun ab h=>?_)))))
   ·refine sk (tq (kq (sq (bk (sq ?_)))))
    obtain ⟨a1,a4,h⟩:=bs h
    obtain ⟨a0,a3,h⟩:=bs h
    refine rq (Za.u 3 (Zo (ys:=[Zw false a0_.Uses,iv a9]) (h:=Zn Zj a4)) (Za.u 0 (Z3 (ZD (sz:=4) (off:=0) (cs:=[.int .i64 a1.Stream,.int .i64 a1.Port,.int .i64 a1.From,.int .i64 a1.Long]) (r:=.agg (ZM a1)) Zj a4)) (Za.u 3 (Zo (ys:=[Zw false a1_.Uses,iv a9]) (h:=Zn Zj a3)) (Za.u 0 (Z3 (ZD (sz:=4) (off:=0) (cs:=[.int .i64 a0.Stream,.int .i64 a0.Port,.int .i64 a0.From,.int .i64 a0.Long]) (r:=.agg (ZM a0)) Zj a3)) Za.f)))) (tq (it h (fun aa h=>?_) (fun aa h=>?_)))
    ·refine sq (rg Za.f (tq (rt (br (tr ?_)))))
     obtain rfl:=Zb h
     exact ⟨_,rfl,rfl,Zu kr⟩
    refine sk (bn (tq (kq (rg Za.f ?_))))
    obtain rfl:=Zb h
    exact ⟨_,rfl,kr⟩
   refine kq (xq (tx ?_))
   obtain rfl:=Zb h
   exact ⟨_,rfl,rfl,kr⟩
  rintro e s hq
  rcases a5 with ak|aj
  ·dsimp only at h hq
   obtain ⟨rfl,hR⟩:=hq
   obtain rfl:=hR
   refine bx (tq (sq (rg Za.f (tq (rt ?_)))))
   obtain rfl:=Zb h
   exact Zu kr
  dsimp only at h hq
  obtain ⟨rfl,hq⟩:=hq
  refine br (tr ?_)
  obtain rfl:=Zb h
  exact hq
 dsimp only at h hq
 obtain ⟨rfl,hq⟩:=hq
 refine br (tr ?_)
 obtain rfl:=Zb h
 exact hq
theorem Zco (N:Nat)(a0_:Zd)(a1_:Zx)(a2_:Int)(r:ZP)(h:ZbW N a0_ a1_ a2_=some r):PCall Try.prog 39 [.agg (Ze a0_),.agg (ZM a1_),iv a2_] (.agg [iv r.Period,iv r.From,iv r.Long]):=by
 unfold ZbW at h
 have hH:HP ([]:List HO) []:=trivial
 refine ZE Zw9 rfl rfl (Zq _ _ _ ?_) rfl
 refine sq (rg Za.f (tq (sq ?_)))
 obtain ⟨e1,he1,h⟩:=bs h
 refine rg (Za.u 4 (Zo (ys:=[Zi false a0_.Periods,iv a1_.Stream]) (h:=Zn eI64 he1)) (Za.u 0 (ZD (sz:=1) (off:=0) (cs:=[.int .i64 e1]) (r:=iv e1) eI64 he1) Za.f)) (tq (sq ?_))
 obtain ⟨m2,hm2,h⟩:=bs h
 refine rq (Za.u 6 (Zo (ys:=[iv (w64 (a1_.From+a2_)),iv e1]) (h:=Zd2 hm2)) Za.f) (tq (rt ?_))
 obtain rfl:=Zb h
 exact Zu kr
theorem Zh4 (N:Nat)(a0_:Zd)(a1_:Int)(a2_:Int)(H:List HO)(r:Zd×Int×Int)(h:ZfP N a0_ a1_ a2_=some r):∃ (id0_ id1_ id2_:Nat) (H':List HO),Zao Try.prog 45 [.agg (Ze a0_),iv a1_,iv a2_] H (.fn 55 [] [.ptr id0_ 0,.ptr id1_ 0,.ptr id2_ 0]) H'∧Fp H H' [] [.cel id0_ [Zi false r.1.Periods,Zw false r.1.Uses],.cel id1_ [iv r.2.1],.cel id2_ [iv r.2.2]]:=by
 suffices hs:∃ r' H',Zao Try.prog 45 [.agg (Ze a0_),iv a1_,iv a2_] H r' H'∧∃ (id0_ id1_ id2_:Nat),r'=.fn 55 [] [.ptr id0_ 0,.ptr id1_ 0,.ptr id2_ 0]∧Fp H H' [] [.cel id0_ [Zi false r.1.Periods,Zw false r.1.Uses],.cel id1_ [iv r.2.1],.cel id2_ [iv r.2.2]] by
  obtain ⟨_,H',h1,id0_,id1_,id2_,rfl,h2⟩:=hs
  exact ⟨id0_,id1_,id2_,H',h1,h2⟩
 unfold ZfP at h
 have hH:Fp H H [] []:=Fp.refl trivial
 refine Zf1 Zw4 (fun r' H'=>∃ (id0_ id1_ id2_:Nat),r'=.fn 55 [] [.ptr id0_ 0,.ptr id1_ 0,.ptr id2_ 0]∧Fp H H' [] [.cel id0_ [Zi false r.1.Periods,Zw false r.1.Uses],.cel id1_ [iv r.2.1],.cel id2_ [iv r.2.2]]) (fun r' H' ⟨_,_,_,e,_⟩=>by rw [e];rfl) rfl rfl (sq ?_)
 obtain ⟨id1,H2,hid1,hH2,hH⟩:=Fp.newCell hH (Ze a0_)
 replace hH:Fp _ _ _ [.cel id1 (Ze a0_)]:=hH
 obtain ⟨id3,H4,hid3,hH4,hH⟩:=Fp.newCell hH [iv a1_]
 replace hH:Fp _ _ _ [.cel id3 [iv a1_],.cel id1 (Ze a0_)]:=hH
 obtain ⟨id5,H6,hid5,hH6,hH⟩:=Fp.newCell hH [iv a2_]
 replace hH:Fp _ _ _ [.cel id5 [iv a2_],.cel id3 [iv a1_],.cel id1 (Ze a0_)]:=hH
 refine rg (Za.h 0 (ZaL (H:=H) (v:=.agg (Ze a0_)) (hid:=hid1) (hH:=hH2)) (Za.h 0 (ZaL (H:=H2) (v:=iv a1_) (hid:=hid3) (hH:=hH4)) (Za.h 0 (ZaL (H:=H4) (v:=iv a2_) (hid:=hid5) (hH:=hH6)) Za.f))) (tq (sq (rg Za.f (tq (rt ?_)))))
 obtain rfl:=Zb h
 exact ⟨[.fn 55 [] [.ptr id1 0,.ptr id3 0,.ptr id5 0]],kr,id1,id3,id5,rfl,Fp.pk hH [2,1,0] rfl⟩
theorem ZT (N:Nat)(a0_:Int)(a1_:Int)(a2_:Int)(r:Bool)(h:Z5 N a0_ a1_ a2_=some r):PCall Try.prog 51 [iv a0_,iv a1_,iv a2_] (bv r):=by
 unfold Z5 at h
 have hH:HP ([]:List HO) []:=trivial
 refine ZE ZwZ rfl rfl (Zq _ _ _ ?_) rfl
 refine sq (rg Za.f (tq (sq (rgX ⟨[(6,bv ((decide (a0_≥a1_))&&(decide (a0_≤a2_))))],[],[]⟩ ?_ ?_))))
 ·rcases Bool.eq_false_or_eq_true (decide (a0_≥a1_)) with hc1|hc2
  ·exact (EP.u 2 (Zh (c:=(decide (a0_≥a1_))) (h:=hc1)) (EP.f (by simp only [hc1];kernel_rfl)))
  exact (EP.u 2 (Zh (c:=(decide (a0_≥a1_))) (h:=hc2)) (EP.f (by simp only [hc2];kernel_rfl)))
 refine tq (rt ?_)
 obtain rfl:=Zb h
 exact Zu kr
theorem ZdN (N:Nat)(a0_:Int)(a1_:Int)(r:Int)(h:Zdv N a0_ a1_=some r):PCall Try.prog 53 [iv a0_,iv a1_] (iv r):=by
 unfold Zdv at h
 have hH:HP ([]:List HO) []:=trivial
 refine ZE ZwX rfl rfl (Zq _ _ _ ?_) rfl
 refine sq (rg Za.f (tq (sq ?_)))
 obtain ⟨q1,hq1,h⟩:=bs h
 refine rg (Za.u 2 (Zo (ys:=[iv a0_,iv a1_]) (h:=Zfe hq1)) Za.f) (tq ?_)
 obtain ⟨a3,a0,h⟩:=bs h
 refine Zev [5] (fun s=>s=⟨[(5,iv a3)],[],[]⟩) ?_ ?_
 ·clear h
  have h:=a0
  refine sq ?_
  obtain ⟨a4,a1,h⟩:=bs h
  refine rg (Za.u 2 (Zo (ys:=[iv a0_,iv a1_]) (h:=Zd2 a1)) Za.f) (tq (it h (fun a2 h=>?_) (fun a2 h=>?_)))
  ·refine rg Za.f ?_
   obtain rfl:=Zb h
   exact ⟨rfl,kr⟩
  refine sk ?_
  obtain rfl:=Zb h
  exact ⟨rfl,kr⟩
 clear a0
 rintro s hR
 obtain rfl:=hR
 refine sq (rg Za.f (tq (rt ?_)))
 obtain rfl:=Zb h
 exact Zu kr
theorem ZgV {σ:Type}(N:Nat)(y_:σ→Zx→Zx→Option (σ×Bool))(c0_:Zd)(c1_:Int)(c2_:Int)(s_:σ)(k0_:Nat)(k1_:Nat)(k2_:Nat)(yid_:Nat)(T_:σ→List ZR→Prop)(hy_:∀ (x0:Zx) (x1:Zx) (s:σ) (r:σ×Bool) (H:List HO) (its:List ZR),T_ s its→HP H its→y_ s x0 x1=some r→∃ H' its',Zeu Try.prog yid_ [.agg [iv x0.Stream,iv x0.Port,iv x0.From,iv x0.Long],.agg [iv x1.Stream,iv x1.Port,iv x1.From,iv x1.Long]] H r.2 H'∧T_ r.1 its'∧Fp H H' its its')(H:List HO)(its:List ZR)(hT:T_ s_ its)(hH:HP H (.cel k0_ (Ze c0_)::.cel k1_ [iv c1_]::.cel k2_ [iv c2_]::its))(r:σ)(h:Zei N y_ c0_ c1_ c2_ s_=some r):∃ H' its',Zao Try.prog 55 [.yl yid_,.ptr k0_ 0,.ptr k1_ 0,.ptr k2_ 0] H (.tup []) H'∧T_ r its'∧Fp H H' (.cel k0_ (Ze c0_)::.cel k1_ [iv c1_]::.cel k2_ [iv c2_]::its) (.cel k0_ (Ze c0_)::.cel k1_ [iv c1_]::.cel k2_ [iv c2_]::its'):=by
 suffices hs:∃ H',Zao Try.prog 55 [.yl yid_,.ptr k0_ 0,.ptr k1_ 0,.ptr k2_ 0] H (.tup []) H'∧∃ its',T_ r its'∧Fp H H' (.cel k0_ (Ze c0_)::.cel k1_ [iv c1_]::.cel k2_ [iv c2_]::its) (.cel k0_ (Ze c0_)::.cel k1_ [iv c1_]::.cel k2_ [iv c2_]::its') by
  obtain ⟨H',h1,its',h2,h3⟩:=hs
  exact ⟨H',its',h1,h2,h3⟩
 unfold Zei at h
 replace hH:Fp H H (.cel k0_ (Ze c0_)::.cel k1_ [iv c1_]::.cel k2_ [iv c2_]::its) (.cel k0_ (Ze c0_)::.cel k1_ [iv c1_]::.cel k2_ [iv c2_]::its):=Fp.refl hH
 refine Zhm ZwV (fun H'=>∃ its',T_ r its'∧Fp H H' (.cel k0_ (Ze c0_)::.cel k1_ [iv c1_]::.cel k2_ [iv c2_]::its) (.cel k0_ (Ze c0_)::.cel k1_ [iv c1_]::.cel k2_ [iv c2_]::its')) rfl rfl rfl (sq ?_)
 have hlc1:=Fp.get hH 0 rfl
 refine rg (Za.u 1 (Zm (H:=H) (id:=k0_) (off:=1) (cs:=(Ze c0_)) (c:=[Zw false c0_.Uses]) (r:=Zw false c0_.Uses) (hl:=hlc1)) (Za.u 0 (Zo (ys:=[Zw false c0_.Uses]) (h:=Zv Zj)) Za.f)) (tq (bk ?_))
 obtain ⟨ag,a9,h⟩:=bs h
 refine Z9 ((ZV (fun (x:Int×σ) s=>∃ (its2:List ZR) (H3:List HO),s=⟨[(0,.yl yid_),(1,.ptr k0_ 0),(2,.ptr k1_ 0),(3,.ptr k2_ 0),(10,Zw false c0_.Uses),(11,iv ((List.length c0_.Uses:Nat):Int)),(12,iv x.1)],[],H3⟩∧T_ x.2 its2∧Fp H H3 (.cel k0_ (Ze c0_)::.cel k1_ [iv c1_]::.cel k2_ [iv c2_]::its) (.cel k0_ (Ze c0_)::.cel k1_ [iv c1_]::.cel k2_ [iv c2_]::its2)) (fun x:Int×σ=>ZbV N y_ c0_ c1_ c2_ x.1 x.2) (fun (p:(σ)⊕(σ)) e s=>match p with|(.inl p)=>e=.exit 0∧(∃ (a3:List ZR) (af:List HO),s=⟨[],[],af⟩∧T_ p a3∧Fp H af (.cel k0_ (Ze c0_)::.cel k1_ [iv c1_]::.cel k2_ [iv c2_]::its) (.cel k0_ (Ze c0_)::.cel k1_ [iv c1_]::.cel k2_ [iv c2_]::a3))|(.inr p)=>e=.ret∧∃ xs,rawL s i55.res=some xs∧ZaA xs=.tup []∧∃ its',T_ p its'∧Fp H s.H (.cel k0_ (Ze c0_)::.cel k1_ [iv c1_]::.cel k2_ [iv c2_]::its) (.cel k0_ (Ze c0_)::.cel k1_ [iv c1_]::.cel k2_ [iv c2_]::its')) ?_ N _ ag _ a9 ⟨its,H,kr,hT,Fp.at hH⟩).mono ?_)
 ·clear h a9
  rintro ⟨i4,g5⟩ o s h hR
  obtain ⟨its2,H3,rfl,hT,hH⟩:=hR
  replace hH:Fp H H3 (.cel k0_ (Ze c0_)::.cel k1_ [iv c1_]::.cel k2_ [iv c2_]::its) (.cel k0_ (Ze c0_)::.cel k1_ [iv c1_]::.cel k2_ [iv c2_]::its2):=hH
  replace h:ZbV N y_ c0_ c1_ c2_ i4 g5=some o:=h
  unfold ZbV at h
  refine sq (rg Za.f (tq (sq (it h (fun aA h=>?_) (fun aA h=>?_)))))
  ·refine sk (tq (kq (sq (bk (sq ?_)))))
   obtain ⟨a4,aj,h⟩:=bs h
   refine rg (Za.u 1 (Zo (ys:=[Zw false c0_.Uses,iv i4]) (h:=Zn Zj aj)) (Za.u 0 (ZD (sz:=4) (off:=0) (cs:=[.int .i64 a4.Stream,.int .i64 a4.Port,.int .i64 a4.From,.int .i64 a4.Long]) (r:=.agg (ZM a4)) Zj aj) Za.f)) (tq (sq (sq ?_)))
   have an:=Fp.get hH 1 rfl
   refine rg (Za.u 2 (Zm (H:=H3) (id:=k1_) (off:=0) (cs:=[iv c1_]) (c:=[iv c1_]) (r:=iv c1_) (hl:=an)) Za.f) (tq (it h (fun az h=>?_) (fun az h=>?_)))
   ·refine kq (xq (tx (bx (tq (kq (rg Za.f ?_))))))
    obtain rfl:=Zb h
    exact ⟨_,rfl,⟨its2,H3,kr,hT,Fp.at hH⟩⟩
   refine sk (tq (kq (sq ?_)))
   have am:=Fp.get hH 0 rfl
   refine rg (Za.u 1 (Zm (H:=H3) (id:=k0_) (off:=1) (cs:=(Ze c0_)) (c:=[Zw false c0_.Uses]) (r:=Zw false c0_.Uses) (hl:=am)) (Za.u 0 (Zo (ys:=[Zw false c0_.Uses]) (h:=Zv Zj)) Za.f)) (tq (bk ?_))
   obtain ⟨ai,aa,h⟩:=bs h
   refine Z9 ((ZV (fun (x:Int×σ) s=>∃ (a0:List ZR) (a5:List HO),s=⟨[(0,.yl yid_),(1,.ptr k0_ 0),(2,.ptr k1_ 0),(3,.ptr k2_ 0),(5,iv i4),(6,.loc 6 0),(10,Zw false c0_.Uses),(11,iv ((List.length c0_.Uses:Nat):Int)),(12,iv i4),(22,Zw false c0_.Uses),(23,iv ((List.length c0_.Uses:Nat):Int)),(24,iv x.1)],[(6,(ZM a4))],a5⟩∧T_ x.2 a0∧Fp H a5 (.cel k0_ (Ze c0_)::.cel k1_ [iv c1_]::.cel k2_ [iv c2_]::its) (.cel k0_ (Ze c0_)::.cel k1_ [iv c1_]::.cel k2_ [iv c2_]::a0)) (fun x:Int×σ=>ZbU N y_ c0_ c2_ i4 a4 x.1 x.2) (fun (p:(σ)⊕(σ)) e s=>match p with|(.inl p)=>e=.exit 2∧(∃ (a2:List ZR) (a7:List HO),s=⟨[(0,.yl yid_),(1,.ptr k0_ 0),(2,.ptr k1_ 0),(3,.ptr k2_ 0),(10,Zw false c0_.Uses),(11,iv ((List.length c0_.Uses:Nat):Int)),(12,iv i4)],[],a7⟩∧T_ p a2∧Fp H a7 (.cel k0_ (Ze c0_)::.cel k1_ [iv c1_]::.cel k2_ [iv c2_]::its) (.cel k0_ (Ze c0_)::.cel k1_ [iv c1_]::.cel k2_ [iv c2_]::a2))|(.inr p)=>e=.ret∧∃ xs,rawL s i55.res=some xs∧ZaA xs=.tup []∧∃ its',T_ p its'∧Fp H s.H (.cel k0_ (Ze c0_)::.cel k1_ [iv c1_]::.cel k2_ [iv c2_]::its) (.cel k0_ (Ze c0_)::.cel k1_ [iv c1_]::.cel k2_ [iv c2_]::its')) ?_ N _ ai _ aa ⟨its2,H3,kr,hT,Fp.at hH⟩).mono ?_)
   ·clear h aa
    rintro ⟨a8,aB⟩ o s h hR
    obtain ⟨a0,a5,rfl,hT,hH⟩:=hR
    replace hH:Fp H a5 (.cel k0_ (Ze c0_)::.cel k1_ [iv c1_]::.cel k2_ [iv c2_]::its) (.cel k0_ (Ze c0_)::.cel k1_ [iv c1_]::.cel k2_ [iv c2_]::a0):=hH
    replace h:ZbU N y_ c0_ c2_ i4 a4 a8 aB=some o:=h
    unfold ZbU at h
    refine sq (rg Za.f (tq (sq (it h (fun aw h=>?_) (fun aw h=>?_)))))
    ·refine sk (tq (kq (sq (bk (sq ?_)))))
     obtain ⟨a1,ab,h⟩:=bs h
     refine rg (Za.u 1 (Zo (ys:=[Zw false c0_.Uses,iv a8]) (h:=Zn Zj ab)) (Za.u 0 (ZD (sz:=4) (off:=0) (cs:=[.int .i64 a1.Stream,.int .i64 a1.Port,.int .i64 a1.From,.int .i64 a1.Long]) (r:=.agg (ZM a1)) Zj ab) Za.f)) (tq (sq (sq ?_)))
     obtain ⟨ay,hj,h⟩:=bs h
     refine rgR (fun s=>s=⟨[(0,.yl yid_),(1,.ptr k0_ 0),(2,.ptr k1_ 0),(3,.ptr k2_ 0),(5,iv i4),(6,.loc 6 0),(8,.loc 8 0),(10,Zw false c0_.Uses),(11,iv ((List.length c0_.Uses:Nat):Int)),(12,iv i4),(22,Zw false c0_.Uses),(23,iv ((List.length c0_.Uses:Nat):Int)),(24,iv a8),(44,bv ay)],[(6,(ZM a4)),(8,(ZM a1))],a5⟩) ?_ ?_
     ·clear h
      rcases Zz hj with ⟨av,hj⟩|⟨au,hj⟩
      ·obtain rfl:=Zb hj
       exact (EP.u 2 (Zh (c:=(a8==i4)) (h:=av)) (EP.f kr))
      refine (EP.u 2 (Zh (c:=(a8==i4)) (h:=au)) ?_)
      have ad:=Fp.get hH 2 rfl
      refine (EP.u 3 (Zm (H:=a5) (id:=k2_) (off:=0) (cs:=[iv c2_]) (c:=[iv c2_]) (r:=iv c2_) (hl:=ad)) ?_)
      rcases Zz hj with ⟨ar,hj⟩|⟨aq,hj⟩
      ·obtain rfl:=Zb hj
       exact (EP.u 0 (Zh (c:=(a1.Stream != c2_)) (h:=ar)) (EP.f kr))
      obtain rfl:=Zb hj
      exact (EP.u 0 (Zh (c:=(a1.Stream != c2_)) (h:=aq)) (EP.f kr))
     clear hj
     rintro s hR
     obtain rfl:=hR
     refine tq (it h (fun ap h=>?_) (fun ap h=>?_))
     ·refine kq (xq (tx (bx (tq (kq (rg Za.f ?_))))))
      obtain rfl:=Zb h
      exact ⟨_,rfl,⟨a0,a5,kr,hT,Fp.at hH⟩⟩
     refine sk (tq (kq (sq ?_)))
     obtain ⟨ax,al,h⟩:=bs h
     obtain ⟨ak,a6,ac,hT,ae⟩:=hy_ a4 a1 aB ax a5 a0 hT (Fp.tail (own:=[.cel k0_ (Ze c0_),.cel k1_ [iv c1_],.cel k2_ [iv c2_]]) (its:=a0) hH) al
     replace hH:Fp H ak (.cel k0_ (Ze c0_)::.cel k1_ [iv c1_]::.cel k2_ [iv c2_]::its) (.cel k0_ (Ze c0_)::.cel k1_ [iv c1_]::.cel k2_ [iv c2_]::a6):=Fp.callT (own:=[.cel k0_ (Ze c0_),.cel k1_ [iv c1_],.cel k2_ [iv c2_]]) (its:=a0) hH ae
     refine rg (Za.v 3 (ZhY (H:=a5) (id:=yid_) (ys:=[.agg (ZM a4),.agg (ZM a1)]) kr kr kr kr ac) Za.f) (tq (it h (fun ao h=>?_) (fun ao h=>?_)))
     ·refine rt (br (tr ?_))
      obtain rfl:=Zb h
      exact ⟨_,rfl,rfl,⟨[],kr,kr,a6,hT,Fp.at hH⟩⟩
     refine sk (bn (tq (kq (rg Za.f ?_))))
     obtain rfl:=Zb h
     exact ⟨_,rfl,⟨a6,ak,kr,hT,Fp.at hH⟩⟩
    refine kq (xq (tx ?_))
    obtain rfl:=Zb h
    exact ⟨_,rfl,rfl,⟨a0,a5,kr,hT,Fp.at hH⟩⟩
   rintro e s hq
   rcases ai with aG|aE
   ·dsimp only at h hq
    obtain ⟨rfl,hR⟩:=hq
    obtain ⟨a2,a7,rfl,hT,hH⟩:=hR
    replace hH:Fp H a7 (.cel k0_ (Ze c0_)::.cel k1_ [iv c1_]::.cel k2_ [iv c2_]::its) (.cel k0_ (Ze c0_)::.cel k1_ [iv c1_]::.cel k2_ [iv c2_]::a2):=hH
    refine bx (bn (tq (kq (rg Za.f ?_))))
    obtain rfl:=Zb h
    exact ⟨_,rfl,⟨a2,a7,kr,hT,Fp.at hH⟩⟩
   dsimp only at h hq
   obtain ⟨rfl,hq⟩:=hq
   refine br (br (tr ?_))
   obtain rfl:=Zb h
   exact ⟨_,rfl,rfl,hq⟩
  refine kq (xq (tx ?_))
  obtain rfl:=Zb h
  exact ⟨_,rfl,rfl,⟨its2,H3,kr,hT,Fp.at hH⟩⟩
 rintro e s hq
 rcases ag with aD|aC
 ·dsimp only at h hq
  obtain ⟨rfl,hR⟩:=hq
  obtain ⟨a3,af,rfl,hT,hH⟩:=hR
  replace hH:Fp H af (.cel k0_ (Ze c0_)::.cel k1_ [iv c1_]::.cel k2_ [iv c2_]::its) (.cel k0_ (Ze c0_)::.cel k1_ [iv c1_]::.cel k2_ [iv c2_]::a3):=hH
  refine bx ?_
  obtain rfl:=Zb h
  exact ⟨[],kr,kr,a3,hT,Fp.at hH⟩
 dsimp only at h hq
 obtain ⟨rfl,hq⟩:=hq
 refine br ?_
 obtain rfl:=Zb h
 exact hq
theorem Zcn (N:Nat)(a0_:ZP)(r:Int)(h:ZbP N a0_=some r):PCall Try.prog 56 [.agg (ZaE a0_)] (iv r):=by
 unfold ZbP at h
 have hH:HP ([]:List HO) []:=trivial
 refine ZE ZwU rfl rfl (Zq _ _ _ ?_) rfl
 refine sq (rg Za.f (tq (sq (sq (rgX ⟨[(1,.loc 1 0),(22,bv ((decide (a0_.Period<1))||((decide (a0_.Period>960))||((decide (a0_.From<0))||(decide (a0_.From≥a0_.Period))))))],[(1,(ZaE a0_))],[]⟩ ?_ ?_)))))
 ·rcases Bool.eq_false_or_eq_true (decide (a0_.Period<1)) with hc1|hc2
  ·exact (EP.u 2 (Zh (c:=(decide (a0_.Period<1))) (h:=hc1)) (EP.f (by simp only [hc1];kernel_rfl)))
  refine (EP.u 2 (Zh (c:=(decide (a0_.Period<1))) (h:=hc2)) ?_)
  rcases Bool.eq_false_or_eq_true (decide (a0_.Period>960)) with hc3|hc4
  ·exact (EP.u 3 (Zh (c:=(decide (a0_.Period>960))) (h:=hc3)) (EP.f (by simp only [hc2,hc3];kernel_rfl)))
  refine (EP.u 3 (Zh (c:=(decide (a0_.Period>960))) (h:=hc4)) ?_)
  rcases Bool.eq_false_or_eq_true (decide (a0_.From<0)) with hc5|hc6
  ·exact (EP.u 4 (Zh (c:=(decide (a0_.From<0))) (h:=hc5)) (EP.f (by simp only [hc2,hc4,hc5];kernel_rfl)))
  exact (EP.u 4 (Zh (c:=(decide (a0_.From<0))) (h:=hc6)) (EP.f (by simp only [hc2,hc4,hc6];kernel_rfl)))
 refine tq (it h (fun hc7 h=>?_) (fun hc7 h=>?_))
 ·refine sq (rg Za.f (tq (rt (tr ?_))))
  obtain rfl:=Zb h
  exact Zu kr
 refine sk (tq (kq (sq (sq (rgX ⟨[(32,bv ((decide (a0_.Long<1))||(decide (a0_.Long>a0_.Period))))],[],[]⟩ ?_ ?_)))))
 ·rcases Bool.eq_false_or_eq_true (decide (a0_.Long<1)) with hc8|hc9
  ·exact (EP.u 2 (Zh (c:=(decide (a0_.Long<1))) (h:=hc8)) (EP.f (by simp only [hc8];kernel_rfl)))
  exact (EP.u 2 (Zh (c:=(decide (a0_.Long<1))) (h:=hc9)) (EP.f (by simp only [hc9];kernel_rfl)))
 refine tq (it h (fun a0 h=>?_) (fun a0 h=>?_))
 ·refine sq (rg Za.f (tq (rt (tr ?_))))
  obtain rfl:=Zb h
  exact Zu kr
 refine sk (tq (kq (sq (rg Za.f (tq (rt ?_))))))
 obtain rfl:=Zb h
 exact Zu kr
theorem Ze4 (N:Nat)(a0_:(List ZP))(r:Int)(h:Zcm N a0_=some r):PCall Try.prog 60 [Z7 false a0_] (iv r):=by
 unfold Zcm at h
 have hH:HP ([]:List HO) []:=trivial
 refine ZE ZwS rfl rfl (Zq _ _ _ ?_) rfl
 refine sq (rg Za.f (tq (sq (sq (rg (Za.u 1 (Zo (ys:=[Z7 false a0_]) (h:=Zv Zab)) Za.f) (tq (it h (fun hc1 h=>?_) (fun hc1 h=>?_))))))))
 ·refine sq (rg Za.f (tq (rt (tr ?_))))
  obtain rfl:=Zb h
  exact Zu kr
 refine sk (tq (kq (sq (sq (rg (Za.u 1 (Zo (ys:=[Z7 false a0_]) (h:=Zv Zab)) Za.f) (tq (bk ?_)))))))
 obtain ⟨a3,a1,h⟩:=bs h
 refine Z9 ((ZV (fun (x:Int) s=>s=⟨[(9,Z7 false a0_),(10,iv ((List.length a0_:Nat):Int)),(11,iv x)],[],[]⟩) (fun x:Int=>ZaX N a0_ x) (fun (p:(Unit)⊕(Int)) e s=>match p with|(.inl p)=>e=.exit 0∧(s=⟨[],[],[]⟩)|(.inr p)=>e=.ret∧∃ xs,resL s i60.res=some xs∧ZaA xs=iv p) ?_ N _ a3 _ a1 kr).mono ?_)
 ·clear h a1
  rintro i2 o s h hR
  obtain rfl:=hR
  replace h:ZaX N a0_ i2=some o:=h
  unfold ZaX at h
  refine sq (rg Za.f (tq (sq (it h (fun a6 h=>?_) (fun a6 h=>?_)))))
  ·refine sk (tq (kq (sq (bk (sq ?_)))))
   obtain ⟨a0,a2,h⟩:=bs h
   refine rg (Za.u 0 (Zo (ys:=[Z7 false a0_,iv i2]) (h:=Zn Zab a2)) (Za.u 0 (ZD (sz:=3) (off:=0) (cs:=[.int .i64 a0.Period,.int .i64 a0.From,.int .i64 a0.Long]) (r:=.agg (ZaE a0)) Zab a2) Za.f)) (tq (sq ?_))
   obtain ⟨a7,a4,h⟩:=bs h
   refine rg (Za.v 1 (Zp (hc:=Zcn N a0 a7 a4)) Za.f) (tq (sq (rg Za.f (tq (it h (fun a5 h=>?_) (fun a5 h=>?_))))))
   ·refine sq (rg Za.f (tq (rt (br (tr ?_)))))
    obtain rfl:=Zb h
    exact ⟨_,rfl,rfl,Zu kr⟩
   refine sk (bn (tq (kq (rg Za.f ?_))))
   obtain rfl:=Zb h
   exact ⟨_,rfl,kr⟩
  refine kq (xq (tx ?_))
  obtain rfl:=Zb h
  exact ⟨_,rfl,rfl,kr⟩
 rintro e s hq
 rcases a3 with a9|a8
 ·dsimp only at h hq
  obtain ⟨rfl,hR⟩:=hq
  obtain rfl:=hR
  refine bx (tq (sq (rg Za.f (tq (rt ?_)))))
  obtain rfl:=Zb h
  exact Zu kr
 dsimp only at h hq
 obtain ⟨rfl,hq⟩:=hq
 refine br (tr ?_)
 obtain rfl:=Zb h
 exact hq
theorem ZhU (N:Nat)(a0_:Zs)(a1_:Int)(a2_:ZaT)(r:(List Bool))(h:Zfx N a0_ a1_ a2_=some r):PCall Try.prog 64 [.agg (Zc a0_),iv a1_,.agg (Z2 a2_)] (s_eB false r):=by
 unfold Zfx at h
 have hH:HP ([]:List HO) []:=trivial
 refine ZE ZwO rfl rfl (Zq _ _ _ ?_) rfl
 refine sq (rg Za.f (tq (sq ?_)))
 obtain ⟨l3,hl3,h⟩:=bs h
 obtain ⟨a1,H2,ha1,hH2,ha1b,hH⟩:=HP.make eB hH hl3
 replace hH:HP _ [.arr a1 1 false (List.map eB l3)]:=hH
 have hfa1:=ZaB (HP.get hH 0 rfl)
 refine rgS ⟨[(1,iv a1_),(3,.loc 3 0),(5,.loc 5 0),(7,a1)],[(3,(Zc a0_)),(5,(Z2 a2_))],H2⟩ (Za.h 2 (ZfG (H:=[]) (zero:=[.bool false]) (bytes:=1) kr kr kr ha1 hH2 ha1b) Za.f) (by cases hfa1<;>kernel_rfl) (tq (sq ?_))
 obtain ⟨e4,he4,h⟩:=bs h
 obtain ⟨id5,ver6,_,hid5f,hid5,hid5a,hid5v⟩:=HP.elem (k:=0) (a:=a1) (sz:=1) (frz:=false) eB hH rfl he4
 obtain ⟨H7,hH7,hH⟩:=HP.setRow (k:=0) (off:=0) (cs:=[bv true]) (ps:=[.bool true]) (e':=true) eB hH rfl hid5a hid5 (hid5f rfl) he4 kr kr
 replace hH:HP _ [.arr a1 1 false (List.map eB (List.set l3 (Int.toNat a1_) true))]:=hH
 refine rgS ⟨[(3,.loc 3 0),(5,.loc 5 0),(7,a1)],[(3,(Zc a0_)),(5,(Z2 a2_))],H7⟩ (Za.u 2 (Zo (ys:=[a1,iv a1_]) (by cases hfa1<;>kernel_rfl) (hid5v .i64)) (Za.o 0 (Zaa (H:=H2) (v:=bv true) (hw:=hH7)) Za.f)) (by cases hfa1<;>kernel_rfl) (tq (sq (sq (rgS ⟨[(3,.loc 3 0),(5,.loc 5 0),(7,a1),(17,iv a0_.Nodes),(18,iv 0)],[(3,(Zc a0_)),(5,(Z2 a2_))],H7⟩ Za.f (by cases hfa1<;>kernel_rfl) (tq (bk ?_))))))
 obtain ⟨af,ag,h⟩:=bs h
 refine Z9 ((ZV (fun (x:Int×(List Bool)) s=>∃ (a8:AV) (H9:List HO),s=⟨[(3,.loc 3 0),(5,.loc 5 0),(7,a8),(17,iv a0_.Nodes),(18,iv x.1)],[(3,(Zc a0_)),(5,(Z2 a2_))],H9⟩∧HP H9 [.arr a8 1 false (List.map eB x.2)]) (fun x:Int×(List Bool)=>Zcx N a0_ a2_ x.1 x.2) (fun (p:(List Bool)) e s=>e=.exit 0∧(∃ (ae:AV) (aA:List HO),s=⟨[(7,ae)],[],aA⟩∧HP aA [.arr ae 1 false (List.map eB p)])) ?_ N _ af _ ag ⟨a1,H7,(by show _=_;cases hfa1<;>kernel_rfl),(HP.pick hH [0] rfl)⟩).mono ?_)
 ·clear h ag
  rintro ⟨i10,bm⟩ o s h hR
  obtain ⟨a8,H9,rfl,hH⟩:=hR
  replace hH:HP _ [.arr a8 1 false (List.map eB bm)]:=hH
  have hfa8:=ZaB (HP.get hH 0 rfl)
  replace h:Zcx N a0_ a2_ i10 bm=some o:=h
  unfold Zcx at h
  refine sq (rgS ⟨[(3,.loc 3 0),(5,.loc 5 0),(7,a8),(17,iv a0_.Nodes),(18,iv i10),(19,bv (decide (i10<a0_.Nodes)))],[(3,(Zc a0_)),(5,(Z2 a2_))],H9⟩ Za.f (by cases hfa8<;>kernel_rfl) (tq (sq (it h (fun b2 h=>?_) (fun b2 h=>?_)))))
  ·refine sk (tq (kq (sq (bk (sq (rgS ⟨[(3,.loc 3 0),(5,.loc 5 0),(7,a8),(17,iv a0_.Nodes),(18,iv i10),(21,Zk false a0_.Links),(22,iv ((List.length a0_.Links:Nat):Int)),(23,iv 0)],[(3,(Zc a0_)),(5,(Z2 a2_))],H9⟩ (Za.u 2 (Zo (ys:=[Zk false a0_.Links]) (h:=Zv ZL)) Za.f) (by cases hfa8<;>kernel_rfl) (tq (bk ?_))))))))
   obtain ⟨aI,ai,h⟩:=bs h
   refine Z9 ((ZV (fun (x:Int×(List Bool)) s=>∃ (a3:AV) (a5:List HO),s=⟨[(3,.loc 3 0),(5,.loc 5 0),(7,a3),(17,iv a0_.Nodes),(18,iv i10),(21,Zk false a0_.Links),(22,iv ((List.length a0_.Links:Nat):Int)),(23,iv x.1)],[(3,(Zc a0_)),(5,(Z2 a2_))],a5⟩∧HP a5 [.arr a3 1 false (List.map eB x.2)]) (fun x:Int×(List Bool)=>Zcw N a0_ a2_ x.1 x.2) (fun (p:(List Bool)) e s=>e=.exit 2∧(∃ (a7:AV) (aa:List HO),s=⟨[(3,.loc 3 0),(5,.loc 5 0),(7,a7),(17,iv a0_.Nodes),(18,iv i10)],[(3,(Zc a0_)),(5,(Z2 a2_))],aa⟩∧HP aa [.arr a7 1 false (List.map eB p)])) ?_ N _ aI _ ai ⟨a8,H9,(by show _=_;cases hfa8<;>kernel_rfl),(HP.pick hH [0] rfl)⟩).mono ?_)
   ·clear h ai
    rintro ⟨a4,aB⟩ o s h hR
    obtain ⟨a3,a5,rfl,hH⟩:=hR
    replace hH:HP _ [.arr a3 1 false (List.map eB aB)]:=hH
    have a0:=ZaB (HP.get hH 0 rfl)
    replace h:Zcw N a0_ a2_ a4 aB=some o:=h
    unfold Zcw at h
    refine sq (rgS ⟨[(3,.loc 3 0),(5,.loc 5 0),(7,a3),(17,iv a0_.Nodes),(18,iv i10),(21,Zk false a0_.Links),(22,iv ((List.length a0_.Links:Nat):Int)),(23,iv a4),(24,bv (decide (a4<((List.length a0_.Links:Nat):Int))))],[(3,(Zc a0_)),(5,(Z2 a2_))],a5⟩ Za.f (by cases a0<;>kernel_rfl) (tq (sq (it h (fun aU h=>?_) (fun aU h=>?_)))))
    ·refine sk (tq (kq ?_))
     obtain ⟨aJ,aj,h⟩:=bs h
     refine Zev [3,5,7,17,18,21,22,23] (fun s=>∃ (a6:AV) (a9:List HO),s=⟨[(3,.loc 3 0),(5,.loc 5 0),(7,a6),(17,iv a0_.Nodes),(18,iv i10),(21,Zk false a0_.Links),(22,iv ((List.length a0_.Links:Nat):Int)),(23,iv a4)],[(3,(Zc a0_)),(5,(Z2 a2_))],a9⟩∧HP a9 [.arr a6 1 false (List.map eB aJ)]) ?_ ?_
     ·clear h
      have h:=aj
      refine bk (sq ?_)
      obtain ⟨a2,az,h⟩:=bs h
      refine rgS ⟨[(3,.loc 3 0),(5,.loc 5 0),(7,a3),(8,iv a4),(9,.loc 9 0),(17,iv a0_.Nodes),(18,iv i10),(21,Zk false a0_.Links),(22,iv ((List.length a0_.Links:Nat):Int)),(23,iv a4)],[(3,(Zc a0_)),(5,(Z2 a2_)),(9,(Zav a2))],a5⟩ (Za.u 1 (Zo (ys:=[Zk false a0_.Links,iv a4]) (h:=Zn ZL az)) (Za.u 0 (ZD (sz:=4) (off:=0) (cs:=[.int .i64 a2.A,.int .i64 a2.B,.int .i64 a2.Per,.int .i64 a2.Delay]) (r:=.agg (Zav a2)) ZL az) (Za.f (h:=(by cases a0<;>kernel_rfl))))) (by cases a0<;>kernel_rfl) (tq (sq ?_))
      obtain ⟨aX,hj,h⟩:=bs h
      refine rqR (fun s=>s=⟨[(3,.loc 3 0),(5,.loc 5 0),(7,a3),(9,.loc 9 0),(17,iv a0_.Nodes),(18,iv i10),(21,Zk false a0_.Links),(22,iv ((List.length a0_.Links:Nat):Int)),(23,iv a4),(44,bv aX)],[(3,(Zc a0_)),(5,(Z2 a2_)),(9,(Zav a2))],a5⟩) ?_ ?_
      ·clear h
       obtain ⟨aM,ay,hj⟩:=bs hj
       refine (EP.u 1 (Zo (ys:=[.loc 5 0,iv a4]) (h:=Zin (l:=a2_.l) ay rfl)) (EP.o 0 (ZjM (t:=5) (off:=0) (cs:=(Z2 a2_)) (l:=a2_.l) (fun x=>bv x) [] [] ay kr kr rfl rfl) ?_))
       rcases Zz hj with ⟨aT,hj⟩|⟨aS,hj⟩
       ·refine (EP.u 0 (Zh (c:=(!aM)) (h:=aT)) ?_)
        obtain ⟨aL,ax,hj⟩:=bs hj
        obtain ⟨bl,be,_,b0,aG,b1,ar⟩:=HP.elem (k:=0) (a:=a3) (sz:=1) (frz:=false) eB hH rfl ax
        refine (EP.u 4 (Zo (ys:=[a3,iv a2.A]) (by cases a0<;>kernel_rfl) (ar .i64)) (EP.u 0 (Z3 (ZbK (H:=a5) (off:=0) (cs:=[.bool aL]) (r:=bv aL) eB ax aG)) ?_))
        obtain ⟨aK,aw,hj⟩:=bs hj
        obtain ⟨bj,bd,_,aY,aE,aZ,aq⟩:=HP.elem (k:=0) (a:=a3) (sz:=1) (frz:=false) eB hH rfl aw
        obtain rfl:=Zb hj
        exact (EP.u 3 (Zo (ys:=[a3,iv a2.B]) (by cases a0<;>kernel_rfl) (aq .i64)) (EP.u 0 (Z3 (ZbK (H:=a5) (off:=0) (cs:=[.bool aK]) (r:=bv aK) eB aw aE)) (EP.f (by show _=_;cases a0<;>kernel_rfl))))
       obtain rfl:=Zb hj
       exact (EP.u 0 (Zh (c:=(!aM)) (h:=aS)) (EP.f (by show _=_;cases a0<;>kernel_rfl)))
      clear hj
      rintro s hR
      obtain rfl:=hR
      refine tq (it h (fun aR h=>?_) (fun aR h=>?_))
      ·obtain ⟨bq,av,h⟩:=bs h
       obtain ⟨bi,bc,_,ao,aD,ap,an⟩:=HP.elem (k:=0) (a:=a3) (sz:=1) (frz:=false) eB hH rfl av
       obtain ⟨ba,aW,hH⟩:=HP.setRow (k:=0) (off:=0) (cs:=[bv true]) (ps:=[.bool true]) (e':=true) eB hH rfl ap aD (ao rfl) av kr kr
       replace hH:HP _ [.arr a3 1 false (List.map eB (List.set aB (Int.toNat a2.A) true))]:=hH
       obtain ⟨bp,au,h⟩:=bs h
       obtain ⟨bf,bb,_,al,aC,am,ak⟩:=HP.elem (k:=0) (a:=a3) (sz:=1) (frz:=false) eB hH rfl au
       obtain ⟨aQ,aV,hH⟩:=HP.setRow (k:=0) (off:=0) (cs:=[bv true]) (ps:=[.bool true]) (e':=true) eB hH rfl am aC (al rfl) au kr kr
       replace hH:HP _ [.arr a3 1 false (List.map eB (List.set (List.set aB (Int.toNat a2.A) true) (Int.toNat a2.B) true))]:=hH
       refine rqS ⟨[(3,.loc 3 0),(5,.loc 5 0),(7,a3),(17,iv a0_.Nodes),(18,iv i10),(21,Zk false a0_.Links),(22,iv ((List.length a0_.Links:Nat):Int)),(23,iv a4)],[(3,(Zc a0_)),(5,(Z2 a2_))],aQ⟩ (Za.u 6 (Zo (ys:=[a3,iv a2.A]) (by cases a0<;>kernel_rfl) (an .i64)) (Za.o 0 (Zis (Zaa (H:=a5) (v:=bv true) (hw:=aW)) kr) (Za.u 0 (Zo (ys:=[a3,iv a2.B]) (by cases a0<;>kernel_rfl) (ak .i64)) (Za.o 0 (Zis (Zaa (H:=ba) (v:=bv true) (hw:=aV)) kr) Za.f)))) (by cases a0<;>kernel_rfl) (bn ?_)
       obtain rfl:=Zb h
       exact ⟨rfl,⟨a3,aQ,(by show _=_;cases a0<;>kernel_rfl),(HP.pick hH [0] rfl)⟩⟩
      refine sk (bn ?_)
      obtain rfl:=Zb h
      exact ⟨rfl,⟨a3,a5,(by show _=_;cases a0<;>kernel_rfl),(HP.pick hH [0] rfl)⟩⟩
     clear aj
     rintro s hR
     obtain ⟨a6,a9,rfl,hH⟩:=hR
     replace hH:HP _ [.arr a6 1 false (List.map eB aJ)]:=hH
     have ac:=ZaB (HP.get hH 0 rfl)
     refine rgS ⟨[(3,.loc 3 0),(5,.loc 5 0),(7,a6),(17,iv a0_.Nodes),(18,iv i10),(21,Zk false a0_.Links),(22,iv ((List.length a0_.Links:Nat):Int)),(23,iv (w64 (a4+1)))],[(3,(Zc a0_)),(5,(Z2 a2_))],a9⟩ Za.f (by cases ac<;>kernel_rfl) ?_
     obtain rfl:=Zb h
     exact ⟨_,rfl,⟨a6,a9,(by show _=_;cases ac<;>kernel_rfl),(HP.pick hH [0] rfl)⟩⟩
    refine kq (xq (tx ?_))
    obtain rfl:=Zb h
    exact ⟨_,rfl,rfl,⟨a3,a5,(by show _=_;cases a0<;>kernel_rfl),(HP.pick hH [0] rfl)⟩⟩
   rintro e s hq
   obtain ⟨rfl,hR⟩:=hq
   obtain ⟨a7,aa,rfl,hH⟩:=hR
   replace hH:HP _ [.arr a7 1 false (List.map eB aI)]:=hH
   have ad:=ZaB (HP.get hH 0 rfl)
   refine bx (bn (tq (rgS ⟨[(3,.loc 3 0),(5,.loc 5 0),(7,a7),(17,iv a0_.Nodes),(18,iv (w64 (i10+1)))],[(3,(Zc a0_)),(5,(Z2 a2_))],aa⟩ Za.f (by cases ad<;>kernel_rfl) ?_)))
   obtain rfl:=Zb h
   exact ⟨_,rfl,⟨a7,aa,(by show _=_;cases ad<;>kernel_rfl),(HP.pick hH [0] rfl)⟩⟩
  refine kq (xq (tx ?_))
  obtain rfl:=Zb h
  exact ⟨_,rfl,rfl,⟨a8,H9,(by show _=_;cases hfa8<;>kernel_rfl),(HP.pick hH [0] rfl)⟩⟩
 rintro e s hq
 obtain ⟨rfl,hR⟩:=hq
 obtain ⟨ae,aA,rfl,hH⟩:=hR
 replace hH:HP _ [.arr ae 1 false (List.map eB af)]:=hH
 have ab:=ZaB (HP.get hH 0 rfl)
 refine bx (tq (sq (rgS ⟨[(6,ae)],[],aA⟩ Za.f (by cases ab<;>kernel_rfl) (tq (rt ?_)))))
 obtain rfl:=Zb h
 exact ZfL (H:=aA) (ys:=[ae]) (xs:=[.p (.sl 1 false (List.map eB af))]) (by cases ab<;>kernel_rfl) (by cases ab<;>kernel_rfl) (Zbf (HP.pure (k:=0) (frz:=false) eB hH rfl).2 ZcL) kr
theorem ZfF (N:Nat)(c0_:Zt)(k0_:Nat)(H:List HO)(hH:HP H [.cel k0_ (Zf c0_)])(r:Bool)(h:Zdj N c0_=some r):Zao Try.prog 65 [.ptr k0_ 0] H (bv r) H:=by
 unfold Zdj at h
 refine Zaz ZwN rfl rfl rfl (Zq _ _ _ (sq (rg Za.f (tq (sq ?_)))))
 have hlc1:=HP.get hH 0 rfl
 obtain ⟨r2,hr2,h⟩:=bs h
 refine rg (Za.u 1 (Zm (H:=H) (id:=k0_) (off:=0) (cs:=(Zf c0_)) (c:=[iv c0_.Id]) (r:=iv c0_.Id) (hl:=hlc1)) (Za.v 0 (Zp (hc:=ZT N c0_.Id 1 4095 r2 hr2)) Za.f)) ?_
 replace hH:HP _ []:=HP.pick hH [] rfl
 refine tq (rt ?_)
 obtain rfl:=Zb h
 exact Zai kr kr
theorem Zbk (N:Nat)(a0_:Zs)(a1_:Int)(r:Bool)(h:Zb7 N a0_ a1_=some r):PCall Try.prog 67 [.agg (Zc a0_),iv a1_] (bv r):=by
 unfold Zb7 at h
 have hH:HP ([]:List HO) []:=trivial
 refine ZE ZwL rfl rfl (Zq _ _ _ ?_) rfl
 refine sq (rg Za.f (tq (sq ?_)))
 obtain ⟨j5,hj,h⟩:=bs h
 refine rgR (fun s=>s=⟨[(4,bv j5)],[],[]⟩) ?_ ?_
 ·clear h
  obtain ⟨r1,hr1,hj⟩:=bs hj
  rcases Zz hj with ⟨hc2,hj⟩|⟨hc4,hj⟩
  ·refine (EP.h 4 (Zac kr (ZT N a1_ 0 (w64 (a0_.Nodes-1)) r1 hr1) hc2) ?_)
   obtain ⟨e3,he3,hj⟩:=bs hj
   obtain rfl:=Zb hj
   exact (EP.u 4 (Zo (ys:=[s_eB false a0_.Station,iv a1_]) (h:=Zn eB he3)) (EP.u 0 (ZD (sz:=1) (off:=0) (cs:=[.bool e3]) (r:=bv e3) eB he3) (EP.f kr)))
  obtain rfl:=Zb hj
  exact (EP.h 4 (Zac kr (ZT N a1_ 0 (w64 (a0_.Nodes-1)) r1 hr1) hc4) (EP.f kr))
 clear hj
 rintro s hR
 obtain rfl:=hR
 refine tq (rt ?_)
 obtain rfl:=Zb h
 exact Zu kr
theorem ZfD (N:Nat)(c0_:Zt)(k0_:Nat)(H:List HO)(hH:HP H [.cel k0_ (Zf c0_)])(r:Bool)(h:Zdh N c0_=some r):Zao Try.prog 68 [.ptr k0_ 0] H (bv r) H:=by
 unfold Zdh at h
 refine Zaz ZwK rfl rfl rfl (Zq _ _ _ (sq (rg Za.f (tq (sq ?_)))))
 have hlc1:=HP.get hH 0 rfl
 obtain ⟨r2,hr2,h⟩:=bs h
 refine rg (Za.u 1 (Zm (H:=H) (id:=k0_) (off:=4) (cs:=(Zf c0_)) (c:=[iv c0_.Size]) (r:=iv c0_.Size) (hl:=hlc1)) (Za.v 0 (Zp (hc:=ZT N c0_.Size 84 1542 r2 hr2)) Za.f)) ?_
 replace hH:HP _ []:=HP.pick hH [] rfl
 refine tq (rt ?_)
 obtain rfl:=Zb h
 exact Zai kr kr
theorem ZfC (N:Nat)(c0_:Zt)(k0_:Nat)(H:List HO)(hH:HP H [.cel k0_ (Zf c0_)])(r:Bool)(h:Zdg N c0_=some r):Zao Try.prog 69 [.ptr k0_ 0] H (bv r) H:=by
 unfold Zdg at h
 refine Zaz ZwJ rfl rfl rfl (Zq _ _ _ (sq (rg Za.f (tq (sq ?_)))))
 have hlc1:=HP.get hH 0 rfl
 obtain ⟨r2,hr2,h⟩:=bs h
 refine rg (Za.u 1 (Zm (H:=H) (id:=k0_) (off:=8) (cs:=(Zf c0_)) (c:=[iv c0_.Deadline]) (r:=iv c0_.Deadline) (hl:=hlc1)) (Za.v 0 (Zp (hc:=ZT N c0_.Deadline 1 1099511627776 r2 hr2)) Za.f)) ?_
 replace hH:HP _ []:=HP.pick hH [] rfl
 refine tq (rt ?_)
 obtain rfl:=Zb h
 exact Zai kr kr
theorem ZfA (N:Nat)(c0_:Zt)(k0_:Nat)(H:List HO)(hH:HP H [.cel k0_ (Zf c0_)])(r:Bool)(h:Zde N c0_=some r):Zao Try.prog 72 [.ptr k0_ 0] H (bv r) H:=by
 unfold Zde at h
 refine Zaz ZwG rfl rfl rfl (Zq _ _ _ (sq (rg Za.f (tq (sq ?_)))))
 have hlc1:=HP.get hH 0 rfl
 obtain ⟨r2,hr2,h⟩:=bs h
 refine rg (Za.u 1 (Zm (H:=H) (id:=k0_) (off:=9) (cs:=(Zf c0_)) (c:=[ZG false c0_.Routes]) (r:=ZG false c0_.Routes) (hl:=hlc1)) (Za.u 0 (Zo (ys:=[ZG false c0_.Routes]) (h:=Zv (eSl 1 eI64))) (Za.v 0 (Zp (hc:=ZT N ((List.length c0_.Routes:Nat):Int) 1 2 r2 hr2)) Za.f))) ?_
 replace hH:HP _ []:=HP.pick hH [] rfl
 refine tq (rt ?_)
 obtain rfl:=Zb h
 exact Zai kr kr
theorem ZeO (N:Nat)(a0_:Zs)(a1_:ZW)(a2_:Zt)(a3_:Int)(H:List HO)(r:Zt×Int×Zs×ZW)(h:ZdE N a0_ a1_ a2_ a3_=some r):∃ (id0_ id1_ id2_ id3_:Nat) (H':List HO),Zao Try.prog 78 [.agg (Zc a0_),.agg (Zg a1_),.agg (Zf a2_),iv a3_] H (.fn 95 [] [.ptr id0_ 0,.ptr id1_ 0,.ptr id2_ 0,.ptr id3_ 0]) H'∧Fp H H' [] [.cel id0_ [iv r.1.Id,iv r.1.Talker,iv r.1.Listener,iv r.1.Class,iv r.1.Size,iv r.1.Period,iv r.1.Bucket.Burst,iv r.1.Bucket.Rate,iv r.1.Deadline,ZG false r.1.Routes],.cel id1_ [iv r.2.1],.cel id2_ [iv r.2.2.1.Nodes,s_eB false r.2.2.1.Station,Zk false r.2.2.1.Links],.cel id3_ [iv r.2.2.2.Grid,iv r.2.2.2.Slack,iv r.2.2.2.Proc,iv r.2.2.2.Cap]]:=by
 suffices hs:∃ r' H',Zao Try.prog 78 [.agg (Zc a0_),.agg (Zg a1_),.agg (Zf a2_),iv a3_] H r' H'∧∃ (id0_ id1_ id2_ id3_:Nat),r'=.fn 95 [] [.ptr id0_ 0,.ptr id1_ 0,.ptr id2_ 0,.ptr id3_ 0]∧Fp H H' [] [.cel id0_ [iv r.1.Id,iv r.1.Talker,iv r.1.Listener,iv r.1.Class,iv r.1.Size,iv r.1.Period,iv r.1.Bucket.Burst,iv r.1.Bucket.Rate,iv r.1.Deadline,ZG false r.1.Routes],.cel id1_ [iv r.2.1],.cel id2_ [iv r.2.2.1.Nodes,s_eB false r.2.2.1.Station,Zk false r.2.2.1.Links],.cel id3_ [iv r.2.2.2.Grid,iv r.2.2.2.Slack,iv r.2.2.2.Proc,iv r.2.2.2.Cap]] by
  obtain ⟨_,H',h1,id0_,id1_,id2_,id3_,rfl,h2⟩:=hs
  exact ⟨id0_,id1_,id2_,id3_,H',h1,h2⟩
 unfold ZdE at h
 have hH:Fp H H [] []:=Fp.refl trivial
 refine Zf1 ZwA (fun r' H'=>∃ (id0_ id1_ id2_ id3_:Nat),r'=.fn 95 [] [.ptr id0_ 0,.ptr id1_ 0,.ptr id2_ 0,.ptr id3_ 0]∧Fp H H' [] [.cel id0_ [iv r.1.Id,iv r.1.Talker,iv r.1.Listener,iv r.1.Class,iv r.1.Size,iv r.1.Period,iv r.1.Bucket.Burst,iv r.1.Bucket.Rate,iv r.1.Deadline,ZG false r.1.Routes],.cel id1_ [iv r.2.1],.cel id2_ [iv r.2.2.1.Nodes,s_eB false r.2.2.1.Station,Zk false r.2.2.1.Links],.cel id3_ [iv r.2.2.2.Grid,iv r.2.2.2.Slack,iv r.2.2.2.Proc,iv r.2.2.2.Cap]]) (fun r' H' ⟨_,_,_,_,e,_⟩=>by rw [e];rfl) rfl rfl (sq ?_)
 obtain ⟨id1,H2,hid1,hH2,hH⟩:=Fp.newCell hH (Zc a0_)
 replace hH:Fp _ _ _ [.cel id1 (Zc a0_)]:=hH
 obtain ⟨id3,H4,hid3,hH4,hH⟩:=Fp.newCell hH (Zg a1_)
 replace hH:Fp _ _ _ [.cel id3 (Zg a1_),.cel id1 (Zc a0_)]:=hH
 obtain ⟨id5,H6,hid5,hH6,hH⟩:=Fp.newCell hH (Zf a2_)
 replace hH:Fp _ _ _ [.cel id5 (Zf a2_),.cel id3 (Zg a1_),.cel id1 (Zc a0_)]:=hH
 obtain ⟨id7,H8,hid7,hH8,hH⟩:=Fp.newCell hH [iv a3_]
 replace hH:Fp _ _ _ [.cel id7 [iv a3_],.cel id5 (Zf a2_),.cel id3 (Zg a1_),.cel id1 (Zc a0_)]:=hH
 refine rg (Za.h 0 (ZaL (H:=H) (v:=.agg (Zc a0_)) (hid:=hid1) (hH:=hH2)) (Za.h 0 (ZaL (H:=H2) (v:=.agg (Zg a1_)) (hid:=hid3) (hH:=hH4)) (Za.h 0 (ZaL (H:=H4) (v:=.agg (Zf a2_)) (hid:=hid5) (hH:=hH6)) (Za.h 0 (ZaL (H:=H6) (v:=iv a3_) (hid:=hid7) (hH:=hH8)) Za.f)))) (tq (sq (rg Za.f (tq (rt ?_)))))
 obtain rfl:=Zb h
 exact ⟨[.fn 95 [] [.ptr id5 0,.ptr id7 0,.ptr id1 0,.ptr id3 0]],kr,id5,id7,id1,id3,rfl,Fp.pk hH [1,0,3,2] rfl⟩
theorem Zht (N:Nat)(a0_:Int)(a1_:Int)(r:Int)(h:Ze3 N a0_ a1_=some r):PCall Try.prog 80 [iv a0_,iv a1_] (iv r):=by
 unfold Ze3 at h
 have hH:HP ([]:List HO) []:=trivial
 refine ZE Zwy rfl rfl (Zq _ _ _ ?_) rfl
 refine sq (rg Za.f (tq (sq ?_)))
 obtain ⟨m1,hm1,h⟩:=bs h
 obtain ⟨m2,hm2,h⟩:=bs h
 refine rg (Za.u 2 (Zo (ys:=[iv a0_,iv a1_]) (h:=Zd2 hm1)) (Za.u 3 (Zo (ys:=[iv (w64 (m1+a1_)),iv a1_]) (h:=Zd2 hm2)) Za.f)) (tq (rt ?_))
 obtain rfl:=Zb h
 exact Zu kr
theorem ZeU (N:Nat)(a0_:Int)(a1_:Int)(r:Int)(h:ZdJ N a0_ a1_=some r):PCall Try.prog 81 [iv a0_,iv a1_] (iv r):=by
 unfold ZdJ at h
 have hH:HP ([]:List HO) []:=trivial
 refine ZE Zwx rfl rfl (Zq _ _ _ ?_) rfl
 refine sq (rg Za.f (tq (sq (bk ?_))))
 obtain ⟨a3,a0,h⟩:=bs h
 refine Z9 ((ZV (fun (x:Int×Int) s=>s=⟨[(0,iv x.1),(1,iv x.2)],[],[]⟩) (fun x:Int×Int=>Zb9 N x.1 x.2) (fun (p:Int) e s=>e=.exit 0∧(s=⟨[(0,iv p)],[],[]⟩)) ?_ N _ a3 _ a0 kr).mono ?_)
 ·clear h a0
  rintro ⟨i1,i2⟩ o s h hR
  obtain rfl:=hR
  replace h:Zb9 N i1 i2=some o:=h
  unfold Zb9 at h
  refine sq (sq (rg Za.f (tq (it h (fun a2 h=>?_) (fun a2 h=>?_)))))
  ·refine sk (tq (kq (bk ?_)))
   obtain ⟨a4,a1,h⟩:=bs h
   refine rq (Za.u 3 (Zo (ys:=[iv i1,iv i2]) (h:=Zd2 a1)) Za.f) (bn ?_)
   obtain rfl:=Zb h
   exact ⟨_,rfl,kr⟩
  refine kq (xq (tx ?_))
  obtain rfl:=Zb h
  exact ⟨_,rfl,rfl,kr⟩
 rintro e s hq
 obtain ⟨rfl,hR⟩:=hq
 obtain rfl:=hR
 refine bx (tq (sq (rg Za.f (tq (rt ?_)))))
 obtain rfl:=Zb h
 exact Zu kr
theorem ZcU (N:Nat)(a0_:Zs)(a1_:Int)(r:Bool)(h:Zfg N a0_ a1_=some r):PCall Try.prog 83 [.agg (Zc a0_),iv a1_] (bv r):=by
 unfold Zfg at h
 have hH:HP ([]:List HO) []:=trivial
 refine ZE Zwv rfl rfl (Zq _ _ _ ?_) rfl
 refine sq (rg Za.f (tq (sq (rgX ⟨[(4,bv ((decide (a1_≥0))&&(decide (a1_<a0_.Nodes))))],[],[]⟩ ?_ ?_))))
 ·rcases Bool.eq_false_or_eq_true (decide (a1_≥0)) with hc1|hc2
  ·exact (EP.u 1 (Zh (c:=(decide (a1_≥0))) (h:=hc1)) (EP.f (by simp only [hc1];kernel_rfl)))
  exact (EP.u 1 (Zh (c:=(decide (a1_≥0))) (h:=hc2)) (EP.f (by simp only [hc2];kernel_rfl)))
 refine tq (rt ?_)
 obtain rfl:=Zb h
 exact Zu kr
theorem ZgG (N:Nat)(a0_:Int)(c0_:Zs)(k0_:Nat)(H:List HO)(hH:HP H [.cel k0_ (Zc c0_)])(r:Bool)(h:Zd5 N a0_ c0_=some r):Zao Try.prog 84 [iv a0_,.ptr k0_ 0] H (bv r) H:=by
 unfold Zd5 at h
 refine Zaz Zwu rfl rfl rfl (Zq _ _ _ (sq (rg Za.f (tq (sq ?_)))))
 have hlc1:=HP.get hH 0 rfl
 obtain ⟨e2,he2,h⟩:=bs h
 refine rg (Za.u 1 (Zm (H:=H) (id:=k0_) (off:=2) (cs:=(Zc c0_)) (c:=[Zk false c0_.Links]) (r:=Zk false c0_.Links) (hl:=hlc1)) (Za.u 1 (Zo (ys:=[Zk false c0_.Links,iv a0_]) (h:=Zn ZL he2)) (Za.u 0 (ZD (sz:=4) (off:=0) (cs:=[.int .i64 e2.A,.int .i64 e2.B,.int .i64 e2.Per,.int .i64 e2.Delay]) (r:=.agg (Zav e2)) ZL he2) Za.f))) (tq (sq ?_))
 obtain ⟨j9,hj,h⟩:=bs h
 refine rgR (fun s=>s=⟨[(3,bv j9)],[],H⟩) ?_ ?_
 ·clear h
  have hlc3:=HP.get hH 0 rfl
  refine (EP.u 1 (Zm (H:=H) (id:=k0_) (off:=1) (cs:=(Zc c0_)) (c:=[s_eB false c0_.Station]) (r:=s_eB false c0_.Station) (hl:=hlc3)) ?_)
  obtain ⟨e4,he4,hj⟩:=bs hj
  refine (EP.u 2 (Zo (ys:=[s_eB false c0_.Station,iv e2.A]) (h:=Zn eB he4)) (EP.u 0 (ZD (sz:=1) (off:=0) (cs:=[.bool e4]) (r:=bv e4) eB he4) ?_))
  rcases Zz hj with ⟨hc5,hj⟩|⟨hc6,hj⟩
  ·obtain rfl:=Zb hj
   exact (EP.u 0 (Zh (c:=(!e4)) (h:=hc5)) (EP.f kr))
  refine (EP.u 0 (Zh (c:=(!e4)) (h:=hc6)) ?_)
  have hlc7:=HP.get hH 0 rfl
  refine (EP.u 2 (Zm (H:=H) (id:=k0_) (off:=1) (cs:=(Zc c0_)) (c:=[s_eB false c0_.Station]) (r:=s_eB false c0_.Station) (hl:=hlc7)) ?_)
  obtain ⟨e8,he8,hj⟩:=bs hj
  obtain rfl:=Zb hj
  exact (EP.u 2 (Zo (ys:=[s_eB false c0_.Station,iv e2.B]) (h:=Zn eB he8)) (EP.u 0 (ZD (sz:=1) (off:=0) (cs:=[.bool e8]) (r:=bv e8) eB he8) (EP.f kr)))
 clear hj
 rintro s hR
 obtain rfl:=hR
 refine tq (rt ?_)
 obtain rfl:=Zb h
 exact Zai kr kr
theorem ZgF (N:Nat)(a0_:Int)(c0_:Zs)(k0_:Nat)(H:List HO)(hH:HP H [.cel k0_ (Zc c0_)])(r:Bool)(h:Zd4 N a0_ c0_=some r):Zao Try.prog 85 [iv a0_,.ptr k0_ 0] H (bv r) H:=by
 unfold Zd4 at h
 refine Zaz Zwt rfl rfl rfl (Zq _ _ _ (sq (rg Za.f (tq (sq ?_)))))
 have hlc1:=HP.get hH 0 rfl
 obtain ⟨e2,he2,h⟩:=bs h
 refine rg (Za.u 1 (Zm (H:=H) (id:=k0_) (off:=2) (cs:=(Zc c0_)) (c:=[Zk false c0_.Links]) (r:=Zk false c0_.Links) (hl:=hlc1)) (Za.u 1 (Zo (ys:=[Zk false c0_.Links,iv a0_]) (h:=Zn ZL he2)) (Za.u 0 (ZD (sz:=4) (off:=0) (cs:=[.int .i64 e2.A,.int .i64 e2.B,.int .i64 e2.Per,.int .i64 e2.Delay]) (r:=.agg (Zav e2)) ZL he2) Za.f))) (tq (sq (sq ?_)))
 have hlc3:=HP.get hH 0 rfl
 obtain ⟨l4,hl4,h⟩:=bs h
 refine rg (Za.u 1 (Zm (H:=H) (id:=k0_) (off:=2) (cs:=(Zc c0_)) (c:=[Zk false c0_.Links]) (r:=Zk false c0_.Links) (hl:=hlc3)) (Za.u 1 (Zo (ys:=[Zk false c0_.Links,iv a0_]) (h:=Zfd ZL hl4)) (Za.u 0 (Zo (ys:=[Zk false l4]) (h:=Zv ZL)) Za.f))) ?_
 replace hH:HP _ []:=HP.pick hH [] rfl
 refine tq (bk ?_)
 obtain ⟨ab,a4,h⟩:=bs h
 refine Z9 ((ZV (fun (x:Int) s=>s=⟨[(4,.loc 4 0),(15,Zk false l4),(16,iv ((List.length l4:Nat):Int)),(17,iv x)],[(4,(Zav e2))],H⟩) (fun x:Int=>ZbI N e2 l4 x) (fun (p:(Unit)⊕(Bool)) e s=>match p with|(.inl p)=>e=.exit 0∧(s=⟨[],[],H⟩)|(.inr p)=>e=.ret∧∃ xs,rawL s i85.res=some xs∧ZaA (weakVs xs)=bv p∧s.H=H) ?_ N _ ab _ a4 kr).mono ?_)
 ·clear h a4
  rintro i5 o s h hR
  obtain rfl:=hR
  replace h:ZbI N e2 l4 i5=some o:=h
  unfold ZbI at h
  refine sq (rg Za.f (tq (sq (it h (fun ad h=>?_) (fun ad h=>?_)))))
  ·refine sk (tq (kq (sq (bk (sq ?_)))))
   obtain ⟨a0,a5,h⟩:=bs h
   refine rg (Za.u 0 (Zo (ys:=[Zk false l4,iv i5]) (h:=Zn ZL a5)) (Za.u 0 (ZD (sz:=4) (off:=0) (cs:=[.int .i64 a0.A,.int .i64 a0.B,.int .i64 a0.Per,.int .i64 a0.Delay]) (r:=.agg (Zav a0)) ZL a5) Za.f)) (tq (sq (rgX ⟨[(4,.loc 4 0),(15,Zk false l4),(16,iv ((List.length l4:Nat):Int)),(17,iv i5),(46,bv (if (e2.A==a0.A) then ((e2.B==a0.B)||((e2.A==a0.B)&&(e2.B==a0.A))) else ((e2.A==a0.B)&&(e2.B==a0.A))))],[(4,(Zav e2))],H⟩ ?_ ?_)))
   ·rcases Bool.eq_false_or_eq_true (e2.A==a0.A) with a1|a2
    ·refine (EP.u 4 (Zh (c:=(e2.A==a0.A)) (h:=a1)) ?_)
     rcases Bool.eq_false_or_eq_true (e2.B==a0.B) with aa|a3
     ·exact (EP.u 5 (Zh (c:=(e2.B==a0.B)) (h:=aa)) (EP.f (by simp only [a1,aa];kernel_rfl)))
     refine (EP.u 5 (Zh (c:=(e2.B==a0.B)) (h:=a3)) ?_)
     rcases Bool.eq_false_or_eq_true (e2.A==a0.B) with a9|a8
     ·exact (EP.u 6 (Zh (c:=(e2.A==a0.B)) (h:=a9)) (EP.f (by simp only [a1,a3,a9];kernel_rfl)))
     exact (EP.u 6 (Zh (c:=(e2.A==a0.B)) (h:=a8)) (EP.f (by simp only [a1,a3,a8];kernel_rfl)))
    refine (EP.u 4 (Zh (c:=(e2.A==a0.A)) (h:=a2)) ?_)
    rcases Bool.eq_false_or_eq_true (e2.A==a0.B) with a7|a6
    ·exact (EP.u 12 (Zh (c:=(e2.A==a0.B)) (h:=a7)) (EP.f (by simp only [a2,a7];kernel_rfl)))
    exact (EP.u 12 (Zh (c:=(e2.A==a0.B)) (h:=a6)) (EP.f (by simp only [a2,a6];kernel_rfl)))
   refine tq (it h (fun ac h=>?_) (fun ac h=>?_))
   ·refine sq (rg Za.f (tq (rt (br (tr ?_)))))
    obtain rfl:=Zb h
    exact ⟨_,rfl,rfl,Zai kr kr⟩
   refine sk (bn (tq (kq (rg Za.f ?_))))
   obtain rfl:=Zb h
   exact ⟨_,rfl,kr⟩
  refine kq (xq (tx ?_))
  obtain rfl:=Zb h
  exact ⟨_,rfl,rfl,kr⟩
 rintro e s hq
 rcases ab with af|ae
 ·dsimp only at h hq
  obtain ⟨rfl,hR⟩:=hq
  obtain rfl:=hR
  refine bx (tq (sq (rg Za.f (tq (rt ?_)))))
  obtain rfl:=Zb h
  exact Zai kr kr
 dsimp only at h hq
 obtain ⟨rfl,hq⟩:=hq
 refine br (tr ?_)
 obtain rfl:=Zb h
 exact hq
theorem ZgE (N:Nat)(a0_:Int)(c0_:Zs)(k0_:Nat)(H:List HO)(hH:HP H [.cel k0_ (Zc c0_)])(r:Bool)(h:Zd3 N a0_ c0_=some r):Zao Try.prog 86 [iv a0_,.ptr k0_ 0] H (bv r) H:=by
 unfold Zd3 at h
 refine Zaz Zws rfl rfl rfl (Zq _ _ _ (sq (rg Za.f (tq (sq ?_)))))
 have hlc1:=HP.get hH 0 rfl
 obtain ⟨e2,he2,h⟩:=bs h
 refine rg (Za.u 1 (Zm (H:=H) (id:=k0_) (off:=2) (cs:=(Zc c0_)) (c:=[Zk false c0_.Links]) (r:=Zk false c0_.Links) (hl:=hlc1)) (Za.u 1 (Zo (ys:=[Zk false c0_.Links,iv a0_]) (h:=Zn ZL he2)) (Za.u 0 (ZD (sz:=4) (off:=0) (cs:=[.int .i64 e2.A,.int .i64 e2.B,.int .i64 e2.Per,.int .i64 e2.Delay]) (r:=.agg (Zav e2)) ZL he2) Za.f))) ?_
 replace hH:HP _ []:=HP.pick hH [] rfl
 refine tq (sq (rgX ⟨[(3,bv ((decide (e2.Per≥1))&&((decide (e2.Per≤1000))&&((decide (e2.Delay≥0))&&(decide (e2.Delay≤10000))))))],[],H⟩ ?_ ?_))
 ·rcases Bool.eq_false_or_eq_true (decide (e2.Per≥1)) with hc3|hc8
  ·refine (EP.u 2 (Zh (c:=(decide (e2.Per≥1))) (h:=hc3)) ?_)
   rcases Bool.eq_false_or_eq_true (decide (e2.Per≤1000)) with hc4|hc7
   ·refine (EP.u 3 (Zh (c:=(decide (e2.Per≤1000))) (h:=hc4)) ?_)
    rcases Bool.eq_false_or_eq_true (decide (e2.Delay≥0)) with hc5|hc6
    ·exact (EP.u 4 (Zh (c:=(decide (e2.Delay≥0))) (h:=hc5)) (EP.f (by simp only [hc3,hc4,hc5];kernel_rfl)))
    exact (EP.u 4 (Zh (c:=(decide (e2.Delay≥0))) (h:=hc6)) (EP.f (by simp only [hc3,hc4,hc6];kernel_rfl)))
   exact (EP.u 3 (Zh (c:=(decide (e2.Per≤1000))) (h:=hc7)) (EP.f (by simp only [hc3,hc7];kernel_rfl)))
  exact (EP.u 2 (Zh (c:=(decide (e2.Per≥1))) (h:=hc8)) (EP.f (by simp only [hc8];kernel_rfl)))
 refine tq (rt ?_)
 obtain rfl:=Zb h
 exact Zai kr kr
theorem ZcT (N:Nat)(a0_:(List Bool))(a1_:Bool)(r:Int)(h:ZaV N a0_ a1_=some r):PCall Try.prog 87 [s_eB false a0_,bv a1_] (iv r):=by
 unfold ZaV at h
 have hH:HP ([]:List HO) []:=trivial
 refine ZE Zwr rfl rfl (Zq _ _ _ ?_) rfl
 refine sq (rg Za.f (tq (sq (sq (rg (Za.u 1 (Zo (ys:=[s_eB false a0_]) (h:=Zv eB)) Za.f) (tq (bk ?_)))))))
 obtain ⟨a2,a0,h⟩:=bs h
 refine Z9 ((ZV (fun (x:Int) s=>s=⟨[(0,s_eB false a0_),(1,bv a1_),(7,iv ((List.length a0_:Nat):Int)),(8,iv x)],[],[]⟩) (fun x:Int=>Zam N a0_ a1_ x) (fun (p:(Unit)⊕(Int)) e s=>match p with|(.inl p)=>e=.exit 0∧(s=⟨[],[],[]⟩)|(.inr p)=>e=.ret∧∃ xs,resL s i87.res=some xs∧ZaA xs=iv p) ?_ N _ a2 _ a0 kr).mono ?_)
 ·clear h a0
  rintro i1 o s h hR
  obtain rfl:=hR
  replace h:Zam N a0_ a1_ i1=some o:=h
  unfold Zam at h
  refine sq (rg Za.f (tq (sq (it h (fun a4 h=>?_) (fun a4 h=>?_)))))
  ·refine sk (tq (kq (sq (bk (sq (rg Za.f (tq (sq ?_))))))))
   obtain ⟨a5,a1,h⟩:=bs h
   refine rg (Za.u 3 (Zo (ys:=[s_eB false a0_,iv i1]) (h:=Zn eB a1)) (Za.u 0 (ZD (sz:=1) (off:=0) (cs:=[.bool a5]) (r:=bv a5) eB a1) Za.f)) (tq (it h (fun a3 h=>?_) (fun a3 h=>?_)))
   ·refine sq (rg Za.f (tq (rt (br (tr ?_)))))
    obtain rfl:=Zb h
    exact ⟨_,rfl,rfl,Zu kr⟩
   refine sk (bn (tq (kq (rg Za.f ?_))))
   obtain rfl:=Zb h
   exact ⟨_,rfl,kr⟩
  refine kq (xq (tx ?_))
  obtain rfl:=Zb h
  exact ⟨_,rfl,rfl,kr⟩
 rintro e s hq
 rcases a2 with a7|a6
 ·dsimp only at h hq
  obtain ⟨rfl,hR⟩:=hq
  obtain rfl:=hR
  refine bx (tq (sq (rg Za.f (tq (rt ?_)))))
  obtain rfl:=Zb h
  exact Zu kr
 dsimp only at h hq
 obtain ⟨rfl,hq⟩:=hq
 refine br (tr ?_)
 obtain rfl:=Zb h
 exact hq
theorem Zct (N:Nat)(a0_:Int)(a1_:Int)(a2_:Int)(r:Bool)(h:Zbq N a0_ a1_ a2_=some r):PCall Try.prog 88 [iv a0_,iv a1_,iv a2_] (bv r):=by
 unfold Zbq at h
 have hH:HP ([]:List HO) []:=trivial
 refine ZE Zwq rfl rfl (Zq _ _ _ ?_) rfl
 refine sq (rg Za.f (tq (sq (rgX ⟨[(6,bv ((decide (a1_≤a0_))&&(decide (a0_≤a2_))))],[],[]⟩ ?_ ?_))))
 ·rcases Bool.eq_false_or_eq_true (decide (a1_≤a0_)) with hc1|hc2
  ·exact (EP.u 2 (Zh (c:=(decide (a1_≤a0_))) (h:=hc1)) (EP.f (by simp only [hc1];kernel_rfl)))
  exact (EP.u 2 (Zh (c:=(decide (a1_≤a0_))) (h:=hc2)) (EP.f (by simp only [hc2];kernel_rfl)))
 refine tq (rt ?_)
 obtain rfl:=Zb h
 exact Zu kr
theorem ZgP (N:Nat)(a0_:(List Int))(a1_:(List Int))(r:Bool)(h:Zee N a0_ a1_=some r):PCall Try.prog 93 [Zi false a0_,Zi false a1_] (bv r):=by
 unfold Zee at h
 have hH:HP ([]:List HO) []:=trivial
 refine ZE Zwl rfl rfl (Zq _ _ _ ?_) rfl
 refine sq (rg Za.f (tq (sq (sq (rg (Za.u 1 (Zo (ys:=[Zi false a0_]) (h:=Zv eI64)) Za.f) (tq (bk ?_)))))))
 obtain ⟨a4,a0,h⟩:=bs h
 refine Z9 ((ZV (fun (x:Int) s=>s=⟨[(1,Zi false a1_),(9,Zi false a0_),(10,iv ((List.length a0_:Nat):Int)),(11,iv x)],[],[]⟩) (fun x:Int=>ZbN N a0_ a1_ x) (fun (p:(Unit)⊕(Bool)) e s=>match p with|(.inl p)=>e=.exit 0∧(s=⟨[],[],[]⟩)|(.inr p)=>e=.ret∧∃ xs,resL s i93.res=some xs∧ZaA xs=bv p) ?_ N _ a4 _ a0 kr).mono ?_)
 ·clear h a0
  rintro i1 o s h hR
  obtain rfl:=hR
  replace h:ZbN N a0_ a1_ i1=some o:=h
  unfold ZbN at h
  refine sq (rg Za.f (tq (sq (it h (fun ab h=>?_) (fun ab h=>?_)))))
  ·refine sk (tq (kq (sq (bk (sq ?_)))))
   obtain ⟨a3,a6,h⟩:=bs h
   refine rg (Za.u 0 (Zo (ys:=[Zi false a0_,iv i1]) (h:=Zn eI64 a6)) (Za.u 0 (ZD (sz:=1) (off:=0) (cs:=[.int .i64 a3]) (r:=iv a3) eI64 a6) Za.f)) (tq (sq (rg (Za.u 1 (Zo (ys:=[Zi false a1_]) (h:=Zv eI64)) Za.f) (tq (bk ?_)))))
   obtain ⟨a5,a1,h⟩:=bs h
   refine Z9 ((ZV (fun (x:Int) s=>s=⟨[(1,Zi false a1_),(6,iv a3),(9,Zi false a0_),(10,iv ((List.length a0_:Nat):Int)),(11,iv i1),(15,Zi false a1_),(16,iv ((List.length a1_:Nat):Int)),(17,iv x)],[],[]⟩) (fun x:Int=>ZbM N a1_ a3 x) (fun (p:(Unit)⊕(Bool)) e s=>match p with|(.inl p)=>e=.exit 2∧(s=⟨[(1,Zi false a1_),(9,Zi false a0_),(10,iv ((List.length a0_:Nat):Int)),(11,iv i1)],[],[]⟩)|(.inr p)=>e=.ret∧∃ xs,resL s i93.res=some xs∧ZaA xs=bv p) ?_ N _ a5 _ a1 kr).mono ?_)
   ·clear h a1
    rintro aa o s h hR
    obtain rfl:=hR
    replace h:ZbM N a1_ a3 aa=some o:=h
    unfold ZbM at h
    refine sq (rg Za.f (tq (sq (it h (fun a9 h=>?_) (fun a9 h=>?_)))))
    ·refine sk (tq (kq (sq (bk (sq ?_)))))
     obtain ⟨a7,a2,h⟩:=bs h
     refine rg (Za.u 0 (Zo (ys:=[Zi false a1_,iv aa]) (h:=Zn eI64 a2)) (Za.u 0 (ZD (sz:=1) (off:=0) (cs:=[.int .i64 a7]) (r:=iv a7) eI64 a2) Za.f)) (tq (sq (rg Za.f (tq (it h (fun a8 h=>?_) (fun a8 h=>?_))))))
     ·refine sq (rg Za.f (tq (rt (br (tr ?_)))))
      obtain rfl:=Zb h
      exact ⟨_,rfl,rfl,Zu kr⟩
     refine sk (bn (tq (kq (rg Za.f ?_))))
     obtain rfl:=Zb h
     exact ⟨_,rfl,kr⟩
    refine kq (xq (tx ?_))
    obtain rfl:=Zb h
    exact ⟨_,rfl,rfl,kr⟩
   rintro e s hq
   rcases a5 with af|ae
   ·dsimp only at h hq
    obtain ⟨rfl,hR⟩:=hq
    obtain rfl:=hR
    refine bx (bn (tq (rg Za.f ?_)))
    obtain rfl:=Zb h
    exact ⟨_,rfl,kr⟩
   dsimp only at h hq
   obtain ⟨rfl,hq⟩:=hq
   refine br (br (tr ?_))
   obtain rfl:=Zb h
   exact ⟨_,rfl,rfl,hq⟩
  refine kq (xq (tx ?_))
  obtain rfl:=Zb h
  exact ⟨_,rfl,rfl,kr⟩
 rintro e s hq
 rcases a4 with ad|ac
 ·dsimp only at h hq
  obtain ⟨rfl,hR⟩:=hq
  obtain rfl:=hR
  refine bx (tq (sq (rg Za.f (tq (rt ?_)))))
  obtain rfl:=Zb h
  exact Zu kr
 dsimp only at h hq
 obtain ⟨rfl,hq⟩:=hq
 refine br (tr ?_)
 obtain rfl:=Zb h
 exact hq
theorem ZdU {σ:Type}(N:Nat)(y_:σ→Z4→Option (σ×Bool))(c0_:Zt)(c1_:Int)(c2_:Zs)(c3_:ZW)(s_:σ)(k0_:Nat)(k1_:Nat)(k2_:Nat)(k3_:Nat)(yid_:Nat)(T_:σ→List ZR→Prop)(hy_:∀ (x0:Z4) (s:σ) (r:σ×Bool) (H:List HO) (its:List ZR),T_ s its→HP H its→y_ s x0=some r→∃ H' its',Zeu Try.prog yid_ [.agg [iv x0.Port,iv x0.Early,iv x0.Late,iv x0.Open,iv x0.Long]] H r.2 H'∧T_ r.1 its'∧Fp H H' its its')(H:List HO)(its:List ZR)(hT:T_ s_ its)(hH:HP H (.cel k0_ (Zf c0_)::.cel k1_ [iv c1_]::.cel k2_ (Zc c2_)::.cel k3_ (Zg c3_)::its))(r:σ)(h:ZcA N y_ c0_ c1_ c2_ c3_ s_=some r):∃ H' its',Zao Try.prog 95 [.yl yid_,.ptr k0_ 0,.ptr k1_ 0,.ptr k2_ 0,.ptr k3_ 0] H (.tup []) H'∧T_ r its'∧Fp H H' (.cel k0_ (Zf c0_)::.cel k1_ [iv c1_]::.cel k2_ (Zc c2_)::.cel k3_ (Zg c3_)::its) (.cel k0_ (Zf c0_)::.cel k1_ [iv c1_]::.cel k2_ (Zc c2_)::.cel k3_ (Zg c3_)::its'):=by
 suffices hs:∃ H',Zao Try.prog 95 [.yl yid_,.ptr k0_ 0,.ptr k1_ 0,.ptr k2_ 0,.ptr k3_ 0] H (.tup []) H'∧∃ its',T_ r its'∧Fp H H' (.cel k0_ (Zf c0_)::.cel k1_ [iv c1_]::.cel k2_ (Zc c2_)::.cel k3_ (Zg c3_)::its) (.cel k0_ (Zf c0_)::.cel k1_ [iv c1_]::.cel k2_ (Zc c2_)::.cel k3_ (Zg c3_)::its') by
  obtain ⟨H',h1,its',h2,h3⟩:=hs
  exact ⟨H',its',h1,h2,h3⟩
 unfold ZcA at h
 replace hH:Fp H H (.cel k0_ (Zf c0_)::.cel k1_ [iv c1_]::.cel k2_ (Zc c2_)::.cel k3_ (Zg c3_)::its) (.cel k0_ (Zf c0_)::.cel k1_ [iv c1_]::.cel k2_ (Zc c2_)::.cel k3_ (Zg c3_)::its):=Fp.refl hH
 refine Zhm Zwj (fun H'=>∃ its',T_ r its'∧Fp H H' (.cel k0_ (Zf c0_)::.cel k1_ [iv c1_]::.cel k2_ (Zc c2_)::.cel k3_ (Zg c3_)::its) (.cel k0_ (Zf c0_)::.cel k1_ [iv c1_]::.cel k2_ (Zc c2_)::.cel k3_ (Zg c3_)::its')) rfl rfl rfl (sq (rg Za.f (tq (sq ?_))))
 have hlc1:=Fp.get hH 0 rfl
 have hlc2:=Fp.get hH 1 rfl
 obtain ⟨e3,he3,h⟩:=bs h
 refine rg (Za.u 1 (Zm (H:=H) (id:=k0_) (off:=9) (cs:=(Zf c0_)) (c:=[ZG false c0_.Routes]) (r:=ZG false c0_.Routes) (hl:=hlc1)) (Za.u 0 (Zm (H:=H) (id:=k1_) (off:=0) (cs:=[iv c1_]) (c:=[iv c1_]) (r:=iv c1_) (hl:=hlc2)) (Za.u 0 (Zo (ys:=[ZG false c0_.Routes,iv c1_]) (h:=Zn (eSl 1 eI64) he3)) (Za.u 0 (ZD (sz:=1) (off:=0) (cs:=[.sl 1 false (List.map eI64 e3)]) (r:=Zi false e3) (eSl 1 eI64) he3) (Za.u 0 (Zo (ys:=[Zi false e3]) (h:=Zv eI64)) Za.f))))) (tq (bk ?_))
 obtain ⟨an,a5,h⟩:=bs h
 refine Z9 ((ZV (fun (x:Int×Int×Int×Int×Int×Int×σ) s=>∃ (its4:List ZR) (H5:List HO),s=⟨[(0,.yl yid_),(1,.ptr k0_ 0),(3,.ptr k2_ 0),(4,.ptr k3_ 0),(6,.loc 6 0),(14,Zi false e3),(15,iv ((List.length e3:Nat):Int)),(16,iv x.1)],[(6,[iv x.2.1,iv x.2.2.1,iv x.2.2.2.1,iv x.2.2.2.2.1,iv x.2.2.2.2.2.1])],H5⟩∧T_ x.2.2.2.2.2.2 its4∧Fp H H5 (.cel k0_ (Zf c0_)::.cel k1_ [iv c1_]::.cel k2_ (Zc c2_)::.cel k3_ (Zg c3_)::its) (.cel k0_ (Zf c0_)::.cel k1_ [iv c1_]::.cel k2_ (Zc c2_)::.cel k3_ (Zg c3_)::its4)) (fun x:Int×Int×Int×Int×Int×Int×σ=>Zbx N y_ c0_ c2_ c3_ e3 x.1 x.2.1 x.2.2.1 x.2.2.2.1 x.2.2.2.2.1 x.2.2.2.2.2.1 x.2.2.2.2.2.2) (fun (p:(σ)⊕(σ)) e s=>match p with|(.inl p)=>e=.exit 0∧(∃ (a1:List ZR) (am:List HO),s=⟨[],[],am⟩∧T_ p a1∧Fp H am (.cel k0_ (Zf c0_)::.cel k1_ [iv c1_]::.cel k2_ (Zc c2_)::.cel k3_ (Zg c3_)::its) (.cel k0_ (Zf c0_)::.cel k1_ [iv c1_]::.cel k2_ (Zc c2_)::.cel k3_ (Zg c3_)::a1))|(.inr p)=>e=.ret∧∃ xs,rawL s i95.res=some xs∧ZaA xs=.tup []∧∃ its',T_ p its'∧Fp H s.H (.cel k0_ (Zf c0_)::.cel k1_ [iv c1_]::.cel k2_ (Zc c2_)::.cel k3_ (Zg c3_)::its) (.cel k0_ (Zf c0_)::.cel k1_ [iv c1_]::.cel k2_ (Zc c2_)::.cel k3_ (Zg c3_)::its')) ?_ N _ an _ a5 ⟨its,H,kr,hT,Fp.at hH⟩).mono ?_)
 ·clear h a5
  rintro ⟨i6,i7,i10,i11,i12,i8,g9⟩ o s h hR
  obtain ⟨its4,H5,rfl,hT,hH⟩:=hR
  replace hH:Fp H H5 (.cel k0_ (Zf c0_)::.cel k1_ [iv c1_]::.cel k2_ (Zc c2_)::.cel k3_ (Zg c3_)::its) (.cel k0_ (Zf c0_)::.cel k1_ [iv c1_]::.cel k2_ (Zc c2_)::.cel k3_ (Zg c3_)::its4):=hH
  replace h:Zbx N y_ c0_ c2_ c3_ e3 i6 i7 i10 i11 i12 i8 g9=some o:=h
  unfold Zbx at h
  refine sq (rg Za.f (tq (sq (it h (fun ax h=>?_) (fun ax h=>?_)))))
  ·refine sk (tq (kq (sq (bk (sq ?_)))))
   obtain ⟨a4,ao,h⟩:=bs h
   refine rg (Za.u 1 (Zo (ys:=[Zi false e3,iv i6]) (h:=Zn eI64 ao)) (Za.u 0 (ZD (sz:=1) (off:=0) (cs:=[.int .i64 a4]) (r:=iv a4) eI64 ao) Za.f)) (tq ?_)
   obtain ⟨a0,a6,h⟩:=bs h
   refine Zev [0,1,3,4,6,8,14,15,16] (fun s=>s=⟨[(0,.yl yid_),(1,.ptr k0_ 0),(3,.ptr k2_ 0),(4,.ptr k3_ 0),(6,.loc 6 0),(8,iv a4),(14,Zi false e3),(15,iv ((List.length e3:Nat):Int)),(16,iv i6)],[(6,[iv i7,iv a0.1,iv a0.2.1,iv a0.2.2,iv i8])],H5⟩) ?_ ?_
   ·clear h
    have h:=a6
    refine sq (rg Za.f (tq (it h (fun av h=>?_) (fun av h=>?_))))
    ·refine sq ?_
     have ak:=Fp.get hH 2 rfl
     obtain ⟨a9,a8,h⟩:=bs h
     have aj:=Fp.get hH 3 rfl
     refine rq (Za.u 6 (Z3 (Zm (H:=H5) (id:=k2_) (off:=2) (cs:=(Zc c2_)) (c:=[Zk false c2_.Links]) (r:=Zk false c2_.Links) (hl:=ak))) (Za.u 3 (Zo (ys:=[Zk false c2_.Links,iv (w64 (Int.tdiv i7 2))]) (h:=Zn ZL a8)) (Za.u 1 (Z3 (ZD (sz:=4) (off:=3) (cs:=[.int .i64 a9.Delay]) (r:=iv a9.Delay) ZL a8)) (Za.u 2 (Z3 (Zm (H:=H5) (id:=k3_) (off:=2) (cs:=(Zg c3_)) (c:=[iv c3_.Proc]) (r:=iv c3_.Proc) (hl:=aj))) Za.f)))) (tq (sq ?_))
     have ai:=Fp.get hH 3 rfl
     have ag:=Fp.get hH 3 rfl
     refine rq (Za.u 2 (Z3 (Zm (H:=H5) (id:=k3_) (off:=1) (cs:=(Zg c3_)) (c:=[iv c3_.Slack]) (r:=iv c3_.Slack) (hl:=ai))) (Za.u 4 (Z3 (Zm (H:=H5) (id:=k3_) (off:=1) (cs:=(Zg c3_)) (c:=[iv c3_.Slack]) (r:=iv c3_.Slack) (hl:=ag))) Za.f)) (tq ?_)
     have af:=Fp.get hH 3 rfl
     have ae:=Fp.get hH 3 rfl
     obtain ⟨ay,ar,h⟩:=bs h
     have ad:=Fp.get hH 3 rfl
     refine rq (Za.u 3 (Z3 (Zm (H:=H5) (id:=k3_) (off:=0) (cs:=(Zg c3_)) (c:=[iv c3_.Grid]) (r:=iv c3_.Grid) (hl:=af))) (Za.u 3 (Z3 (Zm (H:=H5) (id:=k3_) (off:=0) (cs:=(Zg c3_)) (c:=[iv c3_.Grid]) (r:=iv c3_.Grid) (hl:=ae))) (Za.u 0 (Zo (ys:=[iv (w64 ((w64 ((w64 ((w64 ((w64 ((w64 (i12+i8))+a9.Delay))+c3_.Proc))+(w64 (2*c3_.Slack))))+c3_.Grid))-1)),iv c3_.Grid]) (h:=Zfe ar)) (Za.u 1 (Z3 (Zm (H:=H5) (id:=k3_) (off:=0) (cs:=(Zg c3_)) (c:=[iv c3_.Grid]) (r:=iv c3_.Grid) (hl:=ad))) Za.f)))) ?_
     obtain rfl:=Zb h
     exact ⟨rfl,kr⟩
    refine sk ?_
    obtain rfl:=Zb h
    exact ⟨rfl,kr⟩
   clear a6
   rintro s hR
   obtain rfl:=hR
   refine sq ?_
   have ac:=Fp.get hH 0 rfl
   have ab:=Fp.get hH 2 rfl
   obtain ⟨a3,a7,h⟩:=bs h
   refine rq (Za.u 2 (Z3 (Zm (H:=H5) (id:=k0_) (off:=4) (cs:=(Zf c0_)) (c:=[iv c0_.Size]) (r:=iv c0_.Size) (hl:=ac))) (Za.u 1 (Z3 (Zm (H:=H5) (id:=k2_) (off:=2) (cs:=(Zc c2_)) (c:=[Zk false c2_.Links]) (r:=Zk false c2_.Links) (hl:=ab))) (Za.u 2 (Zo (ys:=[Zk false c2_.Links,iv (w64 (Int.tdiv a4 2))]) (h:=Zn ZL a7)) (Za.u 1 (Z3 (ZD (sz:=4) (off:=2) (cs:=[.int .i64 a3.Per]) (r:=iv a3.Per) ZL a7)) Za.f)))) (tq (sq ?_))
   obtain ⟨aw,aq,h⟩:=bs h
   obtain ⟨ap,a2,aa,hT,al⟩:=hy_ (Z4.mk a4 a0.1 a0.2.1 a0.2.2 (w64 (c0_.Size*a3.Per))) g9 aw H5 its4 hT (Fp.tail (own:=[.cel k0_ (Zf c0_),.cel k1_ [iv c1_],.cel k2_ (Zc c2_),.cel k3_ (Zg c3_)]) (its:=its4) hH) aq
   replace hH:Fp H ap (.cel k0_ (Zf c0_)::.cel k1_ [iv c1_]::.cel k2_ (Zc c2_)::.cel k3_ (Zg c3_)::its) (.cel k0_ (Zf c0_)::.cel k1_ [iv c1_]::.cel k2_ (Zc c2_)::.cel k3_ (Zg c3_)::a2):=Fp.callT (own:=[.cel k0_ (Zf c0_),.cel k1_ [iv c1_],.cel k2_ (Zc c2_),.cel k3_ (Zg c3_)]) (its:=its4) hH al
   refine rg (Za.v 2 (ZhY (H:=H5) (id:=yid_) (ys:=[.agg [iv a4,iv a0.1,iv a0.2.1,iv a0.2.2,iv (w64 (c0_.Size*a3.Per))]]) kr kr kr kr aa) Za.f) (tq (it h (fun au h=>?_) (fun au h=>?_)))
   ·refine rt (br (tr ?_))
    obtain rfl:=Zb h
    exact ⟨_,rfl,rfl,⟨[],kr,kr,a2,hT,Fp.at hH⟩⟩
   refine sk (bn (tq (kq (rg Za.f ?_))))
   obtain rfl:=Zb h
   exact ⟨_,rfl,⟨a2,ap,kr,hT,Fp.at hH⟩⟩
  refine kq (xq (tx ?_))
  obtain rfl:=Zb h
  exact ⟨_,rfl,rfl,⟨its4,H5,kr,hT,Fp.at hH⟩⟩
 rintro e s hq
 rcases an with aA|az
 ·dsimp only at h hq
  obtain ⟨rfl,hR⟩:=hq
  obtain ⟨a1,am,rfl,hT,hH⟩:=hR
  replace hH:Fp H am (.cel k0_ (Zf c0_)::.cel k1_ [iv c1_]::.cel k2_ (Zc c2_)::.cel k3_ (Zg c3_)::its) (.cel k0_ (Zf c0_)::.cel k1_ [iv c1_]::.cel k2_ (Zc c2_)::.cel k3_ (Zg c3_)::a1):=hH
  refine bx ?_
  obtain rfl:=Zb h
  exact ⟨[],kr,kr,a1,hT,Fp.at hH⟩
 dsimp only at h hq
 obtain ⟨rfl,hq⟩:=hq
 refine br ?_
 obtain rfl:=Zb h
 exact hq
theorem ZcX (N:Nat)(a0_:ZK)(a1_:(List Int))(H:List HO)(r:(List Int)×ZK)(h:ZbL N a0_ a1_=some r):∃ (id0_ id1_:Nat) (H':List HO),Zao Try.prog 98 [.agg (Zc a0_.Topo),Zi false a1_] H (.fn 103 [] [.ptr id0_ 0,.ptr id1_ 0]) H'∧Fp H H' [] [.cel id0_ [Zi false r.1],.cel id1_ [iv r.2.Topo.Nodes,s_eB false r.2.Topo.Station,Zk false r.2.Topo.Links]]:=by
 suffices hs:∃ r' H',Zao Try.prog 98 [.agg (Zc a0_.Topo),Zi false a1_] H r' H'∧∃ (id0_ id1_:Nat),r'=.fn 103 [] [.ptr id0_ 0,.ptr id1_ 0]∧Fp H H' [] [.cel id0_ [Zi false r.1],.cel id1_ [iv r.2.Topo.Nodes,s_eB false r.2.Topo.Station,Zk false r.2.Topo.Links]] by
  obtain ⟨_,H',h1,id0_,id1_,rfl,h2⟩:=hs
  exact ⟨id0_,id1_,H',h1,h2⟩
 unfold ZbL at h
 have hH:Fp H H [] []:=Fp.refl trivial
 refine Zf1 Zwg (fun r' H'=>∃ (id0_ id1_:Nat),r'=.fn 103 [] [.ptr id0_ 0,.ptr id1_ 0]∧Fp H H' [] [.cel id0_ [Zi false r.1],.cel id1_ [iv r.2.Topo.Nodes,s_eB false r.2.Topo.Station,Zk false r.2.Topo.Links]]) (fun r' H' ⟨_,_,e,_⟩=>by rw [e];rfl) rfl rfl (sq ?_)
 obtain ⟨id1,H2,hid1,hH2,hH⟩:=Fp.newCell hH (Zc a0_.Topo)
 replace hH:Fp _ _ _ [.cel id1 (Zc a0_.Topo)]:=hH
 obtain ⟨id3,H4,hid3,hH4,hH⟩:=Fp.newCell hH [Zi false a1_]
 replace hH:Fp _ _ _ [.cel id3 [Zi false a1_],.cel id1 (Zc a0_.Topo)]:=hH
 refine rg (Za.h 0 (ZaL (H:=H) (v:=.agg (Zc a0_.Topo)) (hid:=hid1) (hH:=hH2)) (Za.h 0 (ZaL (H:=H2) (v:=Zi false a1_) (hid:=hid3) (hH:=hH4)) Za.f)) (tq (sq (rg Za.f (tq (rt ?_)))))
 obtain rfl:=Zb h
 exact ⟨[.fn 103 [] [.ptr id3 0,.ptr id1 0]],kr,id3,id1,rfl,Fp.pk hH [0,1] rfl⟩
theorem Zcs {σ:Type}(N:Nat)(y_:σ→Int→Zas→Option (σ×Bool))(c0_:(List Int))(c1_:ZK)(s_:σ)(k0_:Nat)(k1_:Nat)(yid_:Nat)(T_:σ→List ZR→Prop)(hy_:∀ (x0:Int) (x1:Zas) (s:σ) (r:σ×Bool) (H:List HO) (its:List ZR),T_ s its→HP H its→y_ s x0 x1=some r→∃ H' its',Zeu Try.prog yid_ [iv x0,.agg [iv x1.port,iv x1.from_,iv x1.to_]] H r.2 H'∧T_ r.1 its'∧Fp H H' its its')(H:List HO)(its:List ZR)(hT:T_ s_ its)(hH:HP H (.cel k0_ [Zi false c0_]::.cel k1_ (Zc c1_.Topo)::its))(r:σ)(h:Zbm N y_ c0_ c1_ s_=some r):∃ H' its',Zao Try.prog 103 [.yl yid_,.ptr k0_ 0,.ptr k1_ 0] H (.tup []) H'∧T_ r its'∧Fp H H' (.cel k0_ [Zi false c0_]::.cel k1_ (Zc c1_.Topo)::its) (.cel k0_ [Zi false c0_]::.cel k1_ (Zc c1_.Topo)::its'):=by
 suffices hs:∃ H',Zao Try.prog 103 [.yl yid_,.ptr k0_ 0,.ptr k1_ 0] H (.tup []) H'∧∃ its',T_ r its'∧Fp H H' (.cel k0_ [Zi false c0_]::.cel k1_ (Zc c1_.Topo)::its) (.cel k0_ [Zi false c0_]::.cel k1_ (Zc c1_.Topo)::its') by
  obtain ⟨H',h1,its',h2,h3⟩:=hs
  exact ⟨H',its',h1,h2,h3⟩
 unfold Zbm at h
 replace hH:Fp H H (.cel k0_ [Zi false c0_]::.cel k1_ (Zc c1_.Topo)::its) (.cel k0_ [Zi false c0_]::.cel k1_ (Zc c1_.Topo)::its):=Fp.refl hH
 refine Zhm Zoc (fun H'=>∃ its',T_ r its'∧Fp H H' (.cel k0_ [Zi false c0_]::.cel k1_ (Zc c1_.Topo)::its) (.cel k0_ [Zi false c0_]::.cel k1_ (Zc c1_.Topo)::its')) rfl rfl rfl (ZkN (EvI.scope (sq (ZkO (tq (sq ?_))))))
 have hlc1:=Fp.get hH 0 rfl
 refine rg (Za.u 0 (Zm (H:=H) (id:=k0_) (off:=0) (cs:=[Zi false c0_]) (c:=[Zi false c0_]) (r:=Zi false c0_) (hl:=hlc1)) (Za.u 0 (Zo (ys:=[Zi false c0_]) (h:=Zv eI64)) Za.f)) (tq (bk ?_))
 obtain ⟨ak,a4,h⟩:=bs h
 refine Z9 ((ZV (fun (x:Int×σ) s=>∃ (its2:List ZR) (H3:List HO),s=⟨[(0,.yl yid_),(2,.ptr k1_ 0),(8,Zi false c0_),(9,iv ((List.length c0_:Nat):Int)),(10,iv x.1)],[],H3⟩∧T_ x.2 its2∧Fp H H3 (.cel k0_ [Zi false c0_]::.cel k1_ (Zc c1_.Topo)::its) (.cel k0_ [Zi false c0_]::.cel k1_ (Zc c1_.Topo)::its2)) (fun x:Int×σ=>ZaO N y_ c0_ c1_ x.1 x.2) (fun (p:σ) e s=>e=.exit 0∧(∃ (a0:List ZR) (aa:List HO),s=⟨[],[],aa⟩∧T_ p a0∧Fp H aa (.cel k0_ [Zi false c0_]::.cel k1_ (Zc c1_.Topo)::its) (.cel k0_ [Zi false c0_]::.cel k1_ (Zc c1_.Topo)::a0))) ?_ N _ ak _ a4 ⟨its,H,kr,hT,Fp.at hH⟩).mono ?_)
 ·clear h a4
  rintro ⟨i4,g5⟩ o s h hR
  obtain ⟨its2,H3,rfl,hT,hH⟩:=hR
  replace hH:Fp H H3 (.cel k0_ [Zi false c0_]::.cel k1_ (Zc c1_.Topo)::its) (.cel k0_ [Zi false c0_]::.cel k1_ (Zc c1_.Topo)::its2):=hH
  replace h:ZaO N y_ c0_ c1_ i4 g5=some o:=h
  unfold ZaO at h
  refine sq (rg Za.f (tq (sq (it h (fun ao h=>?_) (fun ao h=>?_)))))
  ·refine sk (tq (kq (sq (bk (sq ?_)))))
   obtain ⟨a3,ac,h⟩:=bs h
   refine rg (Za.u 1 (Zo (ys:=[Zi false c0_,iv i4]) (h:=Zn eI64 ac)) (Za.u 0 (ZD (sz:=1) (off:=0) (cs:=[.int .i64 a3]) (r:=iv a3) eI64 ac) Za.f)) (tq (sq (sq ?_)))
   obtain ⟨ap,hj,h⟩:=bs h
   refine rgR (fun s=>s=⟨[(0,.yl yid_),(2,.ptr k1_ 0),(4,iv i4),(5,iv a3),(8,Zi false c0_),(9,iv ((List.length c0_:Nat):Int)),(10,iv i4),(25,bv ap)],[],H3⟩) ?_ ?_
   ·clear h
    rcases Zz hj with ⟨an,hj⟩|⟨am,hj⟩
    ·obtain rfl:=Zb hj
     exact (EP.u 1 (Zh (c:=(decide (a3<0))) (h:=an)) (EP.f kr))
    refine (EP.u 1 (Zh (c:=(decide (a3<0))) (h:=am)) ?_)
    have af:=Fp.get hH 1 rfl
    obtain rfl:=Zb hj
    exact (EP.u 4 (Zm (H:=H3) (id:=k1_) (off:=2) (cs:=(Zc c1_.Topo)) (c:=[Zk false c1_.Topo.Links]) (r:=Zk false c1_.Topo.Links) (hl:=af)) (EP.u 0 (Zo (ys:=[Zk false c1_.Topo.Links]) (h:=Zv ZL)) (EP.f kr)))
   clear hj
   rintro s hR
   obtain rfl:=hR
   refine tq (it h (fun al h=>?_) (fun al h=>?_))
   ·refine kq (xq (tx (bo (tx ?_))))
    obtain rfl:=Zb h
    exact ⟨_,rfl,rfl,⟨its2,H3,kr,hT,Fp.at hH⟩⟩
   refine sk (tq (kq (sq ?_)))
   have ae:=Fp.get hH 1 rfl
   obtain ⟨a6,ab,h⟩:=bs h
   refine rg (Za.u 2 (Zm (H:=H3) (id:=k1_) (off:=2) (cs:=(Zc c1_.Topo)) (c:=[Zk false c1_.Topo.Links]) (r:=Zk false c1_.Topo.Links) (hl:=ae)) (Za.u 2 (Zo (ys:=[Zk false c1_.Topo.Links,iv (w64 (Int.tdiv a3 2))]) (h:=Zn ZL ab)) (Za.u 0 (ZD (sz:=4) (off:=0) (cs:=[.int .i64 a6.A,.int .i64 a6.B,.int .i64 a6.Per,.int .i64 a6.Delay]) (r:=.agg (Zav a6)) ZL ab) Za.f))) (tq (sq (rg Za.f (tq ?_))))
   obtain ⟨a1,a5,h⟩:=bs h
   refine Zev [0,2,4,7,8,9,10] (fun s=>s=⟨[(0,.yl yid_),(2,.ptr k1_ 0),(4,iv i4),(7,.loc 7 0),(8,Zi false c0_),(9,iv ((List.length c0_:Nat):Int)),(10,iv i4)],[(7,[iv a3,iv a1.1,iv a1.2])],H3⟩) ?_ ?_
   ·clear h
    have h:=a5
    refine sq (rg Za.f (tq (it h (fun ai h=>?_) (fun ai h=>?_))))
    ·refine rg Za.f ?_
     obtain rfl:=Zb h
     exact ⟨rfl,kr⟩
    refine sk ?_
    obtain rfl:=Zb h
    exact ⟨rfl,kr⟩
   clear a5
   rintro s hR
   obtain rfl:=hR
   refine sq ?_
   obtain ⟨aj,ad,h⟩:=bs h
   obtain ⟨a7,a2,a8,hT,a9⟩:=hy_ i4 (Zas.mk a3 a1.1 a1.2) g5 aj H3 its2 hT (Fp.tail (own:=[.cel k0_ [Zi false c0_],.cel k1_ (Zc c1_.Topo)]) (its:=its2) hH) ad
   replace hH:Fp H a7 (.cel k0_ [Zi false c0_]::.cel k1_ (Zc c1_.Topo)::its) (.cel k0_ [Zi false c0_]::.cel k1_ (Zc c1_.Topo)::a2):=Fp.callT (own:=[.cel k0_ [Zi false c0_],.cel k1_ (Zc c1_.Topo)]) (its:=its2) hH a9
   refine rg (Za.v 3 (ZhY (H:=H3) (id:=yid_) (ys:=[iv i4,.agg [iv a3,iv a1.1,iv a1.2]]) kr kr kr kr a8) Za.f) (tq (it h (fun ag h=>?_) (fun ag h=>?_)))
   ·refine kq (xq (bo (tx ?_)))
    obtain rfl:=Zb h
    exact ⟨_,rfl,rfl,⟨a2,a7,kr,hT,Fp.at hH⟩⟩
   refine sk (bn (tq (kq (rg Za.f ?_))))
   obtain rfl:=Zb h
   exact ⟨_,rfl,⟨a2,a7,kr,hT,Fp.at hH⟩⟩
  refine kq (xq (tx ?_))
  obtain rfl:=Zb h
  exact ⟨_,rfl,rfl,⟨its2,H3,kr,hT,Fp.at hH⟩⟩
 rintro e s hq
 obtain ⟨rfl,hR⟩:=hq
 obtain ⟨a0,aa,rfl,hT,hH⟩:=hR
 replace hH:Fp H aa (.cel k0_ [Zi false c0_]::.cel k1_ (Zc c1_.Topo)::its) (.cel k0_ [Zi false c0_]::.cel k1_ (Zc c1_.Topo)::a0):=hH
 refine bx (nn ?_)
 obtain rfl:=Zb h
 exact ⟨[],kr,kr,a0,hT,Fp.at hH⟩
theorem Zdq (N:Nat)(a0_:(List Int))(a1_:Int)(r:Int)(h:Zbe N a0_ a1_=some r):PCall Try.prog 104 [Zi false a0_,iv a1_] (iv r):=by
 unfold Zbe at h
 have hH:HP ([]:List HO) []:=trivial
 refine ZE Zob rfl rfl (Zq _ _ _ ?_) rfl
 refine sq (rg Za.f (tq (sq (sq (rg (Za.u 1 (Zo (ys:=[Zi false a0_]) (h:=Zv eI64)) Za.f) (tq (bk ?_)))))))
 obtain ⟨a2,a0,h⟩:=bs h
 refine Z9 ((ZV (fun (x:Int) s=>s=⟨[(0,Zi false a0_),(1,iv a1_),(7,iv ((List.length a0_:Nat):Int)),(8,iv x)],[],[]⟩) (fun x:Int=>Zau N a0_ a1_ x) (fun (p:(Unit)⊕(Int)) e s=>match p with|(.inl p)=>e=.exit 0∧(s=⟨[],[],[]⟩)|(.inr p)=>e=.ret∧∃ xs,resL s i104.res=some xs∧ZaA xs=iv p) ?_ N _ a2 _ a0 kr).mono ?_)
 ·clear h a0
  rintro i1 o s h hR
  obtain rfl:=hR
  replace h:Zau N a0_ a1_ i1=some o:=h
  unfold Zau at h
  refine sq (rg Za.f (tq (sq (it h (fun a4 h=>?_) (fun a4 h=>?_)))))
  ·refine sk (tq (kq (sq (bk (sq (rg Za.f (tq (sq ?_))))))))
   obtain ⟨a5,a1,h⟩:=bs h
   refine rg (Za.u 3 (Zo (ys:=[Zi false a0_,iv i1]) (h:=Zn eI64 a1)) (Za.u 0 (ZD (sz:=1) (off:=0) (cs:=[.int .i64 a5]) (r:=iv a5) eI64 a1) Za.f)) (tq (it h (fun a3 h=>?_) (fun a3 h=>?_)))
   ·refine sq (rg Za.f (tq (rt (br (tr ?_)))))
    obtain rfl:=Zb h
    exact ⟨_,rfl,rfl,Zu kr⟩
   refine sk (bn (tq (kq (rg Za.f ?_))))
   obtain rfl:=Zb h
   exact ⟨_,rfl,kr⟩
  refine kq (xq (tx ?_))
  obtain rfl:=Zb h
  exact ⟨_,rfl,rfl,kr⟩
 rintro e s hq
 rcases a2 with a7|a6
 ·dsimp only at h hq
  obtain ⟨rfl,hR⟩:=hq
  obtain rfl:=hR
  refine bx (tq (sq (rg Za.f (tq (rt ?_)))))
  obtain rfl:=Zb h
  exact Zu kr
 dsimp only at h hq
 obtain ⟨rfl,hq⟩:=hq
 refine br (tr ?_)
 obtain rfl:=Zb h
 exact hq
theorem Zcr (N:Nat)(a0_:ZW)(r:Int)(h:Zbl N a0_=some r):PCall Try.prog 42 [.agg (Zg a0_)] (iv r):=by
 unfold Zbl at h
 have hH:HP ([]:List HO) []:=trivial
 refine ZE Zw7 rfl rfl (Zq _ _ _ ?_) rfl
 refine sq (rg Za.f (tq (sq (sq ?_))))
 obtain ⟨j5,hj,h⟩:=bs h
 refine rgR (fun s=>s=⟨[(1,.loc 1 0),(12,bv j5)],[(1,(Zg a0_))],[]⟩) ?_ ?_
 ·clear h
  obtain ⟨r1,hr1,hj⟩:=bs hj
  refine (EP.v 2 (Zp (hc:=ZT N a0_.Grid 1 10000 r1 hr1)) ?_)
  rcases Zz hj with ⟨hc2,hj⟩|⟨hc3,hj⟩
  ·obtain rfl:=Zb hj
   exact (EP.u 0 (Zh (c:=(!r1)) (h:=hc2)) (EP.f kr))
  refine (EP.u 0 (Zh (c:=(!r1)) (h:=hc3)) ?_)
  obtain ⟨r4,hr4,hj⟩:=bs hj
  obtain rfl:=Zb hj
  exact (EP.v 3 (Zp (hc:=ZT N a0_.Slack 0 1000 r4 hr4)) (EP.f kr))
 clear hj
 rintro s hR
 obtain rfl:=hR
 refine tq (it h (fun hc6 h=>?_) (fun hc6 h=>?_))
 ·refine sq (rg Za.f (tq (rt (tr ?_))))
  obtain rfl:=Zb h
  exact Zu kr
 refine sk (tq (kq (sq (sq ?_))))
 obtain ⟨a3,hj,h⟩:=bs h
 refine rgR (fun s=>s=⟨[(22,bv a3)],[],[]⟩) ?_ ?_
 ·clear h
  obtain ⟨r7,hr7,hj⟩:=bs hj
  refine (EP.v 2 (Zp (hc:=ZT N a0_.Proc 0 10000 r7 hr7)) ?_)
  rcases Zz hj with ⟨hc8,hj⟩|⟨hc9,hj⟩
  ·obtain rfl:=Zb hj
   exact (EP.u 0 (Zh (c:=(!r7)) (h:=hc8)) (EP.f kr))
  refine (EP.u 0 (Zh (c:=(!r7)) (h:=hc9)) ?_)
  obtain ⟨a2,a0,hj⟩:=bs hj
  obtain rfl:=Zb hj
  exact (EP.v 3 (Zp (hc:=ZT N a0_.Cap 1542 65536 a2 a0)) (EP.f kr))
 clear hj
 rintro s hR
 obtain rfl:=hR
 refine tq (it h (fun a1 h=>?_) (fun a1 h=>?_))
 ·refine sq (rg Za.f (tq (rt (tr ?_))))
  obtain rfl:=Zb h
  exact Zu kr
 refine sk (tq (kq (sq (rg Za.f (tq (rt ?_))))))
 obtain rfl:=Zb h
 exact Zu kr
theorem ZgR (N:Nat)(a0_:Int)(a1_:(List Int))(r:Int)(h:Zeg N a0_ a1_=some r):PCall Try.prog 61 [iv a0_,Zi false a1_] (iv r):=by
 unfold Zeg at h
 have hH:HP ([]:List HO) []:=trivial
 refine ZE ZwR rfl rfl (Zq _ _ _ ?_) rfl
 refine sq (rg Za.f (tq (sq (rg Za.f (tq (sq (sq (rg (Za.u 1 (Zo (ys:=[Zi false a1_]) (h:=Zv eI64)) Za.f) (tq (bk ?_))))))))))
 obtain ⟨a8,a0,h⟩:=bs h
 refine Z9 ((ZV (fun (x:Int×Int) s=>s=⟨[(0,iv a0_),(5,iv x.1),(8,Zi false a1_),(9,iv ((List.length a1_:Nat):Int)),(10,iv x.2)],[],[]⟩) (fun x:Int×Int=>ZbO N a0_ a1_ x.1 x.2) (fun (p:Int) e s=>e=.exit 0∧(s=⟨[(5,iv p)],[],[]⟩)) ?_ N _ a8 _ a0 kr).mono ?_)
 ·clear h a0
  rintro ⟨i1,i2⟩ o s h hR
  obtain rfl:=hR
  replace h:ZbO N a0_ a1_ i1 i2=some o:=h
  unfold ZbO at h
  refine sq (rg Za.f (tq (sq (it h (fun a7 h=>?_) (fun a7 h=>?_)))))
  ·refine sk (tq (kq (sq (bk (sq ?_)))))
   obtain ⟨a2,a1,h⟩:=bs h
   refine rg (Za.u 0 (Zo (ys:=[Zi false a1_,iv i2]) (h:=Zn eI64 a1)) (Za.u 0 (ZD (sz:=1) (off:=0) (cs:=[.int .i64 a2]) (r:=iv a2) eI64 a1) Za.f)) (tq (sq ?_))
   obtain ⟨a3,a4,h⟩:=bs h
   obtain ⟨a9,a5,h⟩:=bs h
   refine rg (Za.v 3 (Zp (hc:=ZeU N i1 a2 a3 a4)) (Za.u 0 (Zo (ys:=[iv i1,iv a3]) (h:=Zfe a5)) Za.f)) (tq (sq (rg Za.f (tq (it h (fun a6 h=>?_) (fun a6 h=>?_))))))
   ·refine kq (xq (bo (tx ?_)))
    obtain rfl:=Zb h
    exact ⟨_,rfl,rfl,kr⟩
   refine sk (bn (tq (kq (rg Za.f ?_))))
   obtain rfl:=Zb h
   exact ⟨_,rfl,kr⟩
  refine kq (xq (tx ?_))
  obtain rfl:=Zb h
  exact ⟨_,rfl,rfl,kr⟩
 rintro e s hq
 obtain ⟨rfl,hR⟩:=hq
 obtain rfl:=hR
 refine bx (tq (sq (rg Za.f (tq (rt ?_)))))
 obtain rfl:=Zb h
 exact Zu kr
theorem Zcl (N:Nat)(a0_:(List Bool))(a1_:Bool)(r:Bool)(h:ZaJ N a0_ a1_=some r):PCall Try.prog 63 [s_eB false a0_,bv a1_] (bv r):=by
 unfold ZaJ at h
 have hH:HP ([]:List HO) []:=trivial
 refine ZE ZwP rfl rfl (Zq _ _ _ ?_) rfl
 refine sq (rg Za.f (tq (sq ?_)))
 obtain ⟨r1,hr1,h⟩:=bs h
 refine rg (Za.v 2 (Zp (hc:=ZcT N a0_ a1_ r1 hr1)) Za.f) (tq (rt ?_))
 obtain rfl:=Zb h
 exact Zu kr
theorem ZfE (N:Nat)(c0_:Zs)(c1_:Zt)(k0_:Nat)(k1_:Nat)(H:List HO)(hH:HP H [.cel k0_ (Zc c0_),.cel k1_ (Zf c1_)])(r:Bool)(h:Zdi N c0_ c1_=some r):Zao Try.prog 66 [.ptr k0_ 0,.ptr k1_ 0] H (bv r) H:=by
 unfold Zdi at h
 refine Zaz ZwM rfl rfl rfl (Zq _ _ _ (sq (rg Za.f (tq (sq ?_)))))
 obtain ⟨a3,hj,h⟩:=bs h
 refine rgR (fun s=>s=⟨[(2,bv a3)],[],H⟩) ?_ ?_
 ·clear h
  have hlc1:=HP.get hH 0 rfl
  refine (EP.u 0 (Zm (H:=H) (id:=k0_) (off:=0) (cs:=(Zc c0_)) (c:=(Zc c0_)) (r:=.agg (Zc c0_)) (hl:=hlc1)) ?_)
  have hlc2:=HP.get hH 1 rfl
  refine (EP.u 1 (Zm (H:=H) (id:=k1_) (off:=1) (cs:=(Zf c1_)) (c:=[iv c1_.Talker]) (r:=iv c1_.Talker) (hl:=hlc2)) ?_)
  obtain ⟨r3,hr3,hj⟩:=bs hj
  rcases Zz hj with ⟨hc4,hj⟩|⟨a1,hj⟩
  ·refine (EP.h 0 (Zac kr (Zbk N c0_ c1_.Talker r3 hr3) hc4) ?_)
   have hlc5:=HP.get hH 0 rfl
   refine (EP.u 1 (Zm (H:=H) (id:=k0_) (off:=0) (cs:=(Zc c0_)) (c:=(Zc c0_)) (r:=.agg (Zc c0_)) (hl:=hlc5)) ?_)
   have hlc6:=HP.get hH 1 rfl
   refine (EP.u 1 (Zm (H:=H) (id:=k1_) (off:=2) (cs:=(Zf c1_)) (c:=[iv c1_.Listener]) (r:=iv c1_.Listener) (hl:=hlc6)) ?_)
   obtain ⟨r7,hr7,hj⟩:=bs hj
   rcases Zz hj with ⟨hc8,hj⟩|⟨a2,hj⟩
   ·refine (EP.h 0 (Zac kr (Zbk N c0_ c1_.Listener r7 hr7) hc8) ?_)
    have hlc9:=HP.get hH 1 rfl
    refine (EP.u 3 (Zm (H:=H) (id:=k1_) (off:=1) (cs:=(Zf c1_)) (c:=[iv c1_.Talker]) (r:=iv c1_.Talker) (hl:=hlc9)) ?_)
    have a0:=HP.get hH 1 rfl
    obtain rfl:=Zb hj
    exact (EP.u 1 (Zm (H:=H) (id:=k1_) (off:=2) (cs:=(Zf c1_)) (c:=[iv c1_.Listener]) (r:=iv c1_.Listener) (hl:=a0)) (EP.f kr))
   obtain rfl:=Zb hj
   exact (EP.h 0 (Zac kr (Zbk N c0_ c1_.Listener r7 hr7) a2) (EP.f kr))
  obtain rfl:=Zb hj
  exact (EP.h 0 (Zac kr (Zbk N c0_ c1_.Talker r3 hr3) a1) (EP.f kr))
 clear hj
 rintro s hR
 obtain rfl:=hR
 refine tq (rt ?_)
 obtain rfl:=Zb h
 exact Zai kr kr
theorem Zhi (N:Nat)(a0_:ZbH)(r:Int)(h:Zes N a0_=some r):PCall Try.prog 71 [.agg (Zcg a0_)] (iv r):=by
 unfold Zes at h
 have hH:HP ([]:List HO) []:=trivial
 refine ZE ZwH rfl rfl (Zq _ _ _ ?_) rfl
 refine sq (rg Za.f (tq (sq (sq ?_))))
 obtain ⟨j5,hj,h⟩:=bs h
 refine rgR (fun s=>s=⟨[(12,bv j5)],[],[]⟩) ?_ ?_
 ·clear h
  obtain ⟨r1,hr1,hj⟩:=bs hj
  refine (EP.v 2 (Zp (hc:=Zct N a0_.Burst 1 1048576 r1 hr1)) ?_)
  rcases Zz hj with ⟨hc2,hj⟩|⟨hc3,hj⟩
  ·obtain rfl:=Zb hj
   exact (EP.u 0 (Zh (c:=(!r1)) (h:=hc2)) (EP.f kr))
  refine (EP.u 0 (Zh (c:=(!r1)) (h:=hc3)) ?_)
  obtain ⟨r4,hr4,hj⟩:=bs hj
  obtain rfl:=Zb hj
  exact (EP.v 3 (Zp (hc:=Zct N a0_.Rate 1 2097152 r4 hr4)) (EP.f kr))
 clear hj
 rintro s hR
 obtain rfl:=hR
 refine tq (it h (fun hc6 h=>?_) (fun hc6 h=>?_))
 ·refine sq (rg Za.f (tq (rt (tr ?_))))
  obtain rfl:=Zb h
  exact Zu kr
 refine sk (tq (kq (sq (rg Za.f (tq (rt ?_))))))
 obtain rfl:=Zb h
 exact Zu kr
theorem ZgQ (N:Nat)(a0_:ZP)(a1_:ZP)(r:Int×Int×Int)(h:Zef N a0_ a1_=some r):PCall Try.prog 79 [.agg (ZaE a0_),.agg (ZaE a1_)] (.tup [iv r.1,iv r.2.1,iv r.2.2]):=by
 unfold Zef at h
 have hH:HP ([]:List HO) []:=trivial
 refine ZE Zwz rfl rfl (Zq _ _ _ ?_) rfl
 refine sq (rg Za.f (tq (sq ?_)))
 obtain ⟨r1,hr1,h⟩:=bs h
 refine rg (Za.v 4 (Zp (hc:=ZeU N a0_.Period a1_.Period r1 hr1)) Za.f) (tq (sq (rq Za.f (tq (rt ?_)))))
 obtain rfl:=Zb h
 exact Zu kr
theorem ZgH (N:Nat)(a0_:Int)(c0_:Zs)(k0_:Nat)(H:List HO)(hH:HP H [.cel k0_ (Zc c0_)])(r:Bool)(h:Zd6 N a0_ c0_=some r):Zao Try.prog 82 [iv a0_,.ptr k0_ 0] H (bv r) H:=by
 unfold Zd6 at h
 refine Zaz Zww rfl rfl rfl (Zq _ _ _ (sq (rg Za.f (tq (sq ?_)))))
 have hlc1:=HP.get hH 0 rfl
 obtain ⟨e2,he2,h⟩:=bs h
 refine rg (Za.u 1 (Zm (H:=H) (id:=k0_) (off:=2) (cs:=(Zc c0_)) (c:=[Zk false c0_.Links]) (r:=Zk false c0_.Links) (hl:=hlc1)) (Za.u 1 (Zo (ys:=[Zk false c0_.Links,iv a0_]) (h:=Zn ZL he2)) (Za.u 0 (ZD (sz:=4) (off:=0) (cs:=[.int .i64 e2.A,.int .i64 e2.B,.int .i64 e2.Per,.int .i64 e2.Delay]) (r:=.agg (Zav e2)) ZL he2) Za.f))) (tq (sq ?_))
 obtain ⟨a1,hj,h⟩:=bs h
 refine rgR (fun s=>s=⟨[(3,bv a1)],[],H⟩) ?_ ?_
 ·clear h
  have hlc3:=HP.get hH 0 rfl
  refine (EP.u 0 (Zm (H:=H) (id:=k0_) (off:=0) (cs:=(Zc c0_)) (c:=(Zc c0_)) (r:=.agg (Zc c0_)) (hl:=hlc3)) ?_)
  obtain ⟨r4,hr4,hj⟩:=bs hj
  rcases Zz hj with ⟨hc5,hj⟩|⟨a0,hj⟩
  ·refine (EP.h 2 (Zac kr (ZcU N c0_ e2.A r4 hr4) hc5) ?_)
   have hlc6:=HP.get hH 0 rfl
   refine (EP.u 1 (Zm (H:=H) (id:=k0_) (off:=0) (cs:=(Zc c0_)) (c:=(Zc c0_)) (r:=.agg (Zc c0_)) (hl:=hlc6)) ?_)
   obtain ⟨r7,hr7,hj⟩:=bs hj
   rcases Zz hj with ⟨hc8,hj⟩|⟨hc9,hj⟩
   ·obtain rfl:=Zb hj
    exact (EP.h 2 (Zac kr (ZcU N c0_ e2.B r7 hr7) hc8) (EP.f kr))
   obtain rfl:=Zb hj
   exact (EP.h 2 (Zac kr (ZcU N c0_ e2.B r7 hr7) hc9) (EP.f kr))
  obtain rfl:=Zb hj
  exact (EP.h 2 (Zac kr (ZcU N c0_ e2.A r4 hr4) a0) (EP.f kr))
 clear hj
 rintro s hR
 obtain rfl:=hR
 refine tq (rt ?_)
 obtain rfl:=Zb h
 exact Zai kr kr
theorem ZcP (N:Nat)(a0_:ZK)(a1_:(List Int))(r:Bool)(h:Zby N a0_ a1_=some r):PCall Try.prog 92 [.agg (Zc a0_.Topo),Zi false a1_] (bv r):=by
 unfold Zby at h
 have hH:HP ([]:List HO) []:=trivial
 refine ZE Zwm rfl rfl (Zq _ _ _ ?_) rfl
 refine sq ?_
 obtain ⟨id1,H2,hid1,hH2,hH⟩:=HP.newCell hH (Zc a0_.Topo)
 replace hH:HP _ [.cel id1 (Zc a0_.Topo)]:=hH
 refine rgS ⟨[(1,Zi false a1_),(2,.ptr id1 0)],[],H2⟩ (Za.h 0 (ZaL (H:=[]) (v:=.agg (Zc a0_.Topo)) (hid:=hid1) (hH:=hH2)) Za.f) kr (tq (sq (sq (rgX ⟨[(1,Zi false a1_),(2,.ptr id1 0),(17,bv ((decide (((List.length a1_:Nat):Int)<1))||(decide (((List.length a1_:Nat):Int)>8))))],[],H2⟩ ?_ ?_))))
 ·refine (EP.u 1 (Zo (ys:=[Zi false a1_]) (h:=Zv eI64)) ?_)
  rcases Bool.eq_false_or_eq_true (decide (((List.length a1_:Nat):Int)<1)) with hc3|hc4
  ·exact (EP.u 0 (Zh (c:=(decide (((List.length a1_:Nat):Int)<1))) (h:=hc3)) (EP.f (by simp only [hc3];kernel_rfl)))
  exact (EP.u 0 (Zh (c:=(decide (((List.length a1_:Nat):Int)<1))) (h:=hc4)) (EP.u 2 (Zo (ys:=[Zi false a1_]) (h:=Zv eI64)) (EP.f (by simp only [hc4];kernel_rfl))))
 refine tq (it h (fun hc5 h=>?_) (fun hc5 h=>?_))
 ·refine sq (rgS ⟨[(4,bv false)],[],H2⟩ Za.f kr ?_)
  replace hH:HP _ []:=HP.pick hH [] rfl
  refine tq (rt (tr ?_))
  obtain rfl:=Zb h
  exact Zu kr
 refine sk (tq (kq (sq ?_)))
 obtain ⟨id6,H7,hid6,hH7,hH⟩:=HP.newCell hH (Zr (Zl.mk false false false false false false false false false false false false))
 replace hH:HP _ [.cel id6 (Zr (Zl.mk false false false false false false false false false false false false)),.cel id1 (Zc a0_.Topo)]:=hH
 refine rgS ⟨[(1,Zi false a1_),(2,.ptr id1 0),(5,.ptr id6 0)],[],H7⟩ (Za.h 0 (Zd9 (H:=H2) kr hid6 hH7) Za.f) kr (tq (sq ?_))
 obtain ⟨id8,H9,hid8,hH9,hH⟩:=HP.newCell hH [iv 0]
 replace hH:HP _ [.cel id8 [iv 0],.cel id6 (Zr (Zl.mk false false false false false false false false false false false false)),.cel id1 (Zc a0_.Topo)]:=hH
 obtain ⟨a1,bz,bc,bp,hH⟩:=HP.newCell hH [iv 0]
 replace hH:HP _ [.cel a1 [iv 0],.cel id8 [iv 0],.cel id6 (Zr (Zl.mk false false false false false false false false false false false false)),.cel id1 (Zc a0_.Topo)]:=hH
 obtain ⟨bw,bm,hH⟩:=HP.setCell (k:=1) (off:=0) (cs:=[iv 0]) (vs:=[iv 0]) (cs':=[iv 0]) hH rfl kr
 replace hH:HP _ [.cel a1 [iv 0],.cel id8 [iv 0],.cel id6 (Zr (Zl.mk false false false false false false false false false false false false)),.cel id1 (Zc a0_.Topo)]:=hH
 obtain ⟨bj,bl,hH⟩:=HP.setCell (k:=0) (off:=0) (cs:=[iv 0]) (vs:=[iv 0]) (cs':=[iv 0]) hH rfl kr
 replace hH:HP _ [.cel a1 [iv 0],.cel id8 [iv 0],.cel id6 (Zr (Zl.mk false false false false false false false false false false false false)),.cel id1 (Zc a0_.Topo)]:=hH
 refine rgS ⟨[(1,Zi false a1_),(2,.ptr id1 0),(5,.ptr id6 0),(6,.ptr id8 0),(7,.ptr a1 0)],[],bj⟩ (Za.h 0 (Zd9 (H:=H7) kr hid8 hH9) (Za.h 0 (Zd9 (H:=H9) kr bc bp) (Za.o 0 (Zaa (H:=bz) (v:=iv 0) (hw:=bm)) (Za.o 0 (Zaa (H:=bw) (v:=iv 0) (hw:=bl)) Za.f)))) kr (tq ?_)
 obtain ⟨af,aB,h⟩:=bs h
 refine Zev [1,7] (fun s=>∃ (an:List HO),s=⟨[(1,Zi false a1_),(7,.ptr a1 0)],[],an⟩∧HP an [.cel a1 [iv af]]) ?_ ?_
 ·clear h
  have h:=aB
  refine sq ?_
  have aK:=HP.get hH 3 rfl
  obtain ⟨aa,bb,h⟩:=bs h
  obtain ⟨a9,a8,a4,aG,aI⟩:=ZcX N a0_ a1_ bj aa bb
  replace hH:HP _ [.cel a9 [Zi false aa.1],.cel a8 (Zc aa.2.Topo),.cel a1 [iv 0],.cel id8 [iv 0],.cel id6 (Zr (Zl.mk false false false false false false false false false false false false)),.cel id1 (Zc a0_.Topo)]:=HP.callee (fp:=[]) (rest:=[.cel a1 [iv 0],.cel id8 [iv 0],.cel id6 (Zr (Zl.mk false false false false false false false false false false false false)),.cel id1 (Zc a0_.Topo)]) hH aI
  refine rgS ⟨[(1,Zi false a1_),(2,.ptr id1 0),(5,.ptr id6 0),(6,.ptr id8 0),(7,.ptr a1 0),(20,.fn 103 [] [.ptr a9 0,.ptr a8 0])],[],a4⟩ (Za.u 0 (Zm (H:=bj) (id:=id1) (off:=0) (cs:=(Zc a0_.Topo)) (c:=(Zc a0_.Topo)) (r:=.agg (Zc a0_.Topo)) (hl:=aK)) (Za.v 1 (ZdG (H:=bj) (ys:=[.agg (Zc a0_.Topo),Zi false a1_]) kr kr kr aG) Za.f)) kr (tq (bk ?_))
  obtain ⟨ab,aJ,h⟩:=bs h
  have aq:∀ (a7:Int) (a0:Zas) (s:(Int×Int×Zl)×Nat) (r:((Int×Int×Zl)×Nat)×Bool) (H:List HO) (its:List ZR),(fun (s:(Int×Int×Zl)×Nat) (its:List ZR)=>its=[.cel a1 [iv s.1.1],.cel id8 [iv s.1.2.1],.cel id6 (Zr s.1.2.2),.cel id1 (Zc a0_.Topo)]++[.lp (List.length a4) (lcOf Try.prog i92.nt [21,22] ZbT ZbR) [(2,.ptr id1 0),(5,.ptr id6 0),(6,.ptr id8 0),(7,.ptr a1 0)] (stAt [.ready,.done (.exit 0)] s.2)]) s its→HP H its→(fun (s:(Int×Int×Zl)×Nat) (a7:Int) (a0:Zas)=>Zf6 (fun v:Int×Int×Zl=>ZaG N a0_ v.1 v.2.1 v.2.2 a7 a0) s) s a7 a0=some r→∃ H' its',Zeu Try.prog (List.length a4) [iv a7,.agg (ZS a0)] H r.2 H'∧(fun (s:(Int×Int×Zl)×Nat) (its:List ZR)=>its=[.cel a1 [iv s.1.1],.cel id8 [iv s.1.2.1],.cel id6 (Zr s.1.2.2),.cel id1 (Zc a0_.Topo)]++[.lp (List.length a4) (lcOf Try.prog i92.nt [21,22] ZbT ZbR) [(2,.ptr id1 0),(5,.ptr id6 0),(6,.ptr id8 0),(7,.ptr a1 0)] (stAt [.ready,.done (.exit 0)] s.2)]) r.1 its'∧Fp H H' its its':=by
   clear h
   intro a7 a0 s r ac its hT hH h
   obtain ⟨h0,q,hb,rfl⟩:=ZgD h
   clear h
   obtain ⟨vs,e⟩:=s
   obtain rfl:e=0:=h0
   obtain ⟨a3,a5,a2⟩:=vs
   obtain rfl:=hT
   replace h:ZaG N a0_ a3 a5 a2 a7 a0=some q:=hb
   clear hb
   unfold ZaG at h
   replace hH:Fp _ _ _ [.cel a1 [iv a3],.cel id8 [iv a5],.cel id6 (Zr a2),.cel id1 (Zc a0_.Topo),.lp (List.length a4) (lcOf Try.prog i92.nt [21,22] ZbT ZbR) [(2,.ptr id1 0),(5,.ptr id6 0),(6,.ptr id8 0),(7,.ptr a1 0)] .ready]:=Fp.refl hH
   suffices hs:∃ H',Zeu Try.prog (List.length a4) [iv a7,.agg (ZS a0)] ac (q.2==0) H'∧∃ its',(fun (s:(Int×Int×Zl)×Nat) (its:List ZR)=>its=[.cel a1 [iv s.1.1],.cel id8 [iv s.1.2.1],.cel id6 (Zr s.1.2.2),.cel id1 (Zc a0_.Topo)]++[.lp (List.length a4) (lcOf Try.prog i92.nt [21,22] ZbT ZbR) [(2,.ptr id1 0),(5,.ptr id6 0),(6,.ptr id8 0),(7,.ptr a1 0)] (stAt [.ready,.done (.exit 0)] s.2)]) q its'∧Fp ac H' [.cel a1 [iv a3],.cel id8 [iv a5],.cel id6 (Zr a2),.cel id1 (Zc a0_.Topo),.lp (List.length a4) (lcOf Try.prog i92.nt [21,22] ZbT ZbR) [(2,.ptr id1 0),(5,.ptr id6 0),(6,.ptr id8 0),(7,.ptr a1 0)] .ready] its' by
    obtain ⟨H',h1,its',h2,h3⟩:=hs
    exact ⟨H',its',h1,h2,h3⟩
   refine Zd1 (id:=(List.length a4)) (args:=[iv a7,.agg (ZS a0)]) (H:=ac) (n:=i92.nt) (ps:=[21,22]) (fr0:=[(2,.ptr id1 0),(5,.ptr id6 0),(6,.ptr id8 0),(7,.ptr a1 0)]) (ia:=ZbT) (ib:=ZbR) (q.2==0) (fun H'=>∃ its',(fun (s:(Int×Int×Zl)×Nat) (its:List ZR)=>its=[.cel a1 [iv s.1.1],.cel id8 [iv s.1.2.1],.cel id6 (Zr s.1.2.2),.cel id1 (Zc a0_.Topo)]++[.lp (List.length a4) (lcOf Try.prog i92.nt [21,22] ZbT ZbR) [(2,.ptr id1 0),(5,.ptr id6 0),(6,.ptr id8 0),(7,.ptr a1 0)] (stAt [.ready,.done (.exit 0)] s.2)]) q its'∧Fp ac H' [.cel a1 [iv a3],.cel id8 [iv a5],.cel id6 (Zr a2),.cel id1 (Zc a0_.Topo),.lp (List.length a4) (lcOf Try.prog i92.nt [21,22] ZbT ZbR) [(2,.ptr id1 0),(5,.ptr id6 0),(6,.ptr id8 0),(7,.ptr a1 0)] .ready] its') (Fp.get hH 4 rfl) rfl (by decide +kernel) rfl ?_
   show vc _ _ _ _ ⟨[(2,.ptr id1 0),(5,.ptr id6 0),(6,.ptr id8 0),(7,.ptr a1 0),(21,iv a7),(22,.agg (ZS a0))],[],ac⟩
   refine sq (rgS ⟨[(2,.ptr id1 0),(5,.ptr id6 0),(6,.ptr id8 0),(7,.ptr a1 0),(8,iv a7),(22,.agg (ZS a0))],[],ac⟩ Za.f kr (tq (rgS ⟨[(2,.ptr id1 0),(5,.ptr id6 0),(6,.ptr id8 0),(7,.ptr a1 0),(8,iv a7),(9,.loc 9 0)],[(9,(ZS a0))],ac⟩ Za.f kr (Zg9 (k:=4) hH rfl ?_))))
   intro a6 hH
   replace hH:Fp _ _ _ [.cel a1 [iv a3],.cel id8 [iv a5],.cel id6 (Zr a2),.cel id1 (Zc a0_.Topo),.lp (List.length a4) (lcOf Try.prog i92.nt [21,22] ZbT ZbR) [(2,.ptr id1 0),(5,.ptr id6 0),(6,.ptr id8 0),(7,.ptr a1 0)] .busy]:=hH
   show vc _ _ _ _ ⟨[(2,.ptr id1 0),(5,.ptr id6 0),(6,.ptr id8 0),(7,.ptr a1 0),(8,iv a7),(9,.loc 9 0)],[(9,(ZS a0))],a6⟩
   refine bk (sq (sq (rgS ⟨[(2,.ptr id1 0),(5,.ptr id6 0),(6,.ptr id8 0),(7,.ptr a1 0),(9,.loc 9 0),(24,bv (a7==0))],[(9,(ZS a0))],a6⟩ Za.f kr (tq (it h (fun aV h=>?_) (fun aV h=>?_))))))
   ·obtain ⟨bu,am,h⟩:=bs h
    obtain ⟨ae,b2,hH⟩:=Fp.setCell (k:=2) (off:=0+Int.toNat a0.from_*1) (cs:=(Zr a2)) (vs:=[bv true]) (cs':=(Zr (Zl.set a2 a0.from_ true))) hH rfl (ZfH (fun x=>bv x) [] [] (l:=a2.l) am rfl rfl rfl (Zjo (Zl.c_set a2 a0.from_ true) (by show (Zr (Zl.set a2 a0.from_ true))=[]++(Zr (Zl.set a2 a0.from_ true)++[]);rfl)))
    replace hH:Fp _ _ _ [.cel a1 [iv a3],.cel id8 [iv a5],.cel id6 (Zr (Zl.set a2 a0.from_ true)),.cel id1 (Zc a0_.Topo),.lp (List.length a4) (lcOf Try.prog i92.nt [21,22] ZbT ZbR) [(2,.ptr id1 0),(5,.ptr id6 0),(6,.ptr id8 0),(7,.ptr a1 0)] .busy]:=hH
    refine rgS ⟨[(5,.ptr id6 0),(6,.ptr id8 0),(7,.ptr a1 0),(9,.loc 9 0)],[(9,(ZS a0))],ae⟩ (Za.u 2 (Zo (ys:=[.ptr id6 0,iv a0.from_]) (h:=Zcd (l:=a2.l) am rfl)) (Za.o 0 (Zaa (H:=a6) (v:=bv true) (hw:=b2)) Za.f)) kr (tq (kq (sq (sq ?_))))
    obtain ⟨be,al,h⟩:=bs h
    have aA:=Fp.get hH 2 rfl
    refine rgS ⟨[(5,.ptr id6 0),(6,.ptr id8 0),(7,.ptr a1 0),(9,.loc 9 0),(43,bv be)],[(9,(ZS a0))],ae⟩ (Za.u 2 (Zo (ys:=[.ptr id6 0,iv a0.to_]) (h:=Zcd (l:=(Zl.set a2 a0.from_ true).l) al rfl)) (Za.u 0 (Ziv (H:=ae) (id:=id6) (off:=0) (cs:=(Zr (Zl.set a2 a0.from_ true))) (l:=(Zl.set a2 a0.from_ true).l) (fun x=>bv x) [] [] al kr kr aA rfl rfl) Za.f)) kr (tq (it h (fun aU h=>?_) (fun aU h=>?_)))
    ·refine kq (xq (tx (bo ?_)))
     obtain rfl:=Zb h
     exact rbd (k:=4) (.done (.exit 0)) hH rfl rfl (fun H6 hH=>⟨_,(Eq.refl _),(Fp.pick hH [0,1,2,3,4] rfl)⟩)
    refine sk (tq (kq (sq ?_)))
    obtain ⟨bt,ak,h⟩:=bs h
    obtain ⟨aE,b1,hH⟩:=Fp.setCell (k:=2) (off:=0+Int.toNat a0.to_*1) (cs:=(Zr (Zl.set a2 a0.from_ true))) (vs:=[bv true]) (cs':=(Zr (Zl.set (Zl.set a2 a0.from_ true) a0.to_ true))) hH rfl (ZfH (fun x=>bv x) [] [] (l:=(Zl.set a2 a0.from_ true).l) ak rfl rfl rfl (Zjo (Zl.c_set (Zl.set a2 a0.from_ true) a0.to_ true) (by show (Zr (Zl.set (Zl.set a2 a0.from_ true) a0.to_ true))=[]++(Zr (Zl.set (Zl.set a2 a0.from_ true) a0.to_ true)++[]);rfl)))
    replace hH:Fp _ _ _ [.cel a1 [iv a3],.cel id8 [iv a5],.cel id6 (Zr (Zl.set (Zl.set a2 a0.from_ true) a0.to_ true)),.cel id1 (Zc a0_.Topo),.lp (List.length a4) (lcOf Try.prog i92.nt [21,22] ZbT ZbR) [(2,.ptr id1 0),(5,.ptr id6 0),(6,.ptr id8 0),(7,.ptr a1 0)] .busy]:=hH
    refine rgS ⟨[(6,.ptr id8 0),(7,.ptr a1 0),(9,.loc 9 0)],[(9,(ZS a0))],aE⟩ (Za.u 2 (Zo (ys:=[.ptr id6 0,iv a0.to_]) (h:=Zcd (l:=(Zl.set a2 a0.from_ true).l) ak rfl)) (Za.o 0 (Zaa (H:=ae) (v:=bv true) (hw:=b1)) Za.f)) kr (tq (sq ?_))
    obtain ⟨ap,b0,hH⟩:=Fp.setCell (k:=1) (off:=0) (cs:=[iv a5]) (vs:=[iv a0.to_]) (cs':=[iv a0.to_]) hH rfl kr
    replace hH:Fp _ _ _ [.cel a1 [iv a3],.cel id8 [iv a0.to_],.cel id6 (Zr (Zl.set (Zl.set a2 a0.from_ true) a0.to_ true)),.cel id1 (Zc a0_.Topo),.lp (List.length a4) (lcOf Try.prog i92.nt [21,22] ZbT ZbR) [(2,.ptr id1 0),(5,.ptr id6 0),(6,.ptr id8 0),(7,.ptr a1 0)] .busy]:=hH
    refine rgS ⟨[(7,.ptr a1 0)],[],ap⟩ (Za.o 2 (Zaa (H:=aE) (v:=iv a0.to_) (hw:=b0)) Za.f) kr (tq ?_)
    have az:=Fp.get hH 0 rfl
    obtain ⟨bi,aZ,hH⟩:=Fp.setCell (k:=0) (off:=0) (cs:=[iv a3]) (vs:=[iv (w64 (a3+1))]) (cs':=[iv (w64 (a3+1))]) hH rfl kr
    replace hH:Fp _ _ _ [.cel a1 [iv (w64 (a3+1))],.cel id8 [iv a0.to_],.cel id6 (Zr (Zl.set (Zl.set a2 a0.from_ true) a0.to_ true)),.cel id1 (Zc a0_.Topo),.lp (List.length a4) (lcOf Try.prog i92.nt [21,22] ZbT ZbR) [(2,.ptr id1 0),(5,.ptr id6 0),(6,.ptr id8 0),(7,.ptr a1 0)] .busy]:=hH
    refine rgS ⟨[],[],bi⟩ (Za.u 0 (Zm (H:=ap) (id:=a1) (off:=0) (cs:=[iv a3]) (c:=[iv a3]) (r:=iv a3) (hl:=az)) (Za.o 1 (Zaa (H:=ap) (v:=iv (w64 (a3+1))) (hw:=aZ)) Za.f)) kr (bn ?_)
    obtain rfl:=Zb h
    exact rbd (k:=4) (.ready) hH rfl rfl (fun H6 hH=>⟨_,(Eq.refl _),(Fp.pick hH [0,1,2,3,4] rfl)⟩)
   refine sq ?_
   obtain ⟨ba,hj,h⟩:=bs h
   refine rgR (fun s=>s=⟨[(5,.ptr id6 0),(6,.ptr id8 0),(7,.ptr a1 0),(9,.loc 9 0),(39,bv ba)],[(9,(ZS a0))],a6⟩) ?_ ?_
   ·clear h
    have ay:=Fp.get hH 1 rfl
    refine (EP.u 2 (Zm (H:=a6) (id:=id8) (off:=0) (cs:=[iv a5]) (c:=[iv a5]) (r:=iv a5) (hl:=ay)) ?_)
    rcases Zz hj with ⟨aT,hj⟩|⟨aS,hj⟩
    ·obtain rfl:=Zb hj
     exact (EP.u 0 (Zh (c:=(a0.from_ != a5)) (h:=aT)) (EP.f kr))
    refine (EP.u 0 (Zh (c:=(a0.from_ != a5)) (h:=aS)) ?_)
    have ax:=Fp.get hH 3 rfl
    refine (EP.u 3 (Zm (H:=a6) (id:=id1) (off:=1) (cs:=(Zc a0_.Topo)) (c:=[s_eB false a0_.Topo.Station]) (r:=s_eB false a0_.Topo.Station) (hl:=ax)) ?_)
    have aw:=Fp.get hH 1 rfl
    refine (EP.u 0 (Zm (H:=a6) (id:=id8) (off:=0) (cs:=[iv a5]) (c:=[iv a5]) (r:=iv a5) (hl:=aw)) ?_)
    obtain ⟨aC,aj,hj⟩:=bs hj
    obtain rfl:=Zb hj
    exact (EP.u 0 (Zo (ys:=[s_eB false a0_.Topo.Station,iv a5]) (h:=Zn eB aj)) (EP.u 0 (ZD (sz:=1) (off:=0) (cs:=[.bool aC]) (r:=bv aC) eB aj) (EP.f kr)))
   clear hj
   rintro s hR
   obtain rfl:=hR
   refine tq (it h (fun aR h=>?_) (fun aR h=>?_))
   ·refine kq (xq (tx (bo ?_)))
    obtain rfl:=Zb h
    exact rbd (k:=4) (.done (.exit 0)) hH rfl rfl (fun H6 hH=>⟨_,(Eq.refl _),(Fp.pick hH [0,1,2,3,4] rfl)⟩)
   refine sk (tq (kq (sq (sq ?_))))
   obtain ⟨bd,ai,h⟩:=bs h
   have av:=Fp.get hH 2 rfl
   refine rgS ⟨[(5,.ptr id6 0),(6,.ptr id8 0),(7,.ptr a1 0),(9,.loc 9 0),(43,bv bd)],[(9,(ZS a0))],a6⟩ (Za.u 2 (Zo (ys:=[.ptr id6 0,iv a0.to_]) (h:=Zcd (l:=a2.l) ai rfl)) (Za.u 0 (Ziv (H:=a6) (id:=id6) (off:=0) (cs:=(Zr a2)) (l:=a2.l) (fun x=>bv x) [] [] ai kr kr av rfl rfl) Za.f)) kr (tq (it h (fun aQ h=>?_) (fun aQ h=>?_)))
   ·refine kq (xq (tx (bo ?_)))
    obtain rfl:=Zb h
    exact rbd (k:=4) (.done (.exit 0)) hH rfl rfl (fun H6 hH=>⟨_,(Eq.refl _),(Fp.pick hH [0,1,2,3,4] rfl)⟩)
   refine sk (tq (kq (sq ?_)))
   obtain ⟨bq,ag,h⟩:=bs h
   obtain ⟨aD,aY,hH⟩:=Fp.setCell (k:=2) (off:=0+Int.toNat a0.to_*1) (cs:=(Zr a2)) (vs:=[bv true]) (cs':=(Zr (Zl.set a2 a0.to_ true))) hH rfl (ZfH (fun x=>bv x) [] [] (l:=a2.l) ag rfl rfl rfl (Zjo (Zl.c_set a2 a0.to_ true) (by show (Zr (Zl.set a2 a0.to_ true))=[]++(Zr (Zl.set a2 a0.to_ true)++[]);rfl)))
   replace hH:Fp _ _ _ [.cel a1 [iv a3],.cel id8 [iv a5],.cel id6 (Zr (Zl.set a2 a0.to_ true)),.cel id1 (Zc a0_.Topo),.lp (List.length a4) (lcOf Try.prog i92.nt [21,22] ZbT ZbR) [(2,.ptr id1 0),(5,.ptr id6 0),(6,.ptr id8 0),(7,.ptr a1 0)] .busy]:=hH
   refine rgS ⟨[(6,.ptr id8 0),(7,.ptr a1 0),(9,.loc 9 0)],[(9,(ZS a0))],aD⟩ (Za.u 2 (Zo (ys:=[.ptr id6 0,iv a0.to_]) (h:=Zcd (l:=a2.l) ag rfl)) (Za.o 0 (Zaa (H:=a6) (v:=bv true) (hw:=aY)) Za.f)) kr (tq (sq ?_))
   obtain ⟨ao,aX,hH⟩:=Fp.setCell (k:=1) (off:=0) (cs:=[iv a5]) (vs:=[iv a0.to_]) (cs':=[iv a0.to_]) hH rfl kr
   replace hH:Fp _ _ _ [.cel a1 [iv a3],.cel id8 [iv a0.to_],.cel id6 (Zr (Zl.set a2 a0.to_ true)),.cel id1 (Zc a0_.Topo),.lp (List.length a4) (lcOf Try.prog i92.nt [21,22] ZbT ZbR) [(2,.ptr id1 0),(5,.ptr id6 0),(6,.ptr id8 0),(7,.ptr a1 0)] .busy]:=hH
   refine rgS ⟨[(7,.ptr a1 0)],[],ao⟩ (Za.o 2 (Zaa (H:=aD) (v:=iv a0.to_) (hw:=aX)) Za.f) kr (tq ?_)
   have au:=Fp.get hH 0 rfl
   obtain ⟨bf,aW,hH⟩:=Fp.setCell (k:=0) (off:=0) (cs:=[iv a3]) (vs:=[iv (w64 (a3+1))]) (cs':=[iv (w64 (a3+1))]) hH rfl kr
   replace hH:Fp _ _ _ [.cel a1 [iv (w64 (a3+1))],.cel id8 [iv a0.to_],.cel id6 (Zr (Zl.set a2 a0.to_ true)),.cel id1 (Zc a0_.Topo),.lp (List.length a4) (lcOf Try.prog i92.nt [21,22] ZbT ZbR) [(2,.ptr id1 0),(5,.ptr id6 0),(6,.ptr id8 0),(7,.ptr a1 0)] .busy]:=hH
   refine rgS ⟨[],[],bf⟩ (Za.u 0 (Zm (H:=ao) (id:=a1) (off:=0) (cs:=[iv a3]) (c:=[iv a3]) (r:=iv a3) (hl:=au)) (Za.o 1 (Zaa (H:=ao) (v:=iv (w64 (a3+1))) (hw:=aW)) Za.f)) kr (bn ?_)
   obtain rfl:=Zb h
   exact rbd (k:=4) (.ready) hH rfl rfl (fun H6 hH=>⟨_,(Eq.refl _),(Fp.pick hH [0,1,2,3,4] rfl)⟩)
  refine Zff (s:=⟨[(1,Zi false a1_),(2,.ptr id1 0),(5,.ptr id6 0),(6,.ptr id8 0),(7,.ptr a1 0),(20,.fn 103 [] [.ptr a9 0,.ptr a8 0])],[],a4⟩) [(2,.ptr id1 0),(5,.ptr id6 0),(6,.ptr id8 0),(7,.ptr a1 0)] (FrOK.cons kr kr (FrOK.cons kr kr (FrOK.cons kr kr (FrOK.cons kr kr FrOK.nil)))) kr (fun H=>rfl) (capT:=[.cel a9 [Zi false aa.1],.cel a8 (Zc aa.2.Topo)]) (cells0:=[.cel a1 [iv 0],.cel id8 [iv 0],.cel id6 (Zr (Zl.mk false false false false false false false false false false false false)),.cel id1 (Zc a0_.Topo)]) (rest:=[]) (HP.now (HP.pick hH [0,1,2,3,4,5] rfl)) (fun (s:(Int×Int×Zl)×Nat) (its:List ZR)=>its=[.cel a1 [iv s.1.1],.cel id8 [iv s.1.2.1],.cel id6 (Zr s.1.2.2),.cel id1 (Zc a0_.Topo)]++[.lp (List.length a4) (lcOf Try.prog i92.nt [21,22] ZbT ZbR) [(2,.ptr id1 0),(5,.ptr id6 0),(6,.ptr id8 0),(7,.ptr a1 0)] (stAt [.ready,.done (.exit 0)] s.2)]) ((0,0,(Zl.mk false false false false false false false false false false false false)),0) ab (by exact (Eq.refl _)) (fun H its hT hH=>Zcs N (fun (s:(Int×Int×Zl)×Nat) (a7:Int) (a0:Zas)=>Zf6 (fun v:Int×Int×Zl=>ZaG N a0_ v.1 v.2.1 v.2.2 a7 a0) s) aa.1 aa.2 ((0,0,(Zl.mk false false false false false false false false false false false false)),0) a9 a8 (List.length a4) (fun (s:(Int×Int×Zl)×Nat) (its:List ZR)=>its=[.cel a1 [iv s.1.1],.cel id8 [iv s.1.2.1],.cel id6 (Zr s.1.2.2),.cel id1 (Zc a0_.Topo)]++[.lp (List.length a4) (lcOf Try.prog i92.nt [21,22] ZbT ZbR) [(2,.ptr id1 0),(5,.ptr id6 0),(6,.ptr id8 0),(7,.ptr a1 0)] (stAt [.ready,.done (.exit 0)] s.2)]) aq H its hT hH ab aJ) ?_
  rintro its hT
  obtain rfl:=hT
  refine ⟨_,_,rfl,?_⟩
  intro ad hF
  replace hH:HP _ [.cel a9 [Zi false aa.1],.cel a8 (Zc aa.2.Topo),.cel a1 [iv ab.1.1],.cel id8 [iv ab.1.2.1],.cel id6 (Zr ab.1.2.2),.cel id1 (Zc a0_.Topo)]:=HP.after (HP.pick hH [0,1,2,3,4,5] rfl) hF
  rcases Zz h with ⟨aM,h⟩|⟨_,h⟩
  ·refine Zh7 (S:=⟨[(1,Zi false a1_),(2,.ptr id1 0),(5,.ptr id6 0),(6,.ptr id8 0),(7,.ptr a1 0),(20,.fn 103 [] [.ptr a9 0,.ptr a8 0])],[],ad⟩) (e:=.normal) aM rfl (bn ?_)
   obtain rfl:=Zb h
   exact ⟨rfl,⟨ad,kr,(HP.pick hH [2] rfl)⟩⟩
  rcases Zz h with ⟨aL,h⟩|⟨_,h⟩
  ·refine Zh7 (S:=⟨[(1,Zi false a1_),(2,.ptr id1 0),(5,.ptr id6 0),(6,.ptr id8 0),(7,.ptr a1 0),(20,.fn 103 [] [.ptr a9 0,.ptr a8 0])],[],ad⟩) (e:=(.exit 0)) aL rfl (bx ?_)
   obtain rfl:=Zb h
   exact ⟨rfl,⟨ad,kr,(HP.pick hH [2] rfl)⟩⟩
  cases h
 clear aB
 rintro s hR
 obtain ⟨an,rfl,hH⟩:=hR
 replace hH:HP _ [.cel a1 [iv af]]:=hH
 refine sq ?_
 have ar:=HP.get hH 0 rfl
 refine rgS ⟨[(4,bv (af==((List.length a1_:Nat):Int)))],[],an⟩ (Za.u 0 (Zm (H:=an) (id:=a1) (off:=0) (cs:=[iv af]) (c:=[iv af]) (r:=iv af) (hl:=ar)) (Za.u 1 (Zo (ys:=[Zi false a1_]) (h:=Zv eI64)) Za.f)) kr ?_
 replace hH:HP _ []:=HP.pick hH [] rfl
 refine tq (rt ?_)
 obtain rfl:=Zb h
 exact Zu kr
theorem ZbE (N:Nat)(a0_:ZK)(a1_:(List Int))(r:(List Int))(h:Za2 N a0_ a1_=some r):PCall Try.prog 99 [.agg (Zc a0_.Topo),Zi false a1_] (Zi false r):=by
 unfold Za2 at h
 have hH:HP ([]:List HO) []:=trivial
 refine ZE Zwf rfl rfl (Zq _ _ _ ?_) rfl
 refine sq (rgS ⟨[(1,Zi false a1_),(2,.loc 2 0)],[(2,(Zc a0_.Topo))],[]⟩ Za.f kr (tq (sq ?_)))
 obtain ⟨l3,hl3,h⟩:=bs h
 obtain ⟨a1,H2,ha1,hH2,ha1b,hH⟩:=HP.make eI64 hH hl3
 replace hH:HP _ [.arr a1 1 false (List.map eI64 l3)]:=hH
 have hfa1:=ZaB (HP.get hH 0 rfl)
 obtain ⟨id4,H5,hid4,hH5,hH⟩:=HP.newCell hH [Zi true []]
 replace hH:HP _ [.cel id4 [Zi true []],.arr a1 1 false (List.map eI64 l3)]:=hH
 obtain ⟨H6,hH6,hH⟩:=HP.setCell (k:=0) (off:=0) (cs:=[Zi true []]) (vs:=[a1]) (cs':=[a1]) hH rfl kr
 replace hH:HP _ [.cel id4 [a1],.arr a1 1 false (List.map eI64 l3)]:=hH
 refine rgS ⟨[(1,Zi false a1_),(2,.loc 2 0),(5,.ptr id4 0)],[(2,(Zc a0_.Topo))],H6⟩ (Za.u 1 (Zo (ys:=[Zi false a1_]) (h:=Zv eI64)) (Za.h 1 (ZfG (H:=[]) (zero:=[.int .i64 0]) (bytes:=8) kr kr kr ha1 hH2 ha1b) (Za.h 0 (Zd9 (H:=H2) kr hid4 hH5) (Za.o 0 (Zdo (H:=H5) (v:=a1) (cs:=[a1]) (by cases hfa1<;>kernel_rfl) (by cases hfa1<;>kernel_rfl) (by cases hfa1<;>kernel_rfl) (by cases hfa1<;>kernel_rfl) (by cases hfa1<;>kernel_rfl) hH6) Za.f)))) kr (tq (sq (sq ?_)))
 obtain ⟨r7,hr7,h⟩:=bs h
 obtain ⟨id9,ab,H8,hvr7,hpr7⟩:=ZcX N a0_ a1_ H6 r7 hr7
 replace hH:HP _ [.cel id9 [Zi false r7.1],.cel ab (Zc r7.2.Topo),.cel id4 [a1],.arr a1 1 false (List.map eI64 l3)]:=HP.callee (fp:=[]) (rest:=[.cel id4 [a1],.arr a1 1 false (List.map eI64 l3)]) hH hpr7
 refine rgS ⟨[(5,.ptr id4 0),(14,.fn 103 [] [.ptr id9 0,.ptr ab 0])],[],H8⟩ (Za.v 2 (ZdG (H:=H6) (ys:=[.agg (Zc a0_.Topo),Zi false a1_]) kr kr kr hvr7) Za.f) kr (tq (bk ?_))
 obtain ⟨a9,ap,h⟩:=bs h
 have af:∀ (x13:Int) (x14:Zas) (s:(List Int)) (r:((List Int))×Bool) (H:List HO) (its:List ZR),(fun (s:(List Int)) (its:List ZR)=>∃ (a3:AV),its=[.arr a3 1 false (List.map eI64 s),.cel id4 [a3]]++[.lp (List.length H8) (lcOf Try.prog i99.nt [15,16] ZbS ZbQ) [(5,.ptr id4 0)] .ready]) s its→HP H its→(fun (s:(List Int)) (x13:Int) (x14:Zas)=>Zd0 (fun v:(List Int)=>ZaH N v x13 x14) s) s x13 x14=some r→∃ H' its',Zeu Try.prog (List.length H8) [iv x13,.agg (ZS x14)] H r.2 H'∧(fun (s:(List Int)) (its:List ZR)=>∃ (a3:AV),its=[.arr a3 1 false (List.map eI64 s),.cel id4 [a3]]++[.lp (List.length H8) (lcOf Try.prog i99.nt [15,16] ZbS ZbQ) [(5,.ptr id4 0)] .ready]) r.1 its'∧Fp H H' its its':=by
  clear h
  intro x13 x14 s r an its hT hH h
  obtain ⟨q,hb,rfl⟩:=ZeW h
  clear h
  obtain ⟨vs,rfl⟩:∃ v,v=s:=⟨s,rfl⟩
  obtain ⟨az,rfl⟩:∃ v,v=vs:=⟨vs,rfl⟩
  obtain ⟨a3,rfl⟩:=hT
  replace h:ZaH N az x13 x14=some q:=hb
  clear hb
  unfold ZaH at h
  replace hH:Fp _ _ _ [.arr a3 1 false (List.map eI64 az),.cel id4 [a3],.lp (List.length H8) (lcOf Try.prog i99.nt [15,16] ZbS ZbQ) [(5,.ptr id4 0)] .ready]:=Fp.refl hH
  have a0:=ZaB (Fp.get hH 0 rfl)
  suffices hs:∃ H',Zeu Try.prog (List.length H8) [iv x13,.agg (ZS x14)] an true H'∧∃ its',(fun (s:(List Int)) (its:List ZR)=>∃ (a3:AV),its=[.arr a3 1 false (List.map eI64 s),.cel id4 [a3]]++[.lp (List.length H8) (lcOf Try.prog i99.nt [15,16] ZbS ZbQ) [(5,.ptr id4 0)] .ready]) q its'∧Fp an H' [.arr a3 1 false (List.map eI64 az),.cel id4 [a3],.lp (List.length H8) (lcOf Try.prog i99.nt [15,16] ZbS ZbQ) [(5,.ptr id4 0)] .ready] its' by
   obtain ⟨H',h1,its',h2,h3⟩:=hs
   exact ⟨H',its',h1,h2,h3⟩
  refine Zd1 (id:=(List.length H8)) (args:=[iv x13,.agg (ZS x14)]) (H:=an) (n:=i99.nt) (ps:=[15,16]) (fr0:=[(5,.ptr id4 0)]) (ia:=ZbS) (ib:=ZbQ) true (fun H'=>∃ its',(fun (s:(List Int)) (its:List ZR)=>∃ (a3:AV),its=[.arr a3 1 false (List.map eI64 s),.cel id4 [a3]]++[.lp (List.length H8) (lcOf Try.prog i99.nt [15,16] ZbS ZbQ) [(5,.ptr id4 0)] .ready]) q its'∧Fp an H' [.arr a3 1 false (List.map eI64 az),.cel id4 [a3],.lp (List.length H8) (lcOf Try.prog i99.nt [15,16] ZbS ZbQ) [(5,.ptr id4 0)] .ready] its') (Fp.get hH 2 rfl) rfl (by decide +kernel) rfl ?_
  show vc _ _ _ _ ⟨[(5,.ptr id4 0),(15,iv x13),(16,.agg (ZS x14))],[],an⟩
  refine sq (rgS ⟨[(5,.ptr id4 0),(6,iv x13),(16,.agg (ZS x14))],[],an⟩ Za.f kr (tq (rgS ⟨[(5,.ptr id4 0),(6,iv x13),(7,.loc 7 0)],[(7,(ZS x14))],an⟩ Za.f kr (Zg9 (k:=2) hH rfl ?_))))
  intro ae hH
  replace hH:Fp _ _ _ [.arr a3 1 false (List.map eI64 az),.cel id4 [a3],.lp (List.length H8) (lcOf Try.prog i99.nt [15,16] ZbS ZbQ) [(5,.ptr id4 0)] .busy]:=hH
  show vc _ _ _ _ ⟨[(5,.ptr id4 0),(6,iv x13),(7,.loc 7 0)],[(7,(ZS x14))],ae⟩
  refine bk ?_
  obtain ⟨am,ad,h⟩:=bs h
  refine Zev [5,7] (fun s=>∃ (a4:AV) (aa:List HO),s=⟨[(5,.ptr id4 0),(7,.loc 7 0)],[(7,(ZS x14))],aa⟩∧Fp an aa [.arr a3 1 false (List.map eI64 az),.cel id4 [a3],.lp (List.length H8) (lcOf Try.prog i99.nt [15,16] ZbS ZbQ) [(5,.ptr id4 0)] .ready] [.arr a4 1 false (List.map eI64 am),.cel id4 [a4],.lp (List.length H8) (lcOf Try.prog i99.nt [15,16] ZbS ZbQ) [(5,.ptr id4 0)] .busy]) ?_ ?_
  ·clear h
   have h:=ad
   refine sq (rgS ⟨[(5,.ptr id4 0),(7,.loc 7 0),(18,bv (x13==0))],[(7,(ZS x14))],ae⟩ Za.f kr (tq (it h (fun au h=>?_) (fun au h=>?_))))
   ·have aj:=Fp.get hH 1 rfl
    obtain ⟨al,ar,h⟩:=bs h
    obtain ⟨a8,aC,aw,hH⟩:=Fp.app (k:=0) (a:=a3) (sz:=1) (frz:=false) eI64 hH rfl ar
    replace hH:Fp _ _ _ [.arr a8 1 false (List.map eI64 al),.cel id4 [a3],.lp (List.length H8) (lcOf Try.prog i99.nt [15,16] ZbS ZbQ) [(5,.ptr id4 0)] .busy]:=hH
    have a6:=ZaB (Fp.get hH 0 rfl)
    obtain ⟨ao,ay,hH⟩:=Fp.setCell (k:=1) (off:=0) (cs:=[a3]) (vs:=[a8]) (cs':=[a8]) hH rfl kr
    replace hH:Fp _ _ _ [.arr a8 1 false (List.map eI64 al),.cel id4 [a8],.lp (List.length H8) (lcOf Try.prog i99.nt [15,16] ZbS ZbQ) [(5,.ptr id4 0)] .busy]:=hH
    refine rgS ⟨[(5,.ptr id4 0),(7,.loc 7 0)],[(7,(ZS x14))],ao⟩ (Za.u 0 (Zm (H:=ae) (id:=id4) (off:=0) (cs:=[a3]) (c:=[a3]) (r:=a3) (by cases a0<;>kernel_rfl) (by cases a0<;>kernel_rfl) aj (by cases a0<;>kernel_rfl) (by cases a0<;>kernel_rfl) (by cases a0<;>kernel_rfl)) (Za.h 3 (Zhz (H:=ae) (a:=a3) (b:=Zi true [x14.from_]) (by cases a0<;>kernel_rfl) (by cases a0<;>kernel_rfl) (by cases a0<;>kernel_rfl) (by cases a0<;>kernel_rfl) aw) (Za.o 0 (Zdo (H:=aC) (v:=a8) (cs:=[a8]) (by cases a6<;>kernel_rfl) (by cases a6<;>kernel_rfl) (by cases a6<;>kernel_rfl) (by cases a6<;>kernel_rfl) (by cases a6<;>kernel_rfl) ay) Za.f))) kr ?_
    obtain rfl:=Zb h
    exact ⟨rfl,⟨a8,ao,kr,(Fp.pick hH [0,1,2] rfl)⟩⟩
   refine sk ?_
   obtain rfl:=Zb h
   exact ⟨rfl,⟨a3,ae,kr,(Fp.pick hH [0,1,2] rfl)⟩⟩
  clear ad
  rintro s hR
  obtain ⟨a4,aa,rfl,hH⟩:=hR
  replace hH:Fp _ _ _ [.arr a4 1 false (List.map eI64 am),.cel id4 [a4],.lp (List.length H8) (lcOf Try.prog i99.nt [15,16] ZbS ZbQ) [(5,.ptr id4 0)] .busy]:=hH
  have a2:=ZaB (Fp.get hH 0 rfl)
  have ai:=Fp.get hH 1 rfl
  obtain ⟨ak,aq,h⟩:=bs h
  obtain ⟨a7,aB,av,hH⟩:=Fp.app (k:=0) (a:=a4) (sz:=1) (frz:=false) eI64 hH rfl aq
  replace hH:Fp _ _ _ [.arr a7 1 false (List.map eI64 ak),.cel id4 [a4],.lp (List.length H8) (lcOf Try.prog i99.nt [15,16] ZbS ZbQ) [(5,.ptr id4 0)] .busy]:=hH
  have a5:=ZaB (Fp.get hH 0 rfl)
  obtain ⟨aA,ax,hH⟩:=Fp.setCell (k:=1) (off:=0) (cs:=[a4]) (vs:=[a7]) (cs':=[a7]) hH rfl kr
  replace hH:Fp _ _ _ [.arr a7 1 false (List.map eI64 ak),.cel id4 [a7],.lp (List.length H8) (lcOf Try.prog i99.nt [15,16] ZbS ZbQ) [(5,.ptr id4 0)] .busy]:=hH
  refine rgS ⟨[],[],aA⟩ (Za.u 0 (Zm (H:=aa) (id:=id4) (off:=0) (cs:=[a4]) (c:=[a4]) (r:=a4) (by cases a2<;>kernel_rfl) (by cases a2<;>kernel_rfl) ai (by cases a2<;>kernel_rfl) (by cases a2<;>kernel_rfl) (by cases a2<;>kernel_rfl)) (Za.h 3 (Zhz (H:=aa) (a:=a4) (b:=Zi true [x14.to_]) (by cases a2<;>kernel_rfl) (by cases a2<;>kernel_rfl) (by cases a2<;>kernel_rfl) (by cases a2<;>kernel_rfl) av) (Za.o 0 (Zdo (H:=aB) (v:=a7) (cs:=[a7]) (by cases a5<;>kernel_rfl) (by cases a5<;>kernel_rfl) (by cases a5<;>kernel_rfl) (by cases a5<;>kernel_rfl) (by cases a5<;>kernel_rfl) ax) Za.f))) kr (bn ?_)
  obtain rfl:=Zb h
  exact rbd (k:=2) (.ready) hH rfl rfl (fun H6 hH=>⟨_,⟨a7,Eq.refl _⟩,(Fp.pick hH [0,1,2] rfl)⟩)
 refine Zff (s:=⟨[(5,.ptr id4 0),(14,.fn 103 [] [.ptr id9 0,.ptr ab 0])],[],H8⟩) [(5,.ptr id4 0)] (FrOK.cons kr kr FrOK.nil) kr (fun H=>rfl) (capT:=[.cel id9 [Zi false r7.1],.cel ab (Zc r7.2.Topo)]) (cells0:=[.arr a1 1 false (List.map eI64 l3),.cel id4 [a1]]) (rest:=[]) (HP.now (HP.pick hH [0,1,3,2] rfl)) (fun (s:(List Int)) (its:List ZR)=>∃ (a3:AV),its=[.arr a3 1 false (List.map eI64 s),.cel id4 [a3]]++[.lp (List.length H8) (lcOf Try.prog i99.nt [15,16] ZbS ZbQ) [(5,.ptr id4 0)] .ready]) l3 a9 (by exact ⟨a1,Eq.refl _⟩) (fun H its hT hH=>Zcs N (fun (s:(List Int)) (x13:Int) (x14:Zas)=>Zd0 (fun v:(List Int)=>ZaH N v x13 x14) s) r7.1 r7.2 l3 id9 ab (List.length H8) (fun (s:(List Int)) (its:List ZR)=>∃ (a3:AV),its=[.arr a3 1 false (List.map eI64 s),.cel id4 [a3]]++[.lp (List.length H8) (lcOf Try.prog i99.nt [15,16] ZbS ZbQ) [(5,.ptr id4 0)] .ready]) af H its hT hH a9 ap) ?_
 rintro its hT
 obtain ⟨a3,rfl⟩:=hT
 refine ⟨_,_,rfl,?_⟩
 intro ac hF
 replace hH:HP _ [.cel id9 [Zi false r7.1],.cel ab (Zc r7.2.Topo),.arr a3 1 false (List.map eI64 a9),.cel id4 [a3]]:=HP.after (HP.pick hH [0,1,3,2] rfl) hF
 have a0:=ZaB (HP.get hH 2 rfl)
 refine ZfT (S:=⟨[(5,.ptr id4 0),(14,.fn 103 [] [.ptr id9 0,.ptr ab 0])],[],ac⟩) (bn (tq (kq ?_)))
 replace hH:HP _ [.arr a3 1 false (List.map eI64 a9),.cel id4 [a3]]:=HP.pick hH [2,3] rfl
 refine sq ?_
 have ag:=HP.get hH 1 rfl
 refine rgS ⟨[(4,a3)],[],ac⟩ (Za.u 0 (Zm (H:=ac) (id:=id4) (off:=0) (cs:=[a3]) (c:=[a3]) (r:=a3) (by cases a0<;>kernel_rfl) (by cases a0<;>kernel_rfl) ag (by cases a0<;>kernel_rfl) (by cases a0<;>kernel_rfl) (by cases a0<;>kernel_rfl)) Za.f) (by cases a0<;>kernel_rfl) ?_
 replace hH:HP _ [.arr a3 1 false (List.map eI64 a9)]:=HP.pick hH [0] rfl
 refine tq (rt ?_)
 obtain rfl:=Zb h
 exact ZfL (H:=ac) (ys:=[a3]) (xs:=[.p (.sl 1 false (List.map eI64 a9))]) (by cases a0<;>kernel_rfl) (by cases a0<;>kernel_rfl) (Zbf (HP.pure (k:=0) (frz:=false) eI64 hH rfl).2 ZcL) kr
theorem ZcO (N:Nat)(a0_:(List Int))(a1_:Int)(r:Bool)(h:ZaQ N a0_ a1_=some r):PCall Try.prog 100 [Zi false a0_,iv a1_] (bv r):=by
 unfold ZaQ at h
 have hH:HP ([]:List HO) []:=trivial
 refine ZE Zof rfl rfl (Zq _ _ _ ?_) rfl
 refine sq (rg Za.f (tq (sq ?_)))
 obtain ⟨r1,hr1,h⟩:=bs h
 refine rg (Za.v 2 (Zp (hc:=Zdq N a0_ a1_ r1 hr1)) Za.f) (tq (rt ?_))
 obtain rfl:=Zb h
 exact Zu kr
theorem Zgl (N:Nat)(a0_:ZK)(c0_:(List Int))(k0_:Nat)(H:List HO)(hH:HP H [.cel k0_ [Zi false c0_]])(r:(List Int)×Int)(h:ZcB N a0_ c0_=some r):Zao Try.prog 102 [.agg (Zc a0_.Topo),.ptr k0_ 0] H (.tup [Zi false r.1,iv r.2]) H:=by
 unfold ZcB at h
 refine Zaz Zod rfl rfl rfl (Zq _ _ _ (sq (rg Za.f (tq (sq ?_)))))
 have hlc1:=HP.get hH 0 rfl
 obtain ⟨r2,hr2,h⟩:=bs h
 refine rg (Za.u 1 (Zm (H:=H) (id:=k0_) (off:=0) (cs:=[Zi false c0_]) (c:=[Zi false c0_]) (r:=Zi false c0_) (hl:=hlc1)) (Za.v 0 (Zp (hc:=ZbE N a0_ c0_ r2 hr2)) Za.f)) ?_
 replace hH:HP _ []:=HP.pick hH [] rfl
 refine tq (rt ?_)
 obtain rfl:=Zb h
 exact Zai kr kr
end Go.Sh

