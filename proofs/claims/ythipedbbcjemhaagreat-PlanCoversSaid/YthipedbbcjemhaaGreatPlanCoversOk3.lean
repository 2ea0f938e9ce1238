/- Part of the proof; written by a program out of the texts in wip/. -/
import Derived.Test.YthipedbbcjemhaaGreatPlanCoversOk2
namespace Go.Sh
open Go Go.Eng Go.Proofs
set_option linter.unusedVariables false
set_option linter.unusedSimpArgs false
set_option maxRecDepth 100000
set_option maxHeartbeats 4000000
attribute [local irreducible] vc ev Zeu opsD opsF Zhf upd updH updO
theorem ZeU (N:Nat) (a0_:Zs) (r:Int) (h:ZdH N a0_=some r):Zac Tryz.prog 12 [.agg (Zd a0_)] (iv r):=by
 unfold ZdH at h
 have hH:HP ([]:List HO) []:=trivial
 refine ZD chk12 rfl rfl (Zt _ _ _ ?_) rfl
 refine sq (rg Za.f ?_)
 refine tq (sq ?_)
 refine sq (rgX ⟨[(1,.loc 1 0),(19,bv ((decide (((List.length a0_.Periods:Nat):Int) > 12))||(decide (((List.length a0_.Uses:Nat):Int) > 192))))],[(1,(Zd a0_))],[]⟩ ?_ ?_)
 ·refine (EP.u 2 (Zm (ys:=[Zg false a0_.Periods]) (h:=Zr eI64)) ?_)
  rcases Bool.eq_false_or_eq_true (decide (((List.length a0_.Periods:Nat):Int) > 12)) with hc1 | hc2
  ·exact (EP.u 0 (Zi (c:=(decide (((List.length a0_.Periods:Nat):Int) > 12))) (h:=hc1)) (EP.f (by simp only [hc1];kernel_rfl)))
  exact (EP.u 0 (Zi (c:=(decide (((List.length a0_.Periods:Nat):Int) > 12))) (h:=hc2)) (EP.u 3 (Zm (ys:=[ZK false a0_.Uses]) (h:=Zr Zq)) (EP.f (by simp only [hc2];kernel_rfl))))
 refine tq (it h (fun hc3 h => ?_) (fun hc3 h => ?_))
 ·refine sq (rg Za.f ?_)
  refine tq (rt ?_)
  refine tr ?_
  obtain rfl:=Zb h
  exact Zx kr
 refine sk (tq ?_)
 refine kq (sq ?_)
 refine sq (rg (Za.u 2 (Zm (ys:=[Zg false a0_.Periods]) (h:=Zr eI64)) Za.f) ?_)
 refine tq (bk ?_)
 obtain ⟨au,al,h⟩:=bs h
 refine ZS ((ZL (fun (x:Int) s=>s=⟨[(1,.loc 1 0),(21,Zg false a0_.Periods),(22,iv ((List.length a0_.Periods:Nat):Int)),(23,iv x)],[(1,(Zd a0_))],[]⟩) (fun x:Int=>Zdh N a0_ x) (fun (p:(Unit) ⊕ (Int)) e s=>match p with | (.inl p)=>e = .exit 0∧(s=⟨[(1,.loc 1 0)],[(1,(Zd a0_))],[]⟩) | (.inr p)=>e = .ret∧∃ xs,resL s i12.res=some xs∧ZaW xs=iv p) ?_ N _ au _ al (by show _=_;kernel_rfl)).mono ?_)
 ·clear h al
  rintro i4 o s h hR
  obtain rfl:=hR
  replace h:Zdh N a0_ i4=some o:=h
  unfold Zdh at h
  refine sq (rg Za.f ?_)
  refine tq (sq ?_)
  refine it h (fun ay h => ?_) (fun ay h => ?_)
  ·refine sk (tq ?_)
   refine kq (sq ?_)
   refine bk (sq ?_)
   obtain ⟨a6,am,h⟩:=bs h
   refine rg (Za.u 0 (Zm (ys:=[Zg false a0_.Periods,iv i4]) (h:=Zk eI64 am)) (Za.u 0 (Zu (sz:=1) (off:=0) (cs:=[.int .i64 a6]) (r:=iv a6) eI64 am) Za.f)) (tq ?_)
   refine sq (rgX ⟨[(1,.loc 1 0),(21,Zg false a0_.Periods),(22,iv ((List.length a0_.Periods:Nat):Int)),(23,iv i4),(32,bv ((decide (a6<1))||(decide (a6 > 240))))],[(1,(Zd a0_))],[]⟩ ?_ ?_)
   ·rcases Bool.eq_false_or_eq_true (decide (a6<1)) with ao | an
    ·exact (EP.u 1 (Zi (c:=(decide (a6<1))) (h:=ao)) (EP.f (by simp only [ao];kernel_rfl)))
    exact (EP.u 1 (Zi (c:=(decide (a6<1))) (h:=an)) (EP.f (by simp only [an];kernel_rfl)))
   refine tq (it h (fun ax h => ?_) (fun ax h => ?_))
   ·refine sq (rg Za.f ?_)
    refine tq (rt ?_)
    refine br (tr ?_)
    obtain rfl:=Zb h
    exact ⟨_,rfl,rfl,Zx kr⟩
   refine sk (bn ?_)
   refine tq (kq ?_)
   refine rg Za.f ?_
   obtain rfl:=Zb h
   exact ⟨_,rfl,(by show _=_;kernel_rfl)⟩
  refine kq (xq ?_)
  refine tx ?_
  obtain rfl:=Zb h
  exact ⟨_,rfl,rfl,(by show _=_;kernel_rfl)⟩
 rintro e s hq
 rcases au with aD | aA
 ·dsimp only at h hq
  obtain ⟨rfl,hR⟩:=hq
  obtain rfl:=hR
  refine bx (tq ?_)
  refine sq (sq ?_)
  obtain ⟨az,av,h⟩:=bs h
  refine rg (Za.v 2 (Zw (hc:=Zgj N a0_.Periods az av)) Za.f) (tq ?_)
  refine sq (rg Za.f ?_)
  refine tq (it h (fun aw h => ?_) (fun aw h => ?_))
  ·refine sq (rg Za.f ?_)
   refine tq (rt ?_)
   refine tr ?_
   obtain rfl:=Zb h
   exact Zx kr
  refine sk (tq ?_)
  refine kq (sq ?_)
  refine sq (rg (Za.u 2 (Zm (ys:=[ZK false a0_.Uses]) (h:=Zr Zq)) Za.f) ?_)
  refine tq (bk ?_)
  obtain ⟨ak,a7,h⟩:=bs h
  refine ZS ((ZL (fun (x:Int) s=>s=⟨[(1,.loc 1 0),(43,ZK false a0_.Uses),(44,iv ((List.length a0_.Uses:Nat):Int)),(45,iv x)],[(1,(Zd a0_))],[]⟩) (fun x:Int=>Zdg N a0_ x) (fun (p:(Unit) ⊕ (Int)) e s=>match p with | (.inl p)=>e = .exit 2∧(s=⟨[],[],[]⟩) | (.inr p)=>e = .ret∧∃ xs,resL s i12.res=some xs∧ZaW xs=iv p) ?_ N _ ak _ a7 (by show _=_;kernel_rfl)).mono ?_)
  ·clear h a7
   rintro aj o s h hR
   obtain rfl:=hR
   replace h:Zdg N a0_ aj=some o:=h
   unfold Zdg at h
   refine sq (rg Za.f ?_)
   refine tq (sq ?_)
   refine it h (fun ar h => ?_) (fun ar h => ?_)
   ·refine sk (tq ?_)
    refine kq (sq ?_)
    refine bk (sq ?_)
    obtain ⟨a0,a9,h⟩:=bs h
    refine rg (Za.u 0 (Zm (ys:=[ZK false a0_.Uses,iv aj]) (h:=Zk Zq a9)) (Za.u 0 (Zu (sz:=4) (off:=0) (cs:=[.int .i64 a0.Stream,.int .i64 a0.Port,.int .i64 a0.From,.int .i64 a0.Long]) (r:=.agg (ZZ a0)) Zq a9) Za.f)) (tq ?_)
    refine sq (sq ?_)
    refine rgX ⟨[(1,.loc 1 0),(8,.loc 8 0),(43,ZK false a0_.Uses),(44,iv ((List.length a0_.Uses:Nat):Int)),(45,iv aj),(69,bv ((decide (a0.Stream<0))||((decide (a0.Stream ≥ ((List.length a0_.Periods:Nat):Int)))||((decide (a0.Port<0))||(decide (a0.Port ≥ 48))))))],[(1,(Zd a0_)),(8,(ZZ a0))],[]⟩ ?_ ?_
    ·rcases Bool.eq_false_or_eq_true (decide (a0.Stream<0)) with ai | a3
     ·exact (EP.u 2 (Zi (c:=(decide (a0.Stream<0))) (h:=ai)) (EP.f (by simp only [ai];kernel_rfl)))
     refine (EP.u 2 (Zi (c:=(decide (a0.Stream<0))) (h:=a3)) (EP.u 5 (Zm (ys:=[Zg false a0_.Periods]) (h:=Zr eI64)) ?_))
     rcases Bool.eq_false_or_eq_true (decide (a0.Stream ≥ ((List.length a0_.Periods:Nat):Int))) with ag | a5
     ·exact (EP.u 0 (Zi (c:=(decide (a0.Stream ≥ ((List.length a0_.Periods:Nat):Int)))) (h:=ag)) (EP.f (by simp only [a3,ag];kernel_rfl)))
     refine (EP.u 0 (Zi (c:=(decide (a0.Stream ≥ ((List.length a0_.Periods:Nat):Int)))) (h:=a5)) ?_)
     rcases Bool.eq_false_or_eq_true (decide (a0.Port<0)) with af | ae
     ·exact (EP.u 4 (Zi (c:=(decide (a0.Port<0))) (h:=af)) (EP.f (by simp only [a3,a5,af];kernel_rfl)))
     exact (EP.u 4 (Zi (c:=(decide (a0.Port<0))) (h:=ae)) (EP.f (by simp only [a3,a5,ae];kernel_rfl)))
    refine tq (it h (fun aq h => ?_) (fun aq h => ?_))
    ·refine sq (rg Za.f ?_)
     refine tq (rt ?_)
     refine tr (br ?_)
     refine tr ?_
     obtain rfl:=Zb h
     exact ⟨_,rfl,rfl,Zx kr⟩
    refine sk (tq ?_)
    refine kq (sq ?_)
    obtain ⟨a1,a8,h⟩:=bs h
    refine rg (Za.u 4 (Zm (ys:=[Zg false a0_.Periods,iv a0.Stream]) (h:=Zk eI64 a8)) (Za.u 0 (Zu (sz:=1) (off:=0) (cs:=[.int .i64 a1]) (r:=iv a1) eI64 a8) Za.f)) (tq ?_)
    refine sq (rgX ⟨[(1,.loc 1 0),(43,ZK false a0_.Uses),(44,iv ((List.length a0_.Uses:Nat):Int)),(45,iv aj),(95,bv ((decide (a0.From<0))||((decide (a0.From ≥ a1))||((decide (a0.Long<1))||(decide (a0.Long > a1))))))],[(1,(Zd a0_))],[]⟩ ?_ ?_)
    ·rcases Bool.eq_false_or_eq_true (decide (a0.From<0)) with ad | a2
     ·exact (EP.u 2 (Zi (c:=(decide (a0.From<0))) (h:=ad)) (EP.f (by simp only [ad];kernel_rfl)))
     refine (EP.u 2 (Zi (c:=(decide (a0.From<0))) (h:=a2)) ?_)
     rcases Bool.eq_false_or_eq_true (decide (a0.From ≥ a1)) with ac | a4
     ·exact (EP.u 4 (Zi (c:=(decide (a0.From ≥ a1))) (h:=ac)) (EP.f (by simp only [a2,ac];kernel_rfl)))
     refine (EP.u 4 (Zi (c:=(decide (a0.From ≥ a1))) (h:=a4)) ?_)
     rcases Bool.eq_false_or_eq_true (decide (a0.Long<1)) with ab | aa
     ·exact (EP.u 4 (Zi (c:=(decide (a0.Long<1))) (h:=ab)) (EP.f (by simp only [a2,a4,ab];kernel_rfl)))
     exact (EP.u 4 (Zi (c:=(decide (a0.Long<1))) (h:=aa)) (EP.f (by simp only [a2,a4,aa];kernel_rfl)))
    refine tq (it h (fun ap h => ?_) (fun ap h => ?_))
    ·refine sq (rg Za.f ?_)
     refine tq (rt ?_)
     refine br (tr ?_)
     obtain rfl:=Zb h
     exact ⟨_,rfl,rfl,Zx kr⟩
    refine sk (bn ?_)
    refine tq (kq ?_)
    refine rg Za.f ?_
    obtain rfl:=Zb h
    exact ⟨_,rfl,(by show _=_;kernel_rfl)⟩
   refine kq (xq ?_)
   refine tx ?_
   obtain rfl:=Zb h
   exact ⟨_,rfl,rfl,(by show _=_;kernel_rfl)⟩
  rintro e s hq
  rcases ak with aC | aB
  ·dsimp only at h hq
   obtain ⟨rfl,hR⟩:=hq
   obtain rfl:=hR
   refine bx (tq ?_)
   refine sq (rg Za.f ?_)
   refine tq (rt ?_)
   obtain rfl:=Zb h
   exact Zx kr
  dsimp only at h hq
  obtain ⟨rfl,hq⟩:=hq
  refine br (tr ?_)
  obtain rfl:=Zb h
  exact hq
 dsimp only at h hq
 obtain ⟨rfl,hq⟩:=hq
 refine br (tr ?_)
 obtain rfl:=Zb h
 exact hq
theorem ZhZ (N:Nat) (a0_:Zas) (p0_:Nat) (bc0_0_:AV) (bc0_1_:AV) (H:List HO) (hH:HP H [.cel p0_ [bc0_0_,bc0_1_,bv a0_.late],.arr bc0_0_ 1 true (List.map eI64 a0_.Problem.Periods),.arr bc0_1_ 4 true (List.map Zq a0_.Problem.Uses)]) (r:Int) (h:ZcE N a0_=some r):∃ (H':List HO),Zbe Tryz.prog 21 [.ptr p0_ 0] H (iv r) H'∧Fp H H' [.cel p0_ [bc0_0_,bc0_1_,bv a0_.late],.arr bc0_0_ 1 true (List.map eI64 a0_.Problem.Periods),.arr bc0_1_ 4 true (List.map Zq a0_.Problem.Uses)] [.cel p0_ [bc0_0_,bc0_1_,bv a0_.late],.arr bc0_0_ 1 true (List.map eI64 a0_.Problem.Periods),.arr bc0_1_ 4 true (List.map Zq a0_.Problem.Uses)]:=by
 suffices hs:∃ r' H',Zbe Tryz.prog 21 [.ptr p0_ 0] H r' H'∧r'=iv r∧Fp H H' [.cel p0_ [bc0_0_,bc0_1_,bv a0_.late],.arr bc0_0_ 1 true (List.map eI64 a0_.Problem.Periods),.arr bc0_1_ 4 true (List.map Zq a0_.Problem.Uses)] [.cel p0_ [bc0_0_,bc0_1_,bv a0_.late],.arr bc0_0_ 1 true (List.map eI64 a0_.Problem.Periods),.arr bc0_1_ 4 true (List.map Zq a0_.Problem.Uses)] by
  obtain ⟨_,H',h1,he,h2⟩:=hs
  exact ⟨H',he ▸ h1,h2⟩
 unfold ZcE at h
 replace hH:=Fp.refl hH
 have hfbc0_0_:=ZW (Fp.get hH 1 rfl)
 have hfbc0_1_:=ZW (Fp.get hH 2 rfl)
 refine Zh4 chk21 [] (fun r' H'=>r'=iv r∧Fp H H' [.cel p0_ [bc0_0_,bc0_1_,bv a0_.late],.arr bc0_0_ 1 true (List.map eI64 a0_.Problem.Periods),.arr bc0_1_ 4 true (List.map Zq a0_.Problem.Uses)] [.cel p0_ [bc0_0_,bc0_1_,bv a0_.late],.arr bc0_0_ 1 true (List.map eI64 a0_.Problem.Periods),.arr bc0_1_ 4 true (List.map Zq a0_.Problem.Uses)]) (fun r' H' q=>by obtain ⟨e,hp⟩:=q;subst e;rfl) rfl rfl ?_
 refine sq (rg Za.f ?_)
 refine tq (sq ?_)
 have hlc1:=Fp.get hH 0 rfl
 obtain ⟨r2,hr2,h⟩:=bs h
 obtain ⟨H3,hzH3,hzH3v,hH⟩:=Fp.frz (k:=1) (a:=bc0_0_) (sz:=1) (frz:=true) eI64 hH rfl
 replace hH:Fp _ _ _ [.cel p0_ [bc0_0_,bc0_1_,bv a0_.late],.arr bc0_0_ 1 true (List.map eI64 a0_.Problem.Periods),.arr bc0_1_ 4 true (List.map Zq a0_.Problem.Uses)]:=hH
 refine rg (Za.u 4 (Zv (H:=H) (id:=p0_) (off:=0) (cs:=[bc0_0_,bc0_1_,bv a0_.late]) (c:=[bc0_0_]) (r:=bc0_0_) (by cases hfbc0_0_<;>kernel_rfl) (by cases hfbc0_0_<;>kernel_rfl) hlc1 (by cases hfbc0_0_<;>kernel_rfl) (by cases hfbc0_0_<;>kernel_rfl) (by cases hfbc0_0_<;>kernel_rfl)) (Za.v 0 (Zic (H:=H) (ys:=[bc0_0_]) (by cases hfbc0_0_<;>kernel_rfl) (by cases hfbc0_0_<;>kernel_rfl) (Zew hzH3v Zis) (Zgj N a0_.Problem.Periods r2 hr2)) Za.f)) (tq ?_)
 refine sq (sq ?_)
 refine rg Za.f (tq ?_)
 refine it h (fun hc3 h => ?_) (fun hc3 h => ?_)
 ·refine sq (rg Za.f ?_)
  refine tq (rt ?_)
  refine tr ?_
  obtain rfl:=Zb h
  exact ⟨[iv r2.2],kr,kr,Fp.pk hH [0,1,2] rfl⟩
 refine sk (tq ?_)
 refine kq (sq ?_)
 obtain ⟨idm,H2,hidm,hH2,hH⟩:=Fp.mapNew (sz:=4) Zq hH
 replace hH:Fp H H2 [.cel p0_ [bc0_0_,bc0_1_,bv a0_.late],.arr bc0_0_ 1 true (List.map eI64 a0_.Problem.Periods),.arr bc0_1_ 4 true (List.map Zq a0_.Problem.Uses)] ([.cel p0_ [bc0_0_,bc0_1_,bv a0_.late],.arr bc0_0_ 1 true (List.map eI64 a0_.Problem.Periods),.arr bc0_1_ 4 true (List.map Zq a0_.Problem.Uses)]++mapT idm 4 Zq ([]:List (Int × List ZB)) []):=Fp.pick hH [1,2,3,0] rfl
 refine rg (Za.h 0 (st_mkMap' (H:=H3) 0 kr hidm hH2) Za.f) (tq ?_)
 refine sq ?_
 refine sq ?_
 have hlc4:=Fp.get hH 0 rfl
 have hln6:=Fp.len (k:=2) (a:=bc0_1_) (sz:=4) (frz:=true) (l:=a0_.Problem.Uses) Zq hH rfl
 refine rgS ⟨[(0,.ptr p0_ 0),(3,iv r2.1),(5,.map idm),(32,bc0_1_),(33,iv ((List.length a0_.Problem.Uses:Nat):Int)),(34,iv 0)],[],H2⟩ (Za.u 4 (Zv (H:=H2) (id:=p0_) (off:=1) (cs:=[bc0_0_,bc0_1_,bv a0_.late]) (c:=[bc0_1_]) (r:=bc0_1_) (by cases hfbc0_1_<;>kernel_rfl) (by cases hfbc0_1_<;>kernel_rfl) hlc4 (by cases hfbc0_1_<;>kernel_rfl) (by cases hfbc0_1_<;>kernel_rfl) (by cases hfbc0_1_<;>kernel_rfl)) (Za.u 0 (Zm (ys:=[bc0_1_]) (by cases hfbc0_1_<;>kernel_rfl) hln6) Za.f)) (by cases hfbc0_1_<;>kernel_rfl) ?_
 refine tq (bk ?_)
 obtain ⟨a0,aA,h⟩:=bs h
 refine ZS ((ZL (fun (x:Int × (List (Int × (List ZB)))) s=>∃ (as_:List AV) (H5:List HO),s=⟨[(0,.ptr p0_ 0),(3,iv r2.1),(5,.map idm),(32,bc0_1_),(33,iv ((List.length a0_.Problem.Uses:Nat):Int)),(34,iv x.1)],[],H5⟩∧as_.length=x.2.length∧Fp H H5 [.cel p0_ [bc0_0_,bc0_1_,bv a0_.late],.arr bc0_0_ 1 true (List.map eI64 a0_.Problem.Periods),.arr bc0_1_ 4 true (List.map Zq a0_.Problem.Uses)] ([.cel p0_ [bc0_0_,bc0_1_,bv a0_.late],.arr bc0_0_ 1 true (List.map eI64 a0_.Problem.Periods),.arr bc0_1_ 4 true (List.map Zq a0_.Problem.Uses)]++mapT idm 4 Zq x.2 as_)) (fun x:Int × (List (Int × (List ZB)))=>Zbi N a0_ x.1 x.2) (fun (p:(List (Int × (List ZB)))) e s=>e = .exit 0∧∃ (as_:List AV) (H5:List HO),s=⟨[(0,.ptr p0_ 0),(3,iv r2.1),(5,.map idm)],[],H5⟩∧as_.length=p.length∧Fp H H5 [.cel p0_ [bc0_0_,bc0_1_,bv a0_.late],.arr bc0_0_ 1 true (List.map eI64 a0_.Problem.Periods),.arr bc0_1_ 4 true (List.map Zq a0_.Problem.Uses)] ([.cel p0_ [bc0_0_,bc0_1_,bv a0_.late],.arr bc0_0_ 1 true (List.map eI64 a0_.Problem.Periods),.arr bc0_1_ 4 true (List.map Zq a0_.Problem.Uses)]++mapT idm 4 Zq p as_)) ?_ N _ a0 _ aA ⟨[],H2,(by show _=_;cases hfbc0_1_<;>kernel_rfl),rfl,hH⟩).mono ?_)
 ·clear h aA hln6 hH hlc4 hlc1
  rintro ⟨i5,m5⟩ o s h ⟨as_,H5,rfl,hl5,hH⟩
  replace h:Zbi N a0_ i5 m5=some o:=h
  unfold Zbi at h
  refine sq (rgS ⟨[(0,.ptr p0_ 0),(3,iv r2.1),(5,.map idm),(32,bc0_1_),(33,iv ((List.length a0_.Problem.Uses:Nat):Int)),(34,iv i5),(35,bv (decide (i5<((List.length a0_.Problem.Uses:Nat):Int))))],[],H5⟩ Za.f (by cases hfbc0_1_<;>kernel_rfl) ?_)
  refine tq (sq ?_)
  refine it h (fun aZ h => ?_) (fun aZ h => ?_)
  ·refine sk (tq ?_)
   refine kq (sq ?_)
   refine bk (sq ?_)
   obtain ⟨a3,aB,h⟩:=bs h
   obtain ⟨bp,bd,_,bb,aE,bc,ar⟩:=Fp.elem (k:=2) (a:=bc0_1_) (sz:=4) (frz:=true) Zq hH rfl aB
   refine rgS ⟨[(0,.ptr p0_ 0),(3,iv r2.1),(5,.map idm),(7,.loc 7 0),(32,bc0_1_),(33,iv ((List.length a0_.Problem.Uses:Nat):Int)),(34,iv i5)],[(7,(ZZ a3))],H5⟩ (Za.u 0 (Zm (ys:=[bc0_1_,iv i5]) (by cases hfbc0_1_<;>kernel_rfl) (ar .i64)) (Za.u 0 (Zc8 (H:=H5) (off:=0) (cs:=[.int .i64 a3.Stream,.int .i64 a3.Port,.int .i64 a3.From,.int .i64 a3.Long]) (r:=.agg (ZZ a3)) Zq aB aE) (Za.f (h:=(by cases hfbc0_1_<;>kernel_rfl))))) (by cases hfbc0_1_<;>kernel_rfl) ?_
   refine tq ?_
   obtain ⟨bt,aQ,h⟩:=bs h
   obtain ⟨hid5,hno5,a1,H6,as2,H7,ha1,hid6,hok1,hl6,hH7,hH⟩:=Fp.mapApp Zq hH hl5 aQ
   refine rqS ⟨[(0,.ptr p0_ 0),(3,iv r2.1),(5,.map idm),(32,bc0_1_),(33,iv ((List.length a0_.Problem.Uses:Nat):Int)),(34,iv i5)],[],H7⟩ (Za.u 6 (ZqS (H:=H5) (id:=idm) (es:=zipE m5 as_) (x:=a3.Port) (r:=mval 4 m5 as_ a3.Port) kr kr hid5 rfl hno5) (Za.h 2 (Ze1 (H:=H5) (a:=mval 4 m5 as_ a3.Port) (b:=.p (.sl 4 true [Zq a3])) (new:=[Zq a3]) kr kr kr kr ha1) (Za.o 0 (ZqR (H:=H6) (id:=idm) (es:=zipE m5 as_) (x:=a3.Port) (y:=a1) kr kr hid6 hok1 hH7) (Za.f (h:=(by cases hfbc0_1_<;>kernel_rfl)))))) (by cases hfbc0_1_<;>kernel_rfl) ?_
   refine bn (tq ?_)
   refine rgS ⟨[(0,.ptr p0_ 0),(3,iv r2.1),(5,.map idm),(32,bc0_1_),(33,iv ((List.length a0_.Problem.Uses:Nat):Int)),(34,iv (w64 (i5+1)))],[],H7⟩ Za.f (by cases hfbc0_1_<;>kernel_rfl) ?_
   obtain rfl:=Zb h
   exact ⟨_,rfl,as2,H7,(by show _=_;cases hfbc0_1_<;>kernel_rfl),hl6,hH⟩
  refine kq (xq ?_)
  refine tx ?_
  obtain rfl:=Zb h
  exact ⟨_,rfl,rfl,as_,H5,(by show _=_;kernel_rfl),hl5,hH⟩
 clear hH hln6 hlc4 hlc1
 rintro e s hq
 obtain ⟨rfl,as_,H5,rfl,hl5,hH⟩:=hq
 refine bx (tq ?_)
 refine sq ?_
 obtain ⟨bq,aM,h⟩:=bs h
 obtain ⟨hb1,hb2⟩:=Zrw aM
 have hid5:H5[idm]? = some (.lp mapL [] (.mp 0 (zipE a0 as_))):=Fp.get hH 3 rfl
 have hidlt:idm<H5.length:=(List.getElem?_eq_some_iff.1 hid5).1
 refine vc_box (Zqb (s0:=⟨[(0,.ptr p0_ 0),(3,iv r2.1),(5,.map idm),(49,.map idm)],[],H5⟩) (id:=idm) (kn:=0) (L:=mapL) (fr:=[]) (es:=zipE a0 as_) (ZmR (Zbs N a0_ r2) a0) (sF:=[(2,iv 7)]) (bF:=[]) (path_to kr kr) kr hid5 rfl kr kr (by decide) ?_ ?_)
 ·clear h
  intro i_ p_ hp_ bs_ ck_ sn_ y_ hy_
  obtain ⟨q_,hq_,hpk_,hzt_⟩:=Zru (enc:=Zq) (sz:=4) hl5 i_ p_ hp_
  have hHI:=hIt_HP (kn:=0) (es:=zipE a0 as_) (bs:=bs_) (clock:=ck_) (seen:=sn_++[y_]) hH
  replace hH:=HP.three (i:=0) (j:=1) (k:=i_+3) hHI rfl rfl (by simpa using hzt_) (by omega) (by omega) (by omega)
  have hfae_:=ZjS (HP.get hH 2 rfl)
  obtain ⟨hoka_,_⟩:=ZoF (HP.get hH 2 rfl)
  obtain ⟨c_,hc_⟩:=hb1 i_ q_ hq_
  have hbad:ZmR (Zbs N a0_ r2) a0 i_=c_:=by
   unfold ZmR
   rw [hq_]
   simp only [hc_]
   cases c_<;>rfl
  rw [hbad]
  unfold Zbs at hc_
  have hjm:=hIt_map (kn:=0) (L:=mapL) (fr:=[]) (es:=zipE a0 as_) (bs:=bs_) (clock:=ck_) (seen:=sn_++[y_]) hidlt
  have hjt:=hIt_it (H:=H5) (id:=idm) (kn:=0) (L:=mapL) (fr:=[]) (es:=zipE a0 as_) (bs:=bs_) (clock:=ck_) (seen:=sn_++[y_])
  refine vc_at ⟨[(0,.ptr p0_ 0),(3,iv r2.1),(50,.map (List.length H5))],[],(hIt H5 idm mapL [] 0 (zipE a0 as_) bs_ ck_ (sn_++[y_]))⟩ kr ?_
  refine sq ?_
  refine rgS ⟨[(0,.ptr p0_ 0),(3,iv r2.1),(9,p_.2),(50,.map (List.length H5))],[],(hIt H5 idm mapL [] 0 (zipE a0 as_) bs_ ck_ (sn_++[y_]))⟩ (Za.u 0 (ZpR (H:=(hIt H5 idm mapL [] 0 (zipE a0 as_) bs_ ck_ (sn_++[y_]))) (id:=idm) (j:=List.length H5) (kn:=0) (L:=mapL) (fr:=[]) (es:=zipE a0 as_) (bs:=bs_) (clock:=ck_) (seen:=sn_) (x:=y_) (i:=i_) (p:=p_) kr kr hp_ hy_ hoka_ hjm hjt) Za.f) kr ?_
  refine tq (sq ?_)
  obtain ⟨pk_,ae_⟩:=p_
  replace hfae_:ae_ = .p (.sl 4 true [])∨∃ id ver,ae_ = .osl 4 id ver 0 (q_.2.map Zq).length:=hfae_
  refine rgS ⟨[(0,.ptr p0_ 0),(3,iv r2.1),(9,ae_),(10,iv 0),(50,.map (List.length H5))],[],(hIt H5 idm mapL [] 0 (zipE a0 as_) bs_ ck_ (sn_++[y_]))⟩ Za.f (by rcases hfae_ with hae_e | ⟨_,_,hae_e⟩<;>rw [hae_e]<;>kernel_rfl) ?_
  refine tq (sq ?_)
  refine sq ?_
  have aD:=HP.len (k:=2) (a:=ae_) (sz:=4) (frz:=false) (l:=q_.2) Zq hH rfl
  refine rgS ⟨[(0,.ptr p0_ 0),(3,iv r2.1),(10,iv 0),(50,.map (List.length H5)),(55,ae_),(56,iv ((List.length q_.2:Nat):Int)),(57,iv 0)],[],(hIt H5 idm mapL [] 0 (zipE a0 as_) bs_ ck_ (sn_++[y_]))⟩ (Za.u 1 (Zm (ys:=[ae_]) (by rcases hfae_ with hae_e | ⟨_,_,hae_e⟩<;>rw [hae_e]<;>kernel_rfl) aD) Za.f) (by rcases hfae_ with hae_e | ⟨_,_,hae_e⟩<;>rw [hae_e]<;>kernel_rfl) ?_
  refine tq (bk ?_)
  obtain ⟨a7,aa,hc_⟩:=bs hc_
  refine ZS ((ZL (fun (x:Int × Int) s=>s=⟨[(0,.ptr p0_ 0),(3,iv r2.1),(10,iv x.1),(50,.map (List.length H5)),(55,ae_),(56,iv ((List.length q_.2:Nat):Int)),(57,iv x.2)],[],(hIt H5 idm mapL [] 0 (zipE a0 as_) bs_ ck_ (sn_++[y_]))⟩) (fun x:Int × Int=>Zbh N a0_ r2 q_.2 x.1 x.2) (fun (p:Int) e s=>e = .exit 4∧(s=⟨[(0,.ptr p0_ 0),(3,iv r2.1),(10,iv p),(50,.map (List.length H5))],[],(hIt H5 idm mapL [] 0 (zipE a0 as_) bs_ ck_ (sn_++[y_]))⟩)) ?_ N _ a7 _ aa (by show _=_;rcases hfae_ with hae_e | ⟨_,_,hae_e⟩<;>rw [hae_e]<;>kernel_rfl)).mono ?_)
  ·clear hc_ aa
   rintro ⟨a8,a6⟩ o s h hR
   obtain rfl:=hR
   replace h:Zbh N a0_ r2 q_.2 a8 a6=some o:=h
   unfold Zbh at h
   refine sq (rgS ⟨[(0,.ptr p0_ 0),(3,iv r2.1),(10,iv a8),(50,.map (List.length H5)),(55,ae_),(56,iv ((List.length q_.2:Nat):Int)),(57,iv a6),(58,bv (decide (a6<((List.length q_.2:Nat):Int))))],[],(hIt H5 idm mapL [] 0 (zipE a0 as_) bs_ ck_ (sn_++[y_]))⟩ Za.f (by rcases hfae_ with hae_e | ⟨_,_,hae_e⟩<;>rw [hae_e]<;>kernel_rfl) ?_)
   refine tq (sq ?_)
   refine it h (fun aL h => ?_) (fun aL h => ?_)
   ·refine sk (tq ?_)
    refine kq (sq ?_)
    refine bk (sq ?_)
    obtain ⟨a5,aj,h⟩:=bs h
    obtain ⟨bj,ba,_,aX,ax,aY,ae⟩:=HP.elem (k:=2) (a:=ae_) (sz:=4) (frz:=false) Zq hH rfl aj
    refine rgS ⟨[(0,.ptr p0_ 0),(3,iv r2.1),(10,iv a8),(12,.loc 12 0),(50,.map (List.length H5)),(55,ae_),(56,iv ((List.length q_.2:Nat):Int)),(57,iv a6)],[(12,(ZZ a5))],(hIt H5 idm mapL [] 0 (zipE a0 as_) bs_ ck_ (sn_++[y_]))⟩ (Za.u 0 (Zm (ys:=[ae_,iv a6]) (by rcases hfae_ with hae_e | ⟨_,_,hae_e⟩<;>rw [hae_e]<;>kernel_rfl) (ae .i64)) (Za.u 0 (Zc8 (H:=(hIt H5 idm mapL [] 0 (zipE a0 as_) bs_ ck_ (sn_++[y_]))) (off:=0) (cs:=[.int .i64 a5.Stream,.int .i64 a5.Port,.int .i64 a5.From,.int .i64 a5.Long]) (r:=.agg (ZZ a5)) Zq aj ax) (Za.f (h:=(by rcases hfae_ with hae_e | ⟨_,_,hae_e⟩<;>rw [hae_e]<;>kernel_rfl))))) (by rcases hfae_ with hae_e | ⟨_,_,hae_e⟩<;>rw [hae_e]<;>kernel_rfl) ?_
    refine tq ?_
    have aq:=HP.get hH 0 rfl
    obtain ⟨al,ai,h⟩:=bs h
    obtain ⟨bi,b2,_,aV,aw,aW,ad⟩:=HP.elem (k:=1) (a:=bc0_0_) (sz:=1) (frz:=true) eI64 hH rfl ai
    obtain ⟨ay,aC,h⟩:=bs h
    refine rqS ⟨[(0,.ptr p0_ 0),(3,iv r2.1),(10,iv (w64 (a8+ay))),(50,.map (List.length H5)),(55,ae_),(56,iv ((List.length q_.2:Nat):Int)),(57,iv a6)],[],(hIt H5 idm mapL [] 0 (zipE a0 as_) bs_ ck_ (sn_++[y_]))⟩ (Za.u 6 (ZN (Zv (H:=(hIt H5 idm mapL [] 0 (zipE a0 as_) bs_ ck_ (sn_++[y_]))) (id:=p0_) (off:=0) (cs:=[bc0_0_,bc0_1_,bv a0_.late]) (c:=[bc0_0_]) (r:=bc0_0_) (by cases hfbc0_0_<;>kernel_rfl) (by cases hfbc0_0_<;>kernel_rfl) aq (by cases hfbc0_0_<;>kernel_rfl) (by cases hfbc0_0_<;>kernel_rfl) (by cases hfbc0_0_<;>kernel_rfl)) (by cases hfbc0_0_<;>kernel_rfl)) (Za.u 2 (Zm (ys:=[bc0_0_,iv a5.Stream]) (by cases hfbc0_0_<;>kernel_rfl) (ad .i64)) (Za.u 0 (ZN (Zc8 (H:=(hIt H5 idm mapL [] 0 (zipE a0 as_) bs_ ck_ (sn_++[y_]))) (off:=0) (cs:=[.int .i64 al]) (r:=iv al) eI64 ai aw)) (Za.u 0 (Zm (ys:=[iv r2.1,iv al]) (h:=Zh8 aC)) Za.f)))) (by cases hfbc0_0_<;>rcases hfae_ with hae_e | ⟨_,_,hae_e⟩<;>rw [hae_e]<;>kernel_rfl) ?_
    refine bn (tq ?_)
    refine rgS ⟨[(0,.ptr p0_ 0),(3,iv r2.1),(10,iv (w64 (a8+ay))),(50,.map (List.length H5)),(55,ae_),(56,iv ((List.length q_.2:Nat):Int)),(57,iv (w64 (a6+1)))],[],(hIt H5 idm mapL [] 0 (zipE a0 as_) bs_ ck_ (sn_++[y_]))⟩ Za.f (by rcases hfae_ with hae_e | ⟨_,_,hae_e⟩<;>rw [hae_e]<;>kernel_rfl) ?_
    obtain rfl:=Zb h
    exact ⟨_,rfl,(by show _=_;rcases hfae_ with hae_e | ⟨_,_,hae_e⟩<;>rw [hae_e]<;>kernel_rfl)⟩
   refine kq (xq ?_)
   refine tx ?_
   obtain rfl:=Zb h
   exact ⟨_,rfl,rfl,(by show _=_;kernel_rfl)⟩
  rintro e s hq
  obtain ⟨rfl,hR⟩:=hq
  obtain rfl:=hR
  refine bx (tq ?_)
  refine sq (rg Za.f ?_)
  have h:(if (decide (a7 > 63))=true then some true else some false)=some c_:=by
   rw [← hc_]
   cases decide (a7 > 63)<;>rfl
  refine tq (it h (fun aK h => ?_) (fun aK h => ?_))
  ·obtain rfl:=Zb h
   refine sq (rg Za.f ?_)
   refine tq (rt ?_)
   refine br ?_
   rw [if_pos rfl]
   exact ⟨rfl,(by show _=_;kernel_rfl)⟩
  ·obtain rfl:=Zb h
   refine sk (bn ?_)
   rw [if_neg (by simp)]
   exact ⟨rfl,(by show _=_;kernel_rfl)⟩
 replace hH:=Fp.push hH (.lp itL [] .itd)
 rw [Zot hl5,hb2]
 rcases Zz h with ⟨hcb,h⟩ | ⟨hcb,h⟩
 ·rw [if_pos hcb]
  refine tr ?_
  obtain rfl:=Zb h
  exact ⟨[iv 7],kr,kr,Fp.pk hH [0,1,2] rfl⟩
 rw [if_neg (by rw [hcb];simp)]
 refine tq ?_
 replace hH:Fp _ _ _ [.cel p0_ [bc0_0_,bc0_1_,bv a0_.late],.arr bc0_0_ 1 true (List.map eI64 a0_.Problem.Periods),.arr bc0_1_ 4 true (List.map Zq a0_.Problem.Uses)]:=Fp.pick hH [0,1,2] rfl
 refine vc_at ⟨[(0,.ptr p0_ 0)],[],(hEnd H5)⟩ kr ?_
 refine sq (sq ?_)
 have ap:=Fp.get hH 0 rfl
 have am:=Fp.len (k:=2) (a:=bc0_1_) (sz:=4) (frz:=true) (l:=a0_.Problem.Uses) Zq hH rfl
 refine rgS ⟨[(0,.ptr p0_ 0),(81,bc0_1_),(82,iv ((List.length a0_.Problem.Uses:Nat):Int)),(83,iv 0)],[],(hEnd H5)⟩ (Za.u 4 (Zv (H:=(hEnd H5)) (id:=p0_) (off:=1) (cs:=[bc0_0_,bc0_1_,bv a0_.late]) (c:=[bc0_1_]) (r:=bc0_1_) (by cases hfbc0_1_<;>kernel_rfl) (by cases hfbc0_1_<;>kernel_rfl) ap (by cases hfbc0_1_<;>kernel_rfl) (by cases hfbc0_1_<;>kernel_rfl) (by cases hfbc0_1_<;>kernel_rfl)) (Za.u 0 (Zm (ys:=[bc0_1_]) (by cases hfbc0_1_<;>kernel_rfl) am) Za.f)) (by cases hfbc0_1_<;>kernel_rfl) ?_
 refine tq (bk ?_)
 obtain ⟨az,a9,h⟩:=bs h
 refine ZS ((ZL (fun (x:Int) s=>s=⟨[(0,.ptr p0_ 0),(81,bc0_1_),(82,iv ((List.length a0_.Problem.Uses:Nat):Int)),(83,iv x)],[],(hEnd H5)⟩) (fun x:Int=>ZaQ N a0_ x) (fun (p:(Unit) ⊕ (Int)) e s=>match p with | (.inl p)=>e = .exit 6∧(s=⟨[(0,.ptr p0_ 0)],[],(hEnd H5)⟩) | (.inr p)=>e = .ret∧∃ xs,rawL (wS [] s) i21.res=some xs∧ZaW xs=iv p∧Fp H (weakH [] s.H) [.cel p0_ [bc0_0_,bc0_1_,bv a0_.late],.arr bc0_0_ 1 true (List.map eI64 a0_.Problem.Periods),.arr bc0_1_ 4 true (List.map Zq a0_.Problem.Uses)] [.cel p0_ [bc0_0_,bc0_1_,bv a0_.late],.arr bc0_0_ 1 true (List.map eI64 a0_.Problem.Periods),.arr bc0_1_ 4 true (List.map Zq a0_.Problem.Uses)]) ?_ N _ az _ a9 (by show _=_;cases hfbc0_1_<;>kernel_rfl)).mono ?_)
 ·clear h a9
  rintro a4 o s h hR
  obtain rfl:=hR
  replace h:ZaQ N a0_ a4=some o:=h
  unfold ZaQ at h
  refine sq (rgS ⟨[(0,.ptr p0_ 0),(81,bc0_1_),(82,iv ((List.length a0_.Problem.Uses:Nat):Int)),(83,iv a4),(84,bv (decide (a4<((List.length a0_.Problem.Uses:Nat):Int))))],[],(hEnd H5)⟩ Za.f (by cases hfbc0_1_<;>kernel_rfl) ?_)
  refine tq (sq ?_)
  refine it h (fun aJ h => ?_) (fun aJ h => ?_)
  ·refine sk (tq ?_)
   refine kq (sq ?_)
   refine bk (sq ?_)
   obtain ⟨a2,ag,h⟩:=bs h
   obtain ⟨bf,b1,_,aT,av,aU,ac⟩:=Fp.elem (k:=2) (a:=bc0_1_) (sz:=4) (frz:=true) Zq hH rfl ag
   refine rgS ⟨[(0,.ptr p0_ 0),(14,.loc 14 0),(81,bc0_1_),(82,iv ((List.length a0_.Problem.Uses:Nat):Int)),(83,iv a4)],[(14,(ZZ a2))],(hEnd H5)⟩ (Za.u 0 (Zm (ys:=[bc0_1_,iv a4]) (by cases hfbc0_1_<;>kernel_rfl) (ac .i64)) (Za.u 0 (Zc8 (H:=(hEnd H5)) (off:=0) (cs:=[.int .i64 a2.Stream,.int .i64 a2.Port,.int .i64 a2.From,.int .i64 a2.Long]) (r:=.agg (ZZ a2)) Zq ag av) (Za.f (h:=(by cases hfbc0_1_<;>kernel_rfl))))) (by cases hfbc0_1_<;>kernel_rfl) ?_
   refine tq (sq ?_)
   have ao:=Fp.get hH 0 rfl
   obtain ⟨ak,af,h⟩:=bs h
   obtain ⟨be,b0,_,aR,au,aS,ab⟩:=Fp.elem (k:=1) (a:=bc0_0_) (sz:=1) (frz:=true) eI64 hH rfl af
   refine rqS ⟨[(0,.ptr p0_ 0),(81,bc0_1_),(82,iv ((List.length a0_.Problem.Uses:Nat):Int)),(83,iv a4),(98,bv (decide (a2.Long > ak)))],[],(hEnd H5)⟩ (Za.u 6 (ZN (Zv (H:=(hEnd H5)) (id:=p0_) (off:=0) (cs:=[bc0_0_,bc0_1_,bv a0_.late]) (c:=[bc0_0_]) (r:=bc0_0_) (by cases hfbc0_0_<;>cases hfbc0_1_<;>kernel_rfl) (by cases hfbc0_0_<;>cases hfbc0_1_<;>kernel_rfl) ao (by cases hfbc0_0_<;>cases hfbc0_1_<;>kernel_rfl) (by cases hfbc0_0_<;>cases hfbc0_1_<;>kernel_rfl) (by cases hfbc0_0_<;>cases hfbc0_1_<;>kernel_rfl)) (by cases hfbc0_0_<;>cases hfbc0_1_<;>kernel_rfl)) (Za.u 2 (Zm (ys:=[bc0_0_,iv a2.Stream]) (by cases hfbc0_0_<;>kernel_rfl) (ab .i64)) (Za.u 0 (ZN (Zc8 (H:=(hEnd H5)) (off:=0) (cs:=[.int .i64 ak]) (r:=iv ak) eI64 af au)) Za.f))) (by cases hfbc0_0_<;>cases hfbc0_1_<;>kernel_rfl) ?_
   refine tq (it h (fun aI h => ?_) (fun aI h => ?_))
   ·refine sq (rgS ⟨[(2,iv 341)],[],(hEnd H5)⟩ Za.f kr ?_)
    refine tq (rt ?_)
    refine br (tr ?_)
    obtain rfl:=Zb h
    exact ⟨_,rfl,rfl,⟨[iv 341],kr,kr,Fp.pk hH [0,1,2] rfl⟩⟩
   refine sk (bn ?_)
   refine tq (kq ?_)
   refine rgS ⟨[(0,.ptr p0_ 0),(81,bc0_1_),(82,iv ((List.length a0_.Problem.Uses:Nat):Int)),(83,iv (w64 (a4+1)))],[],(hEnd H5)⟩ Za.f (by cases hfbc0_1_<;>kernel_rfl) ?_
   obtain rfl:=Zb h
   exact ⟨_,rfl,(by show _=_;cases hfbc0_1_<;>kernel_rfl)⟩
  refine kq (xq ?_)
  refine tx ?_
  obtain rfl:=Zb h
  exact ⟨_,rfl,rfl,(by show _=_;kernel_rfl)⟩
 rintro e s hq
 rcases az with bm | bl
 ·dsimp only at h hq
  obtain ⟨rfl,hR⟩:=hq
  obtain rfl:=hR
  refine bx (tq ?_)
  refine sq (sq ?_)
  have an:=Fp.get hH 0 rfl
  refine rg (Za.u 3 (Zv (H:=(hEnd H5)) (id:=p0_) (off:=2) (cs:=[bc0_0_,bc0_1_,bv a0_.late]) (c:=[bv a0_.late]) (r:=bv a0_.late) (hl:=an)) Za.f) (tq ?_)
  refine it h (fun aG h => ?_) (fun aG h => ?_)
  ·refine sq (rg Za.f ?_)
   refine tq (rt ?_)
   refine tr ?_
   obtain rfl:=Zb h
   exact ⟨[iv 342],kr,kr,Fp.pk hH [0,1,2] rfl⟩
  refine sk (tq ?_)
  refine kq (sq ?_)
  refine rg Za.f (tq ?_)
  refine rt ?_
  obtain rfl:=Zb h
  exact ⟨[iv 0],kr,kr,Fp.pk hH [0,1,2] rfl⟩
 dsimp only at h hq
 obtain ⟨rfl,hq⟩:=hq
 refine br (tr ?_)
 obtain rfl:=Zb h
 exact hq
theorem Zik (N:Nat) (a0_:Zs) (r:Int × Int) (h:Zhl N a0_=some r):Zac Tryz.prog 31 [.agg (Zd a0_)] (.tup [iv r.1,iv r.2]):=by
 unfold Zhl at h
 have hH:HP ([]:List HO) []:=trivial
 refine ZD chk31 rfl rfl (Zt _ _ _ ?_) rfl
 refine sq (rg Za.f ?_)
 refine tq (sq ?_)
 refine sq ?_
 obtain ⟨r1,hr1,h⟩:=bs h
 refine rg (Za.v 1 (Zw (hc:=ZeU N a0_ r1 hr1)) Za.f) (tq ?_)
 refine sq (rg Za.f ?_)
 refine tq (it h (fun hc2 h => ?_) (fun hc2 h => ?_))
 ·refine sq (rg Za.f ?_)
  refine tq (rt ?_)
  refine tr ?_
  obtain rfl:=Zb h
  exact Zx kr
 refine sk (tq ?_)
 refine kq (sq ?_)
 obtain ⟨r3,hr3,h⟩:=bs h
 refine rg (Za.v 2 (Zw (hc:=Zgj N a0_.Periods r3 hr3)) Za.f) (tq ?_)
 refine rt ?_
 obtain rfl:=Zb h
 exact Zx kr
theorem ZjM (N:Nat) (a0_:Zs) (a1_:Int) (a2_:Int) (a3_:Int) (a4_:Int) (r:Bool × Int) (h:Zgk N a0_ a1_ a2_ a3_ a4_=some r):Zac Tryz.prog 55 [.agg (Zd a0_),iv a1_,iv a2_,iv a3_,iv a4_] (.tup [bv r.1,iv r.2]):=by
 unfold Zgk at h
 have hH:HP ([]:List HO) []:=trivial
 refine ZD chk55 rfl rfl (Zt _ _ _ ?_) rfl
 refine sq (rg Za.f ?_)
 refine tq (sq ?_)
 refine sq ?_
 obtain ⟨r1,hr1,h⟩:=bs h
 refine rg (Za.v 1 (Zw (hc:=ZeU N a0_ r1 hr1)) Za.f) (tq ?_)
 refine sq (rg Za.f ?_)
 refine tq (it h (fun hc2 h => ?_) (fun hc2 h => ?_))
 ·refine sq (rg Za.f ?_)
  refine tq (rt ?_)
  refine tr ?_
  obtain rfl:=Zb h
  exact Zx kr
 refine sk (tq ?_)
 refine kq (sq ?_)
 refine sq (rgX ⟨[(1,iv a1_),(2,iv a2_),(3,iv a3_),(4,iv a4_),(5,.loc 5 0),(37,bv ((decide (a1_<0))||((decide (a1_ ≥ ((List.length a0_.Periods:Nat):Int)))||((decide (a3_<0))||(decide (a3_ ≥ ((List.length a0_.Periods:Nat):Int)))))))],[(5,(Zd a0_))],[]⟩ ?_ ?_)
 ·rcases Bool.eq_false_or_eq_true (decide (a1_<0)) with hc3 | hc4
  ·exact (EP.u 1 (Zi (c:=(decide (a1_<0))) (h:=hc3)) (EP.f (by simp only [hc3];kernel_rfl)))
  refine (EP.u 1 (Zi (c:=(decide (a1_<0))) (h:=hc4)) (EP.u 4 (Zm (ys:=[Zg false a0_.Periods]) (h:=Zr eI64)) ?_))
  rcases Bool.eq_false_or_eq_true (decide (a1_ ≥ ((List.length a0_.Periods:Nat):Int))) with hc5 | hc6
  ·exact (EP.u 0 (Zi (c:=(decide (a1_ ≥ ((List.length a0_.Periods:Nat):Int)))) (h:=hc5)) (EP.f (by simp only [hc4,hc5];kernel_rfl)))
  refine (EP.u 0 (Zi (c:=(decide (a1_ ≥ ((List.length a0_.Periods:Nat):Int)))) (h:=hc6)) ?_)
  rcases Bool.eq_false_or_eq_true (decide (a3_<0)) with hc7 | hc8
  ·exact (EP.u 3 (Zi (c:=(decide (a3_<0))) (h:=hc7)) (EP.f (by simp only [hc4,hc6,hc7];kernel_rfl)))
  exact (EP.u 3 (Zi (c:=(decide (a3_<0))) (h:=hc8)) (EP.u 5 (Zm (ys:=[Zg false a0_.Periods]) (h:=Zr eI64)) (EP.f (by simp only [hc4,hc6,hc8];kernel_rfl))))
 refine tq (it h (fun hc9 h => ?_) (fun hc9 h => ?_))
 ·refine sq (rg Za.f ?_)
  refine tq (rt ?_)
  refine tr ?_
  obtain rfl:=Zb h
  exact Zx kr
 refine sk (tq ?_)
 refine kq (sq ?_)
 refine sq ?_
 obtain ⟨ad,hj,h⟩:=bs h
 refine rgR (fun s=>s=⟨[(1,iv a1_),(2,iv a2_),(3,iv a3_),(4,iv a4_),(5,.loc 5 0),(59,bv ad)],[(5,(Zd a0_))],[]⟩) ?_ ?_
 ·clear h
  obtain ⟨a1,a4,hj⟩:=bs hj
  refine (EP.v 3 (Zw (hc:=ZfH N a0_ a1_ a2_ a1 a4)) ?_)
  rcases Zz hj with ⟨ab,hj⟩ | ⟨aa,hj⟩
  ·obtain rfl:=Zb hj
   exact (EP.u 0 (Zi (c:=(!a1)) (h:=ab)) (EP.f (by show _=_;kernel_rfl)))
  refine (EP.u 0 (Zi (c:=(!a1)) (h:=aa)) ?_)
  obtain ⟨a0,a3,hj⟩:=bs hj
  refine (EP.v 4 (Zw (hc:=ZfH N a0_ a3_ a4_ a0 a3)) ?_)
  rcases Zz hj with ⟨a9,hj⟩ | ⟨a8,hj⟩
  ·obtain rfl:=Zb hj
   exact (EP.u 0 (Zi (c:=(!a0)) (h:=a9)) (EP.f (by show _=_;kernel_rfl)))
  refine (EP.u 0 (Zi (c:=(!a0)) (h:=a8)) ?_)
  rcases Zz hj with ⟨a7,hj⟩ | ⟨a6,hj⟩
  ·obtain rfl:=Zb hj
   exact (EP.u 4 (Zi (c:=(a1_==a3_)) (h:=a7)) (EP.f (by show _=_;kernel_rfl)))
  obtain rfl:=Zb hj
  exact (EP.u 4 (Zi (c:=(a1_==a3_)) (h:=a6)) (EP.f (by show _=_;kernel_rfl)))
 clear hj
 rintro s hR
 obtain rfl:=hR
 refine tq (it h (fun a5 h => ?_) (fun a5 h => ?_))
 ·refine sq (rg Za.f ?_)
  refine tq (rt ?_)
  refine tr ?_
  obtain rfl:=Zb h
  exact Zx kr
 refine sk (tq ?_)
 refine kq (sq ?_)
 obtain ⟨ac,a2,h⟩:=bs h
 refine rg (Za.v 5 (Zw (hc:=ZgC N a0_ a1_ a2_ a3_ a4_ ac a2)) Za.f) (tq ?_)
 refine rt ?_
 obtain rfl:=Zb h
 exact Zx kr
theorem Zno (N:Nat) (a0_:Zs) (a1_:(List Int)) (r:Bool × Int) (h:Zky N a0_ a1_=some r):Zac Tryz.prog 56 [.agg (Zd a0_),Zg false a1_] (.tup [bv r.1,iv r.2]):=by
 unfold Zky at h
 have hH:HP ([]:List HO) []:=trivial
 refine ZD chk56 rfl rfl (Zt _ _ _ ?_) rfl
 refine sq (rg Za.f ?_)
 refine tq (sq ?_)
 refine sq ?_
 obtain ⟨r1,hr1,h⟩:=bs h
 refine rg (Za.v 1 (Zw (hc:=ZeU N a0_ r1 hr1)) Za.f) (tq ?_)
 refine sq (rg Za.f ?_)
 refine tq (it h (fun hc2 h => ?_) (fun hc2 h => ?_))
 ·refine sq (rg Za.f ?_)
  refine tq (rt ?_)
  refine tr ?_
  obtain rfl:=Zb h
  exact Zx kr
 refine sk (tq ?_)
 refine kq (sq ?_)
 refine sq (rg (Za.u 1 (Zm (ys:=[Zg false a1_]) (h:=Zr eI64)) (Za.u 2 (Zm (ys:=[Zg false a0_.Periods]) (h:=Zr eI64)) Za.f)) ?_)
 refine tq (it h (fun hc3 h => ?_) (fun hc3 h => ?_))
 ·refine sq (rg Za.f ?_)
  refine tq (rt ?_)
  refine tr ?_
  obtain rfl:=Zb h
  exact Zx kr
 refine sk (tq ?_)
 refine kq (sq ?_)
 refine sq (rg (Za.u 1 (Zm (ys:=[Zg false a1_]) (h:=Zr eI64)) Za.f) ?_)
 refine tq (bk ?_)
 obtain ⟨al,ab,h⟩:=bs h
 refine ZS ((ZL (fun (x:Int) s=>s=⟨[(1,Zg false a1_),(2,.loc 2 0),(24,Zg false a1_),(25,iv ((List.length a1_:Nat):Int)),(26,iv x)],[(2,(Zd a0_))],[]⟩) (fun x:Int=>Zft N a0_ a1_ x) (fun (p:(Unit) ⊕ (Bool × Int)) e s=>match p with | (.inl p)=>e = .exit 0∧(s=⟨[(1,Zg false a1_),(2,.loc 2 0)],[(2,(Zd a0_))],[]⟩) | (.inr p)=>e = .ret∧∃ xs,resL s i56.res=some xs∧ZaW xs = .tup [bv p.1,iv p.2]) ?_ N _ al _ ab (by show _=_;kernel_rfl)).mono ?_)
 ·clear h ab
  rintro i4 o s h hR
  obtain rfl:=hR
  replace h:Zft N a0_ a1_ i4=some o:=h
  unfold Zft at h
  refine sq (rg Za.f ?_)
  refine tq (sq ?_)
  refine it h (fun ao h => ?_) (fun ao h => ?_)
  ·refine sk (tq ?_)
   refine kq (sq ?_)
   refine bk (sq ?_)
   obtain ⟨aj,ac,h⟩:=bs h
   refine rg (Za.u 1 (Zm (ys:=[Zg false a1_,iv i4]) (h:=Zk eI64 ac)) (Za.u 0 (Zu (sz:=1) (off:=0) (cs:=[.int .i64 aj]) (r:=iv aj) eI64 ac) Za.f)) (tq ?_)
   refine sq ?_
   obtain ⟨ap,am,h⟩:=bs h
   refine rg (Za.v 3 (Zw (hc:=ZfH N a0_ i4 aj ap am)) Za.f) (tq ?_)
   refine it h (fun an h => ?_) (fun an h => ?_)
   ·refine sq (rg Za.f ?_)
    refine tq (rt ?_)
    refine br (tr ?_)
    obtain rfl:=Zb h
    exact ⟨_,rfl,rfl,Zx kr⟩
   refine sk (bn ?_)
   refine tq (kq ?_)
   refine rg Za.f ?_
   obtain rfl:=Zb h
   exact ⟨_,rfl,(by show _=_;kernel_rfl)⟩
  refine kq (xq ?_)
  refine tx ?_
  obtain rfl:=Zb h
  exact ⟨_,rfl,rfl,(by show _=_;kernel_rfl)⟩
 rintro e s hq
 rcases al with ax | aq
 ·dsimp only at h hq
  obtain ⟨rfl,hR⟩:=hq
  obtain rfl:=hR
  refine bx (tq ?_)
  refine sq (sq ?_)
  refine rg (Za.u 1 (Zm (ys:=[Zg false a1_]) (h:=Zr eI64)) Za.f) (tq ?_)
  refine bk ?_
  obtain ⟨a9,a4,h⟩:=bs h
  refine ZS ((ZL (fun (x:Int) s=>s=⟨[(1,Zg false a1_),(2,.loc 2 0),(37,Zg false a1_),(38,iv ((List.length a1_:Nat):Int)),(39,iv x)],[(2,(Zd a0_))],[]⟩) (fun x:Int=>Zfs N a0_ a1_ x) (fun (p:(Unit) ⊕ (Bool × Int)) e s=>match p with | (.inl p)=>e = .exit 2∧(s=⟨[],[],[]⟩) | (.inr p)=>e = .ret∧∃ xs,resL s i56.res=some xs∧ZaW xs = .tup [bv p.1,iv p.2]) ?_ N _ a9 _ a4 (by show _=_;kernel_rfl)).mono ?_)
  ·clear h a4
   rintro a2 o s h hR
   obtain rfl:=hR
   replace h:Zfs N a0_ a1_ a2=some o:=h
   unfold Zfs at h
   refine sq (rg Za.f ?_)
   refine tq (sq ?_)
   refine it h (fun ai h => ?_) (fun ai h => ?_)
   ·refine sk (tq ?_)
    refine kq (sq ?_)
    refine bk (sq ?_)
    obtain ⟨a1,a7,h⟩:=bs h
    refine rg (Za.u 1 (Zm (ys:=[Zg false a1_,iv a2]) (h:=Zk eI64 a7)) (Za.u 0 (Zu (sz:=1) (off:=0) (cs:=[.int .i64 a1]) (r:=iv a1) eI64 a7) Za.f)) (tq ?_)
    refine sq ?_
    obtain ⟨a0,ae,h⟩:=bs h
    refine rg (Za.u 3 (Zm (ys:=[Zg false a1_,iv (w64 (a2+1))]) (h:=Zf4 eI64 ae)) (Za.u 0 (Zm (ys:=[Zg false a0]) (h:=Zr eI64)) Za.f)) (tq ?_)
    refine bk ?_
    obtain ⟨aa,a5,h⟩:=bs h
    refine ZS ((ZL (fun (x:Int) s=>s=⟨[(1,Zg false a1_),(2,.loc 2 0),(9,iv a2),(10,iv a1),(37,Zg false a1_),(38,iv ((List.length a1_:Nat):Int)),(39,iv a2),(47,Zg false a0),(48,iv ((List.length a0:Nat):Int)),(49,iv x)],[(2,(Zd a0_))],[]⟩) (fun x:Int=>Zfr N a0_ a2 a1 a0 x) (fun (p:(Unit) ⊕ (Bool × Int)) e s=>match p with | (.inl p)=>e = .exit 4∧(s=⟨[(1,Zg false a1_),(2,.loc 2 0),(37,Zg false a1_),(38,iv ((List.length a1_:Nat):Int)),(39,iv a2)],[(2,(Zd a0_))],[]⟩) | (.inr p)=>e = .ret∧∃ xs,resL s i56.res=some xs∧ZaW xs = .tup [bv p.1,iv p.2]) ?_ N _ aa _ a5 (by show _=_;kernel_rfl)).mono ?_)
    ·clear h a5
     rintro a3 o s h hR
     obtain rfl:=hR
     replace h:Zfr N a0_ a2 a1 a0 a3=some o:=h
     unfold Zfr at h
     refine sq (rg Za.f ?_)
     refine tq (sq ?_)
     refine it h (fun ag h => ?_) (fun ag h => ?_)
     ·refine sk (tq ?_)
      refine kq (sq ?_)
      refine bk (sq ?_)
      obtain ⟨a8,a6,h⟩:=bs h
      refine rg (Za.u 1 (Zm (ys:=[Zg false a0,iv a3]) (h:=Zk eI64 a6)) (Za.u 0 (Zu (sz:=1) (off:=0) (cs:=[.int .i64 a8]) (r:=iv a8) eI64 a6) Za.f)) (tq ?_)
      refine sq ?_
      obtain ⟨ak,ad,h⟩:=bs h
      refine rg (Za.v 5 (Zw (hc:=ZgC N a0_ a3 a8 a2 a1 ak ad)) Za.f) (tq ?_)
      refine it h (fun af h => ?_) (fun af h => ?_)
      ·refine sq (rg Za.f ?_)
       refine tq (rt ?_)
       refine br (tr ?_)
       obtain rfl:=Zb h
       exact ⟨_,rfl,rfl,Zx kr⟩
      refine sk (bn ?_)
      refine tq (kq ?_)
      refine rg Za.f ?_
      obtain rfl:=Zb h
      exact ⟨_,rfl,(by show _=_;kernel_rfl)⟩
     refine kq (xq ?_)
     refine tx ?_
     obtain rfl:=Zb h
     exact ⟨_,rfl,rfl,(by show _=_;kernel_rfl)⟩
    rintro e s hq
    rcases aa with aw | av
    ·dsimp only at h hq
     obtain ⟨rfl,hR⟩:=hq
     obtain rfl:=hR
     refine bx (bn ?_)
     refine tq (rg Za.f ?_)
     obtain rfl:=Zb h
     exact ⟨_,rfl,(by show _=_;kernel_rfl)⟩
    dsimp only at h hq
    obtain ⟨rfl,hq⟩:=hq
    refine br (br ?_)
    refine tr ?_
    obtain rfl:=Zb h
    exact ⟨_,rfl,rfl,hq⟩
   refine kq (xq ?_)
   refine tx ?_
   obtain rfl:=Zb h
   exact ⟨_,rfl,rfl,(by show _=_;kernel_rfl)⟩
  rintro e s hq
  rcases a9 with au | ar
  ·dsimp only at h hq
   obtain ⟨rfl,hR⟩:=hq
   obtain rfl:=hR
   refine bx (tq ?_)
   refine sq (rg Za.f ?_)
   refine tq (rt ?_)
   obtain rfl:=Zb h
   exact Zx kr
  dsimp only at h hq
  obtain ⟨rfl,hq⟩:=hq
  refine br (tr ?_)
  obtain rfl:=Zb h
  exact hq
 dsimp only at h hq
 obtain ⟨rfl,hq⟩:=hq
 refine br (tr ?_)
 obtain rfl:=Zb h
 exact hq
theorem ZiO (N:Nat) (a0_:Zh) (a1_:(List Int)) (a2_:Z6→Option (Bool × Int)) (a2_f:Nat) (a2_p a2_c:List AV) (ha2_n:(noLocL a2_p&&noLocL a2_c)=true) (its:List Z8) (ha2_:∀ (H:List HO) (x0:Z6) (r:Bool × Int),HP H its→a2_ x0=some r→Zgs Tryz.prog (.fn a2_f a2_p a2_c) [.agg [iv x0.Topo.Nodes,s_eB false x0.Topo.Station,Ze false x0.Topo.Links]] H (.tup [bv r.1,iv r.2]) H) (H:List HO) (hH:HP H (its)) (r:Bool × Int) (h:ZcH N a0_ a1_ a2_=some r):Zbe Tryz.prog 95 [.agg (Zc a0_),Zg false a1_,.fn a2_f a2_p a2_c] H (.tup [bv r.1,iv r.2]) H:=by
 unfold ZcH at h
 refine Zbz chk95 rfl (by simpa [noLocL,ZX.noLocL,ZX] using ha2_n) rfl (Zt _ _ _ ?_)
 refine sq (rg Za.f ?_)
 refine tq (sq ?_)
 refine rg Za.f (tq ?_)
 refine sq (sq ?_)
 obtain ⟨r1,hr1,h⟩:=bs h
 refine rg (Za.v 2 (Zw (hc:=ZhK N a0_ a1_ r1 hr1)) Za.f) (tq ?_)
 refine sq (rg Za.f ?_)
 refine tq (it h (fun hc2 h => ?_) (fun hc2 h => ?_))
 ·refine sq (rg Za.f ?_)
  refine tq (rt ?_)
  refine tr ?_
  obtain rfl:=Zb h
  exact Za4 kr kr
 refine sk (tq ?_)
 refine kq (sq ?_)
 obtain ⟨r3,hr3,h⟩:=bs h
 have hvr3:=ha2_ _ (Z6.mk a0_) _ hH hr3
 refine rg (Za.v 3 (ZcO (H:=H) (ys:=[.agg (Zc a0_)]) (hc:=hvr3)) Za.f) (tq ?_)
 refine rt ?_
 obtain rfl:=Zb h
 exact Za4 kr kr
theorem Zlf (N:Nat) (a0_:Zh) (a1_:(List Int)) (r:(List Int) × Int) (h:ZcV N a0_ a1_=some r):Zac Tryz.prog 105 [.agg (Zc a0_),Zg false a1_] (.tup [Zg false r.1,iv r.2]):=by
 unfold ZcV at h
 have hH:HP ([]:List HO) []:=trivial
 refine ZD chk105 rfl rfl (Zt _ _ _ ?_) rfl
 refine sq ?_
 obtain ⟨id1,H2,hid1,hH2,hH⟩:=HP.newCell hH [Zg false a1_]
 replace hH:HP _ [.cel id1 [Zg false a1_]]:=hH
 refine rg (Za.h 1 (Zb6 (H:=[]) (v:=Zg false a1_) (hid:=hid1) (hH:=hH2)) Za.f) (tq ?_)
 refine sq ?_
 have hlc3:=HP.get hH 0 rfl
 obtain ⟨r4,hr4,h⟩:=bs h
 have hvr4:=(ZiP N a0_ a1_ (fun x0=>ZdM N x0 a1_)   113 [] [.ptr id1 0] kr [.cel id1 [Zg false a1_]] (fun H x0 r hH h=>Zgs.of kr (ZjA N  x0 a1_ id1 H hH r h)) H2 (HP.now (HP.pick hH [0] rfl)) r4 hr4)
 refine rg (Za.u 1 (Zv (H:=H2) (id:=id1) (off:=0) (cs:=[Zg false a1_]) (c:=[Zg false a1_]) (r:=Zg false a1_) (hl:=hlc3)) (Za.v 1 (Zga (H:=H2) (ys:=[.agg (Zc a0_),Zg false a1_,.fn 113 [] [.ptr id1 0]]) kr kr kr hvr4) Za.f)) ?_
 replace hH:HP _ []:=HP.pick hH [] rfl
 refine tq (rt ?_)
 obtain rfl:=Zb h
 exact Zx kr
theorem Zbk (N:Nat) (a0_:Zs) (a1_:Int) (a2_:Int) (r:Bool) (h:ZcK N a0_ a1_ a2_=some r):Zac Tryz.prog 32 [.agg (Zd a0_),iv a1_,iv a2_] (bv r):=by
 unfold ZcK at h
 have hH:HP ([]:List HO) []:=trivial
 refine ZD chk32 rfl rfl (Zt _ _ _ ?_) rfl
 refine sq (rg Za.f ?_)
 refine tq (sq ?_)
 obtain ⟨r1,hr1,h⟩:=bs h
 refine rg (Za.v 3 (Zw (hc:=ZjM N a0_ 0 a1_ 1 a2_ r1 hr1)) Za.f) (tq ?_)
 refine sq (rgX ⟨[(6,bv (r1.1&&(r1.2==0)))],[],[]⟩ ?_ ?_)
 ·rcases Bool.eq_false_or_eq_true r1.1 with hc2 | hc3
  ·exact (EP.u 0 (Zi (c:=r1.1) (h:=hc2)) (EP.f (by simp only [hc2];kernel_rfl)))
  exact (EP.u 0 (Zi (c:=r1.1) (h:=hc3)) (EP.f (by simp only [hc3];kernel_rfl)))
 refine tq (rt ?_)
 obtain rfl:=Zb h
 exact Zx kr
theorem ZdV (N:Nat) (a0_:Zs) (a1_:(List Int)) (r:Bool) (h:Zf1 N a0_ a1_=some r):Zac Tryz.prog 33 [.agg (Zd a0_),Zg false a1_] (bv r):=by
 unfold Zf1 at h
 have hH:HP ([]:List HO) []:=trivial
 refine ZD chk33 rfl rfl (Zt _ _ _ ?_) rfl
 refine sq (rg Za.f ?_)
 refine tq (sq ?_)
 obtain ⟨r1,hr1,h⟩:=bs h
 refine rg (Za.v 2 (Zw (hc:=Zno N a0_ a1_ r1 hr1)) Za.f) (tq ?_)
 refine sq (rgX ⟨[(4,bv (r1.1&&(r1.2==0)))],[],[]⟩ ?_ ?_)
 ·rcases Bool.eq_false_or_eq_true r1.1 with hc2 | hc3
  ·exact (EP.u 0 (Zi (c:=r1.1) (h:=hc2)) (EP.f (by simp only [hc2];kernel_rfl)))
  exact (EP.u 0 (Zi (c:=r1.1) (h:=hc3)) (EP.f (by simp only [hc3];kernel_rfl)))
 refine tq (rt ?_)
 obtain rfl:=Zb h
 exact Zx kr
theorem Zlj (N:Nat) (a0_:Zh) (a1_:(List Int)) (a2_:(List Int)) (r:Bool × Int) (h:ZcX N a0_ a1_ a2_=some r):Zac Tryz.prog 79 [.agg (Zc a0_),Zg false a1_,Zg false a2_] (.tup [bv r.1,iv r.2]):=by
 unfold ZcX at h
 have hH:HP ([]:List HO) []:=trivial
 refine ZD chk79 rfl rfl (Zt _ _ _ ?_) rfl
 refine sq ?_
 obtain ⟨id1,H2,hid1,hH2,hH⟩:=HP.newCell hH [Zg false a1_]
 replace hH:HP _ [.cel id1 [Zg false a1_]]:=hH
 obtain ⟨id3,H4,hid3,hH4,hH⟩:=HP.newCell hH [Zg false a2_]
 replace hH:HP _ [.cel id3 [Zg false a2_],.cel id1 [Zg false a1_]]:=hH
 refine rg (Za.h 1 (Zb6 (H:=[]) (v:=Zg false a1_) (hid:=hid1) (hH:=hH2)) (Za.h 0 (Zb6 (H:=H2) (v:=Zg false a2_) (hid:=hid3) (hH:=hH4)) Za.f)) (tq ?_)
 refine sq ?_
 have hlc5:=HP.get hH 1 rfl
 obtain ⟨r6,hr6,h⟩:=bs h
 have hvr6:=(ZiO N a0_ a1_ (fun x0=>Zda N x0 a2_ a1_)   96 [] [.ptr id3 0,.ptr id1 0] kr [.cel id3 [Zg false a2_],.cel id1 [Zg false a1_]] (fun H x0 r hH h=>Zgs.of kr (ZjB N  x0 a2_ a1_ id3 id1 H hH r h)) H4 (HP.now (HP.pick hH [0,1] rfl)) r6 hr6)
 refine rg (Za.u 1 (Zv (H:=H4) (id:=id1) (off:=0) (cs:=[Zg false a1_]) (c:=[Zg false a1_]) (r:=Zg false a1_) (hl:=hlc5)) (Za.v 1 (Zga (H:=H4) (ys:=[.agg (Zc a0_),Zg false a1_,.fn 96 [] [.ptr id3 0,.ptr id1 0]]) kr kr kr hvr6) Za.f)) ?_
 replace hH:HP _ []:=HP.pick hH [] rfl
 refine tq (rt ?_)
 obtain rfl:=Zb h
 exact Zx kr
theorem Zmo (N:Nat) (a0_:Zh) (a1_:(List Int)) (r:Int × Int × Int) (h:Zc9 N a0_ a1_=some r):Zac Tryz.prog 94 [.agg (Zc a0_),Zg false a1_] (.tup [iv r.1,iv r.2.1,iv r.2.2]):=by
 unfold Zc9 at h
 have hH:HP ([]:List HO) []:=trivial
 refine ZD chk94 rfl rfl (Zt _ _ _ ?_) rfl
 refine sq (rg Za.f ?_)
 refine tq (sq ?_)
 obtain ⟨r1,hr1,h⟩:=bs h
 refine rg (Za.v 2 (Zw (hc:=Zlf N a0_ a1_ r1 hr1)) Za.f) (tq ?_)
 refine sq (sq ?_)
 refine rg Za.f (tq ?_)
 refine it h (fun hc2 h => ?_) (fun hc2 h => ?_)
 ·refine sq (rg Za.f ?_)
  refine tq (rt ?_)
  refine tr ?_
  obtain rfl:=Zb h
  exact Zx kr
 refine sk (tq ?_)
 refine kq (sq ?_)
 obtain ⟨e3,he3,h⟩:=bs h
 obtain ⟨e4,he4,h⟩:=bs h
 refine rq (Za.u 1 (Zm (ys:=[Zg false r1.1,iv 0]) (h:=Zk eI64 he3)) (Za.u 0 (ZN (Zu (sz:=1) (off:=0) (cs:=[.int .i64 e3]) (r:=iv e3) eI64 he3)) (Za.u 2 (Zm (ys:=[Zg false r1.1]) (h:=Zr eI64)) (Za.u 1 (Zm (ys:=[Zg false r1.1,iv (w64 (((List.length r1.1:Nat):Int) - 1))]) (h:=Zk eI64 he4)) (Za.u 0 (ZN (Zu (sz:=1) (off:=0) (cs:=[.int .i64 e4]) (r:=iv e4) eI64 he4)) Za.f))))) (tq ?_)
 refine rt ?_
 obtain rfl:=Zb h
 exact Zx kr
theorem Zj9 (N:Nat) (a0_:Zh) (a1_:(List Int)) (a2_:Int) (a3_:Int) (r:Bool) (h:Zep N a0_ a1_ a2_ a3_=some r):Zac Tryz.prog 77 [.agg (Zc a0_),Zg false a1_,iv a2_,iv a3_] (bv r):=by
 unfold Zep at h
 have hH:HP ([]:List HO) []:=trivial
 refine ZD chk77 rfl rfl (Zt _ _ _ ?_) rfl
 refine sq (rg Za.f ?_)
 refine tq (sq ?_)
 obtain ⟨r1,hr1,h⟩:=bs h
 refine rg (Za.v 2 (Zw (hc:=Zmo N a0_ a1_ r1 hr1)) Za.f) (tq ?_)
 refine sq (rgX ⟨[(8,bv ((r1.2.2==0)&&((r1.1==a2_)&&(r1.2.1==a3_))))],[],[]⟩ ?_ ?_)
 ·rcases Bool.eq_false_or_eq_true (r1.2.2==0) with hc2 | hc5
  ·refine (EP.u 1 (Zi (c:=(r1.2.2==0)) (h:=hc2)) ?_)
   rcases Bool.eq_false_or_eq_true (r1.1==a2_) with hc3 | hc4
   ·exact (EP.u 3 (Zi (c:=(r1.1==a2_)) (h:=hc3)) (EP.f (by simp only [hc2,hc3];kernel_rfl)))
   exact (EP.u 3 (Zi (c:=(r1.1==a2_)) (h:=hc4)) (EP.f (by simp only [hc2,hc4];kernel_rfl)))
  exact (EP.u 1 (Zi (c:=(r1.2.2==0)) (h:=hc5)) (EP.f (by simp only [hc5];kernel_rfl)))
 refine tq (rt ?_)
 obtain rfl:=Zb h
 exact Zx kr
theorem ZiC (N:Nat) (c0_:Zj) (c1_:Zh) (k0_:Nat) (k1_:Nat) (H:List HO) (hH:HP H [.cel k0_ (Zf c0_),.cel k1_ (Zc c1_)]) (r:Bool) (h:Zdl N c0_ c1_=some r):Zbe Tryz.prog 78 [.ptr k0_ 0,.ptr k1_ 0] H (bv r) H:=by
 unfold Zdl at h
 refine Zbz chk78 rfl rfl rfl (Zt _ _ _ ?_)
 refine sq (rg Za.f ?_)
 refine tq (sq ?_)
 refine sq ?_
 have hlc1:=HP.get hH 0 rfl
 refine rg (Za.u 1 (Zv (H:=H) (id:=k0_) (off:=9) (cs:=(Zf c0_)) (c:=[Zn false c0_.Routes]) (r:=Zn false c0_.Routes) (hl:=hlc1)) (Za.u 0 (Zm (ys:=[Zn false c0_.Routes]) (h:=Zr (eSl 1 eI64))) Za.f)) (tq ?_)
 refine it h (fun hc2 h => ?_) (fun hc2 h => ?_)
 ·refine sq (rg Za.f ?_)
  replace hH:HP _ []:=HP.pick hH [] rfl
  refine tq (rt ?_)
  refine tr ?_
  obtain rfl:=Zb h
  exact Za4 kr kr
 refine sk (tq ?_)
 refine kq (sq ?_)
 have hlc3:=HP.get hH 1 rfl
 have hlc4:=HP.get hH 0 rfl
 obtain ⟨e5,he5,h⟩:=bs h
 have hlc6:=HP.get hH 0 rfl
 obtain ⟨e7,he7,h⟩:=bs h
 obtain ⟨r8,hr8,h⟩:=bs h
 refine rq (Za.u 0 (ZN (Zv (H:=H) (id:=k1_) (off:=0) (cs:=(Zc c1_)) (c:=(Zc c1_)) (r:=.agg (Zc c1_)) (hl:=hlc3))) (Za.u 1 (ZN (Zv (H:=H) (id:=k0_) (off:=9) (cs:=(Zf c0_)) (c:=[Zn false c0_.Routes]) (r:=Zn false c0_.Routes) (hl:=hlc4))) (Za.u 0 (Zm (ys:=[Zn false c0_.Routes,iv 0]) (h:=Zk (eSl 1 eI64) he5)) (Za.u 0 (ZN (Zu (sz:=1) (off:=0) (cs:=[.sl 1 false (List.map eI64 e5)]) (r:=Zg false e5) (eSl 1 eI64) he5)) (Za.u 1 (ZN (Zv (H:=H) (id:=k0_) (off:=9) (cs:=(Zf c0_)) (c:=[Zn false c0_.Routes]) (r:=Zn false c0_.Routes) (hl:=hlc6))) (Za.u 0 (Zm (ys:=[Zn false c0_.Routes,iv 1]) (h:=Zk (eSl 1 eI64) he7)) (Za.u 0 (ZN (Zu (sz:=1) (off:=0) (cs:=[.sl 1 false (List.map eI64 e7)]) (r:=Zg false e7) (eSl 1 eI64) he7)) (Za.v 0 (Zw (hc:=Zlj N c1_ e5 e7 r8 hr8)) Za.f)))))))) ?_
 replace hH:HP _ []:=HP.pick hH [] rfl
 refine tq (sq ?_)
 refine rgX ⟨[(2,bv ((r8.2==0)&&r8.1))],[],H⟩ ?_ ?_
 ·rcases Bool.eq_false_or_eq_true (r8.2==0) with hc9 | a0
  ·exact (EP.u 1 (Zi (c:=(r8.2==0)) (h:=hc9)) (EP.f (by simp only [hc9];kernel_rfl)))
  exact (EP.u 1 (Zi (c:=(r8.2==0)) (h:=a0)) (EP.f (by simp only [a0];kernel_rfl)))
 refine tq (rt ?_)
 obtain rfl:=Zb h
 exact Za4 kr kr
theorem ZiE (N:Nat) (c0_:Zj) (c1_:Zh) (k0_:Nat) (k1_:Nat) (H:List HO) (hH:HP H [.cel k0_ (Zf c0_),.cel k1_ (Zc c1_)]) (r:Bool) (h:Zdm N c0_ c1_=some r):Zbe Tryz.prog 76 [.ptr k0_ 0,.ptr k1_ 0] H (bv r) H:=by
 unfold Zdm at h
 refine Zbz chk76 rfl rfl rfl (Zt _ _ _ ?_)
 refine sq (rg Za.f ?_)
 refine tq (sq ?_)
 refine sq ?_
 have hlc1:=HP.get hH 0 rfl
 refine rg (Za.u 1 (Zv (H:=H) (id:=k0_) (off:=9) (cs:=(Zf c0_)) (c:=[Zn false c0_.Routes]) (r:=Zn false c0_.Routes) (hl:=hlc1)) (Za.u 0 (Zm (ys:=[Zn false c0_.Routes]) (h:=Zr (eSl 1 eI64))) Za.f)) (tq ?_)
 refine bk ?_
 obtain ⟨a6,a0,h⟩:=bs h
 refine ZS ((ZL (fun (x:Int) s=>s=⟨[(0,.ptr k0_ 0),(1,.ptr k1_ 0),(6,Zn false c0_.Routes),(7,iv ((List.length c0_.Routes:Nat):Int)),(8,iv x)],[],H⟩) (fun x:Int=>Zbf N c0_ c1_ x) (fun (p:(Unit) ⊕ (Bool)) e s=>match p with | (.inl p)=>e = .exit 0∧(s=⟨[],[],H⟩) | (.inr p)=>e = .ret∧∃ xs,rawL s i76.res=some xs∧ZaW (weakVs xs)=bv p∧s.H=H) ?_ N _ a6 _ a0 (by show _=_;kernel_rfl)).mono ?_)
 ·clear h a0
  rintro i2 o s h hR
  obtain rfl:=hR
  replace h:Zbf N c0_ c1_ i2=some o:=h
  unfold Zbf at h
  refine sq (rg Za.f ?_)
  refine tq (sq ?_)
  refine it h (fun a9 h => ?_) (fun a9 h => ?_)
  ·refine sk (tq ?_)
   refine kq (sq ?_)
   refine bk (sq ?_)
   obtain ⟨a5,a1,h⟩:=bs h
   refine rg (Za.u 0 (Zm (ys:=[Zn false c0_.Routes,iv i2]) (h:=Zk (eSl 1 eI64) a1)) (Za.u 0 (Zu (sz:=1) (off:=0) (cs:=[.sl 1 false (List.map eI64 a5)]) (r:=Zg false a5) (eSl 1 eI64) a1) Za.f)) (tq ?_)
   refine sq ?_
   have a4:=HP.get hH 1 rfl
   have a3:=HP.get hH 0 rfl
   have a2:=HP.get hH 0 rfl
   obtain ⟨aa,a7,h⟩:=bs h
   refine rg (Za.u 0 (Zv (H:=H) (id:=k1_) (off:=0) (cs:=(Zc c1_)) (c:=(Zc c1_)) (r:=.agg (Zc c1_)) (hl:=a4)) (Za.u 2 (Zv (H:=H) (id:=k0_) (off:=1) (cs:=(Zf c0_)) (c:=[iv c0_.Talker]) (r:=iv c0_.Talker) (hl:=a3)) (Za.u 1 (Zv (H:=H) (id:=k0_) (off:=2) (cs:=(Zf c0_)) (c:=[iv c0_.Listener]) (r:=iv c0_.Listener) (hl:=a2)) (Za.v 0 (Zw (hc:=Zj9 N c1_ a5 c0_.Talker c0_.Listener aa a7)) Za.f)))) (tq ?_)
   refine it h (fun a8 h => ?_) (fun a8 h => ?_)
   ·refine sq (rg Za.f ?_)
    replace hH:HP _ []:=HP.pick hH [] rfl
    refine tq (rt ?_)
    refine br (tr ?_)
    obtain rfl:=Zb h
    exact ⟨_,rfl,rfl,Za4 kr kr⟩
   refine sk (bn ?_)
   refine tq (kq ?_)
   refine rg Za.f ?_
   obtain rfl:=Zb h
   exact ⟨_,rfl,(by show _=_;kernel_rfl)⟩
  refine kq ?_
  replace hH:HP _ []:=HP.pick hH [] rfl
  refine xq (tx ?_)
  obtain rfl:=Zb h
  exact ⟨_,rfl,rfl,(by show _=_;kernel_rfl)⟩
 rintro e s hq
 rcases a6 with ac | ab
 ·dsimp only at h hq
  obtain ⟨rfl,hR⟩:=hq
  obtain rfl:=hR
  replace hH:HP _ []:=HP.pick hH [] rfl
  refine bx (tq ?_)
  refine sq (rg Za.f ?_)
  refine tq (rt ?_)
  obtain rfl:=Zb h
  exact Za4 kr kr
 dsimp only at h hq
 obtain ⟨rfl,hq⟩:=hq
 refine br (tr ?_)
 obtain rfl:=Zb h
 exact hq
theorem ZgN (N:Nat) (a0_:Zh) (a1_:Zj) (r:Bool) (h:ZdE N a0_ a1_=some r):Zac Tryz.prog 45 [.agg (Zc a0_),.agg (Zf a1_)] (bv r):=by
 unfold ZdE at h
 have hH:HP ([]:List HO) []:=trivial
 refine ZD chk45 rfl rfl (Zt _ _ _ ?_) rfl
 refine sq ?_
 obtain ⟨id1,H2,hid1,hH2,hH⟩:=HP.newCell hH (Zc a0_)
 replace hH:HP _ [.cel id1 (Zc a0_)]:=hH
 obtain ⟨id3,H4,hid3,hH4,hH⟩:=HP.newCell hH (Zf a1_)
 replace hH:HP _ [.cel id3 (Zf a1_),.cel id1 (Zc a0_)]:=hH
 refine rg (Za.h 0 (Zb6 (H:=[]) (v:=.agg (Zc a0_)) (hid:=hid1) (hH:=hH2)) (Za.h 0 (Zb6 (H:=H2) (v:=.agg (Zf a1_)) (hid:=hid3) (hH:=hH4)) Za.f)) (tq ?_)
 refine sq ?_
 obtain ⟨id5,H6,hid5,hH6,hH⟩:=HP.newCell hH [.fn 68 [] [.ptr id3 0],.fn 69 [] [.ptr id1 0,.ptr id3 0],.fn 71 [] [.ptr id3 0],.fn 72 [] [.ptr id3 0],.fn 73 [] [.ptr id3 0],.fn 75 [] [.ptr id3 0],.fn 76 [] [.ptr id3 0,.ptr id1 0],.fn 78 [] [.ptr id3 0,.ptr id1 0]]
 replace hH:HP _ [.cel id5 [.fn 68 [] [.ptr id3 0],.fn 69 [] [.ptr id1 0,.ptr id3 0],.fn 71 [] [.ptr id3 0],.fn 72 [] [.ptr id3 0],.fn 73 [] [.ptr id3 0],.fn 75 [] [.ptr id3 0],.fn 76 [] [.ptr id3 0,.ptr id1 0],.fn 78 [] [.ptr id3 0,.ptr id1 0]],.cel id3 (Zf a1_),.cel id1 (Zc a0_)]:=hH
 refine rg (Za.h 8 (st_litC (H:=H4) (ys:=[.fn 68 [] [.ptr id3 0],.fn 69 [] [.ptr id1 0,.ptr id3 0],.fn 71 [] [.ptr id3 0],.fn 72 [] [.ptr id3 0],.fn 73 [] [.ptr id3 0],.fn 75 [] [.ptr id3 0],.fn 76 [] [.ptr id3 0,.ptr id1 0],.fn 78 [] [.ptr id3 0,.ptr id1 0]]) kr kr kr hid5 hH6) Za.f) (tq ?_)
 refine sq (sq ?_)
 refine rg Za.f (tq ?_)
 refine bk (ZmZ 18 ?_)
 refine ZcN ?_
 refine sq (rg Za.f ?_)
 refine tq (sq ?_)
 refine Zd1 kr ?_
 refine sk (tq ?_)
 refine kq (sq ?_)
 refine bk (sq ?_)
 have hlc7:=HP.get hH 0 rfl
 refine rg (Za.u 1 (Zv (H:=H6) (id:=id5) (off:=0) (cs:=[.fn 68 [] [.ptr id3 0],.fn 69 [] [.ptr id1 0,.ptr id3 0],.fn 71 [] [.ptr id3 0],.fn 72 [] [.ptr id3 0],.fn 73 [] [.ptr id3 0],.fn 75 [] [.ptr id3 0],.fn 76 [] [.ptr id3 0,.ptr id1 0],.fn 78 [] [.ptr id3 0,.ptr id1 0]]) (c:=[.fn 68 [] [.ptr id3 0]]) (r:=.fn 68 [] [.ptr id3 0]) (hl:=hlc7)) Za.f) (tq ?_)
 refine sq ?_
 obtain ⟨r8,hr8,h⟩:=bs h
 have hvr8:=(ZiL N  a1_ id3 H6 (HP.now (HP.pick hH [1] rfl)) r8 hr8)
 refine rg (Za.v 1 (ZcO (H:=H6) (fv:=.fn 68 [] [.ptr id3 0]) (ys:=[]) (hc:=Zgs.of kr hvr8)) Za.f) (tq ?_)
 refine it h (fun hc9 h => ?_) (fun hc9 h => ?_)
 ·refine sq (rg Za.f ?_)
  replace hH:HP _ []:=HP.pick hH [] rfl
  refine tq (rt ?_)
  refine br (tr ?_)
  refine tr (br ?_)
  refine tr ?_
  obtain rfl:=Zb h
  exact Zx kr
 refine sk (bn ?_)
 refine tq (kq ?_)
 refine rg Za.f (tq ?_)
 refine ZcN ?_
 refine sq (rg Za.f ?_)
 refine tq (sq ?_)
 refine Zd1 kr ?_
 refine sk (tq ?_)
 refine kq (sq ?_)
 refine bk (sq ?_)
 have ad:=HP.get hH 0 rfl
 refine rg (Za.u 1 (Zv (H:=H6) (id:=id5) (off:=1) (cs:=[.fn 68 [] [.ptr id3 0],.fn 69 [] [.ptr id1 0,.ptr id3 0],.fn 71 [] [.ptr id3 0],.fn 72 [] [.ptr id3 0],.fn 73 [] [.ptr id3 0],.fn 75 [] [.ptr id3 0],.fn 76 [] [.ptr id3 0,.ptr id1 0],.fn 78 [] [.ptr id3 0,.ptr id1 0]]) (c:=[.fn 69 [] [.ptr id1 0,.ptr id3 0]]) (r:=.fn 69 [] [.ptr id1 0,.ptr id3 0]) (hl:=ad)) Za.f) (tq ?_)
 refine sq ?_
 obtain ⟨aB,al,h⟩:=bs h
 have a6:=(ZiK N  a0_ a1_ id1 id3 H6 (HP.now (HP.pick hH [2,1] rfl)) aB al)
 refine rg (Za.v 1 (ZcO (H:=H6) (fv:=.fn 69 [] [.ptr id1 0,.ptr id3 0]) (ys:=[]) (hc:=Zgs.of kr a6)) Za.f) (tq ?_)
 refine it h (fun au h => ?_) (fun au h => ?_)
 ·refine sq (rg Za.f ?_)
  replace hH:HP _ []:=HP.pick hH [] rfl
  refine tq (rt ?_)
  refine br (tr ?_)
  refine tr (br ?_)
  refine tr ?_
  obtain rfl:=Zb h
  exact Zx kr
 refine sk (bn ?_)
 refine tq (kq ?_)
 refine rg Za.f (tq ?_)
 refine ZcN ?_
 refine sq (rg Za.f ?_)
 refine tq (sq ?_)
 refine Zd1 kr ?_
 refine sk (tq ?_)
 refine kq (sq ?_)
 refine bk (sq ?_)
 have ac:=HP.get hH 0 rfl
 refine rg (Za.u 1 (Zv (H:=H6) (id:=id5) (off:=2) (cs:=[.fn 68 [] [.ptr id3 0],.fn 69 [] [.ptr id1 0,.ptr id3 0],.fn 71 [] [.ptr id3 0],.fn 72 [] [.ptr id3 0],.fn 73 [] [.ptr id3 0],.fn 75 [] [.ptr id3 0],.fn 76 [] [.ptr id3 0,.ptr id1 0],.fn 78 [] [.ptr id3 0,.ptr id1 0]]) (c:=[.fn 71 [] [.ptr id3 0]]) (r:=.fn 71 [] [.ptr id3 0]) (hl:=ac)) Za.f) (tq ?_)
 refine sq ?_
 obtain ⟨aA,ak,h⟩:=bs h
 have a5:=(ZiJ N  a1_ id3 H6 (HP.now (HP.pick hH [1] rfl)) aA ak)
 refine rg (Za.v 1 (ZcO (H:=H6) (fv:=.fn 71 [] [.ptr id3 0]) (ys:=[]) (hc:=Zgs.of kr a5)) Za.f) (tq ?_)
 refine it h (fun ar h => ?_) (fun ar h => ?_)
 ·refine sq (rg Za.f ?_)
  replace hH:HP _ []:=HP.pick hH [] rfl
  refine tq (rt ?_)
  refine br (tr ?_)
  refine tr (br ?_)
  refine tr ?_
  obtain rfl:=Zb h
  exact Zx kr
 refine sk (bn ?_)
 refine tq (kq ?_)
 refine rg Za.f (tq ?_)
 refine ZcN ?_
 refine sq (rg Za.f ?_)
 refine tq (sq ?_)
 refine Zd1 kr ?_
 refine sk (tq ?_)
 refine kq (sq ?_)
 refine bk (sq ?_)
 have ab:=HP.get hH 0 rfl
 refine rg (Za.u 1 (Zv (H:=H6) (id:=id5) (off:=3) (cs:=[.fn 68 [] [.ptr id3 0],.fn 69 [] [.ptr id1 0,.ptr id3 0],.fn 71 [] [.ptr id3 0],.fn 72 [] [.ptr id3 0],.fn 73 [] [.ptr id3 0],.fn 75 [] [.ptr id3 0],.fn 76 [] [.ptr id3 0,.ptr id1 0],.fn 78 [] [.ptr id3 0,.ptr id1 0]]) (c:=[.fn 72 [] [.ptr id3 0]]) (r:=.fn 72 [] [.ptr id3 0]) (hl:=ab)) Za.f) (tq ?_)
 refine sq ?_
 obtain ⟨az,aj,h⟩:=bs h
 have a4:=(ZiI N  a1_ id3 H6 (HP.now (HP.pick hH [1] rfl)) az aj)
 refine rg (Za.v 1 (ZcO (H:=H6) (fv:=.fn 72 [] [.ptr id3 0]) (ys:=[]) (hc:=Zgs.of kr a4)) Za.f) (tq ?_)
 refine it h (fun aq h => ?_) (fun aq h => ?_)
 ·refine sq (rg Za.f ?_)
  replace hH:HP _ []:=HP.pick hH [] rfl
  refine tq (rt ?_)
  refine br (tr ?_)
  refine tr (br ?_)
  refine tr ?_
  obtain rfl:=Zb h
  exact Zx kr
 refine sk (bn ?_)
 refine tq (kq ?_)
 refine rg Za.f (tq ?_)
 refine ZcN ?_
 refine sq (rg Za.f ?_)
 refine tq (sq ?_)
 refine Zd1 kr ?_
 refine sk (tq ?_)
 refine kq (sq ?_)
 refine bk (sq ?_)
 have aa:=HP.get hH 0 rfl
 refine rg (Za.u 1 (Zv (H:=H6) (id:=id5) (off:=4) (cs:=[.fn 68 [] [.ptr id3 0],.fn 69 [] [.ptr id1 0,.ptr id3 0],.fn 71 [] [.ptr id3 0],.fn 72 [] [.ptr id3 0],.fn 73 [] [.ptr id3 0],.fn 75 [] [.ptr id3 0],.fn 76 [] [.ptr id3 0,.ptr id1 0],.fn 78 [] [.ptr id3 0,.ptr id1 0]]) (c:=[.fn 73 [] [.ptr id3 0]]) (r:=.fn 73 [] [.ptr id3 0]) (hl:=aa)) Za.f) (tq ?_)
 refine sq ?_
 obtain ⟨ay,ai,h⟩:=bs h
 have a3:=(ZiH N  a1_ id3 H6 (HP.now (HP.pick hH [1] rfl)) ay ai)
 refine rg (Za.v 1 (ZcO (H:=H6) (fv:=.fn 73 [] [.ptr id3 0]) (ys:=[]) (hc:=Zgs.of kr a3)) Za.f) (tq ?_)
 refine it h (fun ap h => ?_) (fun ap h => ?_)
 ·refine sq (rg Za.f ?_)
  replace hH:HP _ []:=HP.pick hH [] rfl
  refine tq (rt ?_)
  refine br (tr ?_)
  refine tr (br ?_)
  refine tr ?_
  obtain rfl:=Zb h
  exact Zx kr
 refine sk (bn ?_)
 refine tq (kq ?_)
 refine rg Za.f (tq ?_)
 refine ZcN ?_
 refine sq (rg Za.f ?_)
 refine tq (sq ?_)
 refine Zd1 kr ?_
 refine sk (tq ?_)
 refine kq (sq ?_)
 refine bk (sq ?_)
 have a9:=HP.get hH 0 rfl
 refine rg (Za.u 1 (Zv (H:=H6) (id:=id5) (off:=5) (cs:=[.fn 68 [] [.ptr id3 0],.fn 69 [] [.ptr id1 0,.ptr id3 0],.fn 71 [] [.ptr id3 0],.fn 72 [] [.ptr id3 0],.fn 73 [] [.ptr id3 0],.fn 75 [] [.ptr id3 0],.fn 76 [] [.ptr id3 0,.ptr id1 0],.fn 78 [] [.ptr id3 0,.ptr id1 0]]) (c:=[.fn 75 [] [.ptr id3 0]]) (r:=.fn 75 [] [.ptr id3 0]) (hl:=a9)) Za.f) (tq ?_)
 refine sq ?_
 obtain ⟨ax,ag,h⟩:=bs h
 have a2:=(ZiG N  a1_ id3 H6 (HP.now (HP.pick hH [1] rfl)) ax ag)
 refine rg (Za.v 1 (ZcO (H:=H6) (fv:=.fn 75 [] [.ptr id3 0]) (ys:=[]) (hc:=Zgs.of kr a2)) Za.f) (tq ?_)
 refine it h (fun ao h => ?_) (fun ao h => ?_)
 ·refine sq (rg Za.f ?_)
  replace hH:HP _ []:=HP.pick hH [] rfl
  refine tq (rt ?_)
  refine br (tr ?_)
  refine tr (br ?_)
  refine tr ?_
  obtain rfl:=Zb h
  exact Zx kr
 refine sk (bn ?_)
 refine tq (kq ?_)
 refine rg Za.f (tq ?_)
 refine ZcN ?_
 refine sq (rg Za.f ?_)
 refine tq (sq ?_)
 refine Zd1 kr ?_
 refine sk (tq ?_)
 refine kq (sq ?_)
 refine bk (sq ?_)
 have a8:=HP.get hH 0 rfl
 refine rg (Za.u 1 (Zv (H:=H6) (id:=id5) (off:=6) (cs:=[.fn 68 [] [.ptr id3 0],.fn 69 [] [.ptr id1 0,.ptr id3 0],.fn 71 [] [.ptr id3 0],.fn 72 [] [.ptr id3 0],.fn 73 [] [.ptr id3 0],.fn 75 [] [.ptr id3 0],.fn 76 [] [.ptr id3 0,.ptr id1 0],.fn 78 [] [.ptr id3 0,.ptr id1 0]]) (c:=[.fn 76 [] [.ptr id3 0,.ptr id1 0]]) (r:=.fn 76 [] [.ptr id3 0,.ptr id1 0]) (hl:=a8)) Za.f) (tq ?_)
 refine sq ?_
 obtain ⟨aw,af,h⟩:=bs h
 have a1:=(ZiE N  a1_ a0_ id3 id1 H6 (HP.now (HP.pick hH [1,2] rfl)) aw af)
 refine rg (Za.v 1 (ZcO (H:=H6) (fv:=.fn 76 [] [.ptr id3 0,.ptr id1 0]) (ys:=[]) (hc:=Zgs.of kr a1)) Za.f) (tq ?_)
 refine it h (fun an h => ?_) (fun an h => ?_)
 ·refine sq (rg Za.f ?_)
  replace hH:HP _ []:=HP.pick hH [] rfl
  refine tq (rt ?_)
  refine br (tr ?_)
  refine tr (br ?_)
  refine tr ?_
  obtain rfl:=Zb h
  exact Zx kr
 refine sk (bn ?_)
 refine tq (kq ?_)
 refine rg Za.f (tq ?_)
 refine ZcN ?_
 refine sq (rg Za.f ?_)
 refine tq (sq ?_)
 refine Zd1 kr ?_
 refine sk (tq ?_)
 refine kq (sq ?_)
 refine bk (sq ?_)
 have a7:=HP.get hH 0 rfl
 refine rg (Za.u 1 (Zv (H:=H6) (id:=id5) (off:=7) (cs:=[.fn 68 [] [.ptr id3 0],.fn 69 [] [.ptr id1 0,.ptr id3 0],.fn 71 [] [.ptr id3 0],.fn 72 [] [.ptr id3 0],.fn 73 [] [.ptr id3 0],.fn 75 [] [.ptr id3 0],.fn 76 [] [.ptr id3 0,.ptr id1 0],.fn 78 [] [.ptr id3 0,.ptr id1 0]]) (c:=[.fn 78 [] [.ptr id3 0,.ptr id1 0]]) (r:=.fn 78 [] [.ptr id3 0,.ptr id1 0]) (hl:=a7)) Za.f) (tq ?_)
 refine sq ?_
 obtain ⟨av,ae,h⟩:=bs h
 have a0:=(ZiC N  a1_ a0_ id3 id1 H6 (HP.now (HP.pick hH [1,2] rfl)) av ae)
 refine rg (Za.v 1 (ZcO (H:=H6) (fv:=.fn 78 [] [.ptr id3 0,.ptr id1 0]) (ys:=[]) (hc:=Zgs.of kr a0)) Za.f) (tq ?_)
 refine it h (fun am h => ?_) (fun am h => ?_)
 ·refine sq (rg Za.f ?_)
  replace hH:HP _ []:=HP.pick hH [] rfl
  refine tq (rt ?_)
  refine br (tr ?_)
  refine tr (br ?_)
  refine tr ?_
  obtain rfl:=Zb h
  exact Zx kr
 refine sk (bn ?_)
 refine tq (kq ?_)
 refine rg Za.f (tq ?_)
 refine ZcN ?_
 refine sq (rg Za.f ?_)
 refine tq (sq ?_)
 refine ZjN kr ?_
 refine kq ?_
 replace hH:HP _ []:=HP.pick hH [] rfl
 refine xq (tx ?_)
 refine tx (bx ?_)
 refine tq (sq ?_)
 refine rg Za.f (tq ?_)
 refine rt ?_
 obtain rfl:=Zb h
 exact Zx kr
theorem Zfj (N:Nat) (a0_:Zh) (a1_:(List Zj)) (r:Int) (h:Zch N a0_ a1_=some r):Zac Tryz.prog 18 [.agg (Zc a0_),ZG false a1_] (iv r):=by
 unfold Zch at h
 have hH:HP ([]:List HO) []:=trivial
 refine ZD chk18 rfl rfl (Zt _ _ _ ?_) rfl
 refine sq (rg Za.f ?_)
 refine tq (sq ?_)
 refine sq ?_
 obtain ⟨r1,hr1,h⟩:=bs h
 refine rg (Za.v 1 (Zw (hc:=Zf5 N a0_ r1 hr1)) Za.f) (tq ?_)
 refine sq (rg Za.f ?_)
 refine tq (it h (fun hc2 h => ?_) (fun hc2 h => ?_))
 ·refine sq (rg Za.f ?_)
  refine tq (rt ?_)
  refine tr ?_
  obtain rfl:=Zb h
  exact Zx kr
 refine sk (tq ?_)
 refine kq (sq ?_)
 refine sq (rg (Za.u 1 (Zm (ys:=[ZG false a1_]) (h:=Zr ZY)) Za.f) ?_)
 refine tq (it h (fun hc3 h => ?_) (fun hc3 h => ?_))
 ·refine sq (rg Za.f ?_)
  refine tq (rt ?_)
  refine tr ?_
  obtain rfl:=Zb h
  exact Zx kr
 refine sk (tq ?_)
 refine kq (sq ?_)
 refine sq (rg (Za.u 1 (Zm (ys:=[ZG false a1_]) (h:=Zr ZY)) Za.f) ?_)
 refine tq (bk ?_)
 obtain ⟨ai,ab,h⟩:=bs h
 refine ZS ((ZL (fun (x:Int) s=>s=⟨[(1,ZG false a1_),(2,.loc 2 0),(19,ZG false a1_),(20,iv ((List.length a1_:Nat):Int)),(21,iv x)],[(2,(Zc a0_))],[]⟩) (fun x:Int=>Za5 N a0_ a1_ x) (fun (p:(Unit) ⊕ (Int)) e s=>match p with | (.inl p)=>e = .exit 0∧(s=⟨[(1,ZG false a1_)],[],[]⟩) | (.inr p)=>e = .ret∧∃ xs,resL s i18.res=some xs∧ZaW xs=iv p) ?_ N _ ai _ ab (by show _=_;kernel_rfl)).mono ?_)
 ·clear h ab
  rintro i4 o s h hR
  obtain rfl:=hR
  replace h:Za5 N a0_ a1_ i4=some o:=h
  unfold Za5 at h
  refine sq (rg Za.f ?_)
  refine tq (sq ?_)
  refine it h (fun am h => ?_) (fun am h => ?_)
  ·refine sk (tq ?_)
   refine kq (sq ?_)
   refine bk (sq ?_)
   obtain ⟨a1,ac,h⟩:=bs h
   refine rg (Za.u 0 (Zm (ys:=[ZG false a1_,iv i4]) (h:=Zk ZY ac)) (Za.u 0 (Zu (sz:=10) (off:=0) (cs:=[.int .i64 a1.Id,.int .i64 a1.Talker,.int .i64 a1.Listener,.int .i64 a1.Class,.int .i64 a1.Size,.int .i64 a1.Period,.int .i64 a1.Bucket.Burst,.int .i64 a1.Bucket.Rate,.int .i64 a1.Deadline,.sl 1 false (List.map (eSl 1 eI64) a1.Routes)]) (r:=.agg (Zf a1)) ZY ac) Za.f)) (tq ?_)
   refine sq ?_
   obtain ⟨ap,ak,h⟩:=bs h
   refine rg (Za.v 2 (Zw (hc:=ZgN N a0_ a1 ap ak)) Za.f) (tq ?_)
   refine it h (fun al h => ?_) (fun al h => ?_)
   ·refine sq (rg Za.f ?_)
    refine tq (rt ?_)
    refine br (tr ?_)
    obtain rfl:=Zb h
    exact ⟨_,rfl,rfl,Zx kr⟩
   refine sk (bn ?_)
   refine tq (kq ?_)
   refine rg Za.f ?_
   obtain rfl:=Zb h
   exact ⟨_,rfl,(by show _=_;kernel_rfl)⟩
  refine kq (xq ?_)
  refine tx ?_
  obtain rfl:=Zb h
  exact ⟨_,rfl,rfl,(by show _=_;kernel_rfl)⟩
 rintro e s hq
 rcases ai with aw | ar
 ·dsimp only at h hq
  obtain ⟨rfl,hR⟩:=hq
  obtain rfl:=hR
  refine bx (tq ?_)
  refine sq ?_
  obtain ⟨a2,aq,ad,an,hH⟩:=HP.newMp hH 0
  replace hH:HP _ [mpT a2 0 (encE ke1 bv [])]:=hH
  refine rg (Za.h 0 (st_mkMap' (H:=[]) 0 kr ad an) Za.f) (tq ?_)
  refine sq (sq ?_)
  refine rg (Za.u 1 (Zm (ys:=[ZG false a1_]) (h:=Zr ZY)) Za.f) (tq ?_)
  refine bk ?_
  obtain ⟨aa,a5,h⟩:=bs h
  refine ZS ((ZL (fun (x:Int × (List (Int × Bool))) s=>∃ (a4:List HO),s=⟨[(8,.map a2),(31,ZG false a1_),(32,iv ((List.length a1_:Nat):Int)),(33,iv x.1)],[],a4⟩∧HP a4 [mpT a2 0 (encE ke1 bv x.2)]) (fun x:Int × (List (Int × Bool))=>Zav N a1_ x.1 x.2) (fun (p:(Unit) ⊕ (Int)) e s=>match p with | (.inl p)=>e = .exit 2∧(∃ (a7:List HO),s=⟨[],[],a7⟩∧HP a7 []) | (.inr p)=>e = .ret∧∃ xs,resL s i18.res=some xs∧ZaW xs=iv p) ?_ N _ aa _ a5 ⟨aq,(by show _=_;kernel_rfl),(HP.pick hH [0] rfl)⟩).mono ?_)
  ·clear h a5
   rintro ⟨aj,a3⟩ o s h hR
   obtain ⟨a4,rfl,hH⟩:=hR
   replace hH:HP _ [mpT a2 0 (encE ke1 bv a3)]:=hH
   replace h:Zav N a1_ aj a3=some o:=h
   unfold Zav at h
   refine sq (rg Za.f ?_)
   refine tq (sq ?_)
   refine it h (fun af h => ?_) (fun af h => ?_)
   ·refine sk (tq ?_)
    refine kq (sq ?_)
    refine bk (sq ?_)
    obtain ⟨a0,a6,h⟩:=bs h
    refine rg (Za.u 0 (Zm (ys:=[ZG false a1_,iv aj]) (h:=Zk ZY a6)) (Za.u 0 (Zu (sz:=10) (off:=0) (cs:=[.int .i64 a0.Id,.int .i64 a0.Talker,.int .i64 a0.Listener,.int .i64 a0.Class,.int .i64 a0.Size,.int .i64 a0.Period,.int .i64 a0.Bucket.Burst,.int .i64 a0.Bucket.Rate,.int .i64 a0.Deadline,.sl 1 false (List.map (eSl 1 eI64) a0.Routes)]) (r:=.agg (Zf a0)) ZY a6) Za.f)) (tq ?_)
    refine sq (sq ?_)
    have a9:=HP.get hH 0 rfl
    refine rg (Za.u 3 (st_mapG (H:=a4) (id:=a2) (kn:=0) (ke:=ke1) (ve:=bv) (l:=a3) (x:=a0.Id) (z:=false) (r:=bv (ZfJ a3 a0.Id false)) kr kr a9 kr kr (fun _=>rfl)) Za.f) (tq ?_)
    refine it h (fun ae h => ?_) (fun ae h => ?_)
    ·refine sq (rg Za.f ?_)
     replace hH:HP _ []:=HP.pick hH [] rfl
     refine tq (rt ?_)
     refine tr (br ?_)
     refine tr ?_
     obtain rfl:=Zb h
     exact ⟨_,rfl,rfl,Zx kr⟩
    refine sk (tq ?_)
    refine kq ?_
    have a8:=HP.get hH 0 rfl
    obtain ⟨ao,ag,hH⟩:=HP.setMp (k:=0) hH rfl (encE ke1 bv (ZcT a3 a0.Id true))
    replace hH:HP _ [mpT a2 0 (encE ke1 bv (ZcT a3 a0.Id true))]:=hH
    refine rg (Za.o 3 (st_mapS (H:=a4) (id:=a2) (kn:=0) (ke:=ke1) (ve:=bv) (l:=a3) (x:=a0.Id) (v:=true) (y:=bv true) kr kr a8 kr kr ag) Za.f) (bn ?_)
    refine tq (kq ?_)
    refine rg Za.f ?_
    obtain rfl:=Zb h
    exact ⟨_,rfl,⟨ao,(by show _=_;kernel_rfl),(HP.pick hH [0] rfl)⟩⟩
   refine kq ?_
   replace hH:HP _ []:=HP.pick hH [] rfl
   refine xq (tx ?_)
   obtain rfl:=Zb h
   exact ⟨_,rfl,rfl,⟨a4,(by show _=_;kernel_rfl),(HP.pick hH [] rfl)⟩⟩
  rintro e s hq
  rcases aa with av | au
  ·dsimp only at h hq
   obtain ⟨rfl,hR⟩:=hq
   obtain ⟨a7,rfl,hH⟩:=hR
   replace hH:HP _ []:=hH
   refine bx (tq ?_)
   refine sq (rg Za.f ?_)
   refine tq (rt ?_)
   obtain rfl:=Zb h
   exact Zx kr
  dsimp only at h hq
  obtain ⟨rfl,hq⟩:=hq
  refine br (tr ?_)
  obtain rfl:=Zb h
  exact hq
 dsimp only at h hq
 obtain ⟨rfl,hq⟩:=hq
 refine br (tr ?_)
 obtain rfl:=Zb h
 exact hq
theorem Zia (N:Nat) (a0_:Zh) (a1_:ZE) (a2_:Zj) (a3_:Int) (r:Int) (h:ZeW N a0_ a1_ a2_ a3_=some r):Zac Tryz.prog 35 [.agg (Zc a0_),.agg (Zl a1_),.agg (Zf a2_),iv a3_] (iv r):=by
 unfold ZeW at h
 have hH:HP ([]:List HO) []:=trivial
 refine ZD chk35 rfl rfl (Zt _ _ _ ?_) rfl
 refine sq (rg Za.f ?_)
 refine tq (sq ?_)
 refine sq ?_
 obtain ⟨r1,hr1,h⟩:=bs h
 refine rg (Za.v 1 (Zw (hc:=Zf5 N a0_ r1 hr1)) Za.f) (tq ?_)
 refine sq (rg Za.f ?_)
 refine tq (it h (fun hc2 h => ?_) (fun hc2 h => ?_))
 ·refine sq (rg Za.f ?_)
  refine tq (rt ?_)
  refine tr ?_
  obtain rfl:=Zb h
  exact Zx kr
 refine sk (tq ?_)
 refine kq (sq ?_)
 refine sq ?_
 obtain ⟨r3,hr3,h⟩:=bs h
 refine rg (Za.v 1 (Zw (hc:=ZeH N a1_ r3 hr3)) Za.f) (tq ?_)
 refine sq (rg Za.f ?_)
 refine tq (it h (fun hc4 h => ?_) (fun hc4 h => ?_))
 ·refine sq (rg Za.f ?_)
  refine tq (rt ?_)
  refine tr ?_
  obtain rfl:=Zb h
  exact Zx kr
 refine sk (tq ?_)
 refine kq (sq ?_)
 refine sq ?_
 obtain ⟨r5,hr5,h⟩:=bs h
 refine rg (Za.v 2 (Zw (hc:=ZgN N a0_ a2_ r5 hr5)) Za.f) (tq ?_)
 refine it h (fun hc6 h => ?_) (fun hc6 h => ?_)
 ·refine sq (rg Za.f ?_)
  refine tq (rt ?_)
  refine tr ?_
  obtain rfl:=Zb h
  exact Zx kr
 refine sk (tq ?_)
 refine kq (sq ?_)
 refine sq ?_
 obtain ⟨a1,hj,h⟩:=bs h
 refine rgR (fun s=>s=⟨[(36,bv a1)],[],[]⟩) ?_ ?_
 ·clear h
  rcases Zz hj with ⟨hc7,hj⟩ | ⟨hc8,hj⟩
  ·obtain rfl:=Zb hj
   exact (EP.u 2 (Zi (c:=(a2_.Class != 7)) (h:=hc7)) (EP.f (by show _=_;kernel_rfl)))
  refine (EP.u 2 (Zi (c:=(a2_.Class != 7)) (h:=hc8)) (EP.u 4 (Zm (ys:=[Zn false a2_.Routes]) (h:=Zr (eSl 1 eI64))) ?_))
  obtain ⟨r9,hr9,hj⟩:=bs hj
  obtain rfl:=Zb hj
  exact (EP.v 1 (Zw (hc:=Zab N a3_ 0 (w64 (((List.length a2_.Routes:Nat):Int) - 1)) r9 hr9)) (EP.f (by show _=_;kernel_rfl)))
 clear hj
 rintro s hR
 obtain rfl:=hR
 refine tq (it h (fun a0 h => ?_) (fun a0 h => ?_))
 ·refine sq (rg Za.f ?_)
  refine tq (rt ?_)
  refine tr ?_
  obtain rfl:=Zb h
  exact Zx kr
 refine sk (tq ?_)
 refine kq (sq ?_)
 refine rg Za.f (tq ?_)
 refine rt ?_
 obtain rfl:=Zb h
 exact Zx kr
theorem ZhD (N:Nat) (a0_:Zh) (a1_:ZE) (a2_:Zj) (a3_:Int) (r:(List ZR) × Int) (h:Zd4 N a0_ a1_ a2_ a3_=some r):Zac Tryz.prog 13 [.agg (Zc a0_),.agg (Zl a1_),.agg (Zf a2_),iv a3_] (.tup [Z1 false r.1,iv r.2]):=by
 unfold Zd4 at h
 have hH:HP ([]:List HO) []:=trivial
 refine ZD chk13 rfl rfl (Zt _ _ _ ?_) rfl
 refine sq (rgS ⟨[(3,iv a3_),(4,.loc 4 0),(5,.loc 5 0),(6,.loc 6 0)],[(4,(Zc a0_)),(5,(Zl a1_)),(6,(Zf a2_))],[]⟩ Za.f kr ?_)
 refine tq (sq ?_)
 refine sq ?_
 obtain ⟨r1,hr1,h⟩:=bs h
 refine rgS ⟨[(3,iv a3_),(4,.loc 4 0),(5,.loc 5 0),(6,.loc 6 0),(10,iv r1)],[(4,(Zc a0_)),(5,(Zl a1_)),(6,(Zf a2_))],[]⟩ (Za.v 4 (Zw (hc:=Zia N a0_ a1_ a2_ a3_ r1 hr1)) Za.f) kr ?_
 refine tq (sq ?_)
 refine rgS ⟨[(3,iv a3_),(4,.loc 4 0),(5,.loc 5 0),(6,.loc 6 0),(10,iv r1),(19,bv (r1 != 0))],[(4,(Zc a0_)),(5,(Zl a1_)),(6,(Zf a2_))],[]⟩ Za.f kr ?_
 refine tq (it h (fun hc2 h => ?_) (fun hc2 h => ?_))
 ·refine sq (rgS ⟨[(8,Z1 true []),(9,iv r1)],[],[]⟩ Za.f kr ?_)
  refine tq (rt ?_)
  refine tr ?_
  obtain rfl:=Zb h
  exact Zx kr
 refine sk (tq ?_)
 refine kq (sq ?_)
 obtain ⟨id3,H4,hid3,hH4,hH⟩:=HP.newCell hH [Z1 true []]
 replace hH:HP _ [.cel id3 [Z1 true []]]:=hH
 refine rgS ⟨[(3,iv a3_),(4,.loc 4 0),(5,.loc 5 0),(6,.loc 6 0),(11,.ptr id3 0)],[(4,(Zc a0_)),(5,(Zl a1_)),(6,(Zf a2_))],H4⟩ (Za.h 0 (ZgP (H:=[]) kr hid3 hH4) Za.f) kr ?_
 refine tq (sq ?_)
 refine sq ?_
 obtain ⟨r5,hr5,h⟩:=bs h
 obtain ⟨id7,id8,id9,a4,H6,hvr5,hpr5⟩:=ZhB N a0_ a1_ a2_ a3_ H4 r5 hr5
 replace hH:HP _ [.cel id7 (Zf r5.1),.cel id8 [iv r5.2.1],.cel id9 (Zc r5.2.2.1),.cel a4 (Zl r5.2.2.2),.cel id3 [Z1 true []]]:=HP.callee (fp:=[]) (rest:=[.cel id3 [Z1 true []]]) hH hpr5
 refine rgS ⟨[(11,.ptr id3 0),(25,.fn 58 [] [.ptr id7 0,.ptr id8 0,.ptr id9 0,.ptr a4 0])],[],H6⟩ (Za.v 4 (Zga (H:=H4) (ys:=[.agg (Zc a0_),.agg (Zl a1_),.agg (Zf a2_),iv a3_]) kr kr kr hvr5) Za.f) kr ?_
 refine tq (bk ?_)
 obtain ⟨a6,af,h⟩:=bs h
 have a8:∀ (a5:ZR) (s:(List ZR)) (r:((List ZR)) × Bool) (H:List HO) (its:List Z8),(fun (s:(List ZR)) (its:List Z8)=>∃ (a1:AV),its=[.arr a1 5 false (List.map ZV s),.cel id3 [a1]]++[.lp (List.length H6) (lcOf Tryz.prog i13.nt [26] Zfq Zfo) [(11,.ptr id3 0)] .ready]) s its→HP H its→(fun (s:(List ZR)) (a5:ZR)=>ZdL (fun v:(List ZR)=>ZbE N v a5) s) s a5=some r→∃ H' its',Zhh Tryz.prog (List.length H6) [.agg (Zcm a5)] H r.2 H'∧(fun (s:(List ZR)) (its:List Z8)=>∃ (a1:AV),its=[.arr a1 5 false (List.map ZV s),.cel id3 [a1]]++[.lp (List.length H6) (lcOf Tryz.prog i13.nt [26] Zfq Zfo) [(11,.ptr id3 0)] .ready]) r.1 its'∧Fp H H' its its':=by
  clear h
  intro a5 s r ac its hT hH h
  obtain ⟨q,hb,rfl⟩:=ZhO h
  clear h
  obtain ⟨vs,rfl⟩:∃ v,v=s:=⟨s,rfl⟩
  obtain ⟨ae,rfl⟩:∃ v,v=vs:=⟨vs,rfl⟩
  obtain ⟨a1,rfl⟩:=hT
  replace h:ZbE N ae a5=some q:=hb
  clear hb
  unfold ZbE at h
  replace hH:Fp _ _ _ [.arr a1 5 false (List.map ZV ae),.cel id3 [a1],.lp (List.length H6) (lcOf Tryz.prog i13.nt [26] Zfq Zfo) [(11,.ptr id3 0)] .ready]:=Fp.refl hH
  have a0:=ZW (Fp.get hH 0 rfl)
  suffices hs:∃ H',Zhh Tryz.prog (List.length H6) [.agg (Zcm a5)] ac true H'∧∃ its',(fun (s:(List ZR)) (its:List Z8)=>∃ (a1:AV),its=[.arr a1 5 false (List.map ZV s),.cel id3 [a1]]++[.lp (List.length H6) (lcOf Tryz.prog i13.nt [26] Zfq Zfo) [(11,.ptr id3 0)] .ready]) q its'∧Fp ac H' [.arr a1 5 false (List.map ZV ae),.cel id3 [a1],.lp (List.length H6) (lcOf Tryz.prog i13.nt [26] Zfq Zfo) [(11,.ptr id3 0)] .ready] its' by
   obtain ⟨H',h1,its',h2,h3⟩:=hs
   exact ⟨H',its',h1,h2,h3⟩
  refine ZgL (id:=(List.length H6)) (args:=[.agg (Zcm a5)]) (H:=ac) (n:=i13.nt) (ps:=[26]) (fr0:=[(11,.ptr id3 0)]) (ia:=Zfq) (ib:=Zfo) true (fun H'=>∃ its',(fun (s:(List ZR)) (its:List Z8)=>∃ (a1:AV),its=[.arr a1 5 false (List.map ZV s),.cel id3 [a1]]++[.lp (List.length H6) (lcOf Tryz.prog i13.nt [26] Zfq Zfo) [(11,.ptr id3 0)] .ready]) q its'∧Fp ac H' [.arr a1 5 false (List.map ZV ae),.cel id3 [a1],.lp (List.length H6) (lcOf Tryz.prog i13.nt [26] Zfq Zfo) [(11,.ptr id3 0)] .ready] its') (Fp.get hH 2 rfl) rfl (by decide +kernel) rfl ?_
  show vc _ _ _ _ ⟨[(11,.ptr id3 0),(26,.agg (Zcm a5))],[],ac⟩
  refine rgS ⟨[(11,.ptr id3 0),(12,.loc 12 0)],[(12,(Zcm a5))],ac⟩ Za.f kr ?_
  refine ZkP (k:=2) hH rfl ?_
  intro ab hH
  replace hH:Fp _ _ _ [.arr a1 5 false (List.map ZV ae),.cel id3 [a1],.lp (List.length H6) (lcOf Tryz.prog i13.nt [26] Zfq Zfo) [(11,.ptr id3 0)] .busy]:=hH
  show vc _ _ _ _ ⟨[(11,.ptr id3 0),(12,.loc 12 0)],[(12,(Zcm a5))],ab⟩
  refine bk ?_
  have aa:=Fp.get hH 1 rfl
  obtain ⟨ad,ag,h⟩:=bs h
  obtain ⟨a3,al,ai,hH⟩:=Fp.app (k:=0) (a:=a1) (sz:=5) (frz:=false) ZV hH rfl ag
  replace hH:Fp _ _ _ [.arr a3 5 false (List.map ZV ad),.cel id3 [a1],.lp (List.length H6) (lcOf Tryz.prog i13.nt [26] Zfq Zfo) [(11,.ptr id3 0)] .busy]:=hH
  have a2:=ZW (Fp.get hH 0 rfl)
  obtain ⟨ak,aj,hH⟩:=Fp.setCell (k:=1) (off:=0) (cs:=[a1]) (vs:=[a3]) (cs':=[a3]) hH rfl kr
  replace hH:Fp _ _ _ [.arr a3 5 false (List.map ZV ad),.cel id3 [a3],.lp (List.length H6) (lcOf Tryz.prog i13.nt [26] Zfq Zfo) [(11,.ptr id3 0)] .busy]:=hH
  refine rgS ⟨[],[],ak⟩ (Za.u 0 (Zv (H:=ab) (id:=id3) (off:=0) (cs:=[a1]) (c:=[a1]) (r:=a1) (by cases a0<;>kernel_rfl) (by cases a0<;>kernel_rfl) aa (by cases a0<;>kernel_rfl) (by cases a0<;>kernel_rfl) (by cases a0<;>kernel_rfl)) (Za.h 2 (Ze1 (H:=ab) (a:=a1) (b:=Z1 true [a5]) (by cases a0<;>kernel_rfl) (by cases a0<;>kernel_rfl) (by cases a0<;>kernel_rfl) (by cases a0<;>kernel_rfl) ai) (Za.o 0 (ZfQ (H:=al) (v:=a3) (cs:=[a3]) (by cases a2<;>kernel_rfl) (by cases a2<;>kernel_rfl) (by cases a2<;>kernel_rfl) (by cases a2<;>kernel_rfl) (by cases a2<;>kernel_rfl) aj) Za.f))) kr ?_
  refine bn ?_
  obtain rfl:=Zb h
  exact rbd (k:=2) (.ready) hH rfl rfl (fun H6 hH=>⟨_,⟨a3,Eq.refl _⟩,(Fp.pick hH [0,1,2] rfl)⟩)
 refine Zh9 (s:=⟨[(11,.ptr id3 0),(25,.fn 58 [] [.ptr id7 0,.ptr id8 0,.ptr id9 0,.ptr a4 0])],[],H6⟩) [(11,.ptr id3 0)] (FrOK.cons kr kr FrOK.nil) kr (fun H=>rfl) (capT:=[.cel id7 (Zf r5.1),.cel id8 [iv r5.2.1],.cel id9 (Zc r5.2.2.1),.cel a4 (Zl r5.2.2.2)]) (cells0:=[.arr (.p (.sl 5 true [])) 5 false (List.map ZV []),.cel id3 [Z1 true []]]) (rest:=[]) (HP.now (HP.pick (HP.nilArr hH 5 false) [1,2,3,4,0,5] rfl)) (fun (s:(List ZR)) (its:List Z8)=>∃ (a1:AV),its=[.arr a1 5 false (List.map ZV s),.cel id3 [a1]]++[.lp (List.length H6) (lcOf Tryz.prog i13.nt [26] Zfq Zfo) [(11,.ptr id3 0)] .ready]) [] a6 (by exact ⟨(.p (.sl 5 true [])),Eq.refl _⟩) (fun H its hT hH=>Zgv N (fun (s:(List ZR)) (a5:ZR)=>ZdL (fun v:(List ZR)=>ZbE N v a5) s) r5.1 r5.2.1 r5.2.2.1 r5.2.2.2 [] id7 id8 id9 a4 (List.length H6) (fun (s:(List ZR)) (its:List Z8)=>∃ (a1:AV),its=[.arr a1 5 false (List.map ZV s),.cel id3 [a1]]++[.lp (List.length H6) (lcOf Tryz.prog i13.nt [26] Zfq Zfo) [(11,.ptr id3 0)] .ready]) a8 H its hT hH a6 af) ?_
 rintro its hT
 obtain ⟨a1,rfl⟩:=hT
 refine ⟨_,_,rfl,?_⟩
 intro a7 hF
 replace hH:HP _ [.cel id7 (Zf r5.1),.cel id8 [iv r5.2.1],.cel id9 (Zc r5.2.2.1),.cel a4 (Zl r5.2.2.2),.arr a1 5 false (List.map ZV a6),.cel id3 [a1]]:=HP.after (HP.pick (HP.nilArr hH 5 false) [1,2,3,4,0,5] rfl) hF
 have a0:=ZW (HP.get hH 4 rfl)
 refine ZiZ (S:=⟨[(11,.ptr id3 0),(25,.fn 58 [] [.ptr id7 0,.ptr id8 0,.ptr id9 0,.ptr a4 0])],[],a7⟩) ?_
 refine bn (tq ?_)
 refine kq ?_
 replace hH:HP _ [.arr a1 5 false (List.map ZV a6),.cel id3 [a1]]:=HP.pick hH [4,5] rfl
 refine sq ?_
 have a9:=HP.get hH 1 rfl
 refine rgS ⟨[(8,a1),(9,iv 0)],[],a7⟩ (Za.u 0 (Zv (H:=a7) (id:=id3) (off:=0) (cs:=[a1]) (c:=[a1]) (r:=a1) (by cases a0<;>kernel_rfl) (by cases a0<;>kernel_rfl) a9 (by cases a0<;>kernel_rfl) (by cases a0<;>kernel_rfl) (by cases a0<;>kernel_rfl)) Za.f) (by cases a0<;>kernel_rfl) ?_
 replace hH:HP _ [.arr a1 5 false (List.map ZV a6)]:=HP.pick hH [0] rfl
 refine tq (rt ?_)
 obtain rfl:=Zb h
 exact Zd6 (H:=a7) (ys:=[a1,iv 0]) (xs:=[.p (.sl 5 false (List.map ZV a6)),iv 0]) (by cases a0<;>kernel_rfl) (by cases a0<;>kernel_rfl) (ZaJ (HP.pure (k:=0) (frz:=false) ZV hH rfl).2 (ZaJ rfl ZbJ)) kr
theorem ZhC (N:Nat) (a0_:Zh) (a1_:ZE) (a2_:Zj) (a3_:Int) (r:Int × Int) (h:Zd3 N a0_ a1_ a2_ a3_=some r):Zac Tryz.prog 14 [.agg (Zc a0_),.agg (Zl a1_),.agg (Zf a2_),iv a3_] (.tup [iv r.1,iv r.2]):=by
 unfold Zd3 at h
 have hH:HP ([]:List HO) []:=trivial
 refine ZD chk14 rfl rfl (Zt _ _ _ ?_) rfl
 refine sq ?_
 obtain ⟨id1,H2,hid1,hH2,hH⟩:=HP.newCell hH (Zc a0_)
 replace hH:HP _ [.cel id1 (Zc a0_)]:=hH
 obtain ⟨id3,H4,hid3,hH4,hH⟩:=HP.newCell hH (Zl a1_)
 replace hH:HP _ [.cel id3 (Zl a1_),.cel id1 (Zc a0_)]:=hH
 refine rgS ⟨[(3,iv a3_),(4,.ptr id1 0),(5,.ptr id3 0),(6,.loc 6 0)],[(6,(Zf a2_))],H4⟩ (Za.h 0 (Zb6 (H:=[]) (v:=.agg (Zc a0_)) (hid:=hid1) (hH:=hH2)) (Za.h 0 (Zb6 (H:=H2) (v:=.agg (Zl a1_)) (hid:=hid3) (hH:=hH4)) Za.f)) kr ?_
 refine tq (sq ?_)
 refine sq ?_
 have hlc5:=HP.get hH 1 rfl
 have hlc6:=HP.get hH 0 rfl
 obtain ⟨r7,hr7,h⟩:=bs h
 refine rgS ⟨[(3,iv a3_),(4,.ptr id1 0),(5,.ptr id3 0),(6,.loc 6 0),(10,iv r7)],[(6,(Zf a2_))],H4⟩ (Za.u 0 (Zv (H:=H4) (id:=id1) (off:=0) (cs:=(Zc a0_)) (c:=(Zc a0_)) (r:=.agg (Zc a0_)) (hl:=hlc5)) (Za.u 0 (Zv (H:=H4) (id:=id3) (off:=0) (cs:=(Zl a1_)) (c:=(Zl a1_)) (r:=.agg (Zl a1_)) (hl:=hlc6)) (Za.v 2 (Zw (hc:=Zia N a0_ a1_ a2_ a3_ r7 hr7)) Za.f))) kr ?_
 refine tq (sq ?_)
 refine rgS ⟨[(3,iv a3_),(4,.ptr id1 0),(5,.ptr id3 0),(6,.loc 6 0),(10,iv r7),(19,bv (r7 != 0))],[(6,(Zf a2_))],H4⟩ Za.f kr ?_
 refine tq (it h (fun hc8 h => ?_) (fun hc8 h => ?_))
 ·refine sq (rgS ⟨[(8,iv 0),(9,iv r7)],[],H4⟩ Za.f kr ?_)
  replace hH:HP _ []:=HP.pick hH [] rfl
  refine tq (rt ?_)
  refine tr ?_
  obtain rfl:=Zb h
  exact Zx kr
 refine sk (tq ?_)
 refine kq (sq ?_)
 obtain ⟨id9,av,hid9,ar,hH⟩:=HP.newCell hH [iv 0]
 replace hH:HP _ [.cel id9 [iv 0],.cel id3 (Zl a1_),.cel id1 (Zc a0_)]:=hH
 obtain ⟨ao,aq,hH⟩:=HP.setCell (k:=0) (off:=0) (cs:=[iv 0]) (vs:=[iv 0]) (cs':=[iv 0]) hH rfl kr
 replace hH:HP _ [.cel id9 [iv 0],.cel id3 (Zl a1_),.cel id1 (Zc a0_)]:=hH
 refine rgS ⟨[(3,iv a3_),(4,.ptr id1 0),(5,.ptr id3 0),(6,.loc 6 0),(11,.ptr id9 0)],[(6,(Zf a2_))],ao⟩ (Za.h 0 (ZgP (H:=H4) kr hid9 ar) (Za.o 0 (Zaw (H:=av) (v:=iv 0) (hw:=aq)) Za.f)) kr ?_
 refine tq (sq ?_)
 refine sq ?_
 have am:=HP.get hH 2 rfl
 have al:=HP.get hH 1 rfl
 obtain ⟨a1,ap,h⟩:=bs h
 obtain ⟨a7,a6,a5,a4,a3,ai,aj⟩:=ZhB N a0_ a1_ a2_ a3_ ao a1 ap
 replace hH:HP _ [.cel a7 (Zf a1.1),.cel a6 [iv a1.2.1],.cel a5 (Zc a1.2.2.1),.cel a4 (Zl a1.2.2.2),.cel id9 [iv 0],.cel id3 (Zl a1_),.cel id1 (Zc a0_)]:=HP.callee (fp:=[]) (rest:=[.cel id9 [iv 0],.cel id3 (Zl a1_),.cel id1 (Zc a0_)]) hH aj
 refine rgS ⟨[(4,.ptr id1 0),(5,.ptr id3 0),(11,.ptr id9 0),(25,.fn 58 [] [.ptr a7 0,.ptr a6 0,.ptr a5 0,.ptr a4 0])],[],a3⟩ (Za.u 0 (Zv (H:=ao) (id:=id1) (off:=0) (cs:=(Zc a0_)) (c:=(Zc a0_)) (r:=.agg (Zc a0_)) (hl:=am)) (Za.u 0 (Zv (H:=ao) (id:=id3) (off:=0) (cs:=(Zl a1_)) (c:=(Zl a1_)) (r:=.agg (Zl a1_)) (hl:=al)) (Za.v 2 (Zga (H:=ao) (ys:=[.agg (Zc a0_),.agg (Zl a1_),.agg (Zf a2_),iv a3_]) kr kr kr ai) Za.f))) kr ?_
 refine tq (bk ?_)
 obtain ⟨a2,ak,h⟩:=bs h
 have ab:∀ (a0:ZR) (s:Int) (r:(Int) × Bool) (H:List HO) (its:List Z8),(fun (s:Int) (its:List Z8)=>its=[.cel id9 [iv s],.cel id3 (Zl a1_),.cel id1 (Zc a0_)]++[.lp (List.length a3) (lcOf Tryz.prog i14.nt [26] ZfZ ZfY) [(4,.ptr id1 0),(5,.ptr id3 0),(11,.ptr id9 0)] .ready]) s its→HP H its→(fun (s:Int) (a0:ZR)=>ZdL (fun v:Int=>ZbD N a0_ a1_ v a0) s) s a0=some r→∃ H' its',Zhh Tryz.prog (List.length a3) [.agg (Zcm a0)] H r.2 H'∧(fun (s:Int) (its:List Z8)=>its=[.cel id9 [iv s],.cel id3 (Zl a1_),.cel id1 (Zc a0_)]++[.lp (List.length a3) (lcOf Tryz.prog i14.nt [26] ZfZ ZfY) [(4,.ptr id1 0),(5,.ptr id3 0),(11,.ptr id9 0)] .ready]) r.1 its'∧Fp H H' its its':=by
  clear h
  intro a0 s r ag its hT hH h
  obtain ⟨q,hb,rfl⟩:=ZhO h
  clear h
  obtain ⟨vs,rfl⟩:∃ v,v=s:=⟨s,rfl⟩
  obtain ⟨i22,rfl⟩:∃ v,v=vs:=⟨vs,rfl⟩
  obtain rfl:=hT
  replace h:ZbD N a0_ a1_ i22 a0=some q:=hb
  clear hb
  unfold ZbD at h
  replace hH:Fp _ _ _ [.cel id9 [iv i22],.cel id3 (Zl a1_),.cel id1 (Zc a0_),.lp (List.length a3) (lcOf Tryz.prog i14.nt [26] ZfZ ZfY) [(4,.ptr id1 0),(5,.ptr id3 0),(11,.ptr id9 0)] .ready]:=Fp.refl hH
  suffices hs:∃ H',Zhh Tryz.prog (List.length a3) [.agg (Zcm a0)] ag true H'∧∃ its',(fun (s:Int) (its:List Z8)=>its=[.cel id9 [iv s],.cel id3 (Zl a1_),.cel id1 (Zc a0_)]++[.lp (List.length a3) (lcOf Tryz.prog i14.nt [26] ZfZ ZfY) [(4,.ptr id1 0),(5,.ptr id3 0),(11,.ptr id9 0)] .ready]) q its'∧Fp ag H' [.cel id9 [iv i22],.cel id3 (Zl a1_),.cel id1 (Zc a0_),.lp (List.length a3) (lcOf Tryz.prog i14.nt [26] ZfZ ZfY) [(4,.ptr id1 0),(5,.ptr id3 0),(11,.ptr id9 0)] .ready] its' by
   obtain ⟨H',h1,its',h2,h3⟩:=hs
   exact ⟨H',its',h1,h2,h3⟩
  refine ZgL (id:=(List.length a3)) (args:=[.agg (Zcm a0)]) (H:=ag) (n:=i14.nt) (ps:=[26]) (fr0:=[(4,.ptr id1 0),(5,.ptr id3 0),(11,.ptr id9 0)]) (ia:=ZfZ) (ib:=ZfY) true (fun H'=>∃ its',(fun (s:Int) (its:List Z8)=>its=[.cel id9 [iv s],.cel id3 (Zl a1_),.cel id1 (Zc a0_)]++[.lp (List.length a3) (lcOf Tryz.prog i14.nt [26] ZfZ ZfY) [(4,.ptr id1 0),(5,.ptr id3 0),(11,.ptr id9 0)] .ready]) q its'∧Fp ag H' [.cel id9 [iv i22],.cel id3 (Zl a1_),.cel id1 (Zc a0_),.lp (List.length a3) (lcOf Tryz.prog i14.nt [26] ZfZ ZfY) [(4,.ptr id1 0),(5,.ptr id3 0),(11,.ptr id9 0)] .ready] its') (Fp.get hH 3 rfl) rfl (by decide +kernel) rfl ?_
  show vc _ _ _ _ ⟨[(4,.ptr id1 0),(5,.ptr id3 0),(11,.ptr id9 0),(26,.agg (Zcm a0))],[],ag⟩
  refine rgS ⟨[(4,.ptr id1 0),(5,.ptr id3 0),(11,.ptr id9 0),(12,.loc 12 0)],[(12,(Zcm a0))],ag⟩ Za.f kr ?_
  refine ZkP (k:=3) hH rfl ?_
  intro a9 hH
  replace hH:Fp _ _ _ [.cel id9 [iv i22],.cel id3 (Zl a1_),.cel id1 (Zc a0_),.lp (List.length a3) (lcOf Tryz.prog i14.nt [26] ZfZ ZfY) [(4,.ptr id1 0),(5,.ptr id3 0),(11,.ptr id9 0)] .busy]:=hH
  show vc _ _ _ _ ⟨[(4,.ptr id1 0),(5,.ptr id3 0),(11,.ptr id9 0),(12,.loc 12 0)],[(12,(Zcm a0))],a9⟩
  refine bk ?_
  have ae:=Fp.get hH 2 rfl
  obtain ⟨a8,aa,h⟩:=bs h
  have ad:=Fp.get hH 1 rfl
  obtain ⟨au,an,hH⟩:=Fp.setCell (k:=0) (off:=0) (cs:=[iv i22]) (vs:=[iv (w64 ((w64 ((w64 (a0.Open+a0.Long))+a8.Delay))+a1_.Proc))]) (cs':=[iv (w64 ((w64 ((w64 (a0.Open+a0.Long))+a8.Delay))+a1_.Proc))]) hH rfl kr
  replace hH:Fp _ _ _ [.cel id9 [iv (w64 ((w64 ((w64 (a0.Open+a0.Long))+a8.Delay))+a1_.Proc))],.cel id3 (Zl a1_),.cel id1 (Zc a0_),.lp (List.length a3) (lcOf Tryz.prog i14.nt [26] ZfZ ZfY) [(4,.ptr id1 0),(5,.ptr id3 0),(11,.ptr id9 0)] .busy]:=hH
  refine rqS ⟨[],[],au⟩ (Za.u 6 (ZN (Zv (H:=a9) (id:=id1) (off:=2) (cs:=(Zc a0_)) (c:=[Ze false a0_.Links]) (r:=Ze false a0_.Links) (hl:=ae))) (Za.u 3 (Zm (ys:=[Ze false a0_.Links,iv (w64 (Int.tdiv a0.Port 2))]) (h:=Zk Zp aa)) (Za.u 1 (ZN (Zu (sz:=4) (off:=3) (cs:=[.int .i64 a8.Delay]) (r:=iv a8.Delay) Zp aa)) (Za.u 2 (ZN (Zv (H:=a9) (id:=id3) (off:=2) (cs:=(Zl a1_)) (c:=[iv a1_.Proc]) (r:=iv a1_.Proc) (hl:=ad))) (Za.o 1 (Zm6 (Zaw (H:=a9) (v:=iv (w64 ((w64 ((w64 (a0.Open+a0.Long))+a8.Delay))+a1_.Proc))) (hw:=an)) kr) Za.f))))) kr ?_
  refine bn ?_
  obtain rfl:=Zb h
  exact rbd (k:=3) (.ready) hH rfl rfl (fun H6 hH=>⟨_,(Eq.refl _),(Fp.pick hH [0,1,2,3] rfl)⟩)
 refine Zh9 (s:=⟨[(4,.ptr id1 0),(5,.ptr id3 0),(11,.ptr id9 0),(25,.fn 58 [] [.ptr a7 0,.ptr a6 0,.ptr a5 0,.ptr a4 0])],[],a3⟩) [(4,.ptr id1 0),(5,.ptr id3 0),(11,.ptr id9 0)] (FrOK.cons kr kr (FrOK.cons kr kr (FrOK.cons kr kr FrOK.nil))) kr (fun H=>rfl) (capT:=[.cel a7 (Zf a1.1),.cel a6 [iv a1.2.1],.cel a5 (Zc a1.2.2.1),.cel a4 (Zl a1.2.2.2)]) (cells0:=[.cel id9 [iv 0],.cel id3 (Zl a1_),.cel id1 (Zc a0_)]) (rest:=[]) (HP.now (HP.pick hH [0,1,2,3,4,5,6] rfl)) (fun (s:Int) (its:List Z8)=>its=[.cel id9 [iv s],.cel id3 (Zl a1_),.cel id1 (Zc a0_)]++[.lp (List.length a3) (lcOf Tryz.prog i14.nt [26] ZfZ ZfY) [(4,.ptr id1 0),(5,.ptr id3 0),(11,.ptr id9 0)] .ready]) 0 a2 (by exact (Eq.refl _)) (fun H its hT hH=>Zgv N (fun (s:Int) (a0:ZR)=>ZdL (fun v:Int=>ZbD N a0_ a1_ v a0) s) a1.1 a1.2.1 a1.2.2.1 a1.2.2.2 0 a7 a6 a5 a4 (List.length a3) (fun (s:Int) (its:List Z8)=>its=[.cel id9 [iv s],.cel id3 (Zl a1_),.cel id1 (Zc a0_)]++[.lp (List.length a3) (lcOf Tryz.prog i14.nt [26] ZfZ ZfY) [(4,.ptr id1 0),(5,.ptr id3 0),(11,.ptr id9 0)] .ready]) ab H its hT hH a2 ak) ?_
 rintro its hT
 obtain rfl:=hT
 refine ⟨_,_,rfl,?_⟩
 intro af hF
 replace hH:HP _ [.cel a7 (Zf a1.1),.cel a6 [iv a1.2.1],.cel a5 (Zc a1.2.2.1),.cel a4 (Zl a1.2.2.2),.cel id9 [iv a2],.cel id3 (Zl a1_),.cel id1 (Zc a0_)]:=HP.after (HP.pick hH [0,1,2,3,4,5,6] rfl) hF
 refine ZiZ (S:=⟨[(4,.ptr id1 0),(5,.ptr id3 0),(11,.ptr id9 0),(25,.fn 58 [] [.ptr a7 0,.ptr a6 0,.ptr a5 0,.ptr a4 0])],[],af⟩) ?_
 refine bn (tq ?_)
 refine kq ?_
 replace hH:HP _ [.cel id9 [iv a2]]:=HP.pick hH [4] rfl
 refine sq ?_
 have ac:=HP.get hH 0 rfl
 refine rgS ⟨[(8,iv a2),(9,iv 0)],[],af⟩ (Za.u 0 (Zv (H:=af) (id:=id9) (off:=0) (cs:=[iv a2]) (c:=[iv a2]) (r:=iv a2) (hl:=ac)) Za.f) kr ?_
 replace hH:HP _ []:=HP.pick hH [] rfl
 refine tq (rt ?_)
 obtain rfl:=Zb h
 exact Zx kr
theorem ZiV (N:Nat) (a0_:Zas) (a1_:Zh) (a2_:ZE) (a3_:Zj) (p0_:Nat) (bc0_0_:AV) (bc0_1_:AV) (H:List HO) (hH:HP H [.cel p0_ [bc0_0_,bc0_1_,bv a0_.late],.arr bc0_0_ 1 true (List.map eI64 a0_.Problem.Periods),.arr bc0_1_ 4 true (List.map Zq a0_.Problem.Uses)]) (r:Int × Zas) (h:Zdq N a0_ a1_ a2_ a3_=some r):∃ (oc_0_0_:AV) (oc_0_1_:AV) (H':List HO),Zbe Tryz.prog 20 [.ptr p0_ 0,.agg (Zc a1_),.agg (Zl a2_),.agg (Zf a3_)] H (iv r.1) H'∧Fp H H' [.cel p0_ [bc0_0_,bc0_1_,bv a0_.late],.arr bc0_0_ 1 true (List.map eI64 a0_.Problem.Periods),.arr bc0_1_ 4 true (List.map Zq a0_.Problem.Uses)] [.cel p0_ [oc_0_0_,oc_0_1_,bv r.2.late],.arr oc_0_0_ 1 true (List.map eI64 r.2.Problem.Periods),.arr oc_0_1_ 4 true (List.map Zq r.2.Problem.Uses)]:=by
 suffices hs:∃ r' H',Zbe Tryz.prog 20 [.ptr p0_ 0,.agg (Zc a1_),.agg (Zl a2_),.agg (Zf a3_)] H r' H'∧∃ (oc_0_0_:AV) (oc_0_1_:AV),r'=iv r.1∧Fp H H' [.cel p0_ [bc0_0_,bc0_1_,bv a0_.late],.arr bc0_0_ 1 true (List.map eI64 a0_.Problem.Periods),.arr bc0_1_ 4 true (List.map Zq a0_.Problem.Uses)] [.cel p0_ [oc_0_0_,oc_0_1_,bv r.2.late],.arr oc_0_0_ 1 true (List.map eI64 r.2.Problem.Periods),.arr oc_0_1_ 4 true (List.map Zq r.2.Problem.Uses)] by
  obtain ⟨_,H',h1,oc_0_0_,oc_0_1_,he,h2⟩:=hs
  exact ⟨oc_0_0_,oc_0_1_,H',he ▸ h1,h2⟩
 unfold Zdq at h
 replace hH:=Fp.refl hH
 have hfbc0_0_:=ZW (Fp.get hH 1 rfl)
 have hfbc0_1_:=ZW (Fp.get hH 2 rfl)
 refine Zh4 chk20 [] (fun r' H'=>∃ (oc_0_0_:AV) (oc_0_1_:AV),r'=iv r.1∧Fp H H' [.cel p0_ [bc0_0_,bc0_1_,bv a0_.late],.arr bc0_0_ 1 true (List.map eI64 a0_.Problem.Periods),.arr bc0_1_ 4 true (List.map Zq a0_.Problem.Uses)] [.cel p0_ [oc_0_0_,oc_0_1_,bv r.2.late],.arr oc_0_0_ 1 true (List.map eI64 r.2.Problem.Periods),.arr oc_0_1_ 4 true (List.map Zq r.2.Problem.Uses)]) (fun r' H' q=>by obtain ⟨oc_0_0_,oc_0_1_,e,hp⟩:=q;subst e;have hfoc_0_0_:=ZW (Fp.get hp 1 rfl);have hfoc_0_1_:=ZW (Fp.get hp 2 rfl);show ZX _=true;cases hfoc_0_0_<;>cases hfoc_0_1_<;>rfl) rfl (by cases hfbc0_0_<;>cases hfbc0_1_<;>kernel_rfl) ?_
 refine sq (rg Za.f ?_)
 refine tq (sq ?_)
 have hlc1:=Fp.get hH 0 rfl
 have hln2:=Fp.len (k:=1) (a:=bc0_0_) (sz:=1) (frz:=true) (l:=a0_.Problem.Periods) eI64 hH rfl
 refine rg (Za.u 4 (Zv (H:=H) (id:=p0_) (off:=0) (cs:=[bc0_0_,bc0_1_,bv a0_.late]) (c:=[bc0_0_]) (r:=bc0_0_) (by cases hfbc0_0_<;>kernel_rfl) (by cases hfbc0_0_<;>kernel_rfl) hlc1 (by cases hfbc0_0_<;>kernel_rfl) (by cases hfbc0_0_<;>kernel_rfl) (by cases hfbc0_0_<;>kernel_rfl)) (Za.u 0 (Zm (ys:=[bc0_0_]) (by cases hfbc0_0_<;>kernel_rfl) hln2) Za.f)) (tq ?_)
 refine sq ?_
 have hlc3:=Fp.get hH 0 rfl
 obtain ⟨l6,hl6,h⟩:=bs h
 obtain ⟨a4,H5,ha4,hH⟩:=Fp.app (k:=1) (a:=bc0_0_) (sz:=1) (frz:=true) eI64 hH rfl hl6
 replace hH:Fp _ _ _ [.cel p0_ [bc0_0_,bc0_1_,bv a0_.late],.arr a4 1 true (List.map eI64 l6),.arr bc0_1_ 4 true (List.map Zq a0_.Problem.Uses)]:=hH
 have hfa4:=ZW (Fp.get hH 1 rfl)
 obtain ⟨H7,hH7,hH⟩:=Fp.setCell (k:=0) (off:=0) (cs:=[bc0_0_,bc0_1_,bv a0_.late]) (vs:=[a4]) (cs':=[a4,bc0_1_,bv a0_.late]) hH rfl kr
 replace hH:Fp _ _ _ [.cel p0_ [a4,bc0_1_,bv a0_.late],.arr a4 1 true (List.map eI64 l6),.arr bc0_1_ 4 true (List.map Zq a0_.Problem.Uses)]:=hH
 refine rq (Za.u 5 (ZN (Zv (H:=H) (id:=p0_) (off:=0) (cs:=[bc0_0_,bc0_1_,bv a0_.late]) (c:=[bc0_0_]) (r:=bc0_0_) (by cases hfbc0_0_<;>kernel_rfl) (by cases hfbc0_0_<;>kernel_rfl) hlc3 (by cases hfbc0_0_<;>kernel_rfl) (by cases hfbc0_0_<;>kernel_rfl) (by cases hfbc0_0_<;>kernel_rfl)) (by cases hfbc0_0_<;>kernel_rfl)) (Za.h 3 (Ze1 (H:=H) (a:=bc0_0_) (b:=Zg true [a3_.Period]) (by cases hfbc0_0_<;>kernel_rfl) (by cases hfbc0_0_<;>kernel_rfl) (by cases hfbc0_0_<;>kernel_rfl) (by cases hfbc0_0_<;>kernel_rfl) ha4) (Za.o 3 (Zm6 (ZfQ (H:=H5) (v:=a4) (cs:=[a4]) (by cases hfa4<;>kernel_rfl) (by cases hfa4<;>kernel_rfl) (by cases hfa4<;>kernel_rfl) (by cases hfa4<;>kernel_rfl) (by cases hfa4<;>kernel_rfl) hH7) (by cases hfa4<;>kernel_rfl)) Za.f))) (tq ?_)
 refine sq (sq ?_)
 refine rg (Za.u 2 (Zm (ys:=[Zn false a3_.Routes]) (h:=Zr (eSl 1 eI64))) Za.f) (tq ?_)
 refine bk ?_
 obtain ⟨ax,ao,h⟩:=bs h
 refine ZS ((ZL (fun (x:Int × Bool × (List ZB)) s=>∃ (a8:AV) (a9:AV) (b2:List HO),s=⟨[(0,.ptr p0_ 0),(5,.loc 5 0),(6,.loc 6 0),(7,.loc 7 0),(9,iv ((List.length a0_.Problem.Periods:Nat):Int)),(40,iv ((List.length a3_.Routes:Nat):Int)),(41,iv x.1)],[(5,(Zc a1_)),(6,(Zl a2_)),(7,(Zf a3_))],b2⟩∧Fp H b2 [.cel p0_ [bc0_0_,bc0_1_,bv a0_.late],.arr bc0_0_ 1 true (List.map eI64 a0_.Problem.Periods),.arr bc0_1_ 4 true (List.map Zq a0_.Problem.Uses)] [.arr a8 1 true (List.map eI64 l6),.arr a9 4 true (List.map Zq x.2.2),.cel p0_ [a8,a9,bv x.2.1]]) (fun x:Int × Bool × (List ZB)=>ZbL N a0_ a1_ a2_ a3_ l6 x.1 x.2.1 x.2.2) (fun (p:(Bool × (List ZB)) ⊕ (Int × Zas)) e s=>match p with | (.inl p)=>e = .exit 0∧(∃ (am:AV) (al:AV) (aS:List HO),s=⟨[],[],aS⟩∧Fp H aS [.cel p0_ [bc0_0_,bc0_1_,bv a0_.late],.arr bc0_0_ 1 true (List.map eI64 a0_.Problem.Periods),.arr bc0_1_ 4 true (List.map Zq a0_.Problem.Uses)] [.arr am 1 true (List.map eI64 l6),.arr al 4 true (List.map Zq p.2),.cel p0_ [am,al,bv p.1]]) | (.inr p)=>e = .ret∧∃ xs,rawL (wS [] s) i20.res=some xs∧∃ (oc_0_0_:AV) (oc_0_1_:AV),ZaW xs=iv p.1∧Fp H (weakH [] s.H) [.cel p0_ [bc0_0_,bc0_1_,bv a0_.late],.arr bc0_0_ 1 true (List.map eI64 a0_.Problem.Periods),.arr bc0_1_ 4 true (List.map Zq a0_.Problem.Uses)] [.cel p0_ [oc_0_0_,oc_0_1_,bv p.2.late],.arr oc_0_0_ 1 true (List.map eI64 p.2.Problem.Periods),.arr oc_0_1_ 4 true (List.map Zq p.2.Problem.Uses)]) ?_ N _ ax _ ao ⟨a4,bc0_1_,H7,(by show _=_;kernel_rfl),(Fp.pick hH [1,2,0] rfl)⟩).mono ?_)
 ·clear h ao
  rintro ⟨i11,b12,bl⟩ o s h hR
  obtain ⟨a8,a9,b2,rfl,hH⟩:=hR
  replace hH:Fp _ _ _ [.arr a8 1 true (List.map eI64 l6),.arr a9 4 true (List.map Zq bl),.cel p0_ [a8,a9,bv b12]]:=hH
  have hfa8:=ZW (Fp.get hH 0 rfl)
  have hfa9:=ZW (Fp.get hH 1 rfl)
  replace h:ZbL N a0_ a1_ a2_ a3_ l6 i11 b12 bl=some o:=h
  unfold ZbL at h
  refine sq (rg Za.f ?_)
  refine tq (sq ?_)
  refine it h (fun aX h => ?_) (fun aX h => ?_)
  ·refine sk (tq ?_)
   refine kq (sq ?_)
   refine bk (sq ?_)
   refine rg Za.f (tq ?_)
   refine sq ?_
   obtain ⟨ag,aV,h⟩:=bs h
   refine rg (Za.v 4 (Zw (hc:=ZhD N a1_ a2_ a3_ i11 ag aV)) Za.f) (tq ?_)
   refine sq (sq ?_)
   refine rg Za.f (tq ?_)
   refine it h (fun aW h => ?_) (fun aW h => ?_)
   ·refine sq (rg Za.f ?_)
    refine tq (rt ?_)
    refine tr (br ?_)
    refine tr ?_
    obtain rfl:=Zb h
    exact ⟨_,rfl,rfl,⟨[iv ag.2],kr,a8,a9,kr,Fp.pk hH [2,0,1] rfl⟩⟩
   refine sk (tq ?_)
   refine kq (sq ?_)
   refine sq (rg (Za.u 1 (Zm (ys:=[Z1 false ag.1]) (h:=Zr ZV)) Za.f) ?_)
   refine tq (bk ?_)
   obtain ⟨ad,ap,h⟩:=bs h
   refine ZS ((ZL (fun (x:Int × (List ZB)) s=>∃ (a6:AV) (a7:AV) (an:List HO),s=⟨[(0,.ptr p0_ 0),(5,.loc 5 0),(6,.loc 6 0),(7,.loc 7 0),(9,iv ((List.length a0_.Problem.Periods:Nat):Int)),(10,iv i11),(40,iv ((List.length a3_.Routes:Nat):Int)),(41,iv i11),(55,Z1 false ag.1),(56,iv ((List.length ag.1:Nat):Int)),(57,iv x.1)],[(5,(Zc a1_)),(6,(Zl a2_)),(7,(Zf a3_))],an⟩∧Fp H an [.cel p0_ [bc0_0_,bc0_1_,bv a0_.late],.arr bc0_0_ 1 true (List.map eI64 a0_.Problem.Periods),.arr bc0_1_ 4 true (List.map Zq a0_.Problem.Uses)] [.arr a6 1 true (List.map eI64 l6),.arr a7 4 true (List.map Zq x.2),.cel p0_ [a6,a7,bv b12]]) (fun x:Int × (List ZB)=>ZbK N a0_ a2_ a3_ ag x.1 x.2) (fun (p:(List ZB)) e s=>e = .exit 2∧(∃ (a1:AV) (a0:AV) (ab:List HO),s=⟨[(0,.ptr p0_ 0),(5,.loc 5 0),(6,.loc 6 0),(7,.loc 7 0),(9,iv ((List.length a0_.Problem.Periods:Nat):Int)),(10,iv i11),(40,iv ((List.length a3_.Routes:Nat):Int)),(41,iv i11)],[(5,(Zc a1_)),(6,(Zl a2_)),(7,(Zf a3_))],ab⟩∧Fp H ab [.cel p0_ [bc0_0_,bc0_1_,bv a0_.late],.arr bc0_0_ 1 true (List.map eI64 a0_.Problem.Periods),.arr bc0_1_ 4 true (List.map Zq a0_.Problem.Uses)] [.arr a1 1 true (List.map eI64 l6),.arr a0 4 true (List.map Zq p),.cel p0_ [a1,a0,bv b12]])) ?_ N _ ad _ ap ⟨a8,a9,b2,(by show _=_;kernel_rfl),(Fp.pick hH [0,1,2] rfl)⟩).mono ?_)
   ·clear h ap
    rintro ⟨aU,aT⟩ o s h hR
    obtain ⟨a6,a7,an,rfl,hH⟩:=hR
    replace hH:Fp _ _ _ [.arr a6 1 true (List.map eI64 l6),.arr a7 4 true (List.map Zq aT),.cel p0_ [a6,a7,bv b12]]:=hH
    have be:=ZW (Fp.get hH 0 rfl)
    have a2:=ZW (Fp.get hH 1 rfl)
    replace h:ZbK N a0_ a2_ a3_ ag aU aT=some o:=h
    unfold ZbK at h
    refine sq (rg Za.f ?_)
    refine tq (sq ?_)
    refine it h (fun aK h => ?_) (fun aK h => ?_)
    ·refine sk (tq ?_)
     refine kq (sq ?_)
     refine bk (sq ?_)
     obtain ⟨a5,aq,h⟩:=bs h
     refine rg (Za.u 0 (Zm (ys:=[Z1 false ag.1,iv aU]) (h:=Zk ZV aq)) (Za.u 0 (Zu (sz:=5) (off:=0) (cs:=[.int .i64 a5.Port,.int .i64 a5.Early,.int .i64 a5.Late,.int .i64 a5.Open,.int .i64 a5.Long]) (r:=.agg (Zcm a5)) ZV aq) Za.f)) (tq ?_)
     refine sq ?_
     obtain ⟨ai,aD,h⟩:=bs h
     refine rg (Za.v 4 (Zw (hc:=Zgh N a5.Early a2_.Grid ai aD)) Za.f) (tq ?_)
     refine sq ?_
     obtain ⟨av,aC,h⟩:=bs h
     refine rg (Za.v 11 (Zw (hc:=Zgh N (w64 ((w64 ((w64 (a5.Open+a5.Long))+a2_.Grid)) - 1)) a2_.Grid av aC)) Za.f) (tq ?_)
     refine sq ?_
     obtain ⟨au,aB,h⟩:=bs h
     refine rq (Za.u 4 (ZaK (hc:=Zgh N ai a3_.Period au aB)) Za.f) (tq ?_)
     have ar:=Fp.get hH 2 rfl
     obtain ⟨ay,aE,h⟩:=bs h
     obtain ⟨aa,b1,aL,hH⟩:=Fp.app (k:=1) (a:=a7) (sz:=4) (frz:=true) Zq hH rfl aE
     replace hH:Fp _ _ _ [.arr a6 1 true (List.map eI64 l6),.arr aa 4 true (List.map Zq ay),.cel p0_ [a6,a7,bv b12]]:=hH
     have a3:=ZW (Fp.get hH 1 rfl)
     obtain ⟨b0,aR,hH⟩:=Fp.setCell (k:=2) (off:=1) (cs:=[a6,a7,bv b12]) (vs:=[aa]) (cs':=[a6,aa,bv b12]) hH rfl kr
     replace hH:Fp _ _ _ [.arr a6 1 true (List.map eI64 l6),.arr aa 4 true (List.map Zq ay),.cel p0_ [a6,aa,bv b12]]:=hH
     refine rq (Za.u 5 (ZN (Zv (H:=an) (id:=p0_) (off:=1) (cs:=[a6,a7,bv b12]) (c:=[a7]) (r:=a7) (by cases a2<;>kernel_rfl) (by cases a2<;>kernel_rfl) ar (by cases a2<;>kernel_rfl) (by cases a2<;>kernel_rfl) (by cases a2<;>kernel_rfl)) (by cases a2<;>kernel_rfl)) (Za.h 9 (Ze1 (H:=an) (a:=a7) (b:=ZK true [(ZB.mk ((List.length a0_.Problem.Periods:Nat):Int) a5.Port (w64 (ai - (w64 (au * a3_.Period)))) (w64 (av - ai)))]) (by cases a2<;>kernel_rfl) (by cases a2<;>kernel_rfl) (by cases a2<;>kernel_rfl) (by cases a2<;>kernel_rfl) aL) (Za.o 3 (Zm6 (ZfQ (H:=b1) (v:=aa) (cs:=[aa]) (by cases a3<;>kernel_rfl) (by cases a3<;>kernel_rfl) (by cases a3<;>kernel_rfl) (by cases a3<;>kernel_rfl) (by cases a3<;>kernel_rfl) aR) (by cases a3<;>kernel_rfl)) Za.f))) (bn ?_)
     refine tq (rg Za.f ?_)
     obtain rfl:=Zb h
     exact ⟨_,rfl,⟨a6,aa,b0,(by show _=_;kernel_rfl),(Fp.pick hH [0,1,2] rfl)⟩⟩
    refine kq (xq ?_)
    refine tx ?_
    obtain rfl:=Zb h
    exact ⟨_,rfl,rfl,⟨a6,a7,an,(by show _=_;kernel_rfl),(Fp.pick hH [0,1,2] rfl)⟩⟩
   rintro e s hq
   obtain ⟨rfl,hR⟩:=hq
   obtain ⟨a1,a0,ab,rfl,hH⟩:=hR
   replace hH:Fp _ _ _ [.arr a1 1 true (List.map eI64 l6),.arr a0 4 true (List.map Zq ad),.cel p0_ [a1,a0,bv b12]]:=hH
   have bd:=ZW (Fp.get hH 0 rfl)
   have bc:=ZW (Fp.get hH 1 rfl)
   refine bx (tq ?_)
   refine sq ?_
   obtain ⟨ac,aA,h⟩:=bs h
   refine rg (Za.v 4 (Zw (hc:=ZhC N a1_ a2_ a3_ i11 ac aA)) Za.f) (tq ?_)
   refine sq (sq ?_)
   refine rg Za.f (tq ?_)
   refine it h (fun aJ h => ?_) (fun aJ h => ?_)
   ·refine sq (rg Za.f ?_)
    refine tq (rt ?_)
    refine tr (br ?_)
    refine tr ?_
    obtain rfl:=Zb h
    exact ⟨_,rfl,rfl,⟨[iv ac.2],kr,a1,a0,kr,Fp.pk hH [2,0,1] rfl⟩⟩
   refine sk (tq ?_)
   refine kq ?_
   obtain ⟨az,hj,h⟩:=bs h
   refine rgR (fun s=>∃ (af:AV) (ae:AV) (ak:List HO),s=⟨[(0,.ptr p0_ 0),(5,.loc 5 0),(6,.loc 6 0),(7,.loc 7 0),(9,iv ((List.length a0_.Problem.Periods:Nat):Int)),(40,iv ((List.length a3_.Routes:Nat):Int)),(41,iv i11)],[(5,(Zc a1_)),(6,(Zl a2_)),(7,(Zf a3_))],ak⟩∧Fp H ak [.cel p0_ [bc0_0_,bc0_1_,bv a0_.late],.arr bc0_0_ 1 true (List.map eI64 a0_.Problem.Periods),.arr bc0_1_ 4 true (List.map Zq a0_.Problem.Uses)] [.arr af 1 true (List.map eI64 l6),.arr ae 4 true (List.map Zq ad),.cel p0_ [af,ae,bv az]]) ?_ ?_
   ·clear h
    have aj:=Fp.get hH 2 rfl
    rcases Zz hj with ⟨aI,hj⟩ | ⟨aG,hj⟩
    ·refine (EP.u 4 (ZI.bool (Zv (H:=ab) (id:=p0_) (off:=2) (cs:=[a1,a0,bv b12]) (c:=[bv b12]) (r:=bv b12) (hl:=aj)) aI) ?_)
     obtain ⟨aZ,aQ,hH⟩:=Fp.setCell (k:=2) (off:=2) (cs:=[a1,a0,bv b12]) (vs:=[bv true]) (cs':=[a1,a0,bv true]) hH rfl kr
     replace hH:Fp _ _ _ [.arr a1 1 true (List.map eI64 l6),.arr a0 4 true (List.map Zq ad),.cel p0_ [a1,a0,bv true]]:=hH
     obtain rfl:=Zb hj
     exact (EP.o 12 (Zaw (H:=ab) (v:=bv true) (hw:=aQ)) (EP.f ⟨a1,a0,aZ,(by show _=_;kernel_rfl),(Fp.pick hH [0,1,2] rfl)⟩))
    refine (EP.u 4 (ZI.bool (Zv (H:=ab) (id:=p0_) (off:=2) (cs:=[a1,a0,bv b12]) (c:=[bv b12]) (r:=bv b12) (hl:=aj)) aG) ?_)
    obtain ⟨aY,aM,hH⟩:=Fp.setCell (k:=2) (off:=2) (cs:=[a1,a0,bv b12]) (vs:=[bv (decide ((w64 (ac.1+(w64 (2 * a2_.Slack)))) > a3_.Deadline))]) (cs':=[a1,a0,bv (decide ((w64 (ac.1+(w64 (2 * a2_.Slack)))) > a3_.Deadline))]) hH rfl kr
    replace hH:Fp _ _ _ [.arr a1 1 true (List.map eI64 l6),.arr a0 4 true (List.map Zq ad),.cel p0_ [a1,a0,bv (decide ((w64 (ac.1+(w64 (2 * a2_.Slack)))) > a3_.Deadline))]]:=hH
    obtain rfl:=Zb hj
    exact (EP.o 12 (Zaw (H:=ab) (v:=bv (decide ((w64 (ac.1+(w64 (2 * a2_.Slack)))) > a3_.Deadline))) (hw:=aM)) (EP.f ⟨a1,a0,aY,(by show _=_;kernel_rfl),(Fp.pick hH [0,1,2] rfl)⟩))
   clear hj
   rintro s hR
   obtain ⟨af,ae,ak,rfl,hH⟩:=hR
   replace hH:Fp _ _ _ [.arr af 1 true (List.map eI64 l6),.arr ae 4 true (List.map Zq ad),.cel p0_ [af,ae,bv az]]:=hH
   have bb:=ZW (Fp.get hH 0 rfl)
   have ba:=ZW (Fp.get hH 1 rfl)
   refine bn (tq ?_)
   refine kq (rg Za.f ?_)
   obtain rfl:=Zb h
   exact ⟨_,rfl,⟨af,ae,ak,(by show _=_;kernel_rfl),(Fp.pick hH [0,1,2] rfl)⟩⟩
  refine kq (xq ?_)
  refine tx ?_
  obtain rfl:=Zb h
  exact ⟨_,rfl,rfl,⟨a8,a9,b2,(by show _=_;kernel_rfl),(Fp.pick hH [0,1,2] rfl)⟩⟩
 rintro e s hq
 rcases ax with aw | bj
 ·dsimp only at h hq
  obtain ⟨rfl,hR⟩:=hq
  obtain ⟨am,al,aS,rfl,hH⟩:=hR
  replace hH:Fp _ _ _ [.arr am 1 true (List.map eI64 l6),.arr al 4 true (List.map Zq aw.2),.cel p0_ [am,al,bv aw.1]]:=hH
  have bi:=ZW (Fp.get hH 0 rfl)
  have bf:=ZW (Fp.get hH 1 rfl)
  refine bx (tq ?_)
  refine sq (rg Za.f ?_)
  refine tq (rt ?_)
  obtain rfl:=Zb h
  exact ⟨[iv 0],kr,am,al,kr,Fp.pk hH [2,0,1] rfl⟩
 dsimp only at h hq
 obtain ⟨rfl,hq⟩:=hq
 refine br (tr ?_)
 obtain rfl:=Zb h
 exact hq
theorem ZlH (N:Nat) (a0_:Zh) (a1_:ZE) (a2_:(List Zj)) (r:Zs × Int) (h:ZiX N a0_ a1_ a2_=some r):Zac Tryz.prog 8 [.agg (Zc a0_),.agg (Zl a1_),ZG false a2_] (.tup [.agg [Zg false r.1.Periods,ZK false r.1.Uses],iv r.2]):=by
 unfold ZiX at h
 have hH:HP ([]:List HO) []:=trivial
 refine ZD chk8 rfl rfl (Zt _ _ _ ?_) rfl
 refine sq (rg Za.f ?_)
 refine tq (sq ?_)
 refine sq ?_
 obtain ⟨r1,hr1,h⟩:=bs h
 refine rg (Za.v 1 (Zw (hc:=Zfj N a0_ ([]) r1 hr1)) Za.f) (tq ?_)
 refine sq (rg Za.f ?_)
 refine tq (it h (fun hc2 h => ?_) (fun hc2 h => ?_))
 ·refine sq (rg Za.f ?_)
  refine tq (rt ?_)
  refine tr ?_
  obtain rfl:=Zb h
  exact Zx kr
 refine sk (tq ?_)
 refine kq (sq ?_)
 refine sq ?_
 obtain ⟨r3,hr3,h⟩:=bs h
 refine rg (Za.v 1 (Zw (hc:=ZeH N a1_ r3 hr3)) Za.f) (tq ?_)
 refine sq (rg Za.f ?_)
 refine tq (it h (fun hc4 h => ?_) (fun hc4 h => ?_))
 ·refine sq (rg Za.f ?_)
  refine tq (rt ?_)
  refine tr ?_
  obtain rfl:=Zb h
  exact Zx kr
 refine sk (tq ?_)
 refine kq (sq ?_)
 refine sq ?_
 obtain ⟨r5,hr5,h⟩:=bs h
 refine rg (Za.v 2 (Zw (hc:=Zfj N a0_ a2_ r5 hr5)) Za.f) (tq ?_)
 refine sq (rg Za.f ?_)
 refine tq (it h (fun hc6 h => ?_) (fun hc6 h => ?_))
 ·refine sq (rg Za.f ?_)
  refine tq (rt ?_)
  refine tr ?_
  obtain rfl:=Zb h
  exact Zx kr
 refine sk (tq ?_)
 refine kq (sq ?_)
 obtain ⟨id7,H8,hid7,hH8,hH⟩:=HP.newCell hH [Zg true [],ZK true [],bv false]
 replace hH:HP _ [.cel id7 [Zg true [],ZK true [],bv false]]:=hH
 refine rg (Za.h 0 (ZgP (H:=[]) kr hid7 hH8) Za.f) (tq ?_)
 refine sq (sq ?_)
 refine rg (Za.u 1 (Zm (ys:=[ZG false a2_]) (h:=Zr ZY)) Za.f) (tq ?_)
 refine bk ?_
 obtain ⟨am,aa,h⟩:=bs h
 refine ZS ((ZL (fun (x:Int × Bool × (List Int) × (List ZB)) s=>∃ (a9:AV) (a7:AV) (al:List HO),s=⟨[(3,.loc 3 0),(4,.loc 4 0),(6,.loc 6 0),(11,.ptr id7 0),(35,ZG false a2_),(36,iv ((List.length a2_:Nat):Int)),(37,iv x.1)],[(3,(Zc a0_)),(4,(Zl a1_)),(6,[Zg true [],ZK true []])],al⟩∧HP al [.arr a9 1 true (List.map eI64 x.2.2.1),.arr a7 4 true (List.map Zq x.2.2.2),.cel id7 [a9,a7,bv x.2.1]]) (fun x:Int × Bool × (List Int) × (List ZB)=>Zea N a0_ a1_ a2_ x.1 x.2.1 x.2.2.1 x.2.2.2) (fun (p:(Bool × (List Int) × (List ZB)) ⊕ (Zs × Int)) e s=>match p with | (.inl p)=>e = .exit 0∧(∃ (a4:AV) (a3:AV) (a6:List HO),s=⟨[(6,.loc 6 0),(11,.ptr id7 0)],[(6,[Zg true [],ZK true []])],a6⟩∧HP a6 [.arr a4 1 true (List.map eI64 p.2.1),.arr a3 4 true (List.map Zq p.2.2),.cel id7 [a4,a3,bv p.1]]) | (.inr p)=>e = .ret∧∃ xs,resL s i8.res=some xs∧ZaW xs = .tup [.agg [Zg false p.1.Periods,ZK false p.1.Uses],iv p.2]) ?_ N _ am _ aa ⟨(.p (.sl 1 true [])),(.p (.sl 4 true [])),H8,(by show _=_;kernel_rfl),(HP.pick (HP.nilArr (HP.nilArr hH 4 true) 1 true) [0,1,2] rfl)⟩).mono ?_)
 ·clear h aa
  rintro ⟨i12,b13,aw,av⟩ o s h hR
  obtain ⟨a9,a7,al,rfl,hH⟩:=hR
  replace hH:HP _ [.arr a9 1 true (List.map eI64 aw),.arr a7 4 true (List.map Zq av),.cel id7 [a9,a7,bv b13]]:=hH
  have hfa9:=ZW (HP.get hH 0 rfl)
  have aE:=ZW (HP.get hH 1 rfl)
  replace h:Zea N a0_ a1_ a2_ i12 b13 aw av=some o:=h
  unfold Zea at h
  refine sq (rg Za.f ?_)
  refine tq (sq ?_)
  refine it h (fun au h => ?_) (fun au h => ?_)
  ·refine sk (tq ?_)
   refine kq (sq ?_)
   refine bk (sq ?_)
   obtain ⟨a5,ab,h⟩:=bs h
   refine rg (Za.u 0 (Zm (ys:=[ZG false a2_,iv i12]) (h:=Zk ZY ab)) (Za.u 0 (Zu (sz:=10) (off:=0) (cs:=[.int .i64 a5.Id,.int .i64 a5.Talker,.int .i64 a5.Listener,.int .i64 a5.Class,.int .i64 a5.Size,.int .i64 a5.Period,.int .i64 a5.Bucket.Burst,.int .i64 a5.Bucket.Rate,.int .i64 a5.Deadline,.sl 1 false (List.map (eSl 1 eI64) a5.Routes)]) (r:=.agg (Zf a5)) ZY ab) Za.f)) (tq ?_)
   refine sq (sq ?_)
   refine rg Za.f (tq ?_)
   refine it h (fun ar h => ?_) (fun ar h => ?_)
   ·refine kq (xq ?_)
    refine tx (bx ?_)
    refine tq (kq ?_)
    refine rg Za.f ?_
    obtain rfl:=Zb h
    exact ⟨_,rfl,⟨a9,a7,al,(by show _=_;kernel_rfl),(HP.pick hH [0,1,2] rfl)⟩⟩
   refine sk (tq ?_)
   refine kq (sq ?_)
   obtain ⟨a8,ao,h⟩:=bs h
   have hl_a9:=HP.get hH 0 rfl
   have aA:=HP.get hH 1 rfl
   obtain ⟨aj,ai,aD,ad,af⟩:=ZiV N (Zas.mk (Zs.mk aw av) b13) a0_ a1_ a5  id7 a9 a7 al (HP.now (HP.pick hH [2,0,1] rfl)) a8 ao
   replace hH:HP _ [.cel id7 [aj,ai,bv a8.2.late],.arr aj 1 true (List.map eI64 a8.2.Problem.Periods),.arr ai 4 true (List.map Zq a8.2.Problem.Uses)]:=HP.callee (fp:=[.cel id7 [a9,a7,bv b13],.arr a9 1 true (List.map eI64 aw),.arr a7 4 true (List.map Zq av)]) (rest:=[]) (HP.pick hH [2,0,1] rfl) af
   have aC:=ZW (HP.get hH 1 rfl)
   have aB:=ZW (HP.get hH 2 rfl)
   refine rg (Za.v 3 (Zf9 (H:=al) (ys:=[.ptr id7 0,.agg (Zc a0_),.agg (Zl a1_),.agg (Zf a5)]) kr kr [[],[],[],[]] (Zag (Za2 rfl) (Zag (Za2 rfl) (Zag (Za2 rfl) (Zag (Za2 rfl) passL_nil')))) ad) Za.f) (tq ?_)
   refine sq (rg Za.f ?_)
   refine tq (it h (fun aq h => ?_) (fun aq h => ?_))
   ·refine sq (rg Za.f ?_)
    replace hH:HP _ []:=HP.pick hH [] rfl
    refine tq (rt ?_)
    refine br (tr ?_)
    obtain rfl:=Zb h
    exact ⟨_,rfl,rfl,Zx kr⟩
   refine sk (bn ?_)
   refine tq (kq ?_)
   refine rg Za.f ?_
   obtain rfl:=Zb h
   exact ⟨_,rfl,⟨aj,ai,aD,(by show _=_;kernel_rfl),(HP.pick hH [1,2,0] rfl)⟩⟩
  refine kq (xq ?_)
  refine tx ?_
  obtain rfl:=Zb h
  exact ⟨_,rfl,rfl,⟨a9,a7,al,(by show _=_;kernel_rfl),(HP.pick hH [0,1,2] rfl)⟩⟩
 rintro e s hq
 rcases am with a2 | aG
 ·dsimp only at h hq
  obtain ⟨rfl,hR⟩:=hq
  obtain ⟨a4,a3,a6,rfl,hH⟩:=hR
  replace hH:HP _ [.arr a4 1 true (List.map eI64 a2.2.1),.arr a3 4 true (List.map Zq a2.2.2),.cel id7 [a4,a3,bv a2.1]]:=hH
  have a1:=ZW (HP.get hH 0 rfl)
  have a0:=ZW (HP.get hH 1 rfl)
  refine bx (tq ?_)
  refine sq (sq ?_)
  obtain ⟨az,an,h⟩:=bs h
  have ay:=HP.get hH 0 rfl
  have ax:=HP.get hH 1 rfl
  obtain ⟨ak,ac,ae⟩:=ZhZ N (Zas.mk (Zs.mk a2.2.1 a2.2.2) a2.1)  id7 a4 a3 a6 (HP.now (HP.pick hH [2,0,1] rfl)) az an
  replace hH:HP _ [.cel id7 [a4,a3,bv a2.1],.arr a4 1 true (List.map eI64 a2.2.1),.arr a3 4 true (List.map Zq a2.2.2)]:=HP.callee (fp:=[.cel id7 [a4,a3,bv a2.1],.arr a4 1 true (List.map eI64 a2.2.1),.arr a3 4 true (List.map Zq a2.2.2)]) (rest:=[]) (HP.pick hH [2,0,1] rfl) ae
  refine rg (Za.v 0 (Zf9 (H:=a6) (ys:=[.ptr id7 0]) kr kr [[]] (Zag (Za2 rfl) passL_nil') ac) Za.f) (tq ?_)
  refine sq (rg Za.f ?_)
  refine tq (it h (fun ap h => ?_) (fun ap h => ?_))
  ·refine sq (rg Za.f ?_)
   replace hH:HP _ []:=HP.pick hH [] rfl
   refine tq (rt ?_)
   refine tr ?_
   obtain rfl:=Zb h
   exact Zx kr
  refine sk (tq ?_)
  refine kq (sq ?_)
  have ag:=HP.get hH 0 rfl
  refine rgS ⟨[(6,.loc 6 0),(7,iv 0)],[(6,[a4,a3])],ak⟩ (Za.u 1 (Zv (H:=ak) (id:=id7) (off:=0) (cs:=[a4,a3,bv a2.1]) (c:=[a4,a3]) (r:=.agg [a4,a3]) (by cases a1<;>cases a0<;>kernel_rfl) (by cases a1<;>cases a0<;>kernel_rfl) ag (by cases a1<;>cases a0<;>kernel_rfl) (by cases a1<;>cases a0<;>kernel_rfl) (by cases a1<;>cases a0<;>kernel_rfl)) (Za.f (h:=(by cases a1<;>cases a0<;>kernel_rfl)))) (by cases a1<;>cases a0<;>kernel_rfl) ?_
  replace hH:HP _ [.arr a4 1 true (List.map eI64 a2.2.1),.arr a3 4 true (List.map Zq a2.2.2)]:=HP.pick hH [1,2] rfl
  refine tq (rt ?_)
  obtain rfl:=Zb h
  exact Zd6 (H:=ak) (ys:=[.agg [a4,a3],iv 0]) (xs:=[.agg [.p (.sl 1 false (List.map eI64 a2.2.1)),.p (.sl 4 false (List.map Zq a2.2.2))],iv 0]) (by cases a1<;>cases a0<;>kernel_rfl) (by cases a1<;>cases a0<;>kernel_rfl) (ZaJ (Zkt (Zbg (HP.pure (k:=0) (frz:=true) eI64 hH rfl).1 (Zbg (HP.pure (k:=1) (frz:=true) Zq hH rfl).1 Zkv))) (ZaJ rfl ZbJ)) kr
 dsimp only at h hq
 obtain ⟨rfl,hq⟩:=hq
 refine br (tr ?_)
 obtain rfl:=Zb h
 exact hq
theorem Zeb (N:Nat) (a0_:(List Zj)) (r:Zs × Int) (h:Zfu N a0_=some r):Zac Tryz.prog 29 [ZG false a0_] (.tup [.agg [Zg false r.1.Periods,ZK false r.1.Uses],iv r.2]):=by
 unfold Zfu at h
 have hH:HP ([]:List HO) []:=trivial
 refine ZD chk29 rfl rfl (Zt _ _ _ ?_) rfl
 refine sq (rg Za.f ?_)
 refine tq (sq ?_)
 obtain ⟨r1,hr1,h⟩:=bs h
 obtain ⟨r2,hr2,h⟩:=bs h
 refine rg (Za.v 0 (Zw (hc:=ZmH N  r1 hr1)) (Za.v 2 (Zw (hc:=ZlH N r1 (ZE.mk 100 2 10 8000) a0_ r2 hr2)) Za.f)) (tq ?_)
 refine rt ?_
 obtain rfl:=Zb h
 exact Zx kr
theorem Zlx (N:Nat) (r:Bool) (h:Zfb N=some r):Zac Tryz.prog 11 [] (bv r):=by
 unfold Zfb at h
 have hH:HP ([]:List HO) []:=trivial
 refine ZD chk11 rfl rfl (Zt _ _ _ ?_) rfl
 refine sq (rg Za.f ?_)
 refine tq (sq ?_)
 obtain ⟨r1,hr1,h⟩:=bs h
 obtain ⟨r2,hr2,h⟩:=bs h
 refine rg (Za.v 0 (Zw (hc:=Za8 N 1 20 10000 r1 hr1)) (Za.v 1 (Zw (hc:=Zeb N ([r1]) r2 hr2)) Za.f)) (tq ?_)
 refine sq ?_
 obtain ⟨r3,hr3,h⟩:=bs h
 obtain ⟨r4,hr4,h⟩:=bs h
 refine rg (Za.v 0 (Zw (hc:=Za8 N 1 8 10000 r3 hr3)) (Za.v 1 (Zw (hc:=Zeb N ([r3]) r4 hr4)) Za.f)) (tq ?_)
 refine sq ?_
 obtain ⟨r5,hr5,h⟩:=bs h
 obtain ⟨r6,hr6,h⟩:=bs h
 refine rg (Za.v 0 (Zw (hc:=Za8 N 1 20 1718 r5 hr5)) (Za.v 1 (Zw (hc:=Zeb N ([r5]) r6 hr6)) Za.f)) (tq ?_)
 refine sq ?_
 obtain ⟨r7,hr7,h⟩:=bs h
 obtain ⟨r8,hr8,h⟩:=bs h
 obtain ⟨r9,hr9,h⟩:=bs h
 refine rg (Za.v 0 (Zw (hc:=Za8 N 1 20 10000 r7 hr7)) (Za.v 0 (Zw (hc:=Za8 N 2 30 10000 r8 hr8)) (Za.v 1 (Zw (hc:=Zeb N ([r7,r8]) r9 hr9)) Za.f))) (tq ?_)
 refine sq ?_
 obtain ⟨bc,ak,h⟩:=bs h
 obtain ⟨bb,aj,h⟩:=bs h
 obtain ⟨a0,ai,h⟩:=bs h
 refine rg (Za.v 0 (Zw (hc:=Za8 N 1 40 10000 bc ak)) (Za.v 0 (Zw (hc:=Za8 N 2 40 10000 bb aj)) (Za.v 1 (Zw (hc:=Zeb N ([bc,bb]) a0 ai)) Za.f))) (tq ?_)
 refine sq ?_
 obtain ⟨a8,ag,h⟩:=bs h
 refine rg (Za.v 0 (Zw (hc:=Zeb N ([]) a8 ag)) Za.f) (tq ?_)
 refine sq ?_
 obtain ⟨a1,af,h⟩:=bs h
 refine rg (Za.v 1 (Zw (hc:=Zik N r9.1 a1 af)) Za.f) (tq ?_)
 refine sq ?_
 obtain ⟨a2,ae,h⟩:=bs h
 refine rg (Za.v 1 (Zw (hc:=Zik N a8.1 a2 ae)) Za.f) (tq ?_)
 refine sq (rg Za.f ?_)
 refine tq (sq ?_)
 refine sq ?_
 obtain ⟨bi,hj,h⟩:=bs h
 refine rgR (fun s=>s=⟨[(4,iv r4.2),(6,iv r6.2),(7,.loc 7 0),(9,.loc 9 0),(13,iv a1.1),(15,iv a2.1),(97,bv bi)],[(7,(Zd r9.1)),(9,(Zd a0.1))],[]⟩) ?_ ?_
 ·clear h
  rcases Zz hj with ⟨aY,hj⟩ | ⟨aX,hj⟩
  ·obtain rfl:=Zb hj
   exact (EP.u 1 (Zi (c:=(r2.2 != 0)) (h:=aY)) (EP.f (by show _=_;kernel_rfl)))
  refine (EP.u 1 (Zi (c:=(r2.2 != 0)) (h:=aX)) ?_)
  rcases Zz hj with ⟨aW,hj⟩ | ⟨aV,hj⟩
  ·obtain rfl:=Zb hj
   exact (EP.u 2 (Zi (c:=(r9.2 != 0)) (h:=aW)) (EP.f (by show _=_;kernel_rfl)))
  refine (EP.u 2 (Zi (c:=(r9.2 != 0)) (h:=aV)) ?_)
  rcases Zz hj with ⟨aU,hj⟩ | ⟨aT,hj⟩
  ·obtain rfl:=Zb hj
   exact (EP.u 3 (Zi (c:=(a0.2 != 0)) (h:=aU)) (EP.f (by show _=_;kernel_rfl)))
  refine (EP.u 3 (Zi (c:=(a0.2 != 0)) (h:=aT)) ?_)
  rcases Zz hj with ⟨aS,hj⟩ | ⟨aR,hj⟩
  ·obtain rfl:=Zb hj
   exact (EP.u 3 (Zi (c:=(a8.2 != 0)) (h:=aS)) (EP.f (by show _=_;kernel_rfl)))
  refine (EP.u 3 (Zi (c:=(a8.2 != 0)) (h:=aR)) ?_)
  rcases Zz hj with ⟨aQ,hj⟩ | ⟨aM,hj⟩
  ·obtain rfl:=Zb hj
   exact (EP.u 3 (Zi (c:=(a1.2 != 0)) (h:=aQ)) (EP.f (by show _=_;kernel_rfl)))
  refine (EP.u 3 (Zi (c:=(a1.2 != 0)) (h:=aM)) ?_)
  rcases Zz hj with ⟨aL,hj⟩ | ⟨aK,hj⟩
  ·obtain rfl:=Zb hj
   exact (EP.u 3 (Zi (c:=(a2.2 != 0)) (h:=aL)) (EP.f (by show _=_;kernel_rfl)))
  refine (EP.u 3 (Zi (c:=(a2.2 != 0)) (h:=aK)) ?_)
  obtain ⟨be,ad,hj⟩:=bs hj
  obtain rfl:=Zb hj
  exact (EP.v 4 (Zw (hc:=Zmq N r2.1 (Zs.mk ([20]) ([(ZB.mk 0 0 0 8),(ZB.mk 0 2 8 9)])) be ad)) (EP.f (by show _=_;kernel_rfl)))
 clear hj
 rintro s hR
 obtain rfl:=hR
 refine tq (it h (fun aJ h => ?_) (fun aJ h => ?_))
 ·refine sq (rg Za.f ?_)
  refine tq (rt ?_)
  refine tr ?_
  obtain rfl:=Zb h
  exact Zx kr
 refine sk (tq ?_)
 refine kq (sq ?_)
 obtain ⟨aa,hj,h⟩:=bs h
 refine rgR (fun s=>s=⟨[(4,iv r4.2),(6,iv r6.2),(9,.loc 9 0),(13,iv a1.1),(15,iv a2.1),(18,bv aa)],[(9,(Zd a0.1))],[]⟩) ?_ ?_
 ·clear h
  obtain ⟨ba,a7,hj⟩:=bs hj
  rcases Zz hj with ⟨aI,hj⟩ | ⟨aB,hj⟩
  ·refine (EP.h 1 (Za3 kr (Zbk N r9.1 0 8 ba a7) aI) ?_)
   obtain ⟨b2,a6,hj⟩:=bs hj
   rcases Zz hj with ⟨aG,hj⟩ | ⟨aC,hj⟩
   ·refine (EP.h 2 (Za3 kr (Zbk N r9.1 0 9 b2 a6) aG) ?_)
    obtain ⟨b1,a5,hj⟩:=bs hj
    rcases Zz hj with ⟨aE,hj⟩ | ⟨aD,hj⟩
    ·refine (EP.h 3 (Za3 kr (Zbk N r9.1 0 10 b1 a5) aE) ?_)
     obtain ⟨bd,ac,hj⟩:=bs hj
     obtain rfl:=Zb hj
     exact (EP.v 3 (Zw (hc:=Zbk N r9.1 0 2 bd ac)) (EP.f (by show _=_;kernel_rfl)))
    obtain rfl:=Zb hj
    exact (EP.h 3 (Za3 kr (Zbk N r9.1 0 10 b1 a5) aD) (EP.f (by show _=_;kernel_rfl)))
   obtain rfl:=Zb hj
   exact (EP.h 2 (Za3 kr (Zbk N r9.1 0 9 b2 a6) aC) (EP.f (by show _=_;kernel_rfl)))
  obtain rfl:=Zb hj
  exact (EP.h 1 (Za3 kr (Zbk N r9.1 0 8 ba a7) aB) (EP.f (by show _=_;kernel_rfl)))
 clear hj
 rintro s hR
 obtain rfl:=hR
 refine tq (sq ?_)
 obtain ⟨bf,hj,h⟩:=bs h
 refine rgR (fun s=>s=⟨[(0,bv bf)],[],[]⟩) ?_ ?_
 ·clear h
  rcases Zz hj with ⟨aA,hj⟩ | ⟨al,hj⟩
  ·refine (EP.u 1 (Zi (c:=(r4.2==341)) (h:=aA)) ?_)
   rcases Zz hj with ⟨az,hj⟩ | ⟨am,hj⟩
   ·refine (EP.u 2 (Zi (c:=(r6.2==342)) (h:=az)) ?_)
    rcases Zz hj with ⟨ay,hj⟩ | ⟨an,hj⟩
    ·refine (EP.u 2 (Zi (c:=aa) (h:=ay)) ?_)
     obtain ⟨b0,a4,hj⟩:=bs hj
     rcases Zz hj with ⟨ax,hj⟩ | ⟨ao,hj⟩
     ·refine (EP.h 4 (Za3 kr (ZdV N a0.1 ([0,9]) b0 a4) ax) ?_)
      obtain ⟨a9,ab,hj⟩:=bs hj
      refine (EP.v 4 (Zw (hc:=ZdV N a0.1 ([0,8]) a9 ab)) ?_)
      rcases Zz hj with ⟨aw,hj⟩ | ⟨ap,hj⟩
      ·refine (EP.u 0 (Zi (c:=(!a9)) (h:=aw)) ?_)
       obtain ⟨aZ,a3,hj⟩:=bs hj
       rcases Zz hj with ⟨av,hj⟩ | ⟨aq,hj⟩
       ·refine (EP.h 4 (Za3 kr (ZdV N a0.1 ([35,4]) aZ a3) av) ?_)
        rcases Zz hj with ⟨au,hj⟩ | ⟨ar,hj⟩
        ·obtain rfl:=Zb hj
         exact (EP.u 3 (Zi (c:=(a1.1==60)) (h:=au)) (EP.f (by show _=_;kernel_rfl)))
        obtain rfl:=Zb hj
        exact (EP.u 3 (Zi (c:=(a1.1==60)) (h:=ar)) (EP.f (by show _=_;kernel_rfl)))
       obtain rfl:=Zb hj
       exact (EP.h 4 (Za3 kr (ZdV N a0.1 ([35,4]) aZ a3) aq) (EP.f (by show _=_;kernel_rfl)))
      obtain rfl:=Zb hj
      exact (EP.u 0 (Zi (c:=(!a9)) (h:=ap)) (EP.f (by show _=_;kernel_rfl)))
     obtain rfl:=Zb hj
     exact (EP.h 4 (Za3 kr (ZdV N a0.1 ([0,9]) b0 a4) ao) (EP.f (by show _=_;kernel_rfl)))
    obtain rfl:=Zb hj
    exact (EP.u 2 (Zi (c:=aa) (h:=an)) (EP.f (by show _=_;kernel_rfl)))
   obtain rfl:=Zb hj
   exact (EP.u 2 (Zi (c:=(r6.2==342)) (h:=am)) (EP.f (by show _=_;kernel_rfl)))
  obtain rfl:=Zb hj
  exact (EP.u 1 (Zi (c:=(r4.2==341)) (h:=al)) (EP.f (by show _=_;kernel_rfl)))
 clear hj
 rintro s hR
 obtain rfl:=hR
 refine tq (rt ?_)
 obtain rfl:=Zb h
 exact Zx kr
end Go.Sh

