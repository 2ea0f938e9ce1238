/- Part of the proof. -/
import Derived.Test.YtlajapegdomhfaaSynthKnownOk3
set_option linter.all false
namespace Go.Sh
open Go Go.Eng Go.Proofs
set_option maxRecDepth 100000
set_option maxHeartbeats 4000000
attribute [local irreducible] vc ev Zdq opsD opsF ZfR upd updH updO
theorem law28_SynthKnown_ok (N:Nat)(r:Bool)(h:law28_SynthKnown N=some r):PCall Try.prog 3 [] (bv r):=by
 unfold law28_SynthKnown at h
 have hH  := hp0
 refine Zal chk3 rfl rfl (Z5 _ _ _ ?_) rfl
 refine sq (rg ZO.f (tq (sq ?_)))
 obtain ⟨r1,hr1,h⟩:=bs h
 obtain ⟨r2,hr2,h⟩:=bs h
 refine rg (ZO.v 0 (Z7 (hc:=ZgV N  r1 hr1)) (ZO.v 0 (Z7 (hc:=Zgp N  r2 hr2)) ZO.f)) (tq (sq ?_))
 obtain ⟨r3,hr3,h⟩:=bs h
 refine rg (ZO.v 2 (Z7 (hc:=Zbr N r1 r2 ([]) ([]) r3 hr3)) ZO.f) (tq (sq ?_))
 obtain ⟨r4,hr4,h⟩:=bs h
 refine rg (ZO.v 1 (Z7 (hc:=Zbj N ([127,100]) r4 hr4)) ZO.f) (tq (sq ?_))
 obtain ⟨r5,hr5,h⟩:=bs h
 obtain ⟨r6,hr6,h⟩:=bs h
 obtain ⟨r7,hr7,h⟩:=bs h
 refine rq (ZO.u 2 (Zbl (hc:=ZaF N 1 40 r5 hr5)) (ZO.u 0 (Zbl (hc:=ZaF N 2 40 r6 hr6)) (ZO.v 2 (Z7 (hc:=Zbr N r1 r2 ([r5,r6]) ([0,9]) r7 hr7)) ZO.f))) (tq (sq ?_))
 obtain ⟨r8,hr8,h⟩:=bs h
 refine rg (ZO.v 3 (Z7 (hc:=Zbr N (Z8.mk 0 ([]) ([])) r2 ([]) ([1]) r8 hr8)) ZO.f) (tq (sq ?_))
 obtain ⟨r9,hr9,h⟩:=bs h
 refine rg (ZO.v 3 (Z7 (hc:=Zbr N r1 r2 ([]) ([1]) r9 hr9)) ZO.f) (tq (sq ?_))
 obtain ⟨bT,aL,h⟩:=bs h
 obtain ⟨a7,aK,h⟩:=bs h
 refine rq (ZO.u 2 (Zbl (hc:=ZaF N 1 8 bT aL)) (ZO.v 1 (Z7 (hc:=Zbr N r1 r2 ([bT]) ([]) a7 aK)) ZO.f)) (tq (sq ?_))
 obtain ⟨bS,aJ,h⟩:=bs h
 obtain ⟨a6,aI,h⟩:=bs h
 refine rq (ZO.u 2 (Zbl (hc:=ZaF N 1 20 bS aJ)) (ZO.v 3 (Z7 (hc:=Zbh N r1 r2 ([bS]) ([]) ([(Zah.mk ([]) 0)]) a6 aI)) ZO.f)) (tq (sq ?_))
 obtain ⟨bR,aG,h⟩:=bs h
 obtain ⟨ab,aE,h⟩:=bs h
 refine rq (ZO.u 2 (Zbl (hc:=ZaF N 1 20 bR aG)) (ZO.v 5 (Z7 (hc:=Zbh N r1 r2 ([bR]) ([0]) ([r4,(Zah.mk ([]) 0)]) ab aE)) ZO.f)) (tq (sq ?_))
 obtain ⟨a0,aD,h⟩:=bs h
 refine rg (ZO.v 1 (Z7 (hc:=Zbj N ([255,2000]) a0 aD)) ZO.f) (tq (sq ?_))
 obtain ⟨aa,aC,h⟩:=bs h
 refine rg (ZO.v 1 (Z7 (hc:=Zbj N ([128,2000]) aa aC)) ZO.f) (tq (sq ?_))
 obtain ⟨bQ,aB,h⟩:=bs h
 obtain ⟨a4,aA,h⟩:=bs h
 refine rq (ZO.u 2 (Zbl (hc:=ZaF N 1 20 bQ aB)) (ZO.v 7 (Z7 (hc:=Zbh N r1 r2 ([bQ]) ([3]) ([a0,a0,a0,a0]) a4 aA)) ZO.f)) (tq (sq ?_))
 obtain ⟨bM,az,h⟩:=bs h
 obtain ⟨a3,ay,h⟩:=bs h
 refine rq (ZO.u 2 (Zbl (hc:=ZaF N 1 20 bM az)) (ZO.v 7 (Z7 (hc:=Zbh N r1 r2 ([bM]) ([3]) ([aa,a0,aa,a0]) a3 ay)) ZO.f)) (tq (sq ?_))
 obtain ⟨bL,ax,h⟩:=bs h
 obtain ⟨bK,aw,h⟩:=bs h
 obtain ⟨a2,av,h⟩:=bs h
 refine rq (ZO.u 2 (Zbl (hc:=ZaF N 1 20 bL ax)) (ZO.u 0 (Zbl (hc:=ZaF N 2 20 bK aw)) (ZO.v 7 (Z7 (hc:=Zbh N r1 r2 ([bL,bK]) ([3,3]) ([aa,a0,aa,a0]) a2 av)) ZO.f))) (tq (sq ?_))
 obtain ⟨bJ,au,h⟩:=bs h
 obtain ⟨bI,ar,h⟩:=bs h
 obtain ⟨a8,aq,h⟩:=bs h
 refine rq (ZO.u 2 (Zbl (hc:=ZaF N 1 20 bJ au)) (ZO.u 3 (Zbl (hc:=Zbj N ([128,4000]) bI ar)) (ZO.v 4 (Z7 (hc:=Zbh N r1 r2 ([bJ]) ([3]) ([bI,a0,aa,a0]) a8 aq)) ZO.f))) (tq (sq (sq ?_)))
 obtain ⟨bY,hj,h⟩:=bs h
 refine rqR (λs=>s=⟨[(9,iv r8.2),(11,iv r9.2),(13,iv a7.2),(15,iv a6.2),(17,iv ab.2),(20,bv a4.1),(21,iv a4.2),(22,bv a3.1),(23,iv a3.2),(24,bv a2.1),(25,iv a2.2),(26,bv a8.1),(27,iv a8.2),(198,bv bY)],[],[]⟩) ?_ ?_
 ·clear h
  rcases Zau hj with ⟨bC,hj⟩|⟨bB,hj⟩
  ·obtain rfl:=Zaa hj
   exact (EP.u 1 (ZX (c:=(r3.2 != 0)) (h:=bC)) (EP.f kr))
  refine (EP.u 1 (ZX (c:=(r3.2 != 0)) (h:=bB)) (EP.u 2 (Z0 (ys:=[ZT false r3.1]) (h:=Z6 Zad)) ?_))
  rcases Zau hj with ⟨bA,hj⟩|⟨bz,hj⟩
  ·obtain rfl:=Zaa hj
   exact (EP.u 0 (ZX (c:=(((List.length r3.1:Nat):Int)!=4)) (h:=bA)) (EP.f kr))
  refine (EP.u 0 (ZX (c:=(((List.length r3.1:Nat):Int)!=4)) (h:=bz)) ?_)
  rcases Zau hj with ⟨bw,hj⟩|⟨bu,hj⟩
  ·obtain rfl:=Zaa hj
   exact (EP.u 3 (ZX (c:=(r7.2 != 0)) (h:=bw)) (EP.f kr))
  refine (EP.u 3 (ZX (c:=(r7.2 != 0)) (h:=bu)) (EP.u 3 (Z0 (ys:=[ZT false r7.1]) (h:=Z6 Zad)) ?_))
  rcases Zau hj with ⟨bt,hj⟩|⟨bq,hj⟩
  ·obtain rfl:=Zaa hj
   exact (EP.u 0 (ZX (c:=(((List.length r7.1:Nat):Int)!=4)) (h:=bt)) (EP.f kr))
  refine (EP.u 0 (ZX (c:=(((List.length r7.1:Nat):Int)!=4)) (h:=bq)) ?_)
  obtain ⟨ak,ap,hj⟩:=bs hj
  refine (EP.u 8 (Zbl (hc:=ZdH N r3.1 ([r4,r4,r4,r4]) ak ap)) ?_)
  rcases Zau hj with ⟨bp,hj⟩|⟨bm,hj⟩
  ·obtain rfl:=Zaa hj
   exact (EP.u 0 (ZX (c:=(!ak)) (h:=bp)) (EP.f kr))
  refine (EP.u 0 (ZX (c:=(!ak)) (h:=bm)) ?_)
  obtain ⟨bW,aQ,hj⟩:=bs hj
  refine (EP.u 3 (Z0 (ys:=[ZT false r7.1,iv 1]) (h:=Zdw Zad aQ)) ?_)
  obtain ⟨bG,ao,hj⟩:=bs hj
  refine (EP.u 1 (Zbl (hc:=Zbj N ([128,800,127,100,128,800,127,2300]) bG ao)) ?_)
  obtain ⟨aj,an,hj⟩:=bs hj
  refine (EP.u 1 (Zbl (hc:=ZdH N bW ([bG]) aj an)) ?_)
  rcases Zau hj with ⟨bl,hj⟩|⟨bj,hj⟩
  ·obtain rfl:=Zaa hj
   exact (EP.u 0 (ZX (c:=(!aj)) (h:=bl)) (EP.f kr))
  refine (EP.u 0 (ZX (c:=(!aj)) (h:=bj)) ?_)
  obtain ⟨bV,aM,hj⟩:=bs hj
  refine (EP.u 3 (Z0 (ys:=[ZT false r7.1,iv 2,iv 3]) (h:=ZkD Zad aM)) ?_)
  obtain ⟨bE,am,hj⟩:=bs hj
  refine (EP.u 1 (Zbl (hc:=Zbj N ([127,900,128,800,127,100,128,800,127,1400]) bE am)) ?_)
  obtain ⟨bU,al,hj⟩:=bs hj
  obtain rfl:=Zaa hj
  exact (EP.u 1 (Zbl (hc:=ZdH N bV ([bE]) bU al)) (EP.f kr))
 clear hj
 rintro s hR
 obtain rfl:=hR
 refine tq (it h (λbi h=>?_) (λbi h=>?_))
 ·refine sq (rg ZO.f (tq (rt (tr ?_))))
  cases h
  exact Zab kr
 refine sk (tq (kq (sq (rgX ⟨[(20,bv a4.1),(21,iv a4.2),(22,bv a3.1),(23,iv a3.2),(24,bv a2.1),(25,iv a2.2),(26,bv a8.1),(27,iv a8.2),(28,bv ((r8.2==260)&&((r9.2==2)&&((a7.2==341)&&((a6.2==2)&&(ab.2==370))))))],[],[]⟩ ?_ ?_))))
 ·rcases Bool.eq_false_or_eq_true (r8.2==260) with a1|ad
  ·refine (EP.u 1 (ZX (c:=(r8.2==260)) (h:=a1)) ?_)
   rcases Bool.eq_false_or_eq_true (r9.2==2) with a5|ae
   ·refine (EP.u 2 (ZX (c:=(r9.2==2)) (h:=a5)) ?_)
    rcases Bool.eq_false_or_eq_true (a7.2==341) with a9|af
    ·refine (EP.u 3 (ZX (c:=(a7.2==341)) (h:=a9)) ?_)
     rcases Bool.eq_false_or_eq_true (a6.2==2) with ai|ag
     ·exact (EP.u 3 (ZX (c:=(a6.2==2)) (h:=ai)) (EP.f (by simp only [a1,a5,a9,ai];kernel_rfl)))
     exact (EP.u 3 (ZX (c:=(a6.2==2)) (h:=ag)) (EP.f (by simp only [a1,a5,a9,ag];kernel_rfl)))
    exact (EP.u 3 (ZX (c:=(a7.2==341)) (h:=af)) (EP.f (by simp only [a1,a5,af];kernel_rfl)))
   exact (EP.u 2 (ZX (c:=(r9.2==2)) (h:=ae)) (EP.f (by simp only [a1,ae];kernel_rfl)))
  exact (EP.u 1 (ZX (c:=(r8.2==260)) (h:=ad)) (EP.f (by simp only [ad];kernel_rfl)))
 refine tq (sq ?_)
 obtain ⟨bX,hj,h⟩:=bs h
 refine rgR (λs=>s=⟨[(0,bv bX)],[],[]⟩) ?_ ?_
 ·clear h
  obtain ⟨bD,ac,hj⟩:=bs hj
  rcases Zau hj with ⟨bf,hj⟩|⟨aR,hj⟩
  ·refine (EP.h 1 (Zb3 kr (Zgo N  bD ac) bf) ?_)
   rcases Zau hj with ⟨be,hj⟩|⟨aS,hj⟩
   ·refine (EP.u 2 (ZX (c:=((r8.2==260)&&((r9.2==2)&&((a7.2==341)&&((a6.2==2)&&(ab.2==370)))))) (h:=be)) ?_)
    rcases Zau hj with ⟨bd,hj⟩|⟨aT,hj⟩
    ·refine (EP.u 3 (ZX (c:=(!a4.1)) (h:=bd)) ?_)
     rcases Zau hj with ⟨bc,hj⟩|⟨aU,hj⟩
     ·refine (EP.u 3 (ZX (c:=(a4.2==0)) (h:=bc)) ?_)
      rcases Zau hj with ⟨bb,hj⟩|⟨aV,hj⟩
      ·refine (EP.u 2 (ZX (c:=a3.1) (h:=bb)) ?_)
       rcases Zau hj with ⟨ba,hj⟩|⟨aW,hj⟩
       ·refine (EP.u 3 (ZX (c:=(a3.2==0)) (h:=ba)) ?_)
        rcases Zau hj with ⟨b2,hj⟩|⟨aX,hj⟩
        ·refine (EP.u 2 (ZX (c:=a2.1) (h:=b2)) ?_)
         rcases Zau hj with ⟨b1,hj⟩|⟨aY,hj⟩
         ·refine (EP.u 3 (ZX (c:=(a2.2==0)) (h:=b1)) ?_)
          rcases Zau hj with ⟨b0,hj⟩|⟨aZ,hj⟩
          ·obtain rfl:=Zaa hj
           exact (EP.u 3 (ZX (c:=(!a8.1)) (h:=b0)) (EP.f kr))
          obtain rfl:=Zaa hj
          exact (EP.u 3 (ZX (c:=(!a8.1)) (h:=aZ)) (EP.f kr))
         obtain rfl:=Zaa hj
         exact (EP.u 3 (ZX (c:=(a2.2==0)) (h:=aY)) (EP.f kr))
        obtain rfl:=Zaa hj
        exact (EP.u 2 (ZX (c:=a2.1) (h:=aX)) (EP.f kr))
       obtain rfl:=Zaa hj
       exact (EP.u 3 (ZX (c:=(a3.2==0)) (h:=aW)) (EP.f kr))
      obtain rfl:=Zaa hj
      exact (EP.u 2 (ZX (c:=a3.1) (h:=aV)) (EP.f kr))
     obtain rfl:=Zaa hj
     exact (EP.u 3 (ZX (c:=(a4.2==0)) (h:=aU)) (EP.f kr))
    obtain rfl:=Zaa hj
    exact (EP.u 3 (ZX (c:=(!a4.1)) (h:=aT)) (EP.f kr))
   obtain rfl:=Zaa hj
   exact (EP.u 2 (ZX (c:=((r8.2==260)&&((r9.2==2)&&((a7.2==341)&&((a6.2==2)&&(ab.2==370)))))) (h:=aS)) (EP.f kr))
  obtain rfl:=Zaa hj
  exact (EP.h 1 (Zb3 kr (Zgo N  bD ac) aR) (EP.f kr))
 clear hj
 rintro s hR
 obtain rfl:=hR
 refine tq (rt ?_)
 cases h
 exact Zab kr
end Go.Sh

