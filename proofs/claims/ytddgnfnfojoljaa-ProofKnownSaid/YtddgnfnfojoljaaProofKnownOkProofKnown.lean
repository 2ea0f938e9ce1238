/- Part of the proof. -/
import Derived.Test.YtddgnfnfojoljaaProofKnownOk2
set_option linter.all false
namespace Go.Sh
open Go Go.Eng Go.Proofs
set_option maxRecDepth 100000
set_option maxHeartbeats 4000000
attribute [local irreducible] vc ev ZcU opsD opsF ZdZ upd updH updO
theorem law25_ProofKnown_ok (N:Nat)(r:Bool)(h:law25_ProofKnown N=some r):PCall Try.prog 6 [] (bv r):=by
 unfold law25_ProofKnown at h
 have hH  := hp0
 refine Zaw chk6 rfl rfl (Zab _ _ _ ?_) rfl
 refine sq (rg ZJ.f (tq (sq ?_)))
 obtain ⟨r1,hr1,h⟩:=bs h
 refine rg (ZJ.v 0 (Z9 (hc:=Zdl N  r1 hr1)) ZJ.f) (tq (sq (rg ZJ.f (tq (sq ?_)))))
 obtain ⟨r2,hr2,h⟩:=bs h
 refine rg (ZJ.v 5 (Z9 (hc:=ZW N 0 ([(ZQ.mk 0 1 (-1) 1),(ZQ.mk 1 2 (-2) 0)]) r2 hr2)) ZJ.f) (tq (sq ?_))
 obtain ⟨r3,hr3,h⟩:=bs h
 refine rg (ZJ.v 2 (Z9 (hc:=ZW N 1 ([(ZQ.mk 0 2 0 0)]) r3 hr3)) ZJ.f) (tq (sq ?_))
 obtain ⟨r4,hr4,h⟩:=bs h
 obtain ⟨r5,hr5,h⟩:=bs h
 obtain ⟨r6,hr6,h⟩:=bs h
 obtain ⟨r7,hr7,h⟩:=bs h
 obtain ⟨r8,hr8,h⟩:=bs h
 obtain ⟨r9,hr9,h⟩:=bs h
 obtain ⟨ac,bQ,h⟩:=bs h
 obtain ⟨ab,bM,h⟩:=bs h
 obtain ⟨aa,bL,h⟩:=bs h
 obtain ⟨a9,bK,h⟩:=bs h
 obtain ⟨a8,bJ,h⟩:=bs h
 obtain ⟨a7,bI,h⟩:=bs h
 obtain ⟨a6,bG,h⟩:=bs h
 refine rq (ZJ.u 0 (ZaS (hc:=ZW N 0 ([]) r4 hr4)) (ZJ.u 3 (ZaS (hc:=ZW N 2 ([(ZQ.mk 0 2 0 0)]) r5 hr5)) (ZJ.u 3 (ZaS (hc:=ZW N (-1) ([(ZQ.mk 0 2 0 0)]) r6 hr6)) (ZJ.u 3 (ZaS (hc:=ZW N 0 ([(ZQ.mk 0 3 1 0)]) r7 hr7)) (ZJ.u 5 (ZaS (hc:=ZW N 0 ([(ZQ.mk 0 1 1 0),(ZQ.mk 1 1 1 0),(ZQ.mk 1 2 1 0)]) r8 hr8)) (ZJ.u 3 (ZaS (hc:=ZW N 0 ([(ZQ.mk 0 2 2 0)]) r9 hr9)) (ZJ.u 3 (ZaS (hc:=ZW N 0 ([(ZQ.mk 0 2 (-3) 0)]) ac bQ)) (ZJ.u 4 (ZaS (hc:=ZW N 0 ([(ZQ.mk 0 2 (-1) 1)]) ab bM)) (ZJ.u 7 (ZaS (hc:=ZW N 0 ([(ZQ.mk 0 1 (-1) 0),(ZQ.mk 1 2 (-2) 0)]) aa bL)) (ZJ.u 6 (ZaS (hc:=ZW N 0 ([(ZQ.mk 0 2 (-2) 0)]) a9 bK)) (ZJ.u 5 (ZaS (hc:=ZW N 0 ([(ZQ.mk 0 1 1 0),(ZQ.mk 1 2 (-2) 1)]) a8 bJ)) (ZJ.u 4 (ZaS (hc:=ZW N 0 ([(ZQ.mk 0 2 1 1)]) a7 bI)) (ZJ.u 7 (ZaS (hc:=ZW N 1 ([(ZQ.mk 0 1 0 0),(ZQ.mk 1 2 (-2) 0)]) a6 bG)) ZJ.f))))))))))))) (tq (sq (sq (rg ZJ.f (tq (bk ?_))))))
 obtain ⟨au,ae,h⟩:=bs h
 refine ZaO ((Zay (λ(x:Int) s=>s=⟨[(1,.loc 1 0),(4,.loc 4 0),(5,.loc 5 0),(6,ZaI true [[],[r4],[r5],[r6],[r7],[r8],[r9],[ac],[ab,r3],[aa],[r2],[a9],[a8,r3],[a7,r3],[r2,a6],[r2,r3,r3],(List.replicate 2001 (ZP.mk 0 ([])))]),(7,iv x)],[(1,(ZI r1)),(4,(ZaE r2)),(5,(ZaE r3))],[]⟩) (λx:Int=>ZaX N r1 r2 r3 r4 r5 r6 r7 r8 r9 ac ab aa a9 a8 a7 a6 x) (λ(p:(Unit)⊕(Bool)) e s=>match p with|(.inl p)=>e=.exit 0/\(s=⟨[(1,.loc 1 0),(4,.loc 4 0),(5,.loc 5 0)],[(1,(ZI r1)),(4,(ZaE r2)),(5,(ZaE r3))],[]⟩)|(.inr p)=>e=.ret/\∃ xs,resL s i6.res=some xs/\Zbe xs=bv p) ?_ N _ au _ ae kr).mono ?_)
 ·clear h ae
  rintro i17 o s h hR
  obtain rfl:=hR
  replace h:ZaX N r1 r2 r3 r4 r5 r6 r7 r8 r9 ac ab aa a9 a8 a7 a6 i17=some o:=h
  unfold ZaX at h
  refine sq (sq (rg (ZJ.u 2 (Z0 (ys:=[ZaI true [[],[r4],[r5],[r6],[r7],[r8],[r9],[ac],[ab,r3],[aa],[r2],[a9],[a8,r3],[a7,r3],[r2,a6],[r2,r3,r3],(List.replicate 2001 (ZP.mk 0 ([])))]]) (h:=Zae (eSl 2 Z2))) ZJ.f) (tq (it h (λbz h=>?_) (λbz h=>?_)))))
  ·refine sk (tq (kq (sq (bk (sq ?_)))))
   obtain ⟨aq,ag,h⟩:=bs h
   obtain ⟨bB,aL,h⟩:=bs h
   refine rq (ZJ.u 3 (Z0 (ys:=[ZaI true [[],[r4],[r5],[r6],[r7],[r8],[r9],[ac],[ab,r3],[aa],[r2],[a9],[a8,r3],[a7,r3],[r2,a6],[r2,r3,r3],(List.replicate 2001 (ZP.mk 0 ([])))],iv i17]) (h:=ZS (eSl 2 Z2) ag)) (ZJ.u 0 (Zbo (Zal (sz:=1) (off:=0) (cs:=[.sl 2 false (List.map Z2 aq)]) (r:=ZK false aq) (eSl 2 Z2) ag)) (ZJ.v 0 (Z9 (hc:=Za6 N r1 aq ([]) bB aL)) ZJ.f))) (tq (sq ?_))
   obtain ⟨bE,hj,h⟩:=bs h
   refine rqR (λs=>s=⟨[(1,.loc 1 0),(4,.loc 4 0),(5,.loc 5 0),(6,ZaI true [[],[r4],[r5],[r6],[r7],[r8],[r9],[ac],[ab,r3],[aa],[r2],[a9],[a8,r3],[a7,r3],[r2,a6],[r2,r3,r3],(List.replicate 2001 (ZP.mk 0 ([])))]),(7,iv i17),(141,bv bE)],[(1,(ZI r1)),(4,(ZaE r2)),(5,(ZaE r3))],[]⟩) ?_ ?_
   ·clear h
    obtain ⟨ap,af,hj⟩:=bs hj
    refine (EP.u 3 (Z0 (ys:=[ZaI true [[],[r4],[r5],[r6],[r7],[r8],[r9],[ac],[ab,r3],[aa],[r2],[a9],[a8,r3],[a7,r3],[r2,a6],[r2,r3,r3],(List.replicate 2001 (ZP.mk 0 ([])))],iv i17]) (h:=ZS (eSl 2 Z2) af)) (EP.u 0 (Zbo (Zal (sz:=1) (off:=0) (cs:=[.sl 2 false (List.map Z2 ap)]) (r:=ZK false ap) (eSl 2 Z2) af)) ?_))
    obtain ⟨ao,aK,hj⟩:=bs hj
    refine (EP.v 0 (Z9 (hc:=Zav N r1 ap ao aK)) ?_)
    rcases Zai hj with ⟨bw,hj⟩|⟨bu,hj⟩
    ·obtain rfl:=Z4 hj
     exact (EP.u 0 (ZO (c:=(ao != 350)) (h:=bw)) (EP.f kr))
    obtain rfl:=Z4 hj
    exact (EP.u 0 (ZO (c:=(ao != 350)) (h:=bu)) (EP.f kr))
   clear hj
   rintro s hR
   obtain rfl:=hR
   refine tq (it h (λbt h=>?_) (λbt h=>?_))
   ·refine sq (rg ZJ.f (tq (rt (br (tr ?_)))))
    cases h
    exact ⟨_,rfl,rfl,Zaj kr⟩
   refine sk (bn (tq (kq (rg ZJ.f ?_))))
   cases h
   exact ⟨_,rfl,kr⟩
  refine kq (xq (tx ?_))
  cases h
  exact ⟨_,rfl,rfl,kr⟩
 rintro e s hq
 rcases au with bS|bR
 ·dsimp only at h hq
  obtain ⟨rfl,hR⟩:=hq
  obtain rfl:=hR
  refine bx (tq (sq ?_))
  obtain ⟨an,aJ,h⟩:=bs h
  refine rq (ZJ.u 3 (ZaS (hc:=ZW N 0 ([(ZQ.mk 0 2 0 0)]) an aJ)) ZJ.f) (tq (sq (rg ZJ.f (tq (sq (rg ZJ.f (tq (sq ?_))))))))
  obtain ⟨a5,aI,h⟩:=bs h
  refine rg (ZJ.v 2 (Z9 (hc:=ZW N 0 ([(ZQ.mk 0 3 0 0)]) a5 aI)) ZJ.f) (tq (sq (rg ZJ.f (tq (sq ?_)))))
  obtain ⟨a4,aG,h⟩:=bs h
  refine rg (ZJ.v 3 (Z9 (hc:=Za6 N r1 ([r2,r3]) ([0]) a4 aG)) ZJ.f) (tq (sq ?_))
  obtain ⟨a3,aE,h⟩:=bs h
  refine rg (ZJ.v 3 (Z9 (hc:=Za6 N r1 ([r2,r3]) ([0,2]) a3 aE)) ZJ.f) (tq (sq ?_))
  obtain ⟨a2,aD,h⟩:=bs h
  refine rg (ZJ.v 2 (Z9 (hc:=Za6 N r1 ([r2,an]) ([]) a2 aD)) ZJ.f) (tq (sq ?_))
  obtain ⟨a0,aC,h⟩:=bs h
  refine rg (ZJ.v 3 (Z9 (hc:=Za6 N (ZM.mk ([3]) ([(Zak.mk 0 0 0 2),(Zak.mk 0 0 1 1)])) ([a5]) ([2]) a0 aC)) ZJ.f) (tq (sq ?_))
  obtain ⟨a1,aB,h⟩:=bs h
  refine rg (ZJ.v 2 (Z9 (hc:=Za6 N (ZM.mk ([0]) ([])) ([]) ([]) a1 aB)) ZJ.f) (tq (sq ?_))
  obtain ⟨bD,hj,h⟩:=bs h
  refine rgR (λs=>s=⟨[(13,.loc 13 0),(14,ZK true [a5]),(18,iv a4.2.2),(21,iv a3.2.2),(24,iv a2.2.2),(25,iv a0.1),(26,iv a0.2.1),(27,iv a0.2.2),(30,iv a1.2.2),(31,bv bD)],[(13,[Zaf true [3],Z7 true [(Zak.mk 0 0 0 2),(Zak.mk 0 0 1 1)]])],[]⟩) ?_ ?_
  ·clear h
   obtain ⟨am,aA,hj⟩:=bs hj
   refine (EP.v 2 (Z9 (hc:=Zav N r1 ([r2,an]) am aA)) ?_)
   rcases Zai hj with ⟨bq,hj⟩|⟨be,hj⟩
   ·refine (EP.u 0 (ZO (c:=(am==351)) (h:=bq)) ?_)
    obtain ⟨al,az,hj⟩:=bs hj
    refine (EP.v 3 (Z9 (hc:=Zav N (ZM.mk ([2,2]) ([(Zak.mk 0 0 0 1),(Zak.mk 1 0 0 1)])) ([r2,r3]) al az)) ?_)
    rcases Zai hj with ⟨bp,hj⟩|⟨bf,hj⟩
    ·refine (EP.u 0 (ZO (c:=(al==351)) (h:=bp)) ?_)
     obtain ⟨ak,ay,hj⟩:=bs hj
     refine (EP.v 5 (Z9 (hc:=Zav N r1 ([r3]) ak ay)) ?_)
     rcases Zai hj with ⟨bm,hj⟩|⟨bi,hj⟩
     ·refine (EP.u 0 (ZO (c:=(ak==351)) (h:=bm)) ?_)
      obtain ⟨aj,ax,hj⟩:=bs hj
      refine (EP.v 5 (Z9 (hc:=Zav N (ZM.mk ([0]) ([])) ([r2,r3]) aj ax)) ?_)
      rcases Zai hj with ⟨bl,hj⟩|⟨bj,hj⟩
      ·refine (EP.u 0 (ZO (c:=(aj==340)) (h:=bl)) ?_)
       obtain ⟨bA,aw,hj⟩:=bs hj
       obtain rfl:=Z4 hj
       exact (EP.v 4 (Z9 (hc:=Zav N (ZM.mk ([]) ([])) ([r2,r3]) bA aw)) (EP.f kr))
      obtain rfl:=Z4 hj
      exact (EP.u 0 (ZO (c:=(aj==340)) (h:=bj)) (EP.f kr))
     obtain rfl:=Z4 hj
     exact (EP.u 0 (ZO (c:=(ak==351)) (h:=bi)) (EP.f kr))
    obtain rfl:=Z4 hj
    exact (EP.u 0 (ZO (c:=(al==351)) (h:=bf)) (EP.f kr))
   obtain rfl:=Z4 hj
   exact (EP.u 0 (ZO (c:=(am==351)) (h:=be)) (EP.f kr))
  clear hj
  rintro s hR
  obtain rfl:=hR
  refine tq (sq ?_)
  obtain ⟨bC,hj,h⟩:=bs h
  refine rgR (λs=>s=⟨[(0,bv bC)],[],[]⟩) ?_ ?_
  ·clear h
   obtain ⟨ar,ad,hj⟩:=bs hj
   rcases Zai hj with ⟨bd,hj⟩|⟨aM,hj⟩
   ·refine (EP.h 1 (Zhh kr (Zdk N  ar ad) bd) ?_)
    rcases Zai hj with ⟨bc,hj⟩|⟨aQ,hj⟩
    ·refine (EP.u 3 (ZO (c:=(a4.2.2==2)) (h:=bc)) ?_)
     rcases Zai hj with ⟨bb,hj⟩|⟨aR,hj⟩
     ·refine (EP.u 3 (ZO (c:=(a3.2.2==2)) (h:=bb)) ?_)
      rcases Zai hj with ⟨ba,hj⟩|⟨aS,hj⟩
      ·refine (EP.u 3 (ZO (c:=(a2.2.2==351)) (h:=ba)) ?_)
       rcases Zai hj with ⟨b2,hj⟩|⟨aT,hj⟩
       ·refine (EP.u 3 (ZO (c:=(a0.1==0)) (h:=b2)) ?_)
        rcases Zai hj with ⟨b1,hj⟩|⟨aU,hj⟩
        ·refine (EP.u 3 (ZO (c:=(a0.2.1==0)) (h:=b1)) ?_)
         rcases Zai hj with ⟨b0,hj⟩|⟨aV,hj⟩
         ·refine (EP.u 3 (ZO (c:=(a0.2.2==0)) (h:=b0)) ?_)
          rcases Zai hj with ⟨aZ,hj⟩|⟨aW,hj⟩
          ·refine (EP.u 3 (ZO (c:=(a1.2.2==340)) (h:=aZ)) ?_)
           obtain ⟨ai,av,hj⟩:=bs hj
           refine (EP.v 4 (Z9 (hc:=Zav N (ZM.mk ([3]) ([(Zak.mk 0 0 0 2),(Zak.mk 0 0 1 1)])) ([a5]) ai av)) ?_)
           rcases Zai hj with ⟨aY,hj⟩|⟨aX,hj⟩
           ·obtain rfl:=Z4 hj
            exact (EP.u 0 (ZO (c:=(ai==0)) (h:=aY)) (EP.f kr))
           obtain rfl:=Z4 hj
           exact (EP.u 0 (ZO (c:=(ai==0)) (h:=aX)) (EP.f kr))
          obtain rfl:=Z4 hj
          exact (EP.u 3 (ZO (c:=(a1.2.2==340)) (h:=aW)) (EP.f kr))
         obtain rfl:=Z4 hj
         exact (EP.u 3 (ZO (c:=(a0.2.2==0)) (h:=aV)) (EP.f kr))
        obtain rfl:=Z4 hj
        exact (EP.u 3 (ZO (c:=(a0.2.1==0)) (h:=aU)) (EP.f kr))
       obtain rfl:=Z4 hj
       exact (EP.u 3 (ZO (c:=(a0.1==0)) (h:=aT)) (EP.f kr))
      obtain rfl:=Z4 hj
      exact (EP.u 3 (ZO (c:=(a2.2.2==351)) (h:=aS)) (EP.f kr))
     obtain rfl:=Z4 hj
     exact (EP.u 3 (ZO (c:=(a3.2.2==2)) (h:=aR)) (EP.f kr))
    obtain rfl:=Z4 hj
    exact (EP.u 3 (ZO (c:=(a4.2.2==2)) (h:=aQ)) (EP.f kr))
   obtain rfl:=Z4 hj
   exact (EP.h 1 (Zhh kr (Zdk N  ar ad) aM) (EP.f kr))
  clear hj
  rintro s hR
  obtain rfl:=hR
  refine tq (rt ?_)
  cases h
  exact Zaj kr
 dsimp only at h hq
 obtain ⟨rfl,hq⟩:=hq
 refine br (tr ?_)
 cases h
 exact hq
end Go.Sh

