/- Part of the proof. -/
import Derived.Test.YthhhjjjbpcaadaaSolveKnownOk2
set_option linter.all false
namespace Go.Sh
open Go Go.Eng Go.Proofs
set_option maxRecDepth 100000
set_option maxHeartbeats 4000000
attribute [local irreducible] vc ev ZbF opsD opsF ZdM upd updH updO
theorem law26_SolveKnown_ok (N:Nat)(r:Bool)(h:law26_SolveKnown N=some r):PCall Try.prog 5 [] (bv r):=by
 unfold law26_SolveKnown at h
 have hH  := hp0
 refine ZaG chk5 rfl rfl (Zaf _ _ _ ?_) rfl
 refine sq (rg ZS.f (tq (sq (rg ZS.f (tq (sq (rg ZS.f (tq (sq ?_)))))))))
 obtain ⟨r1,hr1,h⟩:=bs h
 refine rg (ZS.v 1 (ZaE (hc:=Zbn N (ZT.mk ([3]) ([(Z2.mk 0 0 0 2),(Z2.mk 0 0 1 1)])) 0 r1 hr1)) ZS.f) (tq (sq (rg ZS.f (tq (sq ?_)))))
 obtain ⟨r2,hr2,h⟩:=bs h
 refine rg (ZS.v 1 (ZaE (hc:=Zbn N (ZT.mk ([1,1]) ([(Z2.mk 0 0 0 1),(Z2.mk 1 0 0 1)])) 1 r2 hr2)) ZS.f) (tq (sq (rg ZS.f (tq (sq (rg ZS.f (tq (sq (rg ZS.f (tq (sq (rg ZS.f (tq (sq ?_))))))))))))))
 obtain ⟨aQ,hj,h⟩:=bs h
 refine rgR (λs=>s=⟨[(0,bv aQ)],[],[]⟩) ?_ ?_
 ·clear h
  obtain ⟨r3,hr3,hj⟩:=bs hj
  rcases Zak hj with ⟨hc4,hj⟩|⟨ac,hj⟩
  ·refine (EP.h 0 (Zal kr (Zdl N  r3 hr3) hc4) ?_)
   obtain ⟨r5,hr5,hj⟩:=bs hj
   rcases Zak hj with ⟨hc6,hj⟩|⟨ad,hj⟩
   ·refine (EP.h 4 (Zal kr (Zap N (ZT.mk ([]) ([])) 0 ([]) r5 hr5) hc6) ?_)
    obtain ⟨r7,hr7,hj⟩:=bs hj
    rcases Zak hj with ⟨hc8,hj⟩|⟨ae,hj⟩
    ·refine (EP.h 4 (Zal kr (Zap N (ZT.mk ([3]) ([(Z2.mk 0 0 0 3)])) 0 ([0]) r7 hr7) hc8) ?_)
     rcases Zak hj with ⟨hc9,hj⟩|⟨af,hj⟩
     ·refine (EP.u 3 (ZZ (c:=(r1.2.2==4)) (h:=hc9)) ?_)
      obtain ⟨aL,a7,hj⟩:=bs hj
      rcases Zak hj with ⟨aA,hj⟩|⟨ag,hj⟩
      ·refine (EP.h 4 (Zal kr (Zbg N r1.2.1 ([(ZY.mk 0 ([(Zam.mk 0 1 0 0),(Zam.mk 1 3 (-2) 0)]))]) aL a7) aA) ?_)
       rcases Zak hj with ⟨az,hj⟩|⟨ai,hj⟩
       ·refine (EP.u 3 (ZZ (c:=(r2.2.2==4)) (h:=az)) ?_)
        obtain ⟨aK,a6,hj⟩:=bs hj
        rcases Zak hj with ⟨ay,hj⟩|⟨aj,hj⟩
        ·refine (EP.h 4 (Zal kr (Zbg N r2.2.1 ([(ZY.mk 0 ([(Zam.mk 0 1 (-1) 1)])),(ZY.mk 1 ([(Zam.mk 0 1 0 0)]))]) aK a6) ay) ?_)
         obtain ⟨aJ,a5,hj⟩:=bs hj
         rcases Zak hj with ⟨ax,hj⟩|⟨ak,hj⟩
         ·refine (EP.h 3 (Zal kr (Zaq N (ZT.mk ([1,1]) ([(Z2.mk 0 0 0 1),(Z2.mk 1 0 0 1)])) 0 8 aJ a5) ax) ?_)
          obtain ⟨aI,a4,hj⟩:=bs hj
          rcases Zak hj with ⟨aw,hj⟩|⟨al,hj⟩
          ·refine (EP.h 3 (Zal kr (Zaq N (ZT.mk ([0]) ([])) (-1) 340 aI a4) aw) ?_)
           obtain ⟨aG,a3,hj⟩:=bs hj
           rcases Zak hj with ⟨av,hj⟩|⟨am,hj⟩
           ·refine (EP.h 3 (Zal kr (Zaq N (ZT.mk ([3]) ([(Z2.mk 0 0 0 3)])) (-1) 2 aG a3) av) ?_)
            obtain ⟨aE,a2,hj⟩:=bs hj
            rcases Zak hj with ⟨au,hj⟩|⟨an,hj⟩
            ·refine (EP.h 4 (Zal kr (Zap N (ZT.mk ([3]) ([(Z2.mk 0 0 0 3)])) 1999 ([0]) aE a2) au) ?_)
             obtain ⟨aD,a1,hj⟩:=bs hj
             rcases Zak hj with ⟨ar,hj⟩|⟨ao,hj⟩
             ·refine (EP.h 4 (Zal kr (Zap N (ZT.mk ([12,8,6]) ([(Z2.mk 0 0 0 3),(Z2.mk 1 1 0 8),(Z2.mk 2 0 0 1),(Z2.mk 2 2 0 6)])) 2 ([0,0,3]) aD a1) ar) ?_)
              obtain ⟨a8,ab,hj⟩:=bs hj
              refine (EP.v 2 (ZaE (hc:=ZbJ N 4 1 1 a8 ab)) ?_)
              obtain ⟨aC,a0,hj⟩:=bs hj
              rcases Zak hj with ⟨aq,hj⟩|⟨ap,hj⟩
              ·refine (EP.h 0 (Zal kr (Zaq N a8 1 4 aC a0) aq) ?_)
               obtain ⟨aB,aa,hj⟩:=bs hj
               refine (EP.v 2 (ZaE (hc:=ZbJ N 2 1 1 aB aa)) ?_)
               obtain ⟨aM,a9,hj⟩:=bs hj
               obtain rfl:=Z4 hj
               exact (EP.v 1 (ZaE (hc:=Zap N aB 1999 ([0,2,3]) aM a9)) (EP.f kr))
              obtain rfl:=Z4 hj
              exact (EP.h 0 (Zal kr (Zaq N a8 1 4 aC a0) ap) (EP.f kr))
             obtain rfl:=Z4 hj
             exact (EP.h 4 (Zal kr (Zap N (ZT.mk ([12,8,6]) ([(Z2.mk 0 0 0 3),(Z2.mk 1 1 0 8),(Z2.mk 2 0 0 1),(Z2.mk 2 2 0 6)])) 2 ([0,0,3]) aD a1) ao) (EP.f kr))
            obtain rfl:=Z4 hj
            exact (EP.h 4 (Zal kr (Zap N (ZT.mk ([3]) ([(Z2.mk 0 0 0 3)])) 1999 ([0]) aE a2) an) (EP.f kr))
           obtain rfl:=Z4 hj
           exact (EP.h 3 (Zal kr (Zaq N (ZT.mk ([3]) ([(Z2.mk 0 0 0 3)])) (-1) 2 aG a3) am) (EP.f kr))
          obtain rfl:=Z4 hj
          exact (EP.h 3 (Zal kr (Zaq N (ZT.mk ([0]) ([])) (-1) 340 aI a4) al) (EP.f kr))
         obtain rfl:=Z4 hj
         exact (EP.h 3 (Zal kr (Zaq N (ZT.mk ([1,1]) ([(Z2.mk 0 0 0 1),(Z2.mk 1 0 0 1)])) 0 8 aJ a5) ak) (EP.f kr))
        obtain rfl:=Z4 hj
        exact (EP.h 4 (Zal kr (Zbg N r2.2.1 ([(ZY.mk 0 ([(Zam.mk 0 1 (-1) 1)])),(ZY.mk 1 ([(Zam.mk 0 1 0 0)]))]) aK a6) aj) (EP.f kr))
       obtain rfl:=Z4 hj
       exact (EP.u 3 (ZZ (c:=(r2.2.2==4)) (h:=ai)) (EP.f kr))
      obtain rfl:=Z4 hj
      exact (EP.h 4 (Zal kr (Zbg N r1.2.1 ([(ZY.mk 0 ([(Zam.mk 0 1 0 0),(Zam.mk 1 3 (-2) 0)]))]) aL a7) ag) (EP.f kr))
     obtain rfl:=Z4 hj
     exact (EP.u 3 (ZZ (c:=(r1.2.2==4)) (h:=af)) (EP.f kr))
    obtain rfl:=Z4 hj
    exact (EP.h 4 (Zal kr (Zap N (ZT.mk ([3]) ([(Z2.mk 0 0 0 3)])) 0 ([0]) r7 hr7) ae) (EP.f kr))
   obtain rfl:=Z4 hj
   exact (EP.h 4 (Zal kr (Zap N (ZT.mk ([]) ([])) 0 ([]) r5 hr5) ad) (EP.f kr))
  obtain rfl:=Z4 hj
  exact (EP.h 0 (Zal kr (Zdl N  r3 hr3) ac) (EP.f kr))
 clear hj
 rintro s hR
 obtain rfl:=hR
 refine tq (rt ?_)
 cases h
 exact Zay kr
end Go.Sh

