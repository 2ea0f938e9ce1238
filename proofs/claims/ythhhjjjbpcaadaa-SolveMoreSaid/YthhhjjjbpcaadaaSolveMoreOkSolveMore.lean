/- Part of the proof. -/
import Derived.Test.YthhhjjjbpcaadaaSolveMoreOk2
set_option linter.all false
namespace Go.Sh
open Go Go.Eng Go.Proofs
set_option maxRecDepth 100000
set_option maxHeartbeats 4000000
attribute [local irreducible] vc ev Zce opsD opsF Ze1 upd updH updO
theorem law26_SolveMore_ok (N:Nat)(a0_:Za4)(a1_:Int)(a2_:Int)(r:Bool)(h:Zca N a0_ a1_ a2_=some r):Zbi Try.prog 4 [.agg (Zat a0_),.p (.int .u8 a1_),.p (.int .u8 a2_)] (bv r):=by
 unfold Zca at h
 have hH  := hp0
 refine ZaS chk4 rfl rfl (Zao _ _ _ ?_) rfl
 refine sq (rg Z0.f (tq (sq (sq ?_))))
 obtain ⟨r1,hr1,h⟩:=bs h
 refine rg (Z0.v 0 (ZaQ (hc:=Zg7 N  r1 hr1)) Z0.f) (tq (it h (λhc2 h=>?_) (λhc2 h=>?_)))
 ·refine sq (rg Z0.f (tq (rt (tr ?_))))
  cases h
  exact ZaF kr
 refine sk (tq (kq (sq ?_)))
 obtain ⟨r3,hr3,h⟩:=bs h
 refine rg (Z0.v 1 (ZaQ (hc:=ZdK N a0_ r3 hr3)) Z0.f) (tq (sq ?_))
 obtain ⟨r4,hr4,h⟩:=bs h
 refine rg (Z0.v 3 (ZaQ (hc:=ZbR N r3 (w64 (a1_)) r4 hr4)) Z0.f) (tq (sq ?_))
 obtain ⟨r5,hr5,h⟩:=bs h
 refine rg (Z0.v 6 (ZaQ (hc:=ZbR N r3 (w64 ((w64 (a1_))+(w64 (a2_)))) r5 hr5)) Z0.f) (tq (sq ?_))
 obtain ⟨a5,hj,h⟩:=bs h
 refine rgR (λs=>s=⟨[(6,bv a5)],[],[]⟩) ?_ ?_
 ·clear h
  rcases ZaJ hj with ⟨hc6,hj⟩|⟨hc7,hj⟩
  ·obtain rfl:=Zak hj
   exact (EP.u 1 (Z7 (c:=(r4.2.2==8)) (h:=hc6)) (EP.f kr))
  refine (EP.u 1 (Z7 (c:=(r4.2.2==8)) (h:=hc7)) ?_)
  rcases ZaJ hj with ⟨hc8,hj⟩|⟨a1,hj⟩
  ·refine (EP.u 3 (Z7 (c:=(r4.2.2==r5.2.2)) (h:=hc8)) ?_)
   obtain ⟨r9,hr9,hj⟩:=bs hj
   rcases ZaJ hj with ⟨a3,hj⟩|⟨a2,hj⟩
   ·refine (EP.h 3 (ZbX kr (Zbe N r4.1 r5.1 r9 hr9) a3) ?_)
    obtain ⟨a4,a0,hj⟩:=bs hj
    obtain rfl:=Zak hj
    exact (EP.v 4 (ZaQ (hc:=Zdw N r4.2.1 r5.2.1 a4 a0)) (EP.f kr))
   obtain rfl:=Zak hj
   exact (EP.h 3 (ZbX kr (Zbe N r4.1 r5.1 r9 hr9) a2) (EP.f kr))
  obtain rfl:=Zak hj
  exact (EP.u 3 (Z7 (c:=(r4.2.2==r5.2.2)) (h:=a1)) (EP.f kr))
 clear hj
 rintro s hR
 obtain rfl:=hR
 refine tq (rt ?_)
 cases h
 exact ZaF kr
end Go.Sh

