/- Part of the proof. -/
import Derived.Test.YthhhjjjbpcaadaaSolveTellsOk2
set_option linter.all false
namespace Go.Sh
open Go Go.Eng Go.Proofs
set_option maxRecDepth 100000
set_option maxHeartbeats 4000000
attribute [local irreducible] vc ev ZcU opsD opsF Zf8 upd updH updO
theorem law26_SolveTells_ok (N:Nat)(a0_:Zbu)(a1_:(List Int))(a2_:Int)(r:Bool)(h:Zcy N a0_ a1_ a2_=some r):Zbs Try.prog 7 [.agg (ZaP a0_),Zcz false a1_,.p (.int .u8 a2_)] (bv r):=by
 unfold Zcy at h
 have hH  := hp0
 refine ZaO chk7 rfl rfl (Zaw _ _ _ ?_) rfl
 refine sq (rg Z7.f (tq (sq (sq ?_))))
 obtain ⟨r1,hr1,h⟩:=bs h
 refine rg (Z7.v 0 (ZaM (hc:=ZiG N  r1 hr1)) Z7.f) (tq (it h (λhc2 h=>?_) (λhc2 h=>?_)))
 ·refine sq (rg Z7.f (tq (rt (tr ?_))))
  cases h
  exact ZaF kr
 refine sk (tq (kq (sq ?_)))
 obtain ⟨r3,hr3,h⟩:=bs h
 refine rg (Z7.v 1 (ZaM (hc:=ZeL N a0_ r3 hr3)) Z7.f) (tq (sq ?_))
 obtain ⟨r4,hr4,h⟩:=bs h
 refine rg (Z7.v 3 (ZaM (hc:=Zc6 N r3 (w64 (a2_)) r4 hr4)) Z7.f) (tq (sq ?_))
 obtain ⟨r5,hr5,h⟩:=bs h
 refine rg (Z7.v 2 (ZaM (hc:=ZjD N r3 a1_ r5 hr5)) Z7.f) (tq (sq ?_))
 obtain ⟨r6,hr6,h⟩:=bs h
 refine rg (Z7.v 2 (ZaM (hc:=ZgN N r3 r5 r6 hr6)) Z7.f) (tq (sq (sq (rg Z7.f (tq (it h (λhc7 h=>?_) (λhc7 h=>?_)))))))
 ·refine sq (rg Z7.f (tq (rt (tr ?_))))
  cases h
  exact ZaF kr
 refine sk (tq (kq (sq (sq (rg Z7.f (tq (bk (sq (rg Z7.f (tq (it h (λhc8 h=>?_) (λhc8 h=>?_))))))))))))
 ·refine sq ?_
  obtain ⟨r9,hr9,h⟩:=bs h
  refine rg (Z7.v 2 (ZaM (hc:=ZgN N r3 r4.1 r9 hr9)) Z7.f) (tq (sq ?_))
  obtain ⟨ap,hj,h⟩:=bs h
  refine rgR (λs=>s=⟨[(6,bv ap)],[],[]⟩) ?_ ?_
  ·clear h
   rcases ZaJ hj with ⟨am,hj⟩|⟨ae,hj⟩
   ·refine (EP.u 0 (Zad (c:=r9.1) (h:=am)) ?_)
    rcases ZaJ hj with ⟨al,hj⟩|⟨af,hj⟩
    ·refine (EP.u 2 (Zad (c:=(r9.2==0)) (h:=al)) (EP.u 3 (Zaf (ys:=[Z9 false r4.2.1]) (h:=Zao Zal)) ?_))
     rcases ZaJ hj with ⟨ak,hj⟩|⟨ag,hj⟩
     ·refine (EP.u 0 (Zad (c:=(((List.length r4.2.1:Nat):Int)==0)) (h:=ak)) (EP.u 3 (Zaf (ys:=[Zak false r4.1]) (h:=Zao eI64)) ?_))
      rcases ZaJ hj with ⟨aj,hj⟩|⟨ai,hj⟩
      ·obtain rfl:=Zar hj
       exact (EP.u 0 (Zad (c:=(((List.length r4.1:Nat):Int)==0)) (h:=aj)) (EP.f kr))
      refine (EP.u 0 (Zad (c:=(((List.length r4.1:Nat):Int)==0)) (h:=ai)) ?_)
      obtain ⟨an,a1,hj⟩:=bs hj
      obtain rfl:=Zar hj
      exact (EP.u 2 (Zaf (ys:=[Zak false r4.1,iv 0]) (h:=Zai eI64 a1)) (EP.u 0 (Zay (sz:=1) (off:=0) (cs:=[.int .i64 an]) (r:=iv an) eI64 a1) (EP.f kr)))
     obtain rfl:=Zar hj
     exact (EP.u 0 (Zad (c:=(((List.length r4.2.1:Nat):Int)==0)) (h:=ag)) (EP.f kr))
    obtain rfl:=Zar hj
    exact (EP.u 2 (Zad (c:=(r9.2==0)) (h:=af)) (EP.f kr))
   obtain rfl:=Zar hj
   exact (EP.u 0 (Zad (c:=r9.1) (h:=ae)) (EP.f kr))
  clear hj
  rintro s hR
  obtain rfl:=hR
  refine tq (rt (br (tr ?_)))
  cases h
  exact ZaF kr
 refine sq (rg Z7.f (tq (it h (λad h=>?_) (λad h=>?_))))
 ·refine sq ?_
  obtain ⟨ao,hj,h⟩:=bs h
  refine rgR (λs=>s=⟨[(6,bv ao)],[],[]⟩) ?_ ?_
  ·clear h
   rcases ZaJ hj with ⟨ac,hj⟩|⟨a7,hj⟩
   ·refine (EP.u 1 (Zad (c:=(!r6.1)) (h:=ac)) (EP.u 2 (Zaf (ys:=[Zak false r4.1]) (h:=Zao eI64)) ?_))
    rcases ZaJ hj with ⟨ab,hj⟩|⟨a8,hj⟩
    ·refine (EP.u 0 (Zad (c:=(((List.length r4.1:Nat):Int)==0)) (h:=ab)) ?_)
     obtain ⟨a5,a6,hj⟩:=bs hj
     refine (EP.v 4 (ZaM (hc:=ZiA N r3 r4.2.1 a5 a6)) ?_)
     rcases ZaJ hj with ⟨aa,hj⟩|⟨a9,hj⟩
     ·obtain rfl:=Zar hj
      exact (EP.u 0 (Zad (c:=(a5==0)) (h:=aa)) (EP.u 3 (Zaf (ys:=[Z9 false r4.2.1]) (h:=Zao Zal)) (EP.f kr)))
     obtain rfl:=Zar hj
     exact (EP.u 0 (Zad (c:=(a5==0)) (h:=a9)) (EP.f kr))
    obtain rfl:=Zar hj
    exact (EP.u 0 (Zad (c:=(((List.length r4.1:Nat):Int)==0)) (h:=a8)) (EP.f kr))
   obtain rfl:=Zar hj
   exact (EP.u 1 (Zad (c:=(!r6.1)) (h:=a7)) (EP.f kr))
  clear hj
  rintro s hR
  obtain rfl:=hR
  refine tq (rt (br (tr ?_)))
  cases h
  exact ZaF kr
 refine sk (bn (tq (kq (sq (rgX ⟨[(6,bv ((r4.2.2==8)&&((((List.length r4.1:Nat):Int)==0)&&(((List.length r4.2.1:Nat):Int)==0))))],[],[]⟩ ?_ ?_)))))
 ·rcases Bool.eq_false_or_eq_true (r4.2.2==8) with a0|a2
  ·refine (EP.u 1 (Zad (c:=(r4.2.2==8)) (h:=a0)) (EP.u 2 (Zaf (ys:=[Zak false r4.1]) (h:=Zao eI64)) ?_))
   rcases Bool.eq_false_or_eq_true (((List.length r4.1:Nat):Int)==0) with a4|a3
   ·exact (EP.u 0 (Zad (c:=(((List.length r4.1:Nat):Int)==0)) (h:=a4)) (EP.u 3 (Zaf (ys:=[Z9 false r4.2.1]) (h:=Zao Zal)) (EP.f (by simp only [a0,a4];kernel_rfl))))
   exact (EP.u 0 (Zad (c:=(((List.length r4.1:Nat):Int)==0)) (h:=a3)) (EP.f (by simp only [a0,a3];kernel_rfl)))
  exact (EP.u 1 (Zad (c:=(r4.2.2==8)) (h:=a2)) (EP.f (by simp only [a2];kernel_rfl)))
 refine tq (rt ?_)
 cases h
 exact ZaF kr
end Go.Sh

