/- Part of the proof. -/
import Derived.Test.YtddgnfnfojoljaaProofMadeOk2
set_option linter.all false
namespace Go.Sh
open Go Go.Eng Go.Proofs
set_option maxRecDepth 100000
set_option maxHeartbeats 4000000
attribute [local irreducible] vc ev ZeM opsD opsF Zgm upd updH updO
theorem law25_ProofMade_ok (N:Nat)(a0_:Zbx)(a1_:Int)(a2_:Int)(r:Bool)(h:ZcV N a0_ a1_ a2_=some r):Zbr Try.prog 5 [.agg (ZaN a0_),.p (.int .u8 a1_),.p (.int .u8 a2_)] (bv r):=by
 unfold ZcV at h
 have hH  := hp0
 refine ZaI chk5 rfl rfl (Zat _ _ _ ?_) rfl
 refine sq (rg Z3.f (tq (sq (sq ?_))))
 obtain ⟨r1,hr1,h⟩:=bs h
 refine rg (Z3.v 0 (ZaE (hc:=Ziv N  r1 hr1)) Z3.f) (tq (it h (λhc2 h=>?_) (λhc2 h=>?_)))
 ·refine sq (rg Z3.f (tq (rt (tr ?_))))
  cases h
  exact ZaD kr
 refine sk (tq (kq (sq ?_)))
 obtain ⟨r3,hr3,h⟩:=bs h
 refine rg (Z3.v 1 (ZaE (hc:=Zez N a0_ r3 hr3)) Z3.f) (tq (sq ?_))
 obtain ⟨r4,hr4,h⟩:=bs h
 refine rg (Z3.v 1 (ZaE (hc:=Zjo N r3 r4 hr4)) Z3.f) (tq (sq (sq (rg Z3.f (tq (it h (λhc5 h=>?_) (λhc5 h=>?_)))))))
 ·refine sq (rg Z3.f (tq (rt (tr ?_))))
  cases h
  exact ZaD kr
 refine sk (tq (kq (sq ?_)))
 obtain ⟨m6,hm6,h⟩:=bs h
 refine rg (Z3.u 3 (Zac (ys:=[Z6 false r4.1]) (h:=Zas Zai)) (Z3.u 0 (Zac (ys:=[iv (w64 (a1_)),iv ((List.length r4.1:Nat):Int)]) (h:=Za3 hm6)) Z3.f)) (tq (sq ?_))
 obtain ⟨r7,hr7,h⟩:=bs h
 refine rg (Z3.v 4 (ZaE (hc:=Zg3 N (Zbe.mk a1_ a2_ 5 0) r4.1 r7 hr7)) Z3.f) (tq (sq ?_))
 obtain ⟨l8,hl8,h⟩:=bs h
 obtain ⟨a6,ab,h⟩:=bs h
 obtain ⟨a9,a2,ha9,hH⟩:=Zo2 (sz:=2) Zai hH ab
 replace hH:HP _ [.arr a9 2 false (List.map Zai a6)]:=hH
 have hfa9:=Zbv (HP.get hH 0 rfl)
 refine rgS ⟨[(7,.loc 7 0),(8,Z6 false r4.1),(10,iv m6),(11,Z6 false r7),(12,a9)],[(7,(Z2 r3))],a2⟩ (Z3.u 3 (Zac (ys:=[Z6 false r4.1]) (h:=Zas Zai)) (Z3.u 1 (Zac (ys:=[Z6 false r4.1,iv (w64 (((List.length r4.1:Nat):Int)-1))]) (h:=Zi5 Zai hl8)) (Z3.h 0 (ZdO (H:=[]) (a:=Z6 true []) (b:=Z6 false l8) kr kr kr kr ha9) Z3.f))) (by cases hfa9<;>kernel_rfl) (tq (sq ?_))
 obtain ⟨an,hj,h⟩:=bs h
 refine rgR (λs=>∃ (ak:List HO),s=⟨[(6,bv an)],[],ak⟩/\HP ak []) ?_ ?_
 ·clear h
  obtain ⟨a5,aa,hj⟩:=bs hj
  refine (EP.v 2 (ZaE (hc:=Zbu N r3 r4.1 a5 aa)) ?_)
  rcases ZaJ hj with ⟨ai,hj⟩|⟨ac,hj⟩
  ·refine (EP.u 0 (Zad (c:=(a5==0)) (h:=ai)) ?_)
   obtain ⟨a4,a8,hj⟩:=bs hj
   refine (EP.v 3 (ZaE (hc:=Zbu N r3 r7 a4 a8)) ?_)
   rcases ZaJ hj with ⟨ag,hj⟩|⟨ad,hj⟩
   ·refine (EP.u 0 (Zad (c:=(a4==350)) (h:=ag)) ?_)
    obtain ⟨a3,a7,hj⟩:=bs hj
    obtain ⟨am,al,a0,hH⟩:=HP.frz (k:=0) (a:=a9) (sz:=2) (frz:=false) Zai hH rfl
    replace hH:HP _ [.arr a9 2 true (List.map Zai a6)]:=hH
    refine (EP.v 4 (Zji (H:=a2) (ys:=[.agg (Z2 r3),a9]) (by cases hfa9<;>kernel_rfl) (by cases hfa9<;>kernel_rfl) (ZeS rfl (ZeS a0 ZjE)) (Zbu N r3 a6 a3 a7)) ?_)
    rcases ZaJ hj with ⟨af,hj⟩|⟨ae,hj⟩
    ·refine (EP.u 0 (Zad (c:=(a3==350)) (h:=af)) ?_)
     obtain ⟨aj,a1,hj⟩:=bs hj
     obtain rfl:=Zao hj
     exact (EP.u 4 (Zac (ys:=[Z6 false r4.1,iv m6]) (h:=Zae Zai a1)) (EP.u 1 (Zav (sz:=2) (off:=1) (cs:=[.sl 4 false (List.map Zaj aj.Arms)]) (r:=Zap false aj.Arms) Zai a1) (EP.u 0 (Zac (ys:=[Zap false aj.Arms]) (h:=Zas Zaj)) (EP.f ⟨am,(by show _=_;cases hfa9<;>kernel_rfl),(HP.pick hH [] rfl)⟩))))
    obtain rfl:=Zao hj
    exact (EP.u 0 (Zad (c:=(a3==350)) (h:=ae)) (EP.f ⟨am,(by show _=_;cases hfa9<;>kernel_rfl),(HP.pick hH [] rfl)⟩))
   obtain rfl:=Zao hj
   exact (EP.u 0 (Zad (c:=(a4==350)) (h:=ad)) (EP.f ⟨a2,(by show _=_;cases hfa9<;>kernel_rfl),(HP.pick hH [] rfl)⟩))
  obtain rfl:=Zao hj
  exact (EP.u 0 (Zad (c:=(a5==0)) (h:=ac)) (EP.f ⟨a2,(by show _=_;cases hfa9<;>kernel_rfl),(HP.pick hH [] rfl)⟩))
 clear hj
 rintro s hR
 obtain ⟨ak,rfl,hH⟩:=hR
 replace hH:HP _ []:=hH
 refine tq (rt ?_)
 cases h
 exact ZaD kr
end Go.Sh

