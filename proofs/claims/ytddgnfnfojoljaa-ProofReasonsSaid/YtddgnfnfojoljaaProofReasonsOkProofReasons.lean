/- Part of the proof. -/
import Derived.Test.YtddgnfnfojoljaaProofReasonsOk2
set_option linter.all false
namespace Go.Sh
open Go Go.Eng Go.Proofs
set_option maxRecDepth 100000
set_option maxHeartbeats 4000000
attribute [local irreducible] vc ev ZfE opsD opsF ZgP upd updH updO
theorem law25_ProofReasons_ok (N:Nat)(a0_:ZbG)(a1_:(List Z7))(a2_:ZaV)(a3_:(List Int))(a4_:(List Int))(r:Bool)(h:ZcG N a0_ a1_ a2_ a3_ a4_=some r):Za9 Try.prog 4 [.agg (ZaW a0_),Z5 false a1_,.agg (ZaG a2_),ZbE false a3_,Zaf false a4_] (bv r):=by
 unfold ZcG at h
 have hH  := hp0
 refine ZaC chk4 rfl rfl (Zat _ _ _ ?_) rfl
 refine sq (rg Z6.f (tq (sq ?_)))
 obtain ⟨r1,hr1,h⟩:=bs h
 refine rg (Z6.v 1 (Zaw (hc:=Zfo N a0_ r1 hr1)) Z6.f) (tq (sq (sq ?_)))
 obtain ⟨r2,hr2,h⟩:=bs h
 refine rg (Z6.v 4 (Zaw (hc:=ZiO N r1 a1_ a2_ a2_ r2 hr2)) Z6.f) (tq (bk (Zfs 18 (ZbR (sq (rg Z6.f (tq (sq (Zd6 kr (sk (tq (kq (sq (bk (sq (rg Z6.f (tq (sq ?_))))))))))))))))))
 obtain ⟨r3,hr3,h⟩:=bs h
 refine rg (Z6.v 2 (Zaw (hc:=Zeg N r1 a3_ r3 hr3)) Z6.f) (tq (bk (Zfs 18 (ZbR (sq (rg Z6.f (tq (sq (Zd6 kr (sk (tq (kq (sq (bk (sq (rg Z6.f (tq (sq ?_))))))))))))))))))
 obtain ⟨r4,hr4,h⟩:=bs h
 refine rg (Z6.v 3 (Zaw (hc:=ZbS N r1 r2.x0 r3 r4 hr4)) Z6.f) (tq (sq ?_))
 obtain ⟨r5,hr5,h⟩:=bs h
 refine rg (Z6.v 3 (Zaw (hc:=Zca N r1 r2.x0 r3 r5 hr5)) Z6.f) (tq (sq (rgX ⟨[(3,ZbE false a3_),(4,Zaf false a4_),(11,.loc 11 0),(13,Z5 false r2.x0),(28,.agg (ZaP r2)),(29,iv 0),(36,.agg [Zaf false r3,Zaf false a4_]),(37,iv 0),(68,bv ((r4.1 != r5.1)||((r4.2.1 != r5.2.1)||(r4.2.2 != r5.2.2))))],[(11,(Z4 r1))],[]⟩ ?_ ?_)))
 ·rcases Bool.eq_false_or_eq_true (r4.1 != r5.1) with hc6|hc7
  ·exact (EP.u 2 (Z9 (c:=(r4.1 != r5.1)) (h:=hc6)) (EP.f (by simp only [hc6];kernel_rfl)))
  refine (EP.u 2 (Z9 (c:=(r4.1 != r5.1)) (h:=hc7)) ?_)
  rcases Bool.eq_false_or_eq_true (r4.2.1 != r5.2.1) with hc8|hc9
  ·exact (EP.u 3 (Z9 (c:=(r4.2.1 != r5.2.1)) (h:=hc8)) (EP.f (by simp only [hc7,hc8];kernel_rfl)))
  exact (EP.u 3 (Z9 (c:=(r4.2.1 != r5.2.1)) (h:=hc9)) (EP.f (by simp only [hc7,hc9];kernel_rfl)))
 refine tq (it h (λbu h=>?_) (λbu h=>?_))
 ·refine sq (rg Z6.f (tq (rt (br (tr (tr (br (br (tr (tr (br (tr ?_))))))))))))
  cases h
  exact Zar kr
 refine sk (bn (tq (kq (rg Z6.f (tq (ZbR (sq (rg Z6.f (tq (sq (Zd6 kr (sk (tq (kq (sq (bk (sq (rg Z6.f (tq (sq ?_))))))))))))))))))))
 obtain ⟨ad,bf,h⟩:=bs h
 refine rg (Z6.v 3 (Zaw (hc:=ZbS N r1 r2.x0 a4_ ad bf)) Z6.f) (tq (sq ?_))
 obtain ⟨ac,be,h⟩:=bs h
 refine rg (Z6.v 3 (Zaw (hc:=Zca N r1 r2.x0 a4_ ac be)) Z6.f) (tq (sq (rgX ⟨[(3,ZbE false a3_),(4,Zaf false a4_),(11,.loc 11 0),(13,Z5 false r2.x0),(28,.agg (ZaP r2)),(29,iv 0),(36,.agg [Zaf false r3,Zaf false a4_]),(37,iv 1),(68,bv ((ad.1 != ac.1)||((ad.2.1 != ac.2.1)||(ad.2.2 != ac.2.2))))],[(11,(Z4 r1))],[]⟩ ?_ ?_)))
 ·rcases Bool.eq_false_or_eq_true (ad.1 != ac.1) with aQ|al
  ·exact (EP.u 2 (Z9 (c:=(ad.1 != ac.1)) (h:=aQ)) (EP.f (by simp only [aQ];kernel_rfl)))
  refine (EP.u 2 (Z9 (c:=(ad.1 != ac.1)) (h:=al)) ?_)
  rcases Bool.eq_false_or_eq_true (ad.2.1 != ac.2.1) with aM|aL
  ·exact (EP.u 3 (Z9 (c:=(ad.2.1 != ac.2.1)) (h:=aM)) (EP.f (by simp only [al,aM];kernel_rfl)))
  exact (EP.u 3 (Z9 (c:=(ad.2.1 != ac.2.1)) (h:=aL)) (EP.f (by simp only [al,aL];kernel_rfl)))
 refine tq (it h (λbt h=>?_) (λbt h=>?_))
 ·refine sq (rg Z6.f (tq (rt (br (tr (tr (br (br (tr (tr (br (tr ?_))))))))))))
  cases h
  exact Zar kr
 refine sk (bn (tq (kq (rg Z6.f (tq (ZbR (sq (rg Z6.f (tq (sq (ZfN kr (kq (xq (tx (tx (bx (bn (tq (rg Z6.f (tq (ZbR (sq (rg Z6.f (tq (sq (Zd6 kr (sk (tq (kq (sq (bk (sq (rg Z6.f (tq (sq ?_)))))))))))))))))))))))))))))))))))
 obtain ⟨ao,bd,h⟩:=bs h
 refine rg (Z6.v 2 (Zaw (hc:=Zeg N r1 a3_ ao bd)) Z6.f) (tq (bk (Zfs 18 (ZbR (sq (rg Z6.f (tq (sq (Zd6 kr (sk (tq (kq (sq (bk (sq (rg Z6.f (tq (sq ?_))))))))))))))))))
 obtain ⟨ab,bc,h⟩:=bs h
 refine rg (Z6.v 3 (Zaw (hc:=ZbS N r1 r2.x1 ao ab bc)) Z6.f) (tq (sq ?_))
 obtain ⟨aa,bb,h⟩:=bs h
 refine rg (Z6.v 3 (Zaw (hc:=Zca N r1 r2.x1 ao aa bb)) Z6.f) (tq (sq (rgX ⟨[(3,ZbE false a3_),(4,Zaf false a4_),(11,.loc 11 0),(13,Z5 false r2.x1),(28,.agg (ZaP r2)),(29,iv 1),(36,.agg [Zaf false ao,Zaf false a4_]),(37,iv 0),(68,bv ((ab.1 != aa.1)||((ab.2.1 != aa.2.1)||(ab.2.2 != aa.2.2))))],[(11,(Z4 r1))],[]⟩ ?_ ?_)))
 ·rcases Bool.eq_false_or_eq_true (ab.1 != aa.1) with aK|ak
  ·exact (EP.u 2 (Z9 (c:=(ab.1 != aa.1)) (h:=aK)) (EP.f (by simp only [aK];kernel_rfl)))
  refine (EP.u 2 (Z9 (c:=(ab.1 != aa.1)) (h:=ak)) ?_)
  rcases Bool.eq_false_or_eq_true (ab.2.1 != aa.2.1) with aJ|aI
  ·exact (EP.u 3 (Z9 (c:=(ab.2.1 != aa.2.1)) (h:=aJ)) (EP.f (by simp only [ak,aJ];kernel_rfl)))
  exact (EP.u 3 (Z9 (c:=(ab.2.1 != aa.2.1)) (h:=aI)) (EP.f (by simp only [ak,aI];kernel_rfl)))
 refine tq (it h (λbq h=>?_) (λbq h=>?_))
 ·refine sq (rg Z6.f (tq (rt (br (tr (tr (br (br (tr (tr (br (tr ?_))))))))))))
  cases h
  exact Zar kr
 refine sk (bn (tq (kq (rg Z6.f (tq (ZbR (sq (rg Z6.f (tq (sq (Zd6 kr (sk (tq (kq (sq (bk (sq (rg Z6.f (tq (sq ?_))))))))))))))))))))
 obtain ⟨a9,ba,h⟩:=bs h
 refine rg (Z6.v 3 (Zaw (hc:=ZbS N r1 r2.x1 a4_ a9 ba)) Z6.f) (tq (sq ?_))
 obtain ⟨a8,b2,h⟩:=bs h
 refine rg (Z6.v 3 (Zaw (hc:=Zca N r1 r2.x1 a4_ a8 b2)) Z6.f) (tq (sq (rgX ⟨[(3,ZbE false a3_),(4,Zaf false a4_),(11,.loc 11 0),(13,Z5 false r2.x1),(28,.agg (ZaP r2)),(29,iv 1),(36,.agg [Zaf false ao,Zaf false a4_]),(37,iv 1),(68,bv ((a9.1 != a8.1)||((a9.2.1 != a8.2.1)||(a9.2.2 != a8.2.2))))],[(11,(Z4 r1))],[]⟩ ?_ ?_)))
 ·rcases Bool.eq_false_or_eq_true (a9.1 != a8.1) with aG|aj
  ·exact (EP.u 2 (Z9 (c:=(a9.1 != a8.1)) (h:=aG)) (EP.f (by simp only [aG];kernel_rfl)))
  refine (EP.u 2 (Z9 (c:=(a9.1 != a8.1)) (h:=aj)) ?_)
  rcases Bool.eq_false_or_eq_true (a9.2.1 != a8.2.1) with aE|aD
  ·exact (EP.u 3 (Z9 (c:=(a9.2.1 != a8.2.1)) (h:=aE)) (EP.f (by simp only [aj,aE];kernel_rfl)))
  exact (EP.u 3 (Z9 (c:=(a9.2.1 != a8.2.1)) (h:=aD)) (EP.f (by simp only [aj,aD];kernel_rfl)))
 refine tq (it h (λbp h=>?_) (λbp h=>?_))
 ·refine sq (rg Z6.f (tq (rt (br (tr (tr (br (br (tr (tr (br (tr ?_))))))))))))
  cases h
  exact Zar kr
 refine sk (bn (tq (kq (rg Z6.f (tq (ZbR (sq (rg Z6.f (tq (sq (ZfN kr (kq (xq (tx (tx (bx (bn (tq (rg Z6.f (tq (ZbR (sq (rg Z6.f (tq (sq (Zd6 kr (sk (tq (kq (sq (bk (sq (rg Z6.f (tq (sq ?_)))))))))))))))))))))))))))))))))))
 obtain ⟨an,b1,h⟩:=bs h
 refine rg (Z6.v 2 (Zaw (hc:=Zeg N r1 a3_ an b1)) Z6.f) (tq (bk (Zfs 18 (ZbR (sq (rg Z6.f (tq (sq (Zd6 kr (sk (tq (kq (sq (bk (sq (rg Z6.f (tq (sq ?_))))))))))))))))))
 obtain ⟨a7,b0,h⟩:=bs h
 refine rg (Z6.v 3 (Zaw (hc:=ZbS N r1 r2.x2 an a7 b0)) Z6.f) (tq (sq ?_))
 obtain ⟨a6,aZ,h⟩:=bs h
 refine rg (Z6.v 3 (Zaw (hc:=Zca N r1 r2.x2 an a6 aZ)) Z6.f) (tq (sq (rgX ⟨[(3,ZbE false a3_),(4,Zaf false a4_),(11,.loc 11 0),(13,Z5 false r2.x2),(28,.agg (ZaP r2)),(29,iv 2),(36,.agg [Zaf false an,Zaf false a4_]),(37,iv 0),(68,bv ((a7.1 != a6.1)||((a7.2.1 != a6.2.1)||(a7.2.2 != a6.2.2))))],[(11,(Z4 r1))],[]⟩ ?_ ?_)))
 ·rcases Bool.eq_false_or_eq_true (a7.1 != a6.1) with aC|ai
  ·exact (EP.u 2 (Z9 (c:=(a7.1 != a6.1)) (h:=aC)) (EP.f (by simp only [aC];kernel_rfl)))
  refine (EP.u 2 (Z9 (c:=(a7.1 != a6.1)) (h:=ai)) ?_)
  rcases Bool.eq_false_or_eq_true (a7.2.1 != a6.2.1) with aB|aA
  ·exact (EP.u 3 (Z9 (c:=(a7.2.1 != a6.2.1)) (h:=aB)) (EP.f (by simp only [ai,aB];kernel_rfl)))
  exact (EP.u 3 (Z9 (c:=(a7.2.1 != a6.2.1)) (h:=aA)) (EP.f (by simp only [ai,aA];kernel_rfl)))
 refine tq (it h (λbm h=>?_) (λbm h=>?_))
 ·refine sq (rg Z6.f (tq (rt (br (tr (tr (br (br (tr (tr (br (tr ?_))))))))))))
  cases h
  exact Zar kr
 refine sk (bn (tq (kq (rg Z6.f (tq (ZbR (sq (rg Z6.f (tq (sq (Zd6 kr (sk (tq (kq (sq (bk (sq (rg Z6.f (tq (sq ?_))))))))))))))))))))
 obtain ⟨a5,aY,h⟩:=bs h
 refine rg (Z6.v 3 (Zaw (hc:=ZbS N r1 r2.x2 a4_ a5 aY)) Z6.f) (tq (sq ?_))
 obtain ⟨a4,aX,h⟩:=bs h
 refine rg (Z6.v 3 (Zaw (hc:=Zca N r1 r2.x2 a4_ a4 aX)) Z6.f) (tq (sq (rgX ⟨[(3,ZbE false a3_),(4,Zaf false a4_),(11,.loc 11 0),(13,Z5 false r2.x2),(28,.agg (ZaP r2)),(29,iv 2),(36,.agg [Zaf false an,Zaf false a4_]),(37,iv 1),(68,bv ((a5.1 != a4.1)||((a5.2.1 != a4.2.1)||(a5.2.2 != a4.2.2))))],[(11,(Z4 r1))],[]⟩ ?_ ?_)))
 ·rcases Bool.eq_false_or_eq_true (a5.1 != a4.1) with az|ag
  ·exact (EP.u 2 (Z9 (c:=(a5.1 != a4.1)) (h:=az)) (EP.f (by simp only [az];kernel_rfl)))
  refine (EP.u 2 (Z9 (c:=(a5.1 != a4.1)) (h:=ag)) ?_)
  rcases Bool.eq_false_or_eq_true (a5.2.1 != a4.2.1) with ay|ax
  ·exact (EP.u 3 (Z9 (c:=(a5.2.1 != a4.2.1)) (h:=ay)) (EP.f (by simp only [ag,ay];kernel_rfl)))
  exact (EP.u 3 (Z9 (c:=(a5.2.1 != a4.2.1)) (h:=ax)) (EP.f (by simp only [ag,ax];kernel_rfl)))
 refine tq (it h (λbl h=>?_) (λbl h=>?_))
 ·refine sq (rg Z6.f (tq (rt (br (tr (tr (br (br (tr (tr (br (tr ?_))))))))))))
  cases h
  exact Zar kr
 refine sk (bn (tq (kq (rg Z6.f (tq (ZbR (sq (rg Z6.f (tq (sq (ZfN kr (kq (xq (tx (tx (bx (bn (tq (rg Z6.f (tq (ZbR (sq (rg Z6.f (tq (sq (Zd6 kr (sk (tq (kq (sq (bk (sq (rg Z6.f (tq (sq ?_)))))))))))))))))))))))))))))))))))
 obtain ⟨am,aW,h⟩:=bs h
 refine rg (Z6.v 2 (Zaw (hc:=Zeg N r1 a3_ am aW)) Z6.f) (tq (bk (Zfs 18 (ZbR (sq (rg Z6.f (tq (sq (Zd6 kr (sk (tq (kq (sq (bk (sq (rg Z6.f (tq (sq ?_))))))))))))))))))
 obtain ⟨a3,aV,h⟩:=bs h
 refine rg (Z6.v 3 (Zaw (hc:=ZbS N r1 r2.x3 am a3 aV)) Z6.f) (tq (sq ?_))
 obtain ⟨a2,aU,h⟩:=bs h
 refine rg (Z6.v 3 (Zaw (hc:=Zca N r1 r2.x3 am a2 aU)) Z6.f) (tq (sq (rgX ⟨[(3,ZbE false a3_),(4,Zaf false a4_),(11,.loc 11 0),(13,Z5 false r2.x3),(28,.agg (ZaP r2)),(29,iv 3),(36,.agg [Zaf false am,Zaf false a4_]),(37,iv 0),(68,bv ((a3.1 != a2.1)||((a3.2.1 != a2.2.1)||(a3.2.2 != a2.2.2))))],[(11,(Z4 r1))],[]⟩ ?_ ?_)))
 ·rcases Bool.eq_false_or_eq_true (a3.1 != a2.1) with aw|af
  ·exact (EP.u 2 (Z9 (c:=(a3.1 != a2.1)) (h:=aw)) (EP.f (by simp only [aw];kernel_rfl)))
  refine (EP.u 2 (Z9 (c:=(a3.1 != a2.1)) (h:=af)) ?_)
  rcases Bool.eq_false_or_eq_true (a3.2.1 != a2.2.1) with av|au
  ·exact (EP.u 3 (Z9 (c:=(a3.2.1 != a2.2.1)) (h:=av)) (EP.f (by simp only [af,av];kernel_rfl)))
  exact (EP.u 3 (Z9 (c:=(a3.2.1 != a2.2.1)) (h:=au)) (EP.f (by simp only [af,au];kernel_rfl)))
 refine tq (it h (λbj h=>?_) (λbj h=>?_))
 ·refine sq (rg Z6.f (tq (rt (br (tr (tr (br (br (tr (tr (br (tr ?_))))))))))))
  cases h
  exact Zar kr
 refine sk (bn (tq (kq (rg Z6.f (tq (ZbR (sq (rg Z6.f (tq (sq (Zd6 kr (sk (tq (kq (sq (bk (sq (rg Z6.f (tq (sq ?_))))))))))))))))))))
 obtain ⟨a1,aT,h⟩:=bs h
 refine rg (Z6.v 3 (Zaw (hc:=ZbS N r1 r2.x3 a4_ a1 aT)) Z6.f) (tq (sq ?_))
 obtain ⟨a0,aS,h⟩:=bs h
 refine rg (Z6.v 3 (Zaw (hc:=Zca N r1 r2.x3 a4_ a0 aS)) Z6.f) (tq (sq (rgX ⟨[(3,ZbE false a3_),(4,Zaf false a4_),(11,.loc 11 0),(13,Z5 false r2.x3),(28,.agg (ZaP r2)),(29,iv 3),(36,.agg [Zaf false am,Zaf false a4_]),(37,iv 1),(68,bv ((a1.1 != a0.1)||((a1.2.1 != a0.2.1)||(a1.2.2 != a0.2.2))))],[(11,(Z4 r1))],[]⟩ ?_ ?_)))
 ·rcases Bool.eq_false_or_eq_true (a1.1 != a0.1) with ar|ae
  ·exact (EP.u 2 (Z9 (c:=(a1.1 != a0.1)) (h:=ar)) (EP.f (by simp only [ar];kernel_rfl)))
  refine (EP.u 2 (Z9 (c:=(a1.1 != a0.1)) (h:=ae)) ?_)
  rcases Bool.eq_false_or_eq_true (a1.2.1 != a0.2.1) with aq|ap
  ·exact (EP.u 3 (Z9 (c:=(a1.2.1 != a0.2.1)) (h:=aq)) (EP.f (by simp only [ae,aq];kernel_rfl)))
  exact (EP.u 3 (Z9 (c:=(a1.2.1 != a0.2.1)) (h:=ap)) (EP.f (by simp only [ae,ap];kernel_rfl)))
 refine tq (it h (λbi h=>?_) (λbi h=>?_))
 ·refine sq (rg Z6.f (tq (rt (br (tr (tr (br (br (tr (tr (br (tr ?_))))))))))))
  cases h
  exact Zar kr
 refine sk (bn (tq (kq (rg Z6.f (tq (ZbR (sq (rg Z6.f (tq (sq (ZfN kr (kq (xq (tx (tx (bx (bn (tq (rg Z6.f (tq (ZbR (sq (rg Z6.f (tq (sq (ZfN kr (kq (xq (tx (tx (bx (tq (sq ?_)))))))))))))))))))))))))))))))))
 obtain ⟨bw,aR,h⟩:=bs h
 refine rg (Z6.v 0 (Zaw (hc:=Zjx N  bw aR)) Z6.f) (tq (rt ?_))
 cases h
 exact Zar kr
end Go.Sh

