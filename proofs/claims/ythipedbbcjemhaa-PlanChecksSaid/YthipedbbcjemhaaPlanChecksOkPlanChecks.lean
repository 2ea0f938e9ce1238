/- Part of the proof; written by a program out of the texts in wip/. -/
import Derived.Test.YthipedbbcjemhaaPlanChecksOk3
namespace Go.Sh
open Go Go.Eng Go.Proofs
set_option linter.unusedVariables false
set_option linter.unusedSimpArgs false
set_option maxRecDepth 100000
set_option maxHeartbeats 4000000
attribute [local irreducible] vc ev ZcV opsD opsF Ze7 upd updH updO
theorem law24_PlanChecks_ok (N:Nat) (a0_:Zam) (a1_:Ze) (a2_:Int) (a3_:Int) (a4_:Int) (r:Bool) (h:Zb7 N a0_ a1_ a2_ a3_ a4_=some r):Z6 Try.prog 6 [.agg (ZZ a0_),.agg (Zd a1_),.p (.int .u8 a2_),iv a3_,iv a4_] (bv r):=by
 unfold Zb7 at h
 have hH:HP ([]:List HO) []:=trivial
 refine ZD chk6 rfl rfl (Zr _ _ _ ?_) rfl
 refine sq (rg Za.f ?_)
 refine tq (sq ?_)
 refine sq ?_
 obtain ⟨r1,hr1,h⟩:=bs h
 refine rg (Za.v 3 (Zq (hc:=ZgE N a0_ a1_ a2_ r1 hr1)) Za.f) (tq ?_)
 refine bk (ZdV 18 ?_)
 refine Z8 ?_
 refine sq (rg Za.f ?_)
 refine tq (sq ?_)
 refine ZaI (by kernel_rfl) ?_
 refine sk (tq ?_)
 refine kq (sq ?_)
 refine bk (sq ?_)
 refine rg Za.f (tq ?_)
 refine sq ?_
 obtain ⟨r2,hr2,h⟩:=bs h
 refine rg (Za.v 1 (Zq (hc:=Zco N r1.x0 r2 hr2)) Za.f) (tq ?_)
 refine sq ?_
 obtain ⟨r3,hr3,h⟩:=bs h
 refine rg (Za.v 1 (Zq (hc:=ZdS N r1.x0 r3 hr3)) Za.f) (tq ?_)
 refine sq (sq ?_)
 obtain ⟨j10,hj,h⟩:=bs h
 refine rqR (fun s=>s=⟨[(2,.p (.int .u8 a2_)),(3,iv a3_),(4,iv a4_),(12,.loc 12 0),(26,.agg (ZW r1)),(27,iv 0),(54,bv j10)],[(12,(Zd r1.x0))],[]⟩) ?_ ?_
 ·clear h
  rcases Zy hj with ⟨hc4,hj⟩ | ⟨hc5,hj⟩
  ·obtain rfl:=Zb hj
   exact (EP.u 2 (Zj (c:=(r2.1 != r3.1)) (h:=hc4)) (EP.f (by show _=_;kernel_rfl)))
  refine (EP.u 2 (Zj (c:=(r2.1 != r3.1)) (h:=hc5)) ?_)
  rcases Zy hj with ⟨hc6,hj⟩ | ⟨hc7,hj⟩
  ·obtain rfl:=Zb hj
   exact (EP.u 3 (Zj (c:=(r2.2 != r3.2)) (h:=hc6)) (EP.f (by show _=_;kernel_rfl)))
  refine (EP.u 3 (Zj (c:=(r2.2 != r3.2)) (h:=hc7)) ?_)
  obtain ⟨r8,hr8,hj⟩:=bs hj
  refine (EP.u 3 (Zda (hc:=Zbm N r1.x0 r8 hr8)) ?_)
  obtain ⟨r9,hr9,hj⟩:=bs hj
  obtain rfl:=Zb hj
  exact (EP.u 1 (Zda (hc:=ZdT N r1.x0 r9 hr9)) (EP.f (by show _=_;kernel_rfl)))
 clear hj
 rintro s hR
 obtain rfl:=hR
 refine tq (it h (fun hc11 h => ?_) (fun hc11 h => ?_))
 ·refine sq (rg Za.f ?_)
  refine tq (rt ?_)
  refine tr (br ?_)
  refine tr (tr ?_)
  refine br (tr ?_)
  obtain rfl:=Zb h
  exact Zu (by kernel_rfl)
 refine sk (tq ?_)
 refine kq (sq ?_)
 refine rg Za.f (tq ?_)
 refine bk (ZdV 18 ?_)
 refine Z8 ?_
 refine sq (rg Za.f ?_)
 refine tq (sq ?_)
 refine ZaI (by kernel_rfl) ?_
 refine sk (tq ?_)
 refine kq (sq ?_)
 refine bk (sq ?_)
 refine rg Za.f (tq ?_)
 refine sq ?_
 obtain ⟨r12,hr12,h⟩:=bs h
 refine rg (Za.v 5 (Zq (hc:=ZaS N r1.x0 a3_ a4_ r12 hr12)) Za.f) (tq ?_)
 refine sq ?_
 obtain ⟨r13,hr13,h⟩:=bs h
 refine rg (Za.v 5 (Zq (hc:=ZaJ N r1.x0 a3_ a4_ r13 hr13)) Za.f) (tq ?_)
 refine sq (rgX ⟨[(2,.p (.int .u8 a2_)),(3,iv a3_),(4,iv a4_),(12,.loc 12 0),(26,.agg (ZW r1)),(27,iv 0),(66,.agg [iv a3_,iv a4_,iv (Int.tmod (w64 (a2_)) 13),iv (Int.tmod (w64 (a2_)) 5),iv 0,iv 0]),(67,iv 0),(95,bv ((!((r12.1.Period==r13.1.Period)&&((r12.1.From==r13.1.From)&&((r12.1.Long==r13.1.Long)&&true))))||(r12.2 != r13.2)))],[(12,(Zd r1.x0))],[]⟩ ?_ ?_)
 ·rcases Bool.eq_false_or_eq_true (!((r12.1.Period==r13.1.Period)&&((r12.1.From==r13.1.From)&&((r12.1.Long==r13.1.Long)&&true)))) with hc14 | hc15
  ·exact (EP.u 2 (Zj (c:=(!((r12.1.Period==r13.1.Period)&&((r12.1.From==r13.1.From)&&((r12.1.Long==r13.1.Long)&&true))))) (h:=hc14)) (EP.f (by simp only [hc14];kernel_rfl)))
  exact (EP.u 2 (Zj (c:=(!((r12.1.Period==r13.1.Period)&&((r12.1.From==r13.1.From)&&((r12.1.Long==r13.1.Long)&&true))))) (h:=hc15)) (EP.f (by simp only [hc15];kernel_rfl)))
 refine tq (it h (fun hc16 h => ?_) (fun hc16 h => ?_))
 ·refine sq (rg Za.f ?_)
  refine tq (rt ?_)
  refine br (tr ?_)
  refine tr (br ?_)
  refine br (tr ?_)
  refine tr (br ?_)
  refine tr ?_
  obtain rfl:=Zb h
  exact Zu (by kernel_rfl)
 refine sk (bn ?_)
 refine tq (kq ?_)
 refine rg Za.f (tq ?_)
 refine Z8 ?_
 refine sq (rg Za.f ?_)
 refine tq (sq ?_)
 refine ZaI (by kernel_rfl) ?_
 refine sk (tq ?_)
 refine kq (sq ?_)
 refine bk (sq ?_)
 refine rg Za.f (tq ?_)
 refine sq ?_
 obtain ⟨r17,hr17,h⟩:=bs h
 refine rg (Za.v 5 (Zq (hc:=ZaS N r1.x0 (Int.tmod (w64 (a2_)) 13) (Int.tmod (w64 (a2_)) 5) r17 hr17)) Za.f) (tq ?_)
 refine sq ?_
 obtain ⟨r18,hr18,h⟩:=bs h
 refine rg (Za.v 5 (Zq (hc:=ZaJ N r1.x0 (Int.tmod (w64 (a2_)) 13) (Int.tmod (w64 (a2_)) 5) r18 hr18)) Za.f) (tq ?_)
 refine sq (rgX ⟨[(2,.p (.int .u8 a2_)),(3,iv a3_),(4,iv a4_),(12,.loc 12 0),(26,.agg (ZW r1)),(27,iv 0),(66,.agg [iv a3_,iv a4_,iv (Int.tmod (w64 (a2_)) 13),iv (Int.tmod (w64 (a2_)) 5),iv 0,iv 0]),(67,iv 1),(95,bv ((!((r17.1.Period==r18.1.Period)&&((r17.1.From==r18.1.From)&&((r17.1.Long==r18.1.Long)&&true))))||(r17.2 != r18.2)))],[(12,(Zd r1.x0))],[]⟩ ?_ ?_)
 ·rcases Bool.eq_false_or_eq_true (!((r17.1.Period==r18.1.Period)&&((r17.1.From==r18.1.From)&&((r17.1.Long==r18.1.Long)&&true)))) with hc19 | hc20
  ·exact (EP.u 2 (Zj (c:=(!((r17.1.Period==r18.1.Period)&&((r17.1.From==r18.1.From)&&((r17.1.Long==r18.1.Long)&&true))))) (h:=hc19)) (EP.f (by simp only [hc19];kernel_rfl)))
  exact (EP.u 2 (Zj (c:=(!((r17.1.Period==r18.1.Period)&&((r17.1.From==r18.1.From)&&((r17.1.Long==r18.1.Long)&&true))))) (h:=hc20)) (EP.f (by simp only [hc20];kernel_rfl)))
 refine tq (it h (fun hc21 h => ?_) (fun hc21 h => ?_))
 ·refine sq (rg Za.f ?_)
  refine tq (rt ?_)
  refine br (tr ?_)
  refine tr (br ?_)
  refine br (tr ?_)
  refine tr (br ?_)
  refine tr ?_
  obtain rfl:=Zb h
  exact Zu (by kernel_rfl)
 refine sk (bn ?_)
 refine tq (kq ?_)
 refine rg Za.f (tq ?_)
 refine Z8 ?_
 refine sq (rg Za.f ?_)
 refine tq (sq ?_)
 refine ZaI (by kernel_rfl) ?_
 refine sk (tq ?_)
 refine kq (sq ?_)
 refine bk (sq ?_)
 refine rg Za.f (tq ?_)
 refine sq ?_
 obtain ⟨r22,hr22,h⟩:=bs h
 refine rg (Za.v 5 (Zq (hc:=ZaS N r1.x0 0 0 r22 hr22)) Za.f) (tq ?_)
 refine sq ?_
 obtain ⟨r23,hr23,h⟩:=bs h
 refine rg (Za.v 5 (Zq (hc:=ZaJ N r1.x0 0 0 r23 hr23)) Za.f) (tq ?_)
 refine sq (rgX ⟨[(2,.p (.int .u8 a2_)),(3,iv a3_),(4,iv a4_),(12,.loc 12 0),(26,.agg (ZW r1)),(27,iv 0),(66,.agg [iv a3_,iv a4_,iv (Int.tmod (w64 (a2_)) 13),iv (Int.tmod (w64 (a2_)) 5),iv 0,iv 0]),(67,iv 2),(95,bv ((!((r22.1.Period==r23.1.Period)&&((r22.1.From==r23.1.From)&&((r22.1.Long==r23.1.Long)&&true))))||(r22.2 != r23.2)))],[(12,(Zd r1.x0))],[]⟩ ?_ ?_)
 ·rcases Bool.eq_false_or_eq_true (!((r22.1.Period==r23.1.Period)&&((r22.1.From==r23.1.From)&&((r22.1.Long==r23.1.Long)&&true)))) with hc24 | hc25
  ·exact (EP.u 2 (Zj (c:=(!((r22.1.Period==r23.1.Period)&&((r22.1.From==r23.1.From)&&((r22.1.Long==r23.1.Long)&&true))))) (h:=hc24)) (EP.f (by simp only [hc24];kernel_rfl)))
  exact (EP.u 2 (Zj (c:=(!((r22.1.Period==r23.1.Period)&&((r22.1.From==r23.1.From)&&((r22.1.Long==r23.1.Long)&&true))))) (h:=hc25)) (EP.f (by simp only [hc25];kernel_rfl)))
 refine tq (it h (fun hc26 h => ?_) (fun hc26 h => ?_))
 ·refine sq (rg Za.f ?_)
  refine tq (rt ?_)
  refine br (tr ?_)
  refine tr (br ?_)
  refine br (tr ?_)
  refine tr (br ?_)
  refine tr ?_
  obtain rfl:=Zb h
  exact Zu (by kernel_rfl)
 refine sk (bn ?_)
 refine tq (kq ?_)
 refine rg Za.f (tq ?_)
 refine Z8 ?_
 refine sq (rg Za.f ?_)
 refine tq (sq ?_)
 refine Zfd (by kernel_rfl) ?_
 refine kq (xq ?_)
 refine tx (tx ?_)
 refine bx (bn ?_)
 refine tq (kq ?_)
 refine rg Za.f (tq ?_)
 refine Z8 ?_
 refine sq (rg Za.f ?_)
 refine tq (sq ?_)
 refine ZaI (by kernel_rfl) ?_
 refine sk (tq ?_)
 refine kq (sq ?_)
 refine bk (sq ?_)
 refine rg Za.f (tq ?_)
 refine sq ?_
 obtain ⟨r27,hr27,h⟩:=bs h
 refine rg (Za.v 1 (Zq (hc:=Zco N r1.x1 r27 hr27)) Za.f) (tq ?_)
 refine sq ?_
 obtain ⟨r28,hr28,h⟩:=bs h
 refine rg (Za.v 1 (Zq (hc:=ZdS N r1.x1 r28 hr28)) Za.f) (tq ?_)
 refine sq (sq ?_)
 obtain ⟨j35,hj,h⟩:=bs h
 refine rqR (fun s=>s=⟨[(2,.p (.int .u8 a2_)),(3,iv a3_),(4,iv a4_),(12,.loc 12 0),(26,.agg (ZW r1)),(27,iv 1),(54,bv j35)],[(12,(Zd r1.x1))],[]⟩) ?_ ?_
 ·clear h
  rcases Zy hj with ⟨hc29,hj⟩ | ⟨hc30,hj⟩
  ·obtain rfl:=Zb hj
   exact (EP.u 2 (Zj (c:=(r27.1 != r28.1)) (h:=hc29)) (EP.f (by show _=_;kernel_rfl)))
  refine (EP.u 2 (Zj (c:=(r27.1 != r28.1)) (h:=hc30)) ?_)
  rcases Zy hj with ⟨hc31,hj⟩ | ⟨hc32,hj⟩
  ·obtain rfl:=Zb hj
   exact (EP.u 3 (Zj (c:=(r27.2 != r28.2)) (h:=hc31)) (EP.f (by show _=_;kernel_rfl)))
  refine (EP.u 3 (Zj (c:=(r27.2 != r28.2)) (h:=hc32)) ?_)
  obtain ⟨r33,hr33,hj⟩:=bs hj
  refine (EP.u 3 (Zda (hc:=Zbm N r1.x1 r33 hr33)) ?_)
  obtain ⟨r34,hr34,hj⟩:=bs hj
  obtain rfl:=Zb hj
  exact (EP.u 1 (Zda (hc:=ZdT N r1.x1 r34 hr34)) (EP.f (by show _=_;kernel_rfl)))
 clear hj
 rintro s hR
 obtain rfl:=hR
 refine tq (it h (fun hc36 h => ?_) (fun hc36 h => ?_))
 ·refine sq (rg Za.f ?_)
  refine tq (rt ?_)
  refine tr (br ?_)
  refine tr (tr ?_)
  refine br (tr ?_)
  obtain rfl:=Zb h
  exact Zu (by kernel_rfl)
 refine sk (tq ?_)
 refine kq (sq ?_)
 refine rg Za.f (tq ?_)
 refine bk (ZdV 18 ?_)
 refine Z8 ?_
 refine sq (rg Za.f ?_)
 refine tq (sq ?_)
 refine ZaI (by kernel_rfl) ?_
 refine sk (tq ?_)
 refine kq (sq ?_)
 refine bk (sq ?_)
 refine rg Za.f (tq ?_)
 refine sq ?_
 obtain ⟨r37,hr37,h⟩:=bs h
 refine rg (Za.v 5 (Zq (hc:=ZaS N r1.x1 a3_ a4_ r37 hr37)) Za.f) (tq ?_)
 refine sq ?_
 obtain ⟨r38,hr38,h⟩:=bs h
 refine rg (Za.v 5 (Zq (hc:=ZaJ N r1.x1 a3_ a4_ r38 hr38)) Za.f) (tq ?_)
 refine sq (rgX ⟨[(2,.p (.int .u8 a2_)),(3,iv a3_),(4,iv a4_),(12,.loc 12 0),(26,.agg (ZW r1)),(27,iv 1),(66,.agg [iv a3_,iv a4_,iv (Int.tmod (w64 (a2_)) 13),iv (Int.tmod (w64 (a2_)) 5),iv 0,iv 0]),(67,iv 0),(95,bv ((!((r37.1.Period==r38.1.Period)&&((r37.1.From==r38.1.From)&&((r37.1.Long==r38.1.Long)&&true))))||(r37.2 != r38.2)))],[(12,(Zd r1.x1))],[]⟩ ?_ ?_)
 ·rcases Bool.eq_false_or_eq_true (!((r37.1.Period==r38.1.Period)&&((r37.1.From==r38.1.From)&&((r37.1.Long==r38.1.Long)&&true)))) with hc39 | hc40
  ·exact (EP.u 2 (Zj (c:=(!((r37.1.Period==r38.1.Period)&&((r37.1.From==r38.1.From)&&((r37.1.Long==r38.1.Long)&&true))))) (h:=hc39)) (EP.f (by simp only [hc39];kernel_rfl)))
  exact (EP.u 2 (Zj (c:=(!((r37.1.Period==r38.1.Period)&&((r37.1.From==r38.1.From)&&((r37.1.Long==r38.1.Long)&&true))))) (h:=hc40)) (EP.f (by simp only [hc40];kernel_rfl)))
 refine tq (it h (fun hc41 h => ?_) (fun hc41 h => ?_))
 ·refine sq (rg Za.f ?_)
  refine tq (rt ?_)
  refine br (tr ?_)
  refine tr (br ?_)
  refine br (tr ?_)
  refine tr (br ?_)
  refine tr ?_
  obtain rfl:=Zb h
  exact Zu (by kernel_rfl)
 refine sk (bn ?_)
 refine tq (kq ?_)
 refine rg Za.f (tq ?_)
 refine Z8 ?_
 refine sq (rg Za.f ?_)
 refine tq (sq ?_)
 refine ZaI (by kernel_rfl) ?_
 refine sk (tq ?_)
 refine kq (sq ?_)
 refine bk (sq ?_)
 refine rg Za.f (tq ?_)
 refine sq ?_
 obtain ⟨r42,hr42,h⟩:=bs h
 refine rg (Za.v 5 (Zq (hc:=ZaS N r1.x1 (Int.tmod (w64 (a2_)) 13) (Int.tmod (w64 (a2_)) 5) r42 hr42)) Za.f) (tq ?_)
 refine sq ?_
 obtain ⟨r43,hr43,h⟩:=bs h
 refine rg (Za.v 5 (Zq (hc:=ZaJ N r1.x1 (Int.tmod (w64 (a2_)) 13) (Int.tmod (w64 (a2_)) 5) r43 hr43)) Za.f) (tq ?_)
 refine sq (rgX ⟨[(2,.p (.int .u8 a2_)),(3,iv a3_),(4,iv a4_),(12,.loc 12 0),(26,.agg (ZW r1)),(27,iv 1),(66,.agg [iv a3_,iv a4_,iv (Int.tmod (w64 (a2_)) 13),iv (Int.tmod (w64 (a2_)) 5),iv 0,iv 0]),(67,iv 1),(95,bv ((!((r42.1.Period==r43.1.Period)&&((r42.1.From==r43.1.From)&&((r42.1.Long==r43.1.Long)&&true))))||(r42.2 != r43.2)))],[(12,(Zd r1.x1))],[]⟩ ?_ ?_)
 ·rcases Bool.eq_false_or_eq_true (!((r42.1.Period==r43.1.Period)&&((r42.1.From==r43.1.From)&&((r42.1.Long==r43.1.Long)&&true)))) with hc44 | hc45
  ·exact (EP.u 2 (Zj (c:=(!((r42.1.Period==r43.1.Period)&&((r42.1.From==r43.1.From)&&((r42.1.Long==r43.1.Long)&&true))))) (h:=hc44)) (EP.f (by simp only [hc44];kernel_rfl)))
  exact (EP.u 2 (Zj (c:=(!((r42.1.Period==r43.1.Period)&&((r42.1.From==r43.1.From)&&((r42.1.Long==r43.1.Long)&&true))))) (h:=hc45)) (EP.f (by simp only [hc45];kernel_rfl)))
 refine tq (it h (fun hc46 h => ?_) (fun hc46 h => ?_))
 ·refine sq (rg Za.f ?_)
  refine tq (rt ?_)
  refine br (tr ?_)
  refine tr (br ?_)
  refine br (tr ?_)
  refine tr (br ?_)
  refine tr ?_
  obtain rfl:=Zb h
  exact Zu (by kernel_rfl)
 refine sk (bn ?_)
 refine tq (kq ?_)
 refine rg Za.f (tq ?_)
 refine Z8 ?_
 refine sq (rg Za.f ?_)
 refine tq (sq ?_)
 refine ZaI (by kernel_rfl) ?_
 refine sk (tq ?_)
 refine kq (sq ?_)
 refine bk (sq ?_)
 refine rg Za.f (tq ?_)
 refine sq ?_
 obtain ⟨r47,hr47,h⟩:=bs h
 refine rg (Za.v 5 (Zq (hc:=ZaS N r1.x1 0 0 r47 hr47)) Za.f) (tq ?_)
 refine sq ?_
 obtain ⟨r48,hr48,h⟩:=bs h
 refine rg (Za.v 5 (Zq (hc:=ZaJ N r1.x1 0 0 r48 hr48)) Za.f) (tq ?_)
 refine sq (rgX ⟨[(2,.p (.int .u8 a2_)),(3,iv a3_),(4,iv a4_),(12,.loc 12 0),(26,.agg (ZW r1)),(27,iv 1),(66,.agg [iv a3_,iv a4_,iv (Int.tmod (w64 (a2_)) 13),iv (Int.tmod (w64 (a2_)) 5),iv 0,iv 0]),(67,iv 2),(95,bv ((!((r47.1.Period==r48.1.Period)&&((r47.1.From==r48.1.From)&&((r47.1.Long==r48.1.Long)&&true))))||(r47.2 != r48.2)))],[(12,(Zd r1.x1))],[]⟩ ?_ ?_)
 ·rcases Bool.eq_false_or_eq_true (!((r47.1.Period==r48.1.Period)&&((r47.1.From==r48.1.From)&&((r47.1.Long==r48.1.Long)&&true)))) with hc49 | hc50
  ·exact (EP.u 2 (Zj (c:=(!((r47.1.Period==r48.1.Period)&&((r47.1.From==r48.1.From)&&((r47.1.Long==r48.1.Long)&&true))))) (h:=hc49)) (EP.f (by simp only [hc49];kernel_rfl)))
  exact (EP.u 2 (Zj (c:=(!((r47.1.Period==r48.1.Period)&&((r47.1.From==r48.1.From)&&((r47.1.Long==r48.1.Long)&&true))))) (h:=hc50)) (EP.f (by simp only [hc50];kernel_rfl)))
 refine tq (it h (fun hc51 h => ?_) (fun hc51 h => ?_))
 ·refine sq (rg Za.f ?_)
  refine tq (rt ?_)
  refine br (tr ?_)
  refine tr (br ?_)
  refine br (tr ?_)
  refine tr (br ?_)
  refine tr ?_
  obtain rfl:=Zb h
  exact Zu (by kernel_rfl)
 refine sk (bn ?_)
 refine tq (kq ?_)
 refine rg Za.f (tq ?_)
 refine Z8 ?_
 refine sq (rg Za.f ?_)
 refine tq (sq ?_)
 refine Zfd (by kernel_rfl) ?_
 refine kq (xq ?_)
 refine tx (tx ?_)
 refine bx (bn ?_)
 refine tq (kq ?_)
 refine rg Za.f (tq ?_)
 refine Z8 ?_
 refine sq (rg Za.f ?_)
 refine tq (sq ?_)
 refine ZaI (by kernel_rfl) ?_
 refine sk (tq ?_)
 refine kq (sq ?_)
 refine bk (sq ?_)
 refine rg Za.f (tq ?_)
 refine sq ?_
 obtain ⟨r52,hr52,h⟩:=bs h
 refine rg (Za.v 1 (Zq (hc:=Zco N r1.x2 r52 hr52)) Za.f) (tq ?_)
 refine sq ?_
 obtain ⟨r53,hr53,h⟩:=bs h
 refine rg (Za.v 1 (Zq (hc:=ZdS N r1.x2 r53 hr53)) Za.f) (tq ?_)
 refine sq (sq ?_)
 obtain ⟨j60,hj,h⟩:=bs h
 refine rqR (fun s=>s=⟨[(2,.p (.int .u8 a2_)),(3,iv a3_),(4,iv a4_),(12,.loc 12 0),(26,.agg (ZW r1)),(27,iv 2),(54,bv j60)],[(12,(Zd r1.x2))],[]⟩) ?_ ?_
 ·clear h
  rcases Zy hj with ⟨hc54,hj⟩ | ⟨hc55,hj⟩
  ·obtain rfl:=Zb hj
   exact (EP.u 2 (Zj (c:=(r52.1 != r53.1)) (h:=hc54)) (EP.f (by show _=_;kernel_rfl)))
  refine (EP.u 2 (Zj (c:=(r52.1 != r53.1)) (h:=hc55)) ?_)
  rcases Zy hj with ⟨hc56,hj⟩ | ⟨hc57,hj⟩
  ·obtain rfl:=Zb hj
   exact (EP.u 3 (Zj (c:=(r52.2 != r53.2)) (h:=hc56)) (EP.f (by show _=_;kernel_rfl)))
  refine (EP.u 3 (Zj (c:=(r52.2 != r53.2)) (h:=hc57)) ?_)
  obtain ⟨r58,hr58,hj⟩:=bs hj
  refine (EP.u 3 (Zda (hc:=Zbm N r1.x2 r58 hr58)) ?_)
  obtain ⟨r59,hr59,hj⟩:=bs hj
  obtain rfl:=Zb hj
  exact (EP.u 1 (Zda (hc:=ZdT N r1.x2 r59 hr59)) (EP.f (by show _=_;kernel_rfl)))
 clear hj
 rintro s hR
 obtain rfl:=hR
 refine tq (it h (fun hc61 h => ?_) (fun hc61 h => ?_))
 ·refine sq (rg Za.f ?_)
  refine tq (rt ?_)
  refine tr (br ?_)
  refine tr (tr ?_)
  refine br (tr ?_)
  obtain rfl:=Zb h
  exact Zu (by kernel_rfl)
 refine sk (tq ?_)
 refine kq (sq ?_)
 refine rg Za.f (tq ?_)
 refine bk (ZdV 18 ?_)
 refine Z8 ?_
 refine sq (rg Za.f ?_)
 refine tq (sq ?_)
 refine ZaI (by kernel_rfl) ?_
 refine sk (tq ?_)
 refine kq (sq ?_)
 refine bk (sq ?_)
 refine rg Za.f (tq ?_)
 refine sq ?_
 obtain ⟨r62,hr62,h⟩:=bs h
 refine rg (Za.v 5 (Zq (hc:=ZaS N r1.x2 a3_ a4_ r62 hr62)) Za.f) (tq ?_)
 refine sq ?_
 obtain ⟨r63,hr63,h⟩:=bs h
 refine rg (Za.v 5 (Zq (hc:=ZaJ N r1.x2 a3_ a4_ r63 hr63)) Za.f) (tq ?_)
 refine sq (rgX ⟨[(2,.p (.int .u8 a2_)),(3,iv a3_),(4,iv a4_),(12,.loc 12 0),(26,.agg (ZW r1)),(27,iv 2),(66,.agg [iv a3_,iv a4_,iv (Int.tmod (w64 (a2_)) 13),iv (Int.tmod (w64 (a2_)) 5),iv 0,iv 0]),(67,iv 0),(95,bv ((!((r62.1.Period==r63.1.Period)&&((r62.1.From==r63.1.From)&&((r62.1.Long==r63.1.Long)&&true))))||(r62.2 != r63.2)))],[(12,(Zd r1.x2))],[]⟩ ?_ ?_)
 ·rcases Bool.eq_false_or_eq_true (!((r62.1.Period==r63.1.Period)&&((r62.1.From==r63.1.From)&&((r62.1.Long==r63.1.Long)&&true)))) with hc64 | hc65
  ·exact (EP.u 2 (Zj (c:=(!((r62.1.Period==r63.1.Period)&&((r62.1.From==r63.1.From)&&((r62.1.Long==r63.1.Long)&&true))))) (h:=hc64)) (EP.f (by simp only [hc64];kernel_rfl)))
  exact (EP.u 2 (Zj (c:=(!((r62.1.Period==r63.1.Period)&&((r62.1.From==r63.1.From)&&((r62.1.Long==r63.1.Long)&&true))))) (h:=hc65)) (EP.f (by simp only [hc65];kernel_rfl)))
 refine tq (it h (fun hc66 h => ?_) (fun hc66 h => ?_))
 ·refine sq (rg Za.f ?_)
  refine tq (rt ?_)
  refine br (tr ?_)
  refine tr (br ?_)
  refine br (tr ?_)
  refine tr (br ?_)
  refine tr ?_
  obtain rfl:=Zb h
  exact Zu (by kernel_rfl)
 refine sk (bn ?_)
 refine tq (kq ?_)
 refine rg Za.f (tq ?_)
 refine Z8 ?_
 refine sq (rg Za.f ?_)
 refine tq (sq ?_)
 refine ZaI (by kernel_rfl) ?_
 refine sk (tq ?_)
 refine kq (sq ?_)
 refine bk (sq ?_)
 refine rg Za.f (tq ?_)
 refine sq ?_
 obtain ⟨r67,hr67,h⟩:=bs h
 refine rg (Za.v 5 (Zq (hc:=ZaS N r1.x2 (Int.tmod (w64 (a2_)) 13) (Int.tmod (w64 (a2_)) 5) r67 hr67)) Za.f) (tq ?_)
 refine sq ?_
 obtain ⟨r68,hr68,h⟩:=bs h
 refine rg (Za.v 5 (Zq (hc:=ZaJ N r1.x2 (Int.tmod (w64 (a2_)) 13) (Int.tmod (w64 (a2_)) 5) r68 hr68)) Za.f) (tq ?_)
 refine sq (rgX ⟨[(2,.p (.int .u8 a2_)),(3,iv a3_),(4,iv a4_),(12,.loc 12 0),(26,.agg (ZW r1)),(27,iv 2),(66,.agg [iv a3_,iv a4_,iv (Int.tmod (w64 (a2_)) 13),iv (Int.tmod (w64 (a2_)) 5),iv 0,iv 0]),(67,iv 1),(95,bv ((!((r67.1.Period==r68.1.Period)&&((r67.1.From==r68.1.From)&&((r67.1.Long==r68.1.Long)&&true))))||(r67.2 != r68.2)))],[(12,(Zd r1.x2))],[]⟩ ?_ ?_)
 ·rcases Bool.eq_false_or_eq_true (!((r67.1.Period==r68.1.Period)&&((r67.1.From==r68.1.From)&&((r67.1.Long==r68.1.Long)&&true)))) with hc69 | hc70
  ·exact (EP.u 2 (Zj (c:=(!((r67.1.Period==r68.1.Period)&&((r67.1.From==r68.1.From)&&((r67.1.Long==r68.1.Long)&&true))))) (h:=hc69)) (EP.f (by simp only [hc69];kernel_rfl)))
  exact (EP.u 2 (Zj (c:=(!((r67.1.Period==r68.1.Period)&&((r67.1.From==r68.1.From)&&((r67.1.Long==r68.1.Long)&&true))))) (h:=hc70)) (EP.f (by simp only [hc70];kernel_rfl)))
 refine tq (it h (fun hc71 h => ?_) (fun hc71 h => ?_))
 ·refine sq (rg Za.f ?_)
  refine tq (rt ?_)
  refine br (tr ?_)
  refine tr (br ?_)
  refine br (tr ?_)
  refine tr (br ?_)
  refine tr ?_
  obtain rfl:=Zb h
  exact Zu (by kernel_rfl)
 refine sk (bn ?_)
 refine tq (kq ?_)
 refine rg Za.f (tq ?_)
 refine Z8 ?_
 refine sq (rg Za.f ?_)
 refine tq (sq ?_)
 refine ZaI (by kernel_rfl) ?_
 refine sk (tq ?_)
 refine kq (sq ?_)
 refine bk (sq ?_)
 refine rg Za.f (tq ?_)
 refine sq ?_
 obtain ⟨r72,hr72,h⟩:=bs h
 refine rg (Za.v 5 (Zq (hc:=ZaS N r1.x2 0 0 r72 hr72)) Za.f) (tq ?_)
 refine sq ?_
 obtain ⟨r73,hr73,h⟩:=bs h
 refine rg (Za.v 5 (Zq (hc:=ZaJ N r1.x2 0 0 r73 hr73)) Za.f) (tq ?_)
 refine sq (rgX ⟨[(2,.p (.int .u8 a2_)),(3,iv a3_),(4,iv a4_),(12,.loc 12 0),(26,.agg (ZW r1)),(27,iv 2),(66,.agg [iv a3_,iv a4_,iv (Int.tmod (w64 (a2_)) 13),iv (Int.tmod (w64 (a2_)) 5),iv 0,iv 0]),(67,iv 2),(95,bv ((!((r72.1.Period==r73.1.Period)&&((r72.1.From==r73.1.From)&&((r72.1.Long==r73.1.Long)&&true))))||(r72.2 != r73.2)))],[(12,(Zd r1.x2))],[]⟩ ?_ ?_)
 ·rcases Bool.eq_false_or_eq_true (!((r72.1.Period==r73.1.Period)&&((r72.1.From==r73.1.From)&&((r72.1.Long==r73.1.Long)&&true)))) with hc74 | hc75
  ·exact (EP.u 2 (Zj (c:=(!((r72.1.Period==r73.1.Period)&&((r72.1.From==r73.1.From)&&((r72.1.Long==r73.1.Long)&&true))))) (h:=hc74)) (EP.f (by simp only [hc74];kernel_rfl)))
  exact (EP.u 2 (Zj (c:=(!((r72.1.Period==r73.1.Period)&&((r72.1.From==r73.1.From)&&((r72.1.Long==r73.1.Long)&&true))))) (h:=hc75)) (EP.f (by simp only [hc75];kernel_rfl)))
 refine tq (it h (fun hc76 h => ?_) (fun hc76 h => ?_))
 ·refine sq (rg Za.f ?_)
  refine tq (rt ?_)
  refine br (tr ?_)
  refine tr (br ?_)
  refine br (tr ?_)
  refine tr (br ?_)
  refine tr ?_
  obtain rfl:=Zb h
  exact Zu (by kernel_rfl)
 refine sk (bn ?_)
 refine tq (kq ?_)
 refine rg Za.f (tq ?_)
 refine Z8 ?_
 refine sq (rg Za.f ?_)
 refine tq (sq ?_)
 refine Zfd (by kernel_rfl) ?_
 refine kq (xq ?_)
 refine tx (tx ?_)
 refine bx (bn ?_)
 refine tq (kq ?_)
 refine rg Za.f (tq ?_)
 refine Z8 ?_
 refine sq (rg Za.f ?_)
 refine tq (sq ?_)
 refine Zfd (by kernel_rfl) ?_
 refine kq (xq ?_)
 refine tx (tx ?_)
 refine bx (tq ?_)
 refine sq ?_
 obtain ⟨r77,hr77,h⟩:=bs h
 refine rg (Za.v 0 (Zq (hc:=ZiG N  r77 hr77)) Za.f) (tq ?_)
 refine rt ?_
 obtain rfl:=Zb h
 exact Zu (by kernel_rfl)
end Go.Sh

