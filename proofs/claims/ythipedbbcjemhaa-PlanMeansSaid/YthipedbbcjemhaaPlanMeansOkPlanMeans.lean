/- Part of the proof; written by a program out of the texts in wip/. -/
import Derived.Test.YthipedbbcjemhaaPlanMeansOk3
namespace Go.Sh
open Go Go.Eng Go.Proofs
set_option linter.unusedVariables false
set_option linter.unusedSimpArgs false
set_option maxRecDepth 100000
set_option maxHeartbeats 4000000
attribute [local irreducible] vc ev ZcU opsD opsF ZeW upd updH updO
theorem law24_PlanMeans_ok (N:Nat) (a0_:ZaO) (a1_:(List Int)) (r:Bool) (h:Zcl N a0_ a1_=some r):Zab Try.prog 4 [.agg (Z3 a0_),Zb2 false a1_] (bv r):=by
 unfold Zcl at h
 have hH:HP ([]:List HO) []:=trivial
 refine ZF chk4 rfl rfl (Zr _ _ _ ?_) rfl
 refine sq (rg Za.f ?_)
 refine tq (sq ?_)
 refine sq ?_
 obtain ⟨r1,hr1,h⟩:=bs h
 refine rg (Za.v 0 (Zu (hc:=Ziy N  r1 hr1)) Za.f) (tq ?_)
 refine it h (fun hc2 h => ?_) (fun hc2 h => ?_)
 ·refine sq (rg Za.f ?_)
  refine tq (rt ?_)
  refine tr ?_
  obtain rfl:=Zb h
  exact Zx (by kernel_rfl)
 refine sk (tq ?_)
 refine kq (sq ?_)
 obtain ⟨r3,hr3,h⟩:=bs h
 refine rg (Za.v 1 (Zu (hc:=Zeq N a0_ r3 hr3)) Za.f) (tq ?_)
 refine sq ?_
 obtain ⟨r4,hr4,h⟩:=bs h
 refine rg (Za.v 2 (Zu (hc:=Zjh N r3 a1_ r4 hr4)) Za.f) (tq ?_)
 refine sq ?_
 obtain ⟨r5,hr5,h⟩:=bs h
 refine rg (Za.v 1 (Zu (hc:=Zea N r3 r5 hr5)) Za.f) (tq ?_)
 refine sq ?_
 obtain ⟨r6,hr6,h⟩:=bs h
 refine rg (Za.v 2 (Zu (hc:=ZgS N r3 r4 r6 hr6)) Za.f) (tq ?_)
 refine sq (sq ?_)
 refine rgX ⟨[(5,.loc 5 0),(6,Zg false r4),(7,iv r5.1),(9,bv r6.1),(50,bv ((r5.2 != 0)||((r6.2 != 0)||((decide (r5.1<1))||(decide (r5.1 > 960))))))],[(5,(Zd r3))],[]⟩ ?_ ?_
 ·rcases Bool.eq_false_or_eq_true (r5.2 != 0) with hc7 | hc8
  ·exact (EP.u 1 (Zj (c:=(r5.2 != 0)) (h:=hc7)) (EP.f (by simp only [hc7];kernel_rfl)))
  refine (EP.u 1 (Zj (c:=(r5.2 != 0)) (h:=hc8)) ?_)
  rcases Bool.eq_false_or_eq_true (r6.2 != 0) with hc9 | hc10
  ·exact (EP.u 2 (Zj (c:=(r6.2 != 0)) (h:=hc9)) (EP.f (by simp only [hc8,hc9];kernel_rfl)))
  refine (EP.u 2 (Zj (c:=(r6.2 != 0)) (h:=hc10)) ?_)
  rcases Bool.eq_false_or_eq_true (decide (r5.1<1)) with hc11 | hc12
  ·exact (EP.u 3 (Zj (c:=(decide (r5.1<1))) (h:=hc11)) (EP.f (by simp only [hc8,hc10,hc11];kernel_rfl)))
  exact (EP.u 3 (Zj (c:=(decide (r5.1<1))) (h:=hc12)) (EP.f (by simp only [hc8,hc10,hc12];kernel_rfl)))
 refine tq (it h (fun hc13 h => ?_) (fun hc13 h => ?_))
 ·refine sq (rg Za.f ?_)
  refine tq (rt ?_)
  refine tr ?_
  obtain rfl:=Zb h
  exact Zx (by kernel_rfl)
 refine sk (tq ?_)
 refine kq (sq ?_)
 refine rg Za.f (tq ?_)
 refine sq (sq ?_)
 refine rg Za.f (tq ?_)
 refine bk ?_
 obtain ⟨o2038,ho2038,h⟩:=bs h
 refine ZV ((ZM (fun (x:Bool × Int) s=>s=⟨[(5,.loc 5 0),(6,Zg false r4),(7,iv r5.1),(9,bv r6.1),(11,bv x.1),(12,iv x.2)],[(5,(Zd r3))],[]⟩) (fun x:Bool × Int=>Zao N r3 r4 r5 x.1 x.2) (fun (p:Bool) e s=>e = .exit 0∧(s=⟨[(5,.loc 5 0),(7,iv r5.1),(9,bv r6.1),(11,bv p)],[(5,(Zd r3))],[]⟩)) ?_ N _ o2038 _ ho2038 (by show _=_;kernel_rfl)).mono ?_)
 ·clear h ho2038
  rintro ⟨b14,i15⟩ o s h hR
  obtain rfl:=hR
  replace h:Zao N r3 r4 r5 b14 i15=some o:=h
  unfold Zao at h
  refine sq (sq ?_)
  refine rg Za.f (tq ?_)
  refine it h (fun hc516 h => ?_) (fun hc516 h => ?_)
  ·refine sk (tq ?_)
   refine kq (sq ?_)
   refine bk (sq ?_)
   refine rg Za.f (tq ?_)
   refine bk ?_
   obtain ⟨o2037,ho2037,h⟩:=bs h
   refine ZV ((ZM (fun (x:Bool × Int) s=>s=⟨[(5,.loc 5 0),(6,Zg false r4),(7,iv r5.1),(9,bv r6.1),(11,bv x.1),(12,iv i15),(13,iv x.2)],[(5,(Zd r3))],[]⟩) (fun x:Bool × Int=>Zan N r3 r4 r5 i15 x.1 x.2) (fun (p:Bool) e s=>e = .exit 2∧(s=⟨[(5,.loc 5 0),(6,Zg false r4),(7,iv r5.1),(9,bv r6.1),(11,bv p),(12,iv i15)],[(5,(Zd r3))],[]⟩)) ?_ N _ o2037 _ ho2037 (by show _=_;kernel_rfl)).mono ?_)
   ·clear h ho2037
    rintro ⟨b517,i518⟩ o s h hR
    obtain rfl:=hR
    replace h:Zan N r3 r4 r5 i15 b517 i518=some o:=h
    unfold Zan at h
    refine sq (sq ?_)
    refine rg Za.f (tq ?_)
    refine it h (fun hc1019 h => ?_) (fun hc1019 h => ?_)
    ·refine sk (tq ?_)
     refine kq (sq ?_)
     refine bk (sq ?_)
     refine rg Za.f (tq ?_)
     refine sq (sq ?_)
     refine rg Za.f (tq ?_)
     refine bk ?_
     obtain ⟨o2032,ho2032,h⟩:=bs h
     refine ZV ((ZM (fun (x:Int × Int) s=>s=⟨[(5,.loc 5 0),(6,Zg false r4),(7,iv r5.1),(9,bv r6.1),(11,bv b517),(12,iv i15),(13,iv i518),(14,iv x.1),(15,iv x.2)],[(5,(Zd r3))],[]⟩) (fun x:Int × Int=>Zam N r3 r4 i15 i518 x.1 x.2) (fun (p:Int) e s=>e = .exit 4∧(s=⟨[(5,.loc 5 0),(6,Zg false r4),(7,iv r5.1),(9,bv r6.1),(11,bv b517),(12,iv i15),(13,iv i518),(14,iv p)],[(5,(Zd r3))],[]⟩)) ?_ N _ o2032 _ ho2032 (by show _=_;kernel_rfl)).mono ?_)
     ·clear h ho2032
      rintro ⟨i1020,i1021⟩ o s h hR
      obtain rfl:=hR
      replace h:Zam N r3 r4 i15 i518 i1020 i1021=some o:=h
      unfold Zam at h
      refine sq (sq ?_)
      refine rg (Za.u 3 (Zo (ys:=[Zp false r3.Uses]) (h:=Zt Zi)) Za.f) (tq ?_)
      refine it h (fun hc1522 h => ?_) (fun hc1522 h => ?_)
      ·refine sk (tq ?_)
       refine kq ?_
       obtain ⟨j2023,hj2023,h⟩:=bs h
       refine Zdn [5,6,7,9,11,12,13,14,15] (fun s=>s=⟨[(5,.loc 5 0),(6,Zg false r4),(7,iv r5.1),(9,bv r6.1),(11,bv b517),(12,iv i15),(13,iv i518),(14,iv j2023),(15,iv i1021)],[(5,(Zd r3))],[]⟩) ?_ ?_
       ·clear h
        have h:=hj2023
        refine bk (sq ?_)
        obtain ⟨e2024,he2024,h⟩:=bs h
        refine rg (Za.u 3 (Zo (ys:=[Zp false r3.Uses,iv i1021]) (h:=Zm Zi he2024)) (Za.u 0 (ZD (sz:=4) (off:=0) (cs:=[.int .i64 e2024.Stream,.int .i64 e2024.Port,.int .i64 e2024.From,.int .i64 e2024.Long]) (r:=.agg (ZP e2024)) Zi he2024) Za.f)) (tq ?_)
        refine sq ?_
        obtain ⟨e2025,he2025,h⟩:=bs h
        refine rg (Za.u 4 (Zo (ys:=[Zg false r3.Periods,iv e2024.Stream]) (h:=Zm eI64 he2025)) (Za.u 0 (ZD (sz:=1) (off:=0) (cs:=[.int .i64 e2025]) (r:=iv e2025) eI64 he2025) Za.f)) (tq ?_)
        refine sq ?_
        obtain ⟨j2030,hj,h⟩:=bs h
        refine rqR (fun s=>s=⟨[(5,.loc 5 0),(6,Zg false r4),(7,iv r5.1),(9,bv r6.1),(11,bv b517),(12,iv i15),(13,iv i518),(14,iv i1020),(15,iv i1021),(101,bv j2030)],[(5,(Zd r3))],[]⟩) ?_ ?_
        ·clear h
         rcases ZH hj with ⟨hc2026,hj⟩ | ⟨hc2029,hj⟩
         ·refine (EP.u 3 (Zj (c:=(e2024.Port==i15)) (h:=hc2026)) ?_)
          obtain ⟨e2027,he2027,hj⟩:=bs hj
          refine (EP.u 11 (Zo (ys:=[Zg false r4,iv e2024.Stream]) (h:=Zm eI64 he2027)) (EP.u 0 (ZX (ZD (sz:=1) (off:=0) (cs:=[.int .i64 e2027]) (r:=iv e2027) eI64 he2027)) ?_))
          obtain ⟨m2028,hm2028,hj⟩:=bs hj
          obtain rfl:=Zb hj
          exact (EP.u 2 (Zo (ys:=[iv (w64 ((w64 ((w64 (i518+(w64 (2 * e2025)))) - e2024.From)) - e2027)),iv e2025]) (h:=Zbj hm2028)) (EP.f (by show _=_;kernel_rfl)))
         obtain rfl:=Zb hj
         exact (EP.u 3 (Zj (c:=(e2024.Port==i15)) (h:=hc2029)) (EP.f (by show _=_;kernel_rfl)))
        clear hj
        rintro s hR
        obtain rfl:=hR
        refine tq (it h (fun hc2031 h => ?_) (fun hc2031 h => ?_))
        ·refine rg Za.f (bn ?_)
         obtain rfl:=Zb h
         exact ⟨rfl,(by show _=_;kernel_rfl)⟩
        refine sk (bn ?_)
        obtain rfl:=Zb h
        exact ⟨rfl,(by show _=_;kernel_rfl)⟩
       clear hj2023
       rintro s hR
       obtain rfl:=hR
       refine rg Za.f ?_
       obtain rfl:=Zb h
       exact ⟨_,rfl,(by show _=_;kernel_rfl)⟩
      refine kq (xq ?_)
      refine tx ?_
      obtain rfl:=Zb h
      exact ⟨_,rfl,rfl,(by show _=_;kernel_rfl)⟩
     rintro e s hq
     obtain ⟨rfl,hR⟩:=hq
     obtain rfl:=hR
     refine bx (tq ?_)
     refine rgX ⟨[(5,.loc 5 0),(6,Zg false r4),(7,iv r5.1),(9,bv r6.1),(11,bv (b517||((decide (o2032 > 1))||false))),(12,iv i15),(13,iv i518)],[(5,(Zd r3))],[]⟩ ?_ ?_
     ·rcases Bool.eq_false_or_eq_true b517 with hc2033 | hc2034
      ·exact (EP.u 0 (Zj (c:=b517) (h:=hc2033)) (EP.f (by simp only [hc2033];kernel_rfl)))
      refine (EP.u 0 (Zj (c:=b517) (h:=hc2034)) ?_)
      rcases Bool.eq_false_or_eq_true (decide (o2032 > 1)) with hc2035 | hc2036
      ·exact (EP.u 4 (Zj (c:=(decide (o2032 > 1))) (h:=hc2035)) (EP.f (by simp only [hc2034,hc2035];kernel_rfl)))
      exact (EP.u 4 (Zj (c:=(decide (o2032 > 1))) (h:=hc2036)) (EP.f (by simp only [hc2034,hc2036];kernel_rfl)))
     refine bn (tq ?_)
     refine rg Za.f ?_
     obtain rfl:=Zb h
     exact ⟨_,rfl,(by show _=_;kernel_rfl)⟩
    refine kq (xq ?_)
    refine tx ?_
    obtain rfl:=Zb h
    exact ⟨_,rfl,rfl,(by show _=_;kernel_rfl)⟩
   rintro e s hq
   obtain ⟨rfl,hR⟩:=hq
   obtain rfl:=hR
   refine bx (bn ?_)
   refine tq (rg Za.f ?_)
   obtain rfl:=Zb h
   exact ⟨_,rfl,(by show _=_;kernel_rfl)⟩
  refine kq (xq ?_)
  refine tx ?_
  obtain rfl:=Zb h
  exact ⟨_,rfl,rfl,(by show _=_;kernel_rfl)⟩
 rintro e s hq
 obtain ⟨rfl,hR⟩:=hq
 obtain rfl:=hR
 refine bx (tq ?_)
 refine sq (sq ?_)
 refine rg Za.f (tq ?_)
 refine bk ?_
 obtain ⟨o2544,ho2544,h⟩:=bs h
 refine ZV ((ZM (fun (x:Int) s=>s=⟨[(5,.loc 5 0),(7,iv r5.1),(9,bv r6.1),(11,bv o2038),(18,iv x)],[(5,(Zd r3))],[]⟩) (fun x:Int=>ZaB N r3 r5 x) (fun (p:(Unit) ⊕ (Bool)) e s=>match p with | (.inl p)=>e = .exit 6∧(s=⟨[(9,bv r6.1),(11,bv o2038)],[],[]⟩) | (.inr p)=>e = .ret∧∃ xs,resL s i4.res=some xs∧ZaH xs=bv p) ?_ N _ o2544 _ ho2544 (by show _=_;kernel_rfl)).mono ?_)
 ·clear h ho2544
  rintro i2039 o s h hR
  obtain rfl:=hR
  replace h:ZaB N r3 r5 i2039=some o:=h
  unfold ZaB at h
  refine sq (sq ?_)
  refine rg (Za.u 3 (Zo (ys:=[Zg false r3.Periods]) (h:=Zt eI64)) Za.f) (tq ?_)
  refine it h (fun hc2540 h => ?_) (fun hc2540 h => ?_)
  ·refine sk (tq ?_)
   refine kq (sq ?_)
   refine bk (sq ?_)
   obtain ⟨e2541,he2541,h⟩:=bs h
   obtain ⟨m2542,hm2542,h⟩:=bs h
   refine rg (Za.u 4 (Zo (ys:=[Zg false r3.Periods,iv i2039]) (h:=Zm eI64 he2541)) (Za.u 0 (ZD (sz:=1) (off:=0) (cs:=[.int .i64 e2541]) (r:=iv e2541) eI64 he2541) (Za.u 0 (Zo (ys:=[iv r5.1,iv e2541]) (h:=Zbj hm2542)) Za.f))) (tq ?_)
   refine it h (fun hc2543 h => ?_) (fun hc2543 h => ?_)
   ·refine sq (rg Za.f ?_)
    refine tq (rt ?_)
    refine br (tr ?_)
    obtain rfl:=Zb h
    exact ⟨_,rfl,rfl,Zx (by kernel_rfl)⟩
   refine sk (bn ?_)
   refine tq (kq ?_)
   refine rg Za.f ?_
   obtain rfl:=Zb h
   exact ⟨_,rfl,(by show _=_;kernel_rfl)⟩
  refine kq (xq ?_)
  refine tx ?_
  obtain rfl:=Zb h
  exact ⟨_,rfl,rfl,(by show _=_;kernel_rfl)⟩
 rintro e s hq
 rcases o2544 with p2545 | p2546
 ·dsimp only at h hq
  obtain ⟨rfl,hR⟩:=hq
  obtain rfl:=hR
  refine bx (tq ?_)
  refine sq (rg Za.f ?_)
  refine tq (rt ?_)
  obtain rfl:=Zb h
  exact Zx (by kernel_rfl)
 dsimp only at h hq
 obtain ⟨rfl,hq⟩:=hq
 refine br (tr ?_)
 obtain rfl:=Zb h
 exact hq
end Go.Sh

