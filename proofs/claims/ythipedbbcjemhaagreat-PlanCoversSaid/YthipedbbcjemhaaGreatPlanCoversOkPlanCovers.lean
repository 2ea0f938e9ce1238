/- Part of the proof; written by a program out of the texts in wip/. -/
import Derived.Test.YthipedbbcjemhaaGreatPlanCoversOk3
namespace Go.Sh
open Go Go.Eng Go.Proofs
set_option linter.unusedVariables false
set_option linter.unusedSimpArgs false
set_option maxRecDepth 100000
set_option maxHeartbeats 4000000
attribute [local irreducible] vc ev Zeu opsD opsF Zhf upd updH updO
theorem law24_PlanCovers_ok (N:Nat) (a0_:Zae) (a1_:(List ZaB)) (a2_:Zji) (r:Bool) (h:Zdz N a0_ a1_ a2_=some r):Zac Tryz.prog 4 [.agg (ZA a0_),Zaz false a1_,.agg (Zqy a2_)] (bv r):=by
 unfold Zdz at h
 have hH:HP ([]:List HO) []:=trivial
 refine ZD chk4 rfl rfl (Zt _ _ _ ?_) rfl
 refine sq (rg Za.f ?_)
 refine tq (sq ?_)
 refine sq ?_
 obtain ⟨r1,hr1,h⟩:=bs h
 refine rg (Za.v 0 (Zw (hc:=Zlx N  r1 hr1)) Za.f) (tq ?_)
 refine it h (fun hc2 h => ?_) (fun hc2 h => ?_)
 ·refine sq (rg Za.f ?_)
  refine tq (rt ?_)
  refine tr ?_
  obtain rfl:=Zb h
  exact Zx kr
 refine sk (tq ?_)
 refine kq (sq ?_)
 obtain ⟨r3,hr3,h⟩:=bs h
 refine rg (Za.v 1 (Zw (hc:=ZhX N a0_ r3 hr3)) Za.f) (tq ?_)
 refine sq ?_
 obtain ⟨r4,hr4,h⟩:=bs h
 refine rg (Za.v 2 (Zw (hc:=ZjJ N r3 a1_ r4 hr4)) Za.f) (tq ?_)
 refine sq ?_
 obtain ⟨r5,hr5,h⟩:=bs h
 refine rg (Za.v 6 (Zw (hc:=ZjK N a2_.x0 a2_.x1 a2_.x2 r5 hr5)) Za.f) (tq ?_)
 refine sq ?_
 obtain ⟨r6,hr6,h⟩:=bs h
 refine rg (Za.v 3 (Zw (hc:=ZlH N r3 r5 r4 r6 hr6)) Za.f) (tq ?_)
 refine sq (sq ?_)
 refine rg Za.f (tq ?_)
 refine it h (fun hc7 h => ?_) (fun hc7 h => ?_)
 ·refine sq (rgX ⟨[(6,bv ((r6.2==6)||((r6.2==7)||((r6.2==341)||(r6.2==342)))))],[],[]⟩ ?_ ?_)
  ·rcases Bool.eq_false_or_eq_true (r6.2==6) with hc8 | hc9
   ·exact (EP.u 1 (Zi (c:=(r6.2==6)) (h:=hc8)) (EP.f (by simp only [hc8];kernel_rfl)))
   refine (EP.u 1 (Zi (c:=(r6.2==6)) (h:=hc9)) ?_)
   rcases Bool.eq_false_or_eq_true (r6.2==7) with bA | be
   ·exact (EP.u 2 (Zi (c:=(r6.2==7)) (h:=bA)) (EP.f (by simp only [hc9,bA];kernel_rfl)))
   refine (EP.u 2 (Zi (c:=(r6.2==7)) (h:=be)) ?_)
   rcases Bool.eq_false_or_eq_true (r6.2==341) with bz | bw
   ·exact (EP.u 3 (Zi (c:=(r6.2==341)) (h:=bz)) (EP.f (by simp only [hc9,be,bz];kernel_rfl)))
   exact (EP.u 3 (Zi (c:=(r6.2==341)) (h:=bw)) (EP.f (by simp only [hc9,be,bw];kernel_rfl)))
  refine tq (rt ?_)
  refine tr ?_
  obtain rfl:=Zb h
  exact Zx kr
 refine sk (tq ?_)
 refine kq (sq ?_)
 refine sq ?_
 obtain ⟨bK,bB,h⟩:=bs h
 refine rg (Za.v 1 (Zw (hc:=ZeU N r6.1 bK bB)) Za.f) (tq ?_)
 refine it h (fun bC h => ?_) (fun bC h => ?_)
 ·refine sq (rg Za.f ?_)
  refine tq (rt ?_)
  refine tr ?_
  obtain rfl:=Zb h
  exact Zx kr
 refine sk (tq ?_)
 refine kq (sq ?_)
 refine rg Za.f (tq ?_)
 refine sq (sq ?_)
 refine rg Za.f (tq ?_)
 refine bk ?_
 obtain ⟨aD,ae,h⟩:=bs h
 refine ZS ((ZL (fun (x:Int × Int × Int) s=>s=⟨[(7,.loc 7 0),(8,ZG false r4),(9,.loc 9 0),(10,.loc 10 0),(12,iv x.1),(13,iv x.2.1),(14,iv x.2.2)],[(7,(Zc r3)),(9,(Zl r5)),(10,(Zd r6.1))],[]⟩) (fun x:Int × Int × Int=>ZaV N r3 r4 r5 r6 x.1 x.2.1 x.2.2) (fun (p:(Int × Int) ⊕ (Bool)) e s=>match p with | (.inl p)=>e = .exit 0∧(s=⟨[(10,.loc 10 0),(12,iv p.1),(13,iv p.2)],[(10,(Zd r6.1))],[]⟩) | (.inr p)=>e = .ret∧∃ xs,resL s i4.res=some xs∧ZaW xs=bv p) ?_ N _ aD _ ae (by show _=_;kernel_rfl)).mono ?_)
 ·clear h ae
  rintro ⟨i16,i17,i18⟩ o s h hR
  obtain rfl:=hR
  replace h:ZaV N r3 r4 r5 r6 i16 i17 i18=some o:=h
  unfold ZaV at h
  refine sq (sq ?_)
  refine rg (Za.u 2 (Zm (ys:=[ZG false r4]) (h:=Zr ZY)) Za.f) (tq ?_)
  refine it h (fun bu h => ?_) (fun bu h => ?_)
  ·refine sk (tq ?_)
   refine kq (sq ?_)
   refine bk (sq ?_)
   obtain ⟨a1,aI,h⟩:=bs h
   refine rg (Za.u 2 (Zm (ys:=[ZG false r4,iv i18]) (h:=Zk ZY aI)) (Za.u 0 (Zu (sz:=10) (off:=0) (cs:=[.int .i64 a1.Id,.int .i64 a1.Talker,.int .i64 a1.Listener,.int .i64 a1.Class,.int .i64 a1.Size,.int .i64 a1.Period,.int .i64 a1.Bucket.Burst,.int .i64 a1.Bucket.Rate,.int .i64 a1.Deadline,.sl 1 false (List.map (eSl 1 eI64) a1.Routes)]) (r:=.agg (Zf a1)) ZY aI) Za.f)) (tq ?_)
   refine sq (sq ?_)
   refine rg Za.f (tq ?_)
   refine it h (fun bt h => ?_) (fun bt h => ?_)
   ·refine kq (xq ?_)
    refine tx (bx ?_)
    refine tq (kq ?_)
    refine rg Za.f ?_
    obtain rfl:=Zb h
    exact ⟨_,rfl,(by show _=_;kernel_rfl)⟩
   refine sk (tq ?_)
   refine kq (sq ?_)
   refine sq (rg Za.f ?_)
   refine tq (bk ?_)
   obtain ⟨aE,af,h⟩:=bs h
   refine ZS ((ZL (fun (x:Int × Int) s=>s=⟨[(7,.loc 7 0),(8,ZG false r4),(9,.loc 9 0),(10,.loc 10 0),(12,iv x.1),(13,iv i17),(14,iv i18),(15,.loc 15 0),(16,iv x.2)],[(7,(Zc r3)),(9,(Zl r5)),(10,(Zd r6.1)),(15,(Zf a1))],[]⟩) (fun x:Int × Int=>ZaU N r3 r5 r6 i17 a1 x.1 x.2) (fun (p:(Int) ⊕ (Bool)) e s=>match p with | (.inl p)=>e = .exit 2∧(s=⟨[(7,.loc 7 0),(8,ZG false r4),(9,.loc 9 0),(10,.loc 10 0),(12,iv p),(13,iv i17),(14,iv i18),(15,.loc 15 0)],[(7,(Zc r3)),(9,(Zl r5)),(10,(Zd r6.1)),(15,(Zf a1))],[]⟩) | (.inr p)=>e = .ret∧∃ xs,resL s i4.res=some xs∧ZaW xs=bv p) ?_ N _ aE _ af (by show _=_;kernel_rfl)).mono ?_)
   ·clear h af
    rintro ⟨bm,a5⟩ o s h hR
    obtain rfl:=hR
    replace h:ZaU N r3 r5 r6 i17 a1 bm a5=some o:=h
    unfold ZaU at h
    refine sq (sq ?_)
    refine rg (Za.u 3 (Zm (ys:=[Zn false a1.Routes]) (h:=Zr (eSl 1 eI64))) Za.f) (tq ?_)
    refine it h (fun bi h => ?_) (fun bi h => ?_)
    ·refine sk (tq ?_)
     refine kq (sq ?_)
     refine bk (sq ?_)
     obtain ⟨a0,aS,h⟩:=bs h
     refine rg (Za.v 4 (Zw (hc:=ZhD N r3 r5 a1 a5 a0 aS)) Za.f) (tq ?_)
     refine sq ?_
     obtain ⟨a6,aR,h⟩:=bs h
     refine rg (Za.v 4 (Zw (hc:=ZhC N r3 r5 a1 a5 a6 aR)) Za.f) (tq ?_)
     refine sq (sq ?_)
     refine rgX ⟨[(7,.loc 7 0),(8,ZG false r4),(9,.loc 9 0),(10,.loc 10 0),(12,iv bm),(13,iv i17),(14,iv i18),(15,.loc 15 0),(16,iv a5),(17,Z1 false a0.1),(117,bv ((a0.2 != 0)||((a6.2 != 0)||(decide ((w64 (a6.1+(w64 (2 * r5.Slack)))) > a1.Deadline)))))],[(7,(Zc r3)),(9,(Zl r5)),(10,(Zd r6.1)),(15,(Zf a1))],[]⟩ ?_ ?_
     ·rcases Bool.eq_false_or_eq_true (a0.2 != 0) with aC | a9
      ·exact (EP.u 1 (Zi (c:=(a0.2 != 0)) (h:=aC)) (EP.f (by simp only [aC];kernel_rfl)))
      refine (EP.u 1 (Zi (c:=(a0.2 != 0)) (h:=a9)) ?_)
      rcases Bool.eq_false_or_eq_true (a6.2 != 0) with aB | aA
      ·exact (EP.u 2 (Zi (c:=(a6.2 != 0)) (h:=aB)) (EP.f (by simp only [a9,aB];kernel_rfl)))
      exact (EP.u 2 (Zi (c:=(a6.2 != 0)) (h:=aA)) (EP.f (by simp only [a9,aA];kernel_rfl)))
     refine tq (it h (fun bf h => ?_) (fun bf h => ?_))
     ·refine sq (rg Za.f ?_)
      refine tq (rt ?_)
      refine tr (br ?_)
      refine tr ?_
      obtain rfl:=Zb h
      exact ⟨_,rfl,rfl,Zx kr⟩
     refine sk (tq ?_)
     refine kq (sq ?_)
     refine rg Za.f (tq ?_)
     refine bk ?_
     obtain ⟨aG,ag,h⟩:=bs h
     refine ZS ((ZL (fun (x:Int × Int) s=>s=⟨[(7,.loc 7 0),(8,ZG false r4),(9,.loc 9 0),(10,.loc 10 0),(12,iv x.1),(13,iv i17),(14,iv i18),(15,.loc 15 0),(16,iv a5),(17,Z1 false a0.1),(21,iv x.2)],[(7,(Zc r3)),(9,(Zl r5)),(10,(Zd r6.1)),(15,(Zf a1))],[]⟩) (fun x:Int × Int=>ZaT N r5 r6 i17 a1 a0 x.1 x.2) (fun (p:(Int) ⊕ (Bool)) e s=>match p with | (.inl p)=>e = .exit 4∧(s=⟨[(7,.loc 7 0),(8,ZG false r4),(9,.loc 9 0),(10,.loc 10 0),(12,iv p),(13,iv i17),(14,iv i18),(15,.loc 15 0),(16,iv a5)],[(7,(Zc r3)),(9,(Zl r5)),(10,(Zd r6.1)),(15,(Zf a1))],[]⟩) | (.inr p)=>e = .ret∧∃ xs,resL s i4.res=some xs∧ZaW xs=bv p) ?_ N _ aG _ ag (by show _=_;kernel_rfl)).mono ?_)
     ·clear h ag
      rintro ⟨a4,a2⟩ o s h hR
      obtain rfl:=hR
      replace h:ZaT N r5 r6 i17 a1 a0 a4 a2=some o:=h
      unfold ZaT at h
      refine sq (sq ?_)
      refine rg (Za.u 2 (Zm (ys:=[Z1 false a0.1]) (h:=Zr ZV)) Za.f) (tq ?_)
      refine it h (fun bd h => ?_) (fun bd h => ?_)
      ·refine sk (tq ?_)
       refine kq (sq ?_)
       refine bk (sq ?_)
       refine sq (rgX ⟨[(7,.loc 7 0),(8,ZG false r4),(9,.loc 9 0),(10,.loc 10 0),(12,iv a4),(13,iv i17),(14,iv i18),(15,.loc 15 0),(16,iv a5),(17,Z1 false a0.1),(21,iv a2),(135,bv ((decide (a4 ≥ ((List.length r6.1.Uses:Nat):Int)))||(decide (i17 ≥ ((List.length r6.1.Periods:Nat):Int)))))],[(7,(Zc r3)),(9,(Zl r5)),(10,(Zd r6.1)),(15,(Zf a1))],[]⟩ ?_ ?_)
       ·refine (EP.u 3 (Zm (ys:=[ZK false r6.1.Uses]) (h:=Zr Zq)) ?_)
        rcases Bool.eq_false_or_eq_true (decide (a4 ≥ ((List.length r6.1.Uses:Nat):Int))) with az | ay
        ·exact (EP.u 0 (Zi (c:=(decide (a4 ≥ ((List.length r6.1.Uses:Nat):Int)))) (h:=az)) (EP.f (by simp only [az];kernel_rfl)))
        exact (EP.u 0 (Zi (c:=(decide (a4 ≥ ((List.length r6.1.Uses:Nat):Int)))) (h:=ay)) (EP.u 4 (Zm (ys:=[Zg false r6.1.Periods]) (h:=Zr eI64)) (EP.f (by simp only [ay];kernel_rfl))))
       refine tq (it h (fun bc h => ?_) (fun bc h => ?_))
       ·refine sq (rg Za.f ?_)
        refine tq (rt ?_)
        refine tr (br ?_)
        refine tr ?_
        obtain rfl:=Zb h
        exact ⟨_,rfl,rfl,Zx kr⟩
       refine sk (tq ?_)
       refine kq (sq ?_)
       obtain ⟨a3,av,h⟩:=bs h
       refine rg (Za.u 3 (Zm (ys:=[ZK false r6.1.Uses,iv a4]) (h:=Zk Zq av)) (Za.u 0 (Zu (sz:=4) (off:=0) (cs:=[.int .i64 a3.Stream,.int .i64 a3.Port,.int .i64 a3.From,.int .i64 a3.Long]) (r:=.agg (ZZ a3)) Zq av) Za.f)) (tq ?_)
       refine sq (rg Za.f ?_)
       refine tq (sq ?_)
       refine bk ?_
       obtain ⟨bj,aj,h⟩:=bs h
       refine ZS ((ZL (fun (x:Int) s=>s=⟨[(7,.loc 7 0),(8,ZG false r4),(9,.loc 9 0),(10,.loc 10 0),(12,iv a4),(13,iv i17),(14,iv i18),(15,.loc 15 0),(16,iv a5),(17,Z1 false a0.1),(21,iv a2),(22,.loc 22 0),(23,iv x)],[(7,(Zc r3)),(9,(Zl r5)),(10,(Zd r6.1)),(15,(Zf a1)),(22,(ZZ a3))],[]⟩) (fun x:Int=>ZaS N r5 a1 a0 a2 x) (fun (p:Int) e s=>e = .exit 6∧(s=⟨[(7,.loc 7 0),(8,ZG false r4),(9,.loc 9 0),(10,.loc 10 0),(12,iv a4),(13,iv i17),(14,iv i18),(15,.loc 15 0),(16,iv a5),(17,Z1 false a0.1),(21,iv a2),(22,.loc 22 0),(23,iv p)],[(7,(Zc r3)),(9,(Zl r5)),(10,(Zd r6.1)),(15,(Zf a1)),(22,(ZZ a3))],[]⟩)) ?_ N _ bj _ aj (by show _=_;kernel_rfl)).mono ?_)
       ·clear h aj
        rintro bq o s h hR
        obtain rfl:=hR
        replace h:ZaS N r5 a1 a0 a2 bq=some o:=h
        unfold ZaS at h
        refine sq (sq ?_)
        obtain ⟨aQ,au,h⟩:=bs h
        refine rq (Za.u 6 (Zm (ys:=[Z1 false a0.1,iv a2]) (h:=Zk ZV au)) (Za.u 1 (ZN (Zu (sz:=5) (off:=1) (cs:=[.int .i64 aQ.Early]) (r:=iv aQ.Early) ZV au)) Za.f)) (tq ?_)
        refine it h (fun bb h => ?_) (fun bb h => ?_)
        ·refine sk (tq ?_)
         refine kq (bk ?_)
         refine rg Za.f (bn ?_)
         obtain rfl:=Zb h
         exact ⟨_,rfl,(by show _=_;kernel_rfl)⟩
        refine kq (xq ?_)
        refine tx ?_
        obtain rfl:=Zb h
        exact ⟨_,rfl,rfl,(by show _=_;kernel_rfl)⟩
       rintro e s hq
       obtain ⟨rfl,hR⟩:=hq
       obtain rfl:=hR
       refine bx (tq ?_)
       refine sq (bk ?_)
       obtain ⟨a8,ai,h⟩:=bs h
       refine ZS ((ZL (fun (x:Int) s=>s=⟨[(7,.loc 7 0),(8,ZG false r4),(9,.loc 9 0),(10,.loc 10 0),(12,iv a4),(13,iv i17),(14,iv i18),(15,.loc 15 0),(16,iv a5),(17,Z1 false a0.1),(21,iv a2),(22,.loc 22 0),(23,iv x)],[(7,(Zc r3)),(9,(Zl r5)),(10,(Zd r6.1)),(15,(Zf a1)),(22,(ZZ a3))],[]⟩) (fun x:Int=>ZaR N r5 a1 a0 a2 x) (fun (p:Int) e s=>e = .exit 8∧(s=⟨[(7,.loc 7 0),(8,ZG false r4),(9,.loc 9 0),(10,.loc 10 0),(12,iv a4),(13,iv i17),(14,iv i18),(15,.loc 15 0),(16,iv a5),(17,Z1 false a0.1),(21,iv a2),(22,.loc 22 0),(23,iv p)],[(7,(Zc r3)),(9,(Zl r5)),(10,(Zd r6.1)),(15,(Zf a1)),(22,(ZZ a3))],[]⟩)) ?_ N _ a8 _ ai (by show _=_;kernel_rfl)).mono ?_)
       ·clear h ai
        rintro bp o s h hR
        obtain rfl:=hR
        replace h:ZaR N r5 a1 a0 a2 bp=some o:=h
        unfold ZaR at h
        refine sq (sq ?_)
        obtain ⟨aM,ar,h⟩:=bs h
        refine rq (Za.u 9 (Zm (ys:=[Z1 false a0.1,iv a2]) (h:=Zk ZV ar)) (Za.u 1 (ZN (Zu (sz:=5) (off:=1) (cs:=[.int .i64 aM.Early]) (r:=iv aM.Early) ZV ar)) Za.f)) (tq ?_)
        refine it h (fun ba h => ?_) (fun ba h => ?_)
        ·refine sk (tq ?_)
         refine kq (bk ?_)
         refine rg Za.f (bn ?_)
         obtain rfl:=Zb h
         exact ⟨_,rfl,(by show _=_;kernel_rfl)⟩
        refine kq (xq ?_)
        refine tx ?_
        obtain rfl:=Zb h
        exact ⟨_,rfl,rfl,(by show _=_;kernel_rfl)⟩
       rintro e s hq
       obtain ⟨rfl,hR⟩:=hq
       obtain rfl:=hR
       refine bx (tq ?_)
       refine sq (rq Za.f ?_)
       refine tq (sq ?_)
       refine sq ?_
       obtain ⟨bl,hj,h⟩:=bs h
       refine rqR (fun s=>s=⟨[(7,.loc 7 0),(8,ZG false r4),(9,.loc 9 0),(10,.loc 10 0),(12,iv a4),(13,iv i17),(14,iv i18),(15,.loc 15 0),(16,iv a5),(17,Z1 false a0.1),(21,iv a2),(243,bv bl)],[(7,(Zc r3)),(9,(Zl r5)),(10,(Zd r6.1)),(15,(Zf a1))],[]⟩) ?_ ?_
       ·clear h
        rcases Zz hj with ⟨b2,hj⟩ | ⟨b1,hj⟩
        ·obtain rfl:=Zb hj
         exact (EP.u 3 (Zi (c:=(a3.Stream != i17)) (h:=b2)) (EP.f (by show _=_;kernel_rfl)))
        refine (EP.u 3 (Zi (c:=(a3.Stream != i17)) (h:=b1)) ?_)
        obtain ⟨ad,aq,hj⟩:=bs hj
        refine (EP.u 5 (Zm (ys:=[Z1 false a0.1,iv a2]) (h:=Zk ZV aq)) (EP.u 1 (ZN (Zu (sz:=5) (off:=0) (cs:=[.int .i64 ad.Port]) (r:=iv ad.Port) ZV aq)) ?_))
        rcases Zz hj with ⟨b0,hj⟩ | ⟨aZ,hj⟩
        ·obtain rfl:=Zb hj
         exact (EP.u 0 (Zi (c:=(a3.Port != ad.Port)) (h:=b0)) (EP.f (by show _=_;kernel_rfl)))
        refine (EP.u 0 (Zi (c:=(a3.Port != ad.Port)) (h:=aZ)) ?_)
        obtain ⟨ac,ap,hj⟩:=bs hj
        refine (EP.u 4 (Zm (ys:=[Z1 false a0.1,iv a2]) (h:=Zk ZV ap)) (EP.u 1 (ZN (Zu (sz:=5) (off:=1) (cs:=[.int .i64 ac.Early]) (r:=iv ac.Early) ZV ap)) ?_))
        rcases Zz hj with ⟨aY,hj⟩ | ⟨aX,hj⟩
        ·obtain rfl:=Zb hj
         exact (EP.u 4 (Zi (c:=(decide ((w64 (ac.Early - (w64 (a8 * r5.Grid)))) ≥ r5.Grid))) (h:=aY)) (EP.f (by show _=_;kernel_rfl)))
        refine (EP.u 4 (Zi (c:=(decide ((w64 (ac.Early - (w64 (a8 * r5.Grid)))) ≥ r5.Grid))) (h:=aX)) ?_)
        obtain ⟨ab,ao,hj⟩:=bs hj
        refine (EP.u 5 (Zm (ys:=[Z1 false a0.1,iv a2]) (h:=Zk ZV ao)) (EP.u 1 (ZN (Zu (sz:=5) (off:=3) (cs:=[.int .i64 ab.Open]) (r:=iv ab.Open) ZV ao)) ?_))
        obtain ⟨aa,an,hj⟩:=bs hj
        refine (EP.u 2 (Zm (ys:=[Z1 false a0.1,iv a2]) (h:=Zk ZV an)) (EP.u 1 (ZN (Zu (sz:=5) (off:=4) (cs:=[.int .i64 aa.Long]) (r:=iv aa.Long) ZV an)) ?_))
        rcases Zz hj with ⟨aW,hj⟩ | ⟨aV,hj⟩
        ·obtain rfl:=Zb hj
         exact (EP.u 1 (Zi (c:=(decide ((w64 ((w64 (a8+a3.Long)) * r5.Grid))<(w64 (ab.Open+aa.Long))))) (h:=aW)) (EP.f (by show _=_;kernel_rfl)))
        refine (EP.u 1 (Zi (c:=(decide ((w64 ((w64 (a8+a3.Long)) * r5.Grid))<(w64 (ab.Open+aa.Long))))) (h:=aV)) ?_)
        obtain ⟨aL,am,hj⟩:=bs hj
        refine (EP.u 8 (Zm (ys:=[Z1 false a0.1,iv a2]) (h:=Zk ZV am)) (EP.u 1 (ZN (Zu (sz:=5) (off:=3) (cs:=[.int .i64 aL.Open]) (r:=iv aL.Open) ZV am)) ?_))
        obtain ⟨aK,al,hj⟩:=bs hj
        obtain rfl:=Zb hj
        exact (EP.u 2 (Zm (ys:=[Z1 false a0.1,iv a2]) (h:=Zk ZV al)) (EP.u 1 (ZN (Zu (sz:=5) (off:=4) (cs:=[.int .i64 aK.Long]) (r:=iv aK.Long) ZV al)) (EP.f (by show _=_;kernel_rfl))))
       clear hj
       rintro s hR
       obtain rfl:=hR
       refine tq (it h (fun aU h => ?_) (fun aU h => ?_))
       ·refine sq (rg Za.f ?_)
        refine tq (rt ?_)
        refine tr (br ?_)
        refine tr ?_
        obtain rfl:=Zb h
        exact ⟨_,rfl,rfl,Zx kr⟩
       refine sk (tq ?_)
       refine kq (rg Za.f ?_)
       refine bn (tq ?_)
       refine kq (rg Za.f ?_)
       obtain rfl:=Zb h
       exact ⟨_,rfl,(by show _=_;kernel_rfl)⟩
      refine kq (xq ?_)
      refine tx ?_
      obtain rfl:=Zb h
      exact ⟨_,rfl,rfl,(by show _=_;kernel_rfl)⟩
     rintro e s hq
     rcases aG with bJ | bI
     ·dsimp only at h hq
      obtain ⟨rfl,hR⟩:=hq
      obtain rfl:=hR
      refine bx (bn ?_)
      refine tq (kq ?_)
      refine rg Za.f ?_
      obtain rfl:=Zb h
      exact ⟨_,rfl,(by show _=_;kernel_rfl)⟩
     dsimp only at h hq
     obtain ⟨rfl,hq⟩:=hq
     refine br (br ?_)
     refine tr ?_
     obtain rfl:=Zb h
     exact ⟨_,rfl,rfl,hq⟩
    refine kq (xq ?_)
    refine tx ?_
    obtain rfl:=Zb h
    exact ⟨_,rfl,rfl,(by show _=_;kernel_rfl)⟩
   rintro e s hq
   rcases aE with bG | bE
   ·dsimp only at h hq
    obtain ⟨rfl,hR⟩:=hq
    obtain rfl:=hR
    refine bx (tq ?_)
    refine sq (sq ?_)
    obtain ⟨aJ,ak,h⟩:=bs h
    refine rq (Za.u 3 (Zm (ys:=[Zg false r6.1.Periods,iv i17]) (h:=Zk eI64 ak)) (Za.u 0 (ZN (Zu (sz:=1) (off:=0) (cs:=[.int .i64 aJ]) (r:=iv aJ) eI64 ak)) Za.f)) (tq ?_)
    refine it h (fun aT h => ?_) (fun aT h => ?_)
    ·refine sq (rg Za.f ?_)
     refine tq (rt ?_)
     refine tr (br ?_)
     refine tr ?_
     obtain rfl:=Zb h
     exact ⟨_,rfl,rfl,Zx kr⟩
    refine sk (tq ?_)
    refine kq (rg Za.f ?_)
    refine bn (tq ?_)
    refine kq (rg Za.f ?_)
    obtain rfl:=Zb h
    exact ⟨_,rfl,(by show _=_;kernel_rfl)⟩
   dsimp only at h hq
   obtain ⟨rfl,hq⟩:=hq
   refine br (tr ?_)
   refine br (tr ?_)
   obtain rfl:=Zb h
   exact ⟨_,rfl,rfl,hq⟩
  refine kq (xq ?_)
  refine tx ?_
  obtain rfl:=Zb h
  exact ⟨_,rfl,rfl,(by show _=_;kernel_rfl)⟩
 rintro e s hq
 rcases aD with a7 | bD
 ·dsimp only at h hq
  obtain ⟨rfl,hR⟩:=hq
  obtain rfl:=hR
  refine bx (tq ?_)
  refine sq (rgX ⟨[(6,bv ((a7.1==((List.length r6.1.Uses:Nat):Int))&&(a7.2==((List.length r6.1.Periods:Nat):Int))))],[],[]⟩ ?_ ?_)
  ·refine (EP.u 3 (Zm (ys:=[ZK false r6.1.Uses]) (h:=Zr Zq)) ?_)
   rcases Bool.eq_false_or_eq_true (a7.1==((List.length r6.1.Uses:Nat):Int)) with ax | aw
   ·exact (EP.u 0 (Zi (c:=(a7.1==((List.length r6.1.Uses:Nat):Int))) (h:=ax)) (EP.u 4 (Zm (ys:=[Zg false r6.1.Periods]) (h:=Zr eI64)) (EP.f (by simp only [ax];kernel_rfl))))
   exact (EP.u 0 (Zi (c:=(a7.1==((List.length r6.1.Uses:Nat):Int))) (h:=aw)) (EP.f (by simp only [aw];kernel_rfl)))
  refine tq (rt ?_)
  obtain rfl:=Zb h
  exact Zx kr
 dsimp only at h hq
 obtain ⟨rfl,hq⟩:=hq
 refine br (tr ?_)
 obtain rfl:=Zb h
 exact hq
end Go.Sh

