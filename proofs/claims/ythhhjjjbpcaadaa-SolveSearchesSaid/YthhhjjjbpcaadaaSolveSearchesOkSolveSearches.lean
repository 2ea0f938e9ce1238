/- Part of the proof. -/
import Derived.Test.YthhhjjjbpcaadaaSolveSearchesOk2
set_option linter.all false
namespace Go.Sh
open Go Go.Eng Go.Proofs
set_option maxRecDepth 100000
set_option maxHeartbeats 4000000
attribute [local irreducible] vc ev ZcP opsD opsF ZfO upd updH updO
theorem law26_SolveSearches_ok (N:Nat)(a0_:Zbn)(a1_:Z3)(a2_:Int)(r:Bool)(h:ZbQ N a0_ a1_ a2_=some r):Zbk Try.prog 3 [.agg (ZaJ a0_),.agg (Z2 a1_),iv a2_] (bv r):=by
 unfold ZbQ at h
 have hH  := hp0
 refine ZaG chk3 rfl rfl (Zao _ _ _ ?_) rfl
 refine sq (rg Z4.f (tq (sq ?_)))
 obtain ⟨l1,hl1,h⟩:=bs h
 obtain ⟨l2,hl2,h⟩:=bs h
 refine rq (Z4.u 4 (Zad (ys:=[Z9 false a1_.Periods]) (h:=Zal eI64)) (Z4.u 1 (Zad (ys:=[Z9 false a1_.Periods,iv (if 13<((List.length a1_.Periods:Nat):Int) then 13 else ((List.length a1_.Periods:Nat):Int))]) (h:=Zfu eI64 hl1)) (Z4.u 4 (Zad (ys:=[Z8 false a1_.Uses]) (h:=Zal Zan)) (Z4.u 1 (Zad (ys:=[Z8 false a1_.Uses,iv (if 200<((List.length a1_.Uses:Nat):Int) then 200 else ((List.length a1_.Uses:Nat):Int))]) (h:=Zfu Zan hl2)) Z4.f)))) (tq (sq (sq ?_)))
 obtain ⟨r3,hr3,h⟩:=bs h
 refine rq (Z4.u 1 (Zfy (hc:=Zel N a0_ r3 hr3)) Z4.f) (tq (bk (Zg5 18 (Zcz (sq (rg Z4.f (tq (sq (ZdN kr (sk (tq (kq (sq (bk (sq (rg Z4.f (tq (sq (rg Z4.f (tq (bk (Zg5 18 (Zcz (sq (rg Z4.f (tq (sq (ZdN kr (sk (tq (kq (sq (bk (sq (rg Z4.f (tq (sq ?_)))))))))))))))))))))))))))))))))))))
 obtain ⟨r4,hr4,h⟩:=bs h
 refine rg (Z4.v 2 (Zav (hc:=Zba N r3 a2_ r4 hr4)) Z4.f) (tq (sq ?_))
 obtain ⟨r5,hr5,h⟩:=bs h
 refine rg (Z4.v 2 (Zav (hc:=ZbY N r3 a2_ r5 hr5)) Z4.f) (tq (sq ?_))
 obtain ⟨bD,hj,h⟩:=bs h
 refine rgR (λs=>s=⟨[(2,iv a2_),(8,.loc 8 0),(36,.agg [Z9 false r3.Periods,Z8 false r3.Uses,Z9 false l1,Z8 false l2]),(37,iv 0),(45,.agg [iv a2_,iv (w64 ((Int.tmod (IntKind.u64.wrap (a2_)) 8))),iv 60]),(46,iv 0),(77,bv bD)],[(8,(Z2 r3))],[]⟩) ?_ ?_
 ·clear h
  rcases Zat hj with ⟨hc6,hj⟩|⟨hc7,hj⟩
  ·obtain rfl:=Zae hj
   exact (EP.u 2 (Zaa (c:=(r4.2.2 != r5.2.2)) (h:=hc6)) (EP.f kr))
  refine (EP.u 2 (Zaa (c:=(r4.2.2 != r5.2.2)) (h:=hc7)) ?_)
  obtain ⟨r8,hr8,hj⟩:=bs hj
  refine (EP.v 3 (Zav (hc:=ZaF N r4.1 r5.1 r8 hr8)) ?_)
  rcases Zat hj with ⟨hc9,hj⟩|⟨bf,hj⟩
  ·obtain rfl:=Zae hj
   exact (EP.u 0 (Zaa (c:=(!r8)) (h:=hc9)) (EP.f kr))
  refine (EP.u 0 (Zaa (c:=(!r8)) (h:=bf)) ?_)
  obtain ⟨bu,aD,hj⟩:=bs hj
  obtain rfl:=Zae hj
  exact (EP.v 4 (Zav (hc:=Zbu N r4.2.1 r5.2.1 bu aD)) (EP.f kr))
 clear hj
 rintro s hR
 obtain rfl:=hR
 refine tq (it h (λbe h=>?_) (λbe h=>?_))
 ·refine sq (rg Z4.f (tq (rt (br (tr (tr (br (br (tr (tr (br (tr ?_))))))))))))
  cases h
  exact Zaz kr
 refine sk (bn (tq (kq (rg Z4.f (tq (Zcz (sq (rg Z4.f (tq (sq (ZdN kr (sk (tq (kq (sq (bk (sq (rg Z4.f (tq (sq ?_))))))))))))))))))))
 obtain ⟨a9,aC,h⟩:=bs h
 refine rg (Z4.v 2 (Zav (hc:=Zba N r3 (w64 ((Int.tmod (IntKind.u64.wrap (a2_)) 8))) a9 aC)) Z4.f) (tq (sq ?_))
 obtain ⟨a8,aB,h⟩:=bs h
 refine rg (Z4.v 2 (Zav (hc:=ZbY N r3 (w64 ((Int.tmod (IntKind.u64.wrap (a2_)) 8))) a8 aB)) Z4.f) (tq (sq ?_))
 obtain ⟨bC,hj,h⟩:=bs h
 refine rgR (λs=>s=⟨[(2,iv a2_),(8,.loc 8 0),(36,.agg [Z9 false r3.Periods,Z8 false r3.Uses,Z9 false l1,Z8 false l2]),(37,iv 0),(45,.agg [iv a2_,iv (w64 ((Int.tmod (IntKind.u64.wrap (a2_)) 8))),iv 60]),(46,iv 1),(77,bv bC)],[(8,(Z2 r3))],[]⟩) ?_ ?_
 ·clear h
  rcases Zat hj with ⟨bd,hj⟩|⟨bc,hj⟩
  ·obtain rfl:=Zae hj
   exact (EP.u 2 (Zaa (c:=(a9.2.2 != a8.2.2)) (h:=bd)) (EP.f kr))
  refine (EP.u 2 (Zaa (c:=(a9.2.2 != a8.2.2)) (h:=bc)) ?_)
  obtain ⟨ae,aA,hj⟩:=bs hj
  refine (EP.v 3 (Zav (hc:=ZaF N a9.1 a8.1 ae aA)) ?_)
  rcases Zat hj with ⟨bb,hj⟩|⟨ba,hj⟩
  ·obtain rfl:=Zae hj
   exact (EP.u 0 (Zaa (c:=(!ae)) (h:=bb)) (EP.f kr))
  refine (EP.u 0 (Zaa (c:=(!ae)) (h:=ba)) ?_)
  obtain ⟨bt,az,hj⟩:=bs hj
  obtain rfl:=Zae hj
  exact (EP.v 4 (Zav (hc:=Zbu N a9.2.1 a8.2.1 bt az)) (EP.f kr))
 clear hj
 rintro s hR
 obtain rfl:=hR
 refine tq (it h (λb9 h=>?_) (λb9 h=>?_))
 ·refine sq (rg Z4.f (tq (rt (br (tr (tr (br (br (tr (tr (br (tr ?_))))))))))))
  cases h
  exact Zaz kr
 refine sk (bn (tq (kq (rg Z4.f (tq (Zcz (sq (rg Z4.f (tq (sq (ZdN kr (sk (tq (kq (sq (bk (sq (rg Z4.f (tq (sq ?_))))))))))))))))))))
 obtain ⟨a7,ay,h⟩:=bs h
 refine rg (Z4.v 2 (Zav (hc:=Zba N r3 60 a7 ay)) Z4.f) (tq (sq ?_))
 obtain ⟨a6,ax,h⟩:=bs h
 refine rg (Z4.v 2 (Zav (hc:=ZbY N r3 60 a6 ax)) Z4.f) (tq (sq ?_))
 obtain ⟨bB,hj,h⟩:=bs h
 refine rgR (λs=>s=⟨[(2,iv a2_),(8,.loc 8 0),(36,.agg [Z9 false r3.Periods,Z8 false r3.Uses,Z9 false l1,Z8 false l2]),(37,iv 0),(45,.agg [iv a2_,iv (w64 ((Int.tmod (IntKind.u64.wrap (a2_)) 8))),iv 60]),(46,iv 2),(77,bv bB)],[(8,(Z2 r3))],[]⟩) ?_ ?_
 ·clear h
  rcases Zat hj with ⟨b2,hj⟩|⟨b1,hj⟩
  ·obtain rfl:=Zae hj
   exact (EP.u 2 (Zaa (c:=(a7.2.2 != a6.2.2)) (h:=b2)) (EP.f kr))
  refine (EP.u 2 (Zaa (c:=(a7.2.2 != a6.2.2)) (h:=b1)) ?_)
  obtain ⟨ad,aw,hj⟩:=bs hj
  refine (EP.v 3 (Zav (hc:=ZaF N a7.1 a6.1 ad aw)) ?_)
  rcases Zat hj with ⟨b0,hj⟩|⟨aZ,hj⟩
  ·obtain rfl:=Zae hj
   exact (EP.u 0 (Zaa (c:=(!ad)) (h:=b0)) (EP.f kr))
  refine (EP.u 0 (Zaa (c:=(!ad)) (h:=aZ)) ?_)
  obtain ⟨bq,av,hj⟩:=bs hj
  obtain rfl:=Zae hj
  exact (EP.v 4 (Zav (hc:=Zbu N a7.2.1 a6.2.1 bq av)) (EP.f kr))
 clear hj
 rintro s hR
 obtain rfl:=hR
 refine tq (it h (λaY h=>?_) (λaY h=>?_))
 ·refine sq (rg Z4.f (tq (rt (br (tr (tr (br (br (tr (tr (br (tr ?_))))))))))))
  cases h
  exact Zaz kr
 refine sk (bn (tq (kq (rg Z4.f (tq (Zcz (sq (rg Z4.f (tq (sq (ZgQ kr (kq (xq (tx (tx (bx (bn (tq (rg Z4.f (tq (Zcz (sq (rg Z4.f (tq (sq (ZdN kr (sk (tq (kq (sq (bk (sq (rg Z4.f (tq (sq (rg Z4.f (tq (bk (Zg5 18 (Zcz (sq (rg Z4.f (tq (sq (ZdN kr (sk (tq (kq (sq (bk (sq (rg Z4.f (tq (sq ?_))))))))))))))))))))))))))))))))))))))))))))))))))))))
 obtain ⟨a5,au,h⟩:=bs h
 refine rg (Z4.v 2 (Zav (hc:=Zba N (Z3.mk l1 l2) a2_ a5 au)) Z4.f) (tq (sq ?_))
 obtain ⟨a4,ar,h⟩:=bs h
 refine rg (Z4.v 2 (Zav (hc:=ZbY N (Z3.mk l1 l2) a2_ a4 ar)) Z4.f) (tq (sq ?_))
 obtain ⟨bA,hj,h⟩:=bs h
 refine rgR (λs=>s=⟨[(2,iv a2_),(8,.loc 8 0),(36,.agg [Z9 false r3.Periods,Z8 false r3.Uses,Z9 false l1,Z8 false l2]),(37,iv 1),(45,.agg [iv a2_,iv (w64 ((Int.tmod (IntKind.u64.wrap (a2_)) 8))),iv 60]),(46,iv 0),(77,bv bA)],[(8,[Z9 false l1,Z8 false l2])],[]⟩) ?_ ?_
 ·clear h
  rcases Zat hj with ⟨aX,hj⟩|⟨aW,hj⟩
  ·obtain rfl:=Zae hj
   exact (EP.u 2 (Zaa (c:=(a5.2.2 != a4.2.2)) (h:=aX)) (EP.f kr))
  refine (EP.u 2 (Zaa (c:=(a5.2.2 != a4.2.2)) (h:=aW)) ?_)
  obtain ⟨ac,aq,hj⟩:=bs hj
  refine (EP.v 3 (Zav (hc:=ZaF N a5.1 a4.1 ac aq)) ?_)
  rcases Zat hj with ⟨aV,hj⟩|⟨aU,hj⟩
  ·obtain rfl:=Zae hj
   exact (EP.u 0 (Zaa (c:=(!ac)) (h:=aV)) (EP.f kr))
  refine (EP.u 0 (Zaa (c:=(!ac)) (h:=aU)) ?_)
  obtain ⟨bm,ap,hj⟩:=bs hj
  obtain rfl:=Zae hj
  exact (EP.v 4 (Zav (hc:=Zbu N a5.2.1 a4.2.1 bm ap)) (EP.f kr))
 clear hj
 rintro s hR
 obtain rfl:=hR
 refine tq (it h (λaT h=>?_) (λaT h=>?_))
 ·refine sq (rg Z4.f (tq (rt (br (tr (tr (br (br (tr (tr (br (tr ?_))))))))))))
  cases h
  exact Zaz kr
 refine sk (bn (tq (kq (rg Z4.f (tq (Zcz (sq (rg Z4.f (tq (sq (ZdN kr (sk (tq (kq (sq (bk (sq (rg Z4.f (tq (sq ?_))))))))))))))))))))
 obtain ⟨a3,ao,h⟩:=bs h
 refine rg (Z4.v 2 (Zav (hc:=Zba N (Z3.mk l1 l2) (w64 ((Int.tmod (IntKind.u64.wrap (a2_)) 8))) a3 ao)) Z4.f) (tq (sq ?_))
 obtain ⟨a2,an,h⟩:=bs h
 refine rg (Z4.v 2 (Zav (hc:=ZbY N (Z3.mk l1 l2) (w64 ((Int.tmod (IntKind.u64.wrap (a2_)) 8))) a2 an)) Z4.f) (tq (sq ?_))
 obtain ⟨bz,hj,h⟩:=bs h
 refine rgR (λs=>s=⟨[(2,iv a2_),(8,.loc 8 0),(36,.agg [Z9 false r3.Periods,Z8 false r3.Uses,Z9 false l1,Z8 false l2]),(37,iv 1),(45,.agg [iv a2_,iv (w64 ((Int.tmod (IntKind.u64.wrap (a2_)) 8))),iv 60]),(46,iv 1),(77,bv bz)],[(8,[Z9 false l1,Z8 false l2])],[]⟩) ?_ ?_
 ·clear h
  rcases Zat hj with ⟨aS,hj⟩|⟨aR,hj⟩
  ·obtain rfl:=Zae hj
   exact (EP.u 2 (Zaa (c:=(a3.2.2 != a2.2.2)) (h:=aS)) (EP.f kr))
  refine (EP.u 2 (Zaa (c:=(a3.2.2 != a2.2.2)) (h:=aR)) ?_)
  obtain ⟨ab,am,hj⟩:=bs hj
  refine (EP.v 3 (Zav (hc:=ZaF N a3.1 a2.1 ab am)) ?_)
  rcases Zat hj with ⟨aQ,hj⟩|⟨aM,hj⟩
  ·obtain rfl:=Zae hj
   exact (EP.u 0 (Zaa (c:=(!ab)) (h:=aQ)) (EP.f kr))
  refine (EP.u 0 (Zaa (c:=(!ab)) (h:=aM)) ?_)
  obtain ⟨bl,al,hj⟩:=bs hj
  obtain rfl:=Zae hj
  exact (EP.v 4 (Zav (hc:=Zbu N a3.2.1 a2.2.1 bl al)) (EP.f kr))
 clear hj
 rintro s hR
 obtain rfl:=hR
 refine tq (it h (λaL h=>?_) (λaL h=>?_))
 ·refine sq (rg Z4.f (tq (rt (br (tr (tr (br (br (tr (tr (br (tr ?_))))))))))))
  cases h
  exact Zaz kr
 refine sk (bn (tq (kq (rg Z4.f (tq (Zcz (sq (rg Z4.f (tq (sq (ZdN kr (sk (tq (kq (sq (bk (sq (rg Z4.f (tq (sq ?_))))))))))))))))))))
 obtain ⟨a1,ak,h⟩:=bs h
 refine rg (Z4.v 2 (Zav (hc:=Zba N (Z3.mk l1 l2) 60 a1 ak)) Z4.f) (tq (sq ?_))
 obtain ⟨a0,aj,h⟩:=bs h
 refine rg (Z4.v 2 (Zav (hc:=ZbY N (Z3.mk l1 l2) 60 a0 aj)) Z4.f) (tq (sq ?_))
 obtain ⟨bw,hj,h⟩:=bs h
 refine rgR (λs=>s=⟨[(2,iv a2_),(8,.loc 8 0),(36,.agg [Z9 false r3.Periods,Z8 false r3.Uses,Z9 false l1,Z8 false l2]),(37,iv 1),(45,.agg [iv a2_,iv (w64 ((Int.tmod (IntKind.u64.wrap (a2_)) 8))),iv 60]),(46,iv 2),(77,bv bw)],[(8,[Z9 false l1,Z8 false l2])],[]⟩) ?_ ?_
 ·clear h
  rcases Zat hj with ⟨aK,hj⟩|⟨aJ,hj⟩
  ·obtain rfl:=Zae hj
   exact (EP.u 2 (Zaa (c:=(a1.2.2 != a0.2.2)) (h:=aK)) (EP.f kr))
  refine (EP.u 2 (Zaa (c:=(a1.2.2 != a0.2.2)) (h:=aJ)) ?_)
  obtain ⟨aa,ai,hj⟩:=bs hj
  refine (EP.v 3 (Zav (hc:=ZaF N a1.1 a0.1 aa ai)) ?_)
  rcases Zat hj with ⟨aI,hj⟩|⟨aG,hj⟩
  ·obtain rfl:=Zae hj
   exact (EP.u 0 (Zaa (c:=(!aa)) (h:=aI)) (EP.f kr))
  refine (EP.u 0 (Zaa (c:=(!aa)) (h:=aG)) ?_)
  obtain ⟨bj,ag,hj⟩:=bs hj
  obtain rfl:=Zae hj
  exact (EP.v 4 (Zav (hc:=Zbu N a1.2.1 a0.2.1 bj ag)) (EP.f kr))
 clear hj
 rintro s hR
 obtain rfl:=hR
 refine tq (it h (λaE h=>?_) (λaE h=>?_))
 ·refine sq (rg Z4.f (tq (rt (br (tr (tr (br (br (tr (tr (br (tr ?_))))))))))))
  cases h
  exact Zaz kr
 refine sk (bn (tq (kq (rg Z4.f (tq (Zcz (sq (rg Z4.f (tq (sq (ZgQ kr (kq (xq (tx (tx (bx (bn (tq (rg Z4.f (tq (Zcz (sq (rg Z4.f (tq (sq (ZgQ kr (kq (xq (tx (tx (bx (tq (sq ?_)))))))))))))))))))))))))))))))))
 obtain ⟨bi,af,h⟩:=bs h
 refine rg (Z4.v 0 (Zav (hc:=Zib N  bi af)) Z4.f) (tq (rt ?_))
 cases h
 exact Zaz kr
end Go.Sh

