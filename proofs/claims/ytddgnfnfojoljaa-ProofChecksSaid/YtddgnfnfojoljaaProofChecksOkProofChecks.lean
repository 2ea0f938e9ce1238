/- Part of the proof. -/
import Derived.Test.YtddgnfnfojoljaaProofChecksOk2
set_option linter.all false
namespace Go.Sh
open Go Go.Eng Go.Proofs
set_option maxRecDepth 100000
set_option maxHeartbeats 4000000
attribute [local irreducible] vc ev Zfb opsD opsF Zgh upd updH updO
theorem law25_ProofChecks_ok (N:Nat)(a0_:Zbk)(a1_:Zbk)(a2_:(List Z3))(a3_:ZaO)(a4_:ZaO)(r:Bool)(h:ZcI N a0_ a1_ a2_ a3_ a4_=some r):Zbc Try.prog 3 [.agg (ZaI a0_),.agg (ZaI a1_),Z2 false a2_,.agg (Zat a3_),.agg (Zat a4_)] (bv r):=by
 unfold ZcI at h
 have hH  := hp0
 refine ZaD chk3 rfl rfl (Zas _ _ _ ?_) rfl
 refine sq (rg Z1.f (tq (sq ?_)))
 obtain ⟨r1,hr1,h⟩:=bs h
 refine rg (Z1.v 1 (Zaw (hc:=Zbi N a0_ r1 hr1)) Z1.f) (tq (sq (rg Z1.f (tq (sq (Zpa ?_))))))
 obtain ⟨l4,hl4,h⟩:=bs h
 obtain ⟨a2,H3,ha2,hH⟩:=Zo9 (sz:=1) eI64 hH hl4
 replace hH:HP _ [.arr a2 1 false (List.map eI64 l4)]:=hH
 have hfa2:=Zbd (HP.get hH 0 rfl)
 obtain ⟨l7,hl7,h⟩:=bs h
 obtain ⟨a5,H6,ha5,hH⟩:=HP.app (k:=0) (a:=a2) (sz:=1) (frz:=false) eI64 hH rfl hl7
 replace hH:HP _ [.arr a5 1 false (List.map eI64 l7)]:=hH
 have hfa5:=Zbd (HP.get hH 0 rfl)
 refine rgS ⟨[(2,Z2 false a2_),(6,.loc 6 0),(8,.loc 8 0),(9,.loc 9 0),(11,.loc 11 0),(12,.loc 12 0)],[(6,(ZaI a1_)),(8,(Zat a3_)),(9,(Zat a4_)),(11,(Z0 r1)),(12,[a5,Zac false r1.Uses])],H6⟩ (Z1.h 3 (ZdQ (H:=[]) (a:=Zag true []) (b:=Zag false r1.Periods) kr kr kr kr ha2) (Z1.h 1 (ZdQ (H:=H3) (a:=a2) (b:=Zag true [0]) (by cases hfa2<;>kernel_rfl) (by cases hfa2<;>kernel_rfl) (by cases hfa2<;>kernel_rfl) (by cases hfa2<;>kernel_rfl) ha5) (Z1.f (h:=(by cases hfa5<;>kernel_rfl))))) (by cases hfa2<;>cases hfa5<;>kernel_rfl) ?_
 obtain ⟨H8,hzH8,_,hH⟩:=HP.frz (k:=0) (a:=a5) (sz:=1) (frz:=false) eI64 hH rfl
 replace hH:HP _ [.arr a5 1 true (List.map eI64 l7)]:=hH
 refine ⟨⟨[(2,Z2 false a2_),(6,.loc 6 0),(8,.loc 8 0),(9,.loc 9 0),(11,.loc 11 0),(12,.loc 12 0)],[(6,(ZaI a1_)),(8,(Zat a3_)),(9,(Zat a4_)),(11,(Z0 r1)),(12,[Zag false l7,Zac false r1.Uses])],H8⟩,(Zng 12 (H:=H6) (cs:=[a5,Zac false r1.Uses]) kr kr (ZkZ hzH8 (ZkZ rfl Zoo)) kr kr),?_⟩
 replace hH:HP _ []:=HP.pick hH [] rfl
 refine tq (sq (sq ?_))
 obtain ⟨r9,hr9,h⟩:=bs h
 refine rg (Z1.v 4 (Zaw (hc:=Zid N r1 a2_ a3_ a4_ r9 hr9)) Z1.f) (tq (bk (Ze0 18 (Zbn (sq (rg Z1.f (tq (sq (ZcM kr (sk (tq (kq (sq (bk (sq (rg Z1.f (tq (sq ?_))))))))))))))))))
 obtain ⟨a4,aB,h⟩:=bs h
 refine rq (Z1.u 2 (Za2 (hc:=Zbi N a1_ a4 aB)) Z1.f) (tq (bk (Ze0 18 (Zbn (sq (rg Z1.f (tq (sq (ZcM kr (sk (tq (kq (sq (bk (sq (rg Z1.f (tq (sq ?_))))))))))))))))))
 obtain ⟨bw,aA,h⟩:=bs h
 obtain ⟨bu,az,h⟩:=bs h
 refine rq (Z1.u 2 (Za2 (hc:=ZaH N r1 r9.x0 bw aA)) (Z1.v 2 (Zaw (hc:=Za0 N r1 r9.x0 bu az)) Z1.f)) (tq (it h (λaS h=>?_) (λaS h=>?_)))
 ·refine sq (rg Z1.f (tq (rt (br (tr (tr (br (br (tr (tr (br (tr ?_))))))))))))
  cases h
  exact Zaq kr
 refine sk (bn (tq (kq (rg Z1.f (tq (Zbn (sq (rg Z1.f (tq (sq (ZcM kr (sk (tq (kq (sq (bk (sq (rg Z1.f (tq (sq ?_))))))))))))))))))))
 obtain ⟨bt,ay,h⟩:=bs h
 obtain ⟨bq,ax,h⟩:=bs h
 refine rq (Z1.u 2 (Za2 (hc:=ZaH N a4 r9.x0 bt ay)) (Z1.v 2 (Zaw (hc:=Za0 N a4 r9.x0 bq ax)) Z1.f)) (tq (it h (λaR h=>?_) (λaR h=>?_)))
 ·refine sq (rg Z1.f (tq (rt (br (tr (tr (br (br (tr (tr (br (tr ?_))))))))))))
  cases h
  exact Zaq kr
 refine sk (bn (tq (kq (rg Z1.f (tq (Zbn (sq (rg Z1.f (tq (sq (ZcM kr (sk (tq (kq (sq (bk (sq (rg Z1.f (tq (sq ?_))))))))))))))))))))
 obtain ⟨bp,aw,h⟩:=bs h
 obtain ⟨bm,av,h⟩:=bs h
 refine rq (Z1.u 2 (Za2 (hc:=ZaH N (Z4.mk l7 r1.Uses) r9.x0 bp aw)) (Z1.v 2 (Zaw (hc:=Za0 N (Z4.mk l7 r1.Uses) r9.x0 bm av)) Z1.f)) (tq (it h (λaQ h=>?_) (λaQ h=>?_)))
 ·refine sq (rg Z1.f (tq (rt (br (tr (tr (br (br (tr (tr (br (tr ?_))))))))))))
  cases h
  exact Zaq kr
 refine sk (bn (tq (kq (rg Z1.f (tq (Zbn (sq (rg Z1.f (tq (sq (Zfj kr (kq (xq (tx (tx (bx (bn (tq (rg Z1.f (tq (Zbn (sq (rg Z1.f (tq (sq (ZcM kr (sk (tq (kq (sq (bk (sq (rg Z1.f (tq (sq ?_)))))))))))))))))))))))))))))))))))
 obtain ⟨a3,au,h⟩:=bs h
 refine rq (Z1.u 2 (Za2 (hc:=Zbi N a1_ a3 au)) Z1.f) (tq (bk (Ze0 18 (Zbn (sq (rg Z1.f (tq (sq (ZcM kr (sk (tq (kq (sq (bk (sq (rg Z1.f (tq (sq ?_))))))))))))))))))
 obtain ⟨bl,ar,h⟩:=bs h
 obtain ⟨bj,aq,h⟩:=bs h
 refine rq (Z1.u 2 (Za2 (hc:=ZaH N r1 r9.x1 bl ar)) (Z1.v 2 (Zaw (hc:=Za0 N r1 r9.x1 bj aq)) Z1.f)) (tq (it h (λaM h=>?_) (λaM h=>?_)))
 ·refine sq (rg Z1.f (tq (rt (br (tr (tr (br (br (tr (tr (br (tr ?_))))))))))))
  cases h
  exact Zaq kr
 refine sk (bn (tq (kq (rg Z1.f (tq (Zbn (sq (rg Z1.f (tq (sq (ZcM kr (sk (tq (kq (sq (bk (sq (rg Z1.f (tq (sq ?_))))))))))))))))))))
 obtain ⟨bi,ap,h⟩:=bs h
 obtain ⟨bf,ao,h⟩:=bs h
 refine rq (Z1.u 2 (Za2 (hc:=ZaH N a3 r9.x1 bi ap)) (Z1.v 2 (Zaw (hc:=Za0 N a3 r9.x1 bf ao)) Z1.f)) (tq (it h (λaL h=>?_) (λaL h=>?_)))
 ·refine sq (rg Z1.f (tq (rt (br (tr (tr (br (br (tr (tr (br (tr ?_))))))))))))
  cases h
  exact Zaq kr
 refine sk (bn (tq (kq (rg Z1.f (tq (Zbn (sq (rg Z1.f (tq (sq (ZcM kr (sk (tq (kq (sq (bk (sq (rg Z1.f (tq (sq ?_))))))))))))))))))))
 obtain ⟨be,an,h⟩:=bs h
 obtain ⟨bd,am,h⟩:=bs h
 refine rq (Z1.u 2 (Za2 (hc:=ZaH N (Z4.mk l7 r1.Uses) r9.x1 be an)) (Z1.v 2 (Zaw (hc:=Za0 N (Z4.mk l7 r1.Uses) r9.x1 bd am)) Z1.f)) (tq (it h (λaK h=>?_) (λaK h=>?_)))
 ·refine sq (rg Z1.f (tq (rt (br (tr (tr (br (br (tr (tr (br (tr ?_))))))))))))
  cases h
  exact Zaq kr
 refine sk (bn (tq (kq (rg Z1.f (tq (Zbn (sq (rg Z1.f (tq (sq (Zfj kr (kq (xq (tx (tx (bx (bn (tq (rg Z1.f (tq (Zbn (sq (rg Z1.f (tq (sq (ZcM kr (sk (tq (kq (sq (bk (sq (rg Z1.f (tq (sq ?_)))))))))))))))))))))))))))))))))))
 obtain ⟨a1,al,h⟩:=bs h
 refine rq (Z1.u 2 (Za2 (hc:=Zbi N a1_ a1 al)) Z1.f) (tq (bk (Ze0 18 (Zbn (sq (rg Z1.f (tq (sq (ZcM kr (sk (tq (kq (sq (bk (sq (rg Z1.f (tq (sq ?_))))))))))))))))))
 obtain ⟨bc,ak,h⟩:=bs h
 obtain ⟨bb,aj,h⟩:=bs h
 refine rq (Z1.u 2 (Za2 (hc:=ZaH N r1 r9.x2 bc ak)) (Z1.v 2 (Zaw (hc:=Za0 N r1 r9.x2 bb aj)) Z1.f)) (tq (it h (λaJ h=>?_) (λaJ h=>?_)))
 ·refine sq (rg Z1.f (tq (rt (br (tr (tr (br (br (tr (tr (br (tr ?_))))))))))))
  cases h
  exact Zaq kr
 refine sk (bn (tq (kq (rg Z1.f (tq (Zbn (sq (rg Z1.f (tq (sq (ZcM kr (sk (tq (kq (sq (bk (sq (rg Z1.f (tq (sq ?_))))))))))))))))))))
 obtain ⟨ba,ai,h⟩:=bs h
 obtain ⟨b2,ag,h⟩:=bs h
 refine rq (Z1.u 2 (Za2 (hc:=ZaH N a1 r9.x2 ba ai)) (Z1.v 2 (Zaw (hc:=Za0 N a1 r9.x2 b2 ag)) Z1.f)) (tq (it h (λaI h=>?_) (λaI h=>?_)))
 ·refine sq (rg Z1.f (tq (rt (br (tr (tr (br (br (tr (tr (br (tr ?_))))))))))))
  cases h
  exact Zaq kr
 refine sk (bn (tq (kq (rg Z1.f (tq (Zbn (sq (rg Z1.f (tq (sq (ZcM kr (sk (tq (kq (sq (bk (sq (rg Z1.f (tq (sq ?_))))))))))))))))))))
 obtain ⟨b1,af,h⟩:=bs h
 obtain ⟨b0,ae,h⟩:=bs h
 refine rq (Z1.u 2 (Za2 (hc:=ZaH N (Z4.mk l7 r1.Uses) r9.x2 b1 af)) (Z1.v 2 (Zaw (hc:=Za0 N (Z4.mk l7 r1.Uses) r9.x2 b0 ae)) Z1.f)) (tq (it h (λaG h=>?_) (λaG h=>?_)))
 ·refine sq (rg Z1.f (tq (rt (br (tr (tr (br (br (tr (tr (br (tr ?_))))))))))))
  cases h
  exact Zaq kr
 refine sk (bn (tq (kq (rg Z1.f (tq (Zbn (sq (rg Z1.f (tq (sq (Zfj kr (kq (xq (tx (tx (bx (bn (tq (rg Z1.f (tq (Zbn (sq (rg Z1.f (tq (sq (ZcM kr (sk (tq (kq (sq (bk (sq (rg Z1.f (tq (sq ?_)))))))))))))))))))))))))))))))))))
 obtain ⟨a0,ad,h⟩:=bs h
 refine rq (Z1.u 2 (Za2 (hc:=Zbi N a1_ a0 ad)) Z1.f) (tq (bk (Ze0 18 (Zbn (sq (rg Z1.f (tq (sq (ZcM kr (sk (tq (kq (sq (bk (sq (rg Z1.f (tq (sq ?_))))))))))))))))))
 obtain ⟨aZ,ac,h⟩:=bs h
 obtain ⟨aY,ab,h⟩:=bs h
 refine rq (Z1.u 2 (Za2 (hc:=ZaH N r1 r9.x3 aZ ac)) (Z1.v 2 (Zaw (hc:=Za0 N r1 r9.x3 aY ab)) Z1.f)) (tq (it h (λaE h=>?_) (λaE h=>?_)))
 ·refine sq (rg Z1.f (tq (rt (br (tr (tr (br (br (tr (tr (br (tr ?_))))))))))))
  cases h
  exact Zaq kr
 refine sk (bn (tq (kq (rg Z1.f (tq (Zbn (sq (rg Z1.f (tq (sq (ZcM kr (sk (tq (kq (sq (bk (sq (rg Z1.f (tq (sq ?_))))))))))))))))))))
 obtain ⟨aX,aa,h⟩:=bs h
 obtain ⟨aW,a9,h⟩:=bs h
 refine rq (Z1.u 2 (Za2 (hc:=ZaH N a0 r9.x3 aX aa)) (Z1.v 2 (Zaw (hc:=Za0 N a0 r9.x3 aW a9)) Z1.f)) (tq (it h (λaD h=>?_) (λaD h=>?_)))
 ·refine sq (rg Z1.f (tq (rt (br (tr (tr (br (br (tr (tr (br (tr ?_))))))))))))
  cases h
  exact Zaq kr
 refine sk (bn (tq (kq (rg Z1.f (tq (Zbn (sq (rg Z1.f (tq (sq (ZcM kr (sk (tq (kq (sq (bk (sq (rg Z1.f (tq (sq ?_))))))))))))))))))))
 obtain ⟨aV,a8,h⟩:=bs h
 obtain ⟨aU,a7,h⟩:=bs h
 refine rq (Z1.u 2 (Za2 (hc:=ZaH N (Z4.mk l7 r1.Uses) r9.x3 aV a8)) (Z1.v 2 (Zaw (hc:=Za0 N (Z4.mk l7 r1.Uses) r9.x3 aU a7)) Z1.f)) (tq (it h (λaC h=>?_) (λaC h=>?_)))
 ·refine sq (rg Z1.f (tq (rt (br (tr (tr (br (br (tr (tr (br (tr ?_))))))))))))
  cases h
  exact Zaq kr
 refine sk (bn (tq (kq (rg Z1.f (tq (Zbn (sq (rg Z1.f (tq (sq (Zfj kr (kq (xq (tx (tx (bx (bn (tq (rg Z1.f (tq (Zbn (sq (rg Z1.f (tq (sq (Zfj kr (kq (xq (tx (tx (bx (tq (sq ?_)))))))))))))))))))))))))))))))))
 obtain ⟨aT,a6,h⟩:=bs h
 refine rg (Z1.v 0 (Zaw (hc:=ZiR N  aT a6)) Z1.f) (tq (rt ?_))
 cases h
 exact Zaq kr
end Go.Sh

