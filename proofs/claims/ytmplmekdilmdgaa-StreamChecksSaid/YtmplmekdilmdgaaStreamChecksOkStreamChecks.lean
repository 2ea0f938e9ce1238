/- Part of the proof; written by a program out of the texts in wip/. -/
import Derived.Test.YtmplmekdilmdgaaStreamChecksOk3
namespace Go.Sh
open Go Go.Eng Go.Proofs
set_option linter.unusedVariables false
set_option linter.unusedSimpArgs false
set_option maxRecDepth 100000
set_option maxHeartbeats 4000000
attribute [local irreducible] vc ev ZfR opsD opsF Zha upd updH updO
theorem law22_StreamChecks_ok (N:Nat) (a0_:Zcl) (a1_:Zg) (a2_:Int) (r:Bool) (h:ZcL N a0_ a1_ a2_=some r):Zaj Try.prog 6 [.agg (ZI a0_),.agg (Za a1_),iv a2_] (bv r):=by
 unfold ZcL at h
 have hH:HP ([]:List HO) []:=trivial
 refine ZE chk6 rfl rfl (Zt _ _ _ ?_) rfl
 refine sq (rg Zb.f ?_)
 refine tq (sq ?_)
 obtain ⟨r1,hr1,h⟩:=bs h
 refine rg (Zb.v 2 (Zw (hc:=Zg6 N a0_.T r1 hr1)) Zb.f) (tq ?_)
 refine sq ?_
 obtain ⟨l2,hl2,h⟩:=bs h
 refine rg (Zb.u 4 (Zp (ys:=[Ze false a1_.Links]) (h:=Zx Zn)) (Zb.u 1 (Zp (ys:=[Ze false a1_.Links,iv (if 30<((List.length a1_.Links:Nat):Int) then 30 else ((List.length a1_.Links:Nat):Int))]) (h:=ZfD Zn hl2)) Zb.f)) (tq ?_)
 refine sq (sq ?_)
 obtain ⟨r3,hr3,h⟩:=bs h
 refine rq (Zb.u 11 (Z9 (hc:=ZiC N a0_.U.x0 a0_.U.x1 a0_.U.x2 r3 hr3)) Zb.f) (tq ?_)
 refine bk (Zef 18 ?_)
 refine Zah ?_
 refine sq (rg Zb.f ?_)
 refine tq (sq ?_)
 refine Zbm (by kernel_rfl) ?_
 refine sk (tq ?_)
 refine kq (sq ?_)
 refine bk (sq ?_)
 refine rg Zb.f (tq ?_)
 refine sq ?_
 obtain ⟨r4,hr4,h⟩:=bs h
 obtain ⟨r5,hr5,h⟩:=bs h
 refine rq (Zb.u 1 (Z9 (hc:=Zde N a0_.Setup r4 hr4)) (Zb.v 1 (Zw (hc:=ZeU N a0_.Setup r5 hr5)) Zb.f)) (tq ?_)
 refine it h (fun hc6 h => ?_) (fun hc6 h => ?_)
 ·refine sq (rg Zb.f ?_)
  refine tq (rt ?_)
  refine br (tr ?_)
  refine tr (br ?_)
  refine tr ?_
  obtain rfl:=Zc h
  exact ZA (by kernel_rfl)
 refine sk (bn ?_)
 refine tq (kq ?_)
 refine rg Zb.f (tq ?_)
 refine Zah ?_
 refine sq (rg Zb.f ?_)
 refine tq (sq ?_)
 refine Zbm (by kernel_rfl) ?_
 refine sk (tq ?_)
 refine kq (sq ?_)
 refine bk (sq ?_)
 refine rg Zb.f (tq ?_)
 refine sq ?_
 obtain ⟨r7,hr7,h⟩:=bs h
 obtain ⟨r8,hr8,h⟩:=bs h
 refine rq (Zb.u 1 (Z9 (hc:=Zde N r3 r7 hr7)) (Zb.v 1 (Zw (hc:=ZeU N r3 r8 hr8)) Zb.f)) (tq ?_)
 refine it h (fun hc9 h => ?_) (fun hc9 h => ?_)
 ·refine sq (rg Zb.f ?_)
  refine tq (rt ?_)
  refine br (tr ?_)
  refine tr (br ?_)
  refine tr ?_
  obtain rfl:=Zc h
  exact ZA (by kernel_rfl)
 refine sk (bn ?_)
 refine tq (kq ?_)
 refine rg Zb.f (tq ?_)
 refine Zah ?_
 refine sq (rg Zb.f ?_)
 refine tq (sq ?_)
 refine ZdZ (by kernel_rfl) ?_
 refine kq (xq ?_)
 refine tx (tx ?_)
 refine bx (tq ?_)
 refine sq (sq ?_)
 obtain ⟨r10,hr10,h⟩:=bs h
 refine rg (Zb.v 2 (Zw (hc:=Zgt N a0_ r1 r10 hr10)) Zb.f) (tq ?_)
 refine bk (Zef 18 ?_)
 refine Zah ?_
 refine sq (rg Zb.f ?_)
 refine tq (sq ?_)
 refine Zbm (by kernel_rfl) ?_
 refine sk (tq ?_)
 refine kq (sq ?_)
 refine bk (sq ?_)
 refine rg Zb.f (tq ?_)
 refine sq (sq ?_)
 refine rg Zb.f (tq ?_)
 refine bk (Zef 18 ?_)
 refine Zah ?_
 refine sq (rg Zb.f ?_)
 refine tq (sq ?_)
 refine Zbm (by kernel_rfl) ?_
 refine sk (tq ?_)
 refine kq (sq ?_)
 refine bk (sq ?_)
 refine rg Zb.f (tq ?_)
 refine sq (sq ?_)
 refine rg Zb.f (tq ?_)
 refine bk ?_
 obtain ⟨o518,ho518,h⟩:=bs h
 refine ZY ((ZO (fun (x:Int) s=>s=⟨[(2,iv a2_),(3,.loc 3 0),(4,.loc 4 0),(7,.loc 7 0),(11,Zd false r10.x0),(13,.loc 13 0),(14,iv x),(56,.agg (ZN r10)),(57,iv 0),(62,.agg [iv r1.Nodes,s_eB false r1.Station,Ze false r1.Links,iv a1_.Nodes,s_eB false a1_.Station,Ze false l2]),(63,iv 0)],[(3,(ZI a0_)),(4,[iv a1_.Nodes,s_eB false a1_.Station,Ze false l2]),(7,(Za r1)),(13,(Za r1))],[]⟩) (fun x:Int=>Zbh N r1 r10 x) (fun (p:(Unit) ⊕ (Bool)) e s=>match p with | (.inl p)=>e = .exit 6∧(s=⟨[(2,iv a2_),(3,.loc 3 0),(4,.loc 4 0),(7,.loc 7 0),(11,Zd false r10.x0),(13,.loc 13 0),(56,.agg (ZN r10)),(57,iv 0),(62,.agg [iv r1.Nodes,s_eB false r1.Station,Ze false r1.Links,iv a1_.Nodes,s_eB false a1_.Station,Ze false l2]),(63,iv 0)],[(3,(ZI a0_)),(4,[iv a1_.Nodes,s_eB false a1_.Station,Ze false l2]),(7,(Za r1)),(13,(Za r1))],[]⟩) | (.inr p)=>e = .ret∧∃ xs,resL s i6.res=some xs∧ZaX xs=bv p) ?_ N _ o518 _ ho518 (by show _=_;kernel_rfl)).mono ?_)
 ·clear h ho518
  rintro i11 o s h hR
  obtain rfl:=hR
  replace h:Zbh N r1 r10 i11=some o:=h
  unfold Zbh at h
  refine sq (sq ?_)
  refine rg (Zb.u 2 (Zp (ys:=[Zd false r10.x0]) (h:=Zx Zm)) Zb.f) (tq ?_)
  refine it h (fun hc512 h => ?_) (fun hc512 h => ?_)
  ·refine sk (tq ?_)
   refine kq (sq ?_)
   refine bk (sq ?_)
   obtain ⟨e513,he513,h⟩:=bs h
   obtain ⟨r514,hr514,h⟩:=bs h
   obtain ⟨e515,he515,h⟩:=bs h
   obtain ⟨r516,hr516,h⟩:=bs h
   refine rq (Zb.u 3 (Zp (ys:=[Zd false r10.x0,iv i11]) (h:=Zk Zm he513)) (Zb.u 0 (ZK (Zs (sz:=10) (off:=0) (cs:=[.int .i64 e513.Id,.int .i64 e513.Talker,.int .i64 e513.Listener,.int .i64 e513.Class,.int .i64 e513.Size,.int .i64 e513.Period,.int .i64 e513.Bucket.Burst,.int .i64 e513.Bucket.Rate,.int .i64 e513.Deadline,.sl 1 false (List.map (eSl 1 eI64) e513.Routes)]) (r:=.agg (Zf e513)) Zm he513)) (Zb.u 0 (Z9 (hc:=Zbd N r1 e513 r514 hr514)) (Zb.u 3 (Zp (ys:=[Zd false r10.x0,iv i11]) (h:=Zk Zm he515)) (Zb.u 0 (ZK (Zs (sz:=10) (off:=0) (cs:=[.int .i64 e515.Id,.int .i64 e515.Talker,.int .i64 e515.Listener,.int .i64 e515.Class,.int .i64 e515.Size,.int .i64 e515.Period,.int .i64 e515.Bucket.Burst,.int .i64 e515.Bucket.Rate,.int .i64 e515.Deadline,.sl 1 false (List.map (eSl 1 eI64) e515.Routes)]) (r:=.agg (Zf e515)) Zm he515)) (Zb.v 0 (Zw (hc:=Zea N r1 e515 r516 hr516)) Zb.f)))))) (tq ?_)
   refine it h (fun hc517 h => ?_) (fun hc517 h => ?_)
   ·refine sq (rg Zb.f ?_)
    refine tq (rt ?_)
    refine br (tr ?_)
    obtain rfl:=Zc h
    exact ⟨_,rfl,rfl,ZA (by kernel_rfl)⟩
   refine sk (bn ?_)
   refine tq (kq ?_)
   refine rg Zb.f ?_
   obtain rfl:=Zc h
   exact ⟨_,rfl,(by show _=_;kernel_rfl)⟩
  refine kq (xq ?_)
  refine tx ?_
  obtain rfl:=Zc h
  exact ⟨_,rfl,rfl,(by show _=_;kernel_rfl)⟩
 rintro e s hq
 rcases o518 with p519 | p2083
 ·dsimp only at h hq
  obtain ⟨rfl,hR⟩:=hq
  obtain rfl:=hR
  refine bx (tq ?_)
  refine sq ?_
  obtain ⟨r520,hr520,h⟩:=bs h
  obtain ⟨r521,hr521,h⟩:=bs h
  refine rq (Zb.u 2 (Z9 (hc:=ZbV N r1 r10.x0 r520 hr520)) (Zb.v 2 (Zw (hc:=Zc5 N r1 r10.x0 r521 hr521)) Zb.f)) (tq ?_)
  refine it h (fun hc522 h => ?_) (fun hc522 h => ?_)
  ·refine sq (rg Zb.f ?_)
   refine tq (rt ?_)
   refine br (tr ?_)
   refine tr (br ?_)
   refine tr (br ?_)
   refine tr (tr ?_)
   refine br (tr ?_)
   obtain rfl:=Zc h
   exact ZA (by kernel_rfl)
  refine sk (bn ?_)
  refine tq (kq ?_)
  refine rg Zb.f (tq ?_)
  refine Zah ?_
  refine sq (rg Zb.f ?_)
  refine tq (sq ?_)
  refine Zbm (by kernel_rfl) ?_
  refine sk (tq ?_)
  refine kq (sq ?_)
  refine bk (sq ?_)
  refine rg Zb.f (tq ?_)
  refine sq (sq ?_)
  refine rg Zb.f (tq ?_)
  refine bk ?_
  obtain ⟨o1030,ho1030,h⟩:=bs h
  refine ZY ((ZO (fun (x:Int) s=>s=⟨[(2,iv a2_),(3,.loc 3 0),(4,.loc 4 0),(7,.loc 7 0),(11,Zd false r10.x0),(13,.loc 13 0),(14,iv x),(56,.agg (ZN r10)),(57,iv 0),(62,.agg [iv r1.Nodes,s_eB false r1.Station,Ze false r1.Links,iv a1_.Nodes,s_eB false a1_.Station,Ze false l2]),(63,iv 1)],[(3,(ZI a0_)),(4,[iv a1_.Nodes,s_eB false a1_.Station,Ze false l2]),(7,(Za r1)),(13,[iv a1_.Nodes,s_eB false a1_.Station,Ze false l2])],[]⟩) (fun x:Int=>Zbg N a1_ l2 r10 x) (fun (p:(Unit) ⊕ (Bool)) e s=>match p with | (.inl p)=>e = .exit 6∧(s=⟨[(2,iv a2_),(3,.loc 3 0),(4,.loc 4 0),(7,.loc 7 0),(11,Zd false r10.x0),(13,.loc 13 0),(56,.agg (ZN r10)),(57,iv 0),(62,.agg [iv r1.Nodes,s_eB false r1.Station,Ze false r1.Links,iv a1_.Nodes,s_eB false a1_.Station,Ze false l2]),(63,iv 1)],[(3,(ZI a0_)),(4,[iv a1_.Nodes,s_eB false a1_.Station,Ze false l2]),(7,(Za r1)),(13,[iv a1_.Nodes,s_eB false a1_.Station,Ze false l2])],[]⟩) | (.inr p)=>e = .ret∧∃ xs,resL s i6.res=some xs∧ZaX xs=bv p) ?_ N _ o1030 _ ho1030 (by show _=_;kernel_rfl)).mono ?_)
  ·clear h ho1030
   rintro i523 o s h hR
   obtain rfl:=hR
   replace h:Zbg N a1_ l2 r10 i523=some o:=h
   unfold Zbg at h
   refine sq (sq ?_)
   refine rg (Zb.u 2 (Zp (ys:=[Zd false r10.x0]) (h:=Zx Zm)) Zb.f) (tq ?_)
   refine it h (fun hc1024 h => ?_) (fun hc1024 h => ?_)
   ·refine sk (tq ?_)
    refine kq (sq ?_)
    refine bk (sq ?_)
    obtain ⟨e1025,he1025,h⟩:=bs h
    obtain ⟨r1026,hr1026,h⟩:=bs h
    obtain ⟨e1027,he1027,h⟩:=bs h
    obtain ⟨r1028,hr1028,h⟩:=bs h
    refine rq (Zb.u 3 (Zp (ys:=[Zd false r10.x0,iv i523]) (h:=Zk Zm he1025)) (Zb.u 0 (ZK (Zs (sz:=10) (off:=0) (cs:=[.int .i64 e1025.Id,.int .i64 e1025.Talker,.int .i64 e1025.Listener,.int .i64 e1025.Class,.int .i64 e1025.Size,.int .i64 e1025.Period,.int .i64 e1025.Bucket.Burst,.int .i64 e1025.Bucket.Rate,.int .i64 e1025.Deadline,.sl 1 false (List.map (eSl 1 eI64) e1025.Routes)]) (r:=.agg (Zf e1025)) Zm he1025)) (Zb.u 0 (Z9 (hc:=Zbd N (Zg.mk a1_.Nodes a1_.Station l2) e1025 r1026 hr1026)) (Zb.u 3 (Zp (ys:=[Zd false r10.x0,iv i523]) (h:=Zk Zm he1027)) (Zb.u 0 (ZK (Zs (sz:=10) (off:=0) (cs:=[.int .i64 e1027.Id,.int .i64 e1027.Talker,.int .i64 e1027.Listener,.int .i64 e1027.Class,.int .i64 e1027.Size,.int .i64 e1027.Period,.int .i64 e1027.Bucket.Burst,.int .i64 e1027.Bucket.Rate,.int .i64 e1027.Deadline,.sl 1 false (List.map (eSl 1 eI64) e1027.Routes)]) (r:=.agg (Zf e1027)) Zm he1027)) (Zb.v 0 (Zw (hc:=Zea N (Zg.mk a1_.Nodes a1_.Station l2) e1027 r1028 hr1028)) Zb.f)))))) (tq ?_)
    refine it h (fun hc1029 h => ?_) (fun hc1029 h => ?_)
    ·refine sq (rg Zb.f ?_)
     refine tq (rt ?_)
     refine br (tr ?_)
     obtain rfl:=Zc h
     exact ⟨_,rfl,rfl,ZA (by kernel_rfl)⟩
    refine sk (bn ?_)
    refine tq (kq ?_)
    refine rg Zb.f ?_
    obtain rfl:=Zc h
    exact ⟨_,rfl,(by show _=_;kernel_rfl)⟩
   refine kq (xq ?_)
   refine tx ?_
   obtain rfl:=Zc h
   exact ⟨_,rfl,rfl,(by show _=_;kernel_rfl)⟩
  rintro e s hq
  rcases o1030 with p1031 | p2082
  ·dsimp only at h hq
   obtain ⟨rfl,hR⟩:=hq
   obtain rfl:=hR
   refine bx (tq ?_)
   refine sq ?_
   obtain ⟨r1032,hr1032,h⟩:=bs h
   obtain ⟨r1033,hr1033,h⟩:=bs h
   refine rq (Zb.u 2 (Z9 (hc:=ZbV N (Zg.mk a1_.Nodes a1_.Station l2) r10.x0 r1032 hr1032)) (Zb.v 2 (Zw (hc:=Zc5 N (Zg.mk a1_.Nodes a1_.Station l2) r10.x0 r1033 hr1033)) Zb.f)) (tq ?_)
   refine it h (fun hc1034 h => ?_) (fun hc1034 h => ?_)
   ·refine sq (rg Zb.f ?_)
    refine tq (rt ?_)
    refine br (tr ?_)
    refine tr (br ?_)
    refine tr (br ?_)
    refine tr (tr ?_)
    refine br (tr ?_)
    obtain rfl:=Zc h
    exact ZA (by kernel_rfl)
   refine sk (bn ?_)
   refine tq (kq ?_)
   refine rg Zb.f (tq ?_)
   refine Zah ?_
   refine sq (rg Zb.f ?_)
   refine tq (sq ?_)
   refine ZdZ (by kernel_rfl) ?_
   refine kq (xq ?_)
   refine tx (tx ?_)
   refine bx (tq ?_)
   refine sq (rg Zb.f ?_)
   refine tq (bk ?_)
   refine Zef 18 ?_
   refine Zah ?_
   refine sq (rg Zb.f ?_)
   refine tq (sq ?_)
   refine Zbm (by kernel_rfl) ?_
   refine sk (tq ?_)
   refine kq (sq ?_)
   refine bk (sq ?_)
   refine rg Zb.f (tq ?_)
   refine sq ?_
   obtain ⟨r1035,hr1035,h⟩:=bs h
   refine rg (Zb.v 2 (Zw (hc:=ZdE N r10.x0 a2_ r1035 hr1035)) Zb.f) (tq ?_)
   refine sq ?_
   obtain ⟨r1036,hr1036,h⟩:=bs h
   refine rg (Zb.v 2 (Zw (hc:=Zd8 N r10.x0 a2_ r1036 hr1036)) Zb.f) (tq ?_)
   refine sq (rgX ⟨[(2,iv a2_),(3,.loc 3 0),(4,.loc 4 0),(7,.loc 7 0),(11,Zd false r10.x0),(56,.agg (ZN r10)),(57,iv 0),(99,.agg [iv a2_,iv (w64 (1+(w64 ((Int.tmod a0_.At 7)))))]),(100,iv 0),(122,bv ((r1035.1 != r1036.1)||(r1035.2 != r1036.2)))],[(3,(ZI a0_)),(4,[iv a1_.Nodes,s_eB false a1_.Station,Ze false l2]),(7,(Za r1))],[]⟩ ?_ ?_)
   ·rcases Bool.eq_false_or_eq_true (r1035.1 != r1036.1) with hc1037 | hc1038
    ·exact (EP.u 2 (Zl (c:=(r1035.1 != r1036.1)) (h:=hc1037)) (EP.f (by simp only [hc1037];kernel_rfl)))
    exact (EP.u 2 (Zl (c:=(r1035.1 != r1036.1)) (h:=hc1038)) (EP.f (by simp only [hc1038];kernel_rfl)))
   refine tq (it h (fun hc1039 h => ?_) (fun hc1039 h => ?_))
   ·refine sq (rg Zb.f ?_)
    refine tq (rt ?_)
    refine br (tr ?_)
    refine tr (br ?_)
    refine br (tr ?_)
    refine tr (br ?_)
    refine tr ?_
    obtain rfl:=Zc h
    exact ZA (by kernel_rfl)
   refine sk (bn ?_)
   refine tq (kq ?_)
   refine rg Zb.f (tq ?_)
   refine Zah ?_
   refine sq (rg Zb.f ?_)
   refine tq (sq ?_)
   refine Zbm (by kernel_rfl) ?_
   refine sk (tq ?_)
   refine kq (sq ?_)
   refine bk (sq ?_)
   refine rg Zb.f (tq ?_)
   refine sq ?_
   obtain ⟨r1040,hr1040,h⟩:=bs h
   refine rg (Zb.v 2 (Zw (hc:=ZdE N r10.x0 (w64 (1+(w64 ((Int.tmod a0_.At 7))))) r1040 hr1040)) Zb.f) (tq ?_)
   refine sq ?_
   obtain ⟨r1041,hr1041,h⟩:=bs h
   refine rg (Zb.v 2 (Zw (hc:=Zd8 N r10.x0 (w64 (1+(w64 ((Int.tmod a0_.At 7))))) r1041 hr1041)) Zb.f) (tq ?_)
   refine sq (rgX ⟨[(2,iv a2_),(3,.loc 3 0),(4,.loc 4 0),(7,.loc 7 0),(11,Zd false r10.x0),(56,.agg (ZN r10)),(57,iv 0),(99,.agg [iv a2_,iv (w64 (1+(w64 ((Int.tmod a0_.At 7)))))]),(100,iv 1),(122,bv ((r1040.1 != r1041.1)||(r1040.2 != r1041.2)))],[(3,(ZI a0_)),(4,[iv a1_.Nodes,s_eB false a1_.Station,Ze false l2]),(7,(Za r1))],[]⟩ ?_ ?_)
   ·rcases Bool.eq_false_or_eq_true (r1040.1 != r1041.1) with hc1042 | hc1043
    ·exact (EP.u 2 (Zl (c:=(r1040.1 != r1041.1)) (h:=hc1042)) (EP.f (by simp only [hc1042];kernel_rfl)))
    exact (EP.u 2 (Zl (c:=(r1040.1 != r1041.1)) (h:=hc1043)) (EP.f (by simp only [hc1043];kernel_rfl)))
   refine tq (it h (fun hc1044 h => ?_) (fun hc1044 h => ?_))
   ·refine sq (rg Zb.f ?_)
    refine tq (rt ?_)
    refine br (tr ?_)
    refine tr (br ?_)
    refine br (tr ?_)
    refine tr (br ?_)
    refine tr ?_
    obtain rfl:=Zc h
    exact ZA (by kernel_rfl)
   refine sk (bn ?_)
   refine tq (kq ?_)
   refine rg Zb.f (tq ?_)
   refine Zah ?_
   refine sq (rg Zb.f ?_)
   refine tq (sq ?_)
   refine ZdZ (by kernel_rfl) ?_
   refine kq (xq ?_)
   refine tx (tx ?_)
   refine bx (bn ?_)
   refine tq (rg Zb.f ?_)
   refine tq (Zah ?_)
   refine sq (rg Zb.f ?_)
   refine tq (sq ?_)
   refine Zbm (by kernel_rfl) ?_
   refine sk (tq ?_)
   refine kq (sq ?_)
   refine bk (sq ?_)
   refine rg Zb.f (tq ?_)
   refine sq (sq ?_)
   refine rg Zb.f (tq ?_)
   refine bk (Zef 18 ?_)
   refine Zah ?_
   refine sq (rg Zb.f ?_)
   refine tq (sq ?_)
   refine Zbm (by kernel_rfl) ?_
   refine sk (tq ?_)
   refine kq (sq ?_)
   refine bk (sq ?_)
   refine rg Zb.f (tq ?_)
   refine sq (sq ?_)
   refine rg Zb.f (tq ?_)
   refine bk ?_
   obtain ⟨o1552,ho1552,h⟩:=bs h
   refine ZY ((ZO (fun (x:Int) s=>s=⟨[(2,iv a2_),(3,.loc 3 0),(4,.loc 4 0),(7,.loc 7 0),(11,Zd false r10.x1),(13,.loc 13 0),(14,iv x),(56,.agg (ZN r10)),(57,iv 1),(62,.agg [iv r1.Nodes,s_eB false r1.Station,Ze false r1.Links,iv a1_.Nodes,s_eB false a1_.Station,Ze false l2]),(63,iv 0)],[(3,(ZI a0_)),(4,[iv a1_.Nodes,s_eB false a1_.Station,Ze false l2]),(7,(Za r1)),(13,(Za r1))],[]⟩) (fun x:Int=>Zbf N r1 r10 x) (fun (p:(Unit) ⊕ (Bool)) e s=>match p with | (.inl p)=>e = .exit 6∧(s=⟨[(2,iv a2_),(3,.loc 3 0),(4,.loc 4 0),(7,.loc 7 0),(11,Zd false r10.x1),(13,.loc 13 0),(56,.agg (ZN r10)),(57,iv 1),(62,.agg [iv r1.Nodes,s_eB false r1.Station,Ze false r1.Links,iv a1_.Nodes,s_eB false a1_.Station,Ze false l2]),(63,iv 0)],[(3,(ZI a0_)),(4,[iv a1_.Nodes,s_eB false a1_.Station,Ze false l2]),(7,(Za r1)),(13,(Za r1))],[]⟩) | (.inr p)=>e = .ret∧∃ xs,resL s i6.res=some xs∧ZaX xs=bv p) ?_ N _ o1552 _ ho1552 (by show _=_;kernel_rfl)).mono ?_)
   ·clear h ho1552
    rintro i1045 o s h hR
    obtain rfl:=hR
    replace h:Zbf N r1 r10 i1045=some o:=h
    unfold Zbf at h
    refine sq (sq ?_)
    refine rg (Zb.u 2 (Zp (ys:=[Zd false r10.x1]) (h:=Zx Zm)) Zb.f) (tq ?_)
    refine it h (fun hc1546 h => ?_) (fun hc1546 h => ?_)
    ·refine sk (tq ?_)
     refine kq (sq ?_)
     refine bk (sq ?_)
     obtain ⟨e1547,he1547,h⟩:=bs h
     obtain ⟨r1548,hr1548,h⟩:=bs h
     obtain ⟨e1549,he1549,h⟩:=bs h
     obtain ⟨r1550,hr1550,h⟩:=bs h
     refine rq (Zb.u 3 (Zp (ys:=[Zd false r10.x1,iv i1045]) (h:=Zk Zm he1547)) (Zb.u 0 (ZK (Zs (sz:=10) (off:=0) (cs:=[.int .i64 e1547.Id,.int .i64 e1547.Talker,.int .i64 e1547.Listener,.int .i64 e1547.Class,.int .i64 e1547.Size,.int .i64 e1547.Period,.int .i64 e1547.Bucket.Burst,.int .i64 e1547.Bucket.Rate,.int .i64 e1547.Deadline,.sl 1 false (List.map (eSl 1 eI64) e1547.Routes)]) (r:=.agg (Zf e1547)) Zm he1547)) (Zb.u 0 (Z9 (hc:=Zbd N r1 e1547 r1548 hr1548)) (Zb.u 3 (Zp (ys:=[Zd false r10.x1,iv i1045]) (h:=Zk Zm he1549)) (Zb.u 0 (ZK (Zs (sz:=10) (off:=0) (cs:=[.int .i64 e1549.Id,.int .i64 e1549.Talker,.int .i64 e1549.Listener,.int .i64 e1549.Class,.int .i64 e1549.Size,.int .i64 e1549.Period,.int .i64 e1549.Bucket.Burst,.int .i64 e1549.Bucket.Rate,.int .i64 e1549.Deadline,.sl 1 false (List.map (eSl 1 eI64) e1549.Routes)]) (r:=.agg (Zf e1549)) Zm he1549)) (Zb.v 0 (Zw (hc:=Zea N r1 e1549 r1550 hr1550)) Zb.f)))))) (tq ?_)
     refine it h (fun hc1551 h => ?_) (fun hc1551 h => ?_)
     ·refine sq (rg Zb.f ?_)
      refine tq (rt ?_)
      refine br (tr ?_)
      obtain rfl:=Zc h
      exact ⟨_,rfl,rfl,ZA (by kernel_rfl)⟩
     refine sk (bn ?_)
     refine tq (kq ?_)
     refine rg Zb.f ?_
     obtain rfl:=Zc h
     exact ⟨_,rfl,(by show _=_;kernel_rfl)⟩
    refine kq (xq ?_)
    refine tx ?_
    obtain rfl:=Zc h
    exact ⟨_,rfl,rfl,(by show _=_;kernel_rfl)⟩
   rintro e s hq
   rcases o1552 with p1553 | p2081
   ·dsimp only at h hq
    obtain ⟨rfl,hR⟩:=hq
    obtain rfl:=hR
    refine bx (tq ?_)
    refine sq ?_
    obtain ⟨r1554,hr1554,h⟩:=bs h
    obtain ⟨r1555,hr1555,h⟩:=bs h
    refine rq (Zb.u 2 (Z9 (hc:=ZbV N r1 r10.x1 r1554 hr1554)) (Zb.v 2 (Zw (hc:=Zc5 N r1 r10.x1 r1555 hr1555)) Zb.f)) (tq ?_)
    refine it h (fun hc1556 h => ?_) (fun hc1556 h => ?_)
    ·refine sq (rg Zb.f ?_)
     refine tq (rt ?_)
     refine br (tr ?_)
     refine tr (br ?_)
     refine tr (br ?_)
     refine tr (tr ?_)
     refine br (tr ?_)
     obtain rfl:=Zc h
     exact ZA (by kernel_rfl)
    refine sk (bn ?_)
    refine tq (kq ?_)
    refine rg Zb.f (tq ?_)
    refine Zah ?_
    refine sq (rg Zb.f ?_)
    refine tq (sq ?_)
    refine Zbm (by kernel_rfl) ?_
    refine sk (tq ?_)
    refine kq (sq ?_)
    refine bk (sq ?_)
    refine rg Zb.f (tq ?_)
    refine sq (sq ?_)
    refine rg Zb.f (tq ?_)
    refine bk ?_
    obtain ⟨o2064,ho2064,h⟩:=bs h
    refine ZY ((ZO (fun (x:Int) s=>s=⟨[(2,iv a2_),(3,.loc 3 0),(4,.loc 4 0),(7,.loc 7 0),(11,Zd false r10.x1),(13,.loc 13 0),(14,iv x),(56,.agg (ZN r10)),(57,iv 1),(62,.agg [iv r1.Nodes,s_eB false r1.Station,Ze false r1.Links,iv a1_.Nodes,s_eB false a1_.Station,Ze false l2]),(63,iv 1)],[(3,(ZI a0_)),(4,[iv a1_.Nodes,s_eB false a1_.Station,Ze false l2]),(7,(Za r1)),(13,[iv a1_.Nodes,s_eB false a1_.Station,Ze false l2])],[]⟩) (fun x:Int=>Zbe N a1_ l2 r10 x) (fun (p:(Unit) ⊕ (Bool)) e s=>match p with | (.inl p)=>e = .exit 6∧(s=⟨[(2,iv a2_),(3,.loc 3 0),(4,.loc 4 0),(7,.loc 7 0),(11,Zd false r10.x1),(13,.loc 13 0),(56,.agg (ZN r10)),(57,iv 1),(62,.agg [iv r1.Nodes,s_eB false r1.Station,Ze false r1.Links,iv a1_.Nodes,s_eB false a1_.Station,Ze false l2]),(63,iv 1)],[(3,(ZI a0_)),(4,[iv a1_.Nodes,s_eB false a1_.Station,Ze false l2]),(7,(Za r1)),(13,[iv a1_.Nodes,s_eB false a1_.Station,Ze false l2])],[]⟩) | (.inr p)=>e = .ret∧∃ xs,resL s i6.res=some xs∧ZaX xs=bv p) ?_ N _ o2064 _ ho2064 (by show _=_;kernel_rfl)).mono ?_)
    ·clear h ho2064
     rintro i1557 o s h hR
     obtain rfl:=hR
     replace h:Zbe N a1_ l2 r10 i1557=some o:=h
     unfold Zbe at h
     refine sq (sq ?_)
     refine rg (Zb.u 2 (Zp (ys:=[Zd false r10.x1]) (h:=Zx Zm)) Zb.f) (tq ?_)
     refine it h (fun hc2058 h => ?_) (fun hc2058 h => ?_)
     ·refine sk (tq ?_)
      refine kq (sq ?_)
      refine bk (sq ?_)
      obtain ⟨e2059,he2059,h⟩:=bs h
      obtain ⟨r2060,hr2060,h⟩:=bs h
      obtain ⟨e2061,he2061,h⟩:=bs h
      obtain ⟨r2062,hr2062,h⟩:=bs h
      refine rq (Zb.u 3 (Zp (ys:=[Zd false r10.x1,iv i1557]) (h:=Zk Zm he2059)) (Zb.u 0 (ZK (Zs (sz:=10) (off:=0) (cs:=[.int .i64 e2059.Id,.int .i64 e2059.Talker,.int .i64 e2059.Listener,.int .i64 e2059.Class,.int .i64 e2059.Size,.int .i64 e2059.Period,.int .i64 e2059.Bucket.Burst,.int .i64 e2059.Bucket.Rate,.int .i64 e2059.Deadline,.sl 1 false (List.map (eSl 1 eI64) e2059.Routes)]) (r:=.agg (Zf e2059)) Zm he2059)) (Zb.u 0 (Z9 (hc:=Zbd N (Zg.mk a1_.Nodes a1_.Station l2) e2059 r2060 hr2060)) (Zb.u 3 (Zp (ys:=[Zd false r10.x1,iv i1557]) (h:=Zk Zm he2061)) (Zb.u 0 (ZK (Zs (sz:=10) (off:=0) (cs:=[.int .i64 e2061.Id,.int .i64 e2061.Talker,.int .i64 e2061.Listener,.int .i64 e2061.Class,.int .i64 e2061.Size,.int .i64 e2061.Period,.int .i64 e2061.Bucket.Burst,.int .i64 e2061.Bucket.Rate,.int .i64 e2061.Deadline,.sl 1 false (List.map (eSl 1 eI64) e2061.Routes)]) (r:=.agg (Zf e2061)) Zm he2061)) (Zb.v 0 (Zw (hc:=Zea N (Zg.mk a1_.Nodes a1_.Station l2) e2061 r2062 hr2062)) Zb.f)))))) (tq ?_)
      refine it h (fun hc2063 h => ?_) (fun hc2063 h => ?_)
      ·refine sq (rg Zb.f ?_)
       refine tq (rt ?_)
       refine br (tr ?_)
       obtain rfl:=Zc h
       exact ⟨_,rfl,rfl,ZA (by kernel_rfl)⟩
      refine sk (bn ?_)
      refine tq (kq ?_)
      refine rg Zb.f ?_
      obtain rfl:=Zc h
      exact ⟨_,rfl,(by show _=_;kernel_rfl)⟩
     refine kq (xq ?_)
     refine tx ?_
     obtain rfl:=Zc h
     exact ⟨_,rfl,rfl,(by show _=_;kernel_rfl)⟩
    rintro e s hq
    rcases o2064 with p2065 | p2080
    ·dsimp only at h hq
     obtain ⟨rfl,hR⟩:=hq
     obtain rfl:=hR
     refine bx (tq ?_)
     refine sq ?_
     obtain ⟨r2066,hr2066,h⟩:=bs h
     obtain ⟨r2067,hr2067,h⟩:=bs h
     refine rq (Zb.u 2 (Z9 (hc:=ZbV N (Zg.mk a1_.Nodes a1_.Station l2) r10.x1 r2066 hr2066)) (Zb.v 2 (Zw (hc:=Zc5 N (Zg.mk a1_.Nodes a1_.Station l2) r10.x1 r2067 hr2067)) Zb.f)) (tq ?_)
     refine it h (fun hc2068 h => ?_) (fun hc2068 h => ?_)
     ·refine sq (rg Zb.f ?_)
      refine tq (rt ?_)
      refine br (tr ?_)
      refine tr (br ?_)
      refine tr (br ?_)
      refine tr (tr ?_)
      refine br (tr ?_)
      obtain rfl:=Zc h
      exact ZA (by kernel_rfl)
     refine sk (bn ?_)
     refine tq (kq ?_)
     refine rg Zb.f (tq ?_)
     refine Zah ?_
     refine sq (rg Zb.f ?_)
     refine tq (sq ?_)
     refine ZdZ (by kernel_rfl) ?_
     refine kq (xq ?_)
     refine tx (tx ?_)
     refine bx (tq ?_)
     refine sq (rg Zb.f ?_)
     refine tq (bk ?_)
     refine Zef 18 ?_
     refine Zah ?_
     refine sq (rg Zb.f ?_)
     refine tq (sq ?_)
     refine Zbm (by kernel_rfl) ?_
     refine sk (tq ?_)
     refine kq (sq ?_)
     refine bk (sq ?_)
     refine rg Zb.f (tq ?_)
     refine sq ?_
     obtain ⟨r2069,hr2069,h⟩:=bs h
     refine rg (Zb.v 2 (Zw (hc:=ZdE N r10.x1 a2_ r2069 hr2069)) Zb.f) (tq ?_)
     refine sq ?_
     obtain ⟨r2070,hr2070,h⟩:=bs h
     refine rg (Zb.v 2 (Zw (hc:=Zd8 N r10.x1 a2_ r2070 hr2070)) Zb.f) (tq ?_)
     refine sq (rgX ⟨[(2,iv a2_),(3,.loc 3 0),(4,.loc 4 0),(7,.loc 7 0),(11,Zd false r10.x1),(56,.agg (ZN r10)),(57,iv 1),(99,.agg [iv a2_,iv (w64 (1+(w64 ((Int.tmod a0_.At 7)))))]),(100,iv 0),(122,bv ((r2069.1 != r2070.1)||(r2069.2 != r2070.2)))],[(3,(ZI a0_)),(4,[iv a1_.Nodes,s_eB false a1_.Station,Ze false l2]),(7,(Za r1))],[]⟩ ?_ ?_)
     ·rcases Bool.eq_false_or_eq_true (r2069.1 != r2070.1) with hc2071 | hc2072
      ·exact (EP.u 2 (Zl (c:=(r2069.1 != r2070.1)) (h:=hc2071)) (EP.f (by simp only [hc2071];kernel_rfl)))
      exact (EP.u 2 (Zl (c:=(r2069.1 != r2070.1)) (h:=hc2072)) (EP.f (by simp only [hc2072];kernel_rfl)))
     refine tq (it h (fun hc2073 h => ?_) (fun hc2073 h => ?_))
     ·refine sq (rg Zb.f ?_)
      refine tq (rt ?_)
      refine br (tr ?_)
      refine tr (br ?_)
      refine br (tr ?_)
      refine tr (br ?_)
      refine tr ?_
      obtain rfl:=Zc h
      exact ZA (by kernel_rfl)
     refine sk (bn ?_)
     refine tq (kq ?_)
     refine rg Zb.f (tq ?_)
     refine Zah ?_
     refine sq (rg Zb.f ?_)
     refine tq (sq ?_)
     refine Zbm (by kernel_rfl) ?_
     refine sk (tq ?_)
     refine kq (sq ?_)
     refine bk (sq ?_)
     refine rg Zb.f (tq ?_)
     refine sq ?_
     obtain ⟨r2074,hr2074,h⟩:=bs h
     refine rg (Zb.v 2 (Zw (hc:=ZdE N r10.x1 (w64 (1+(w64 ((Int.tmod a0_.At 7))))) r2074 hr2074)) Zb.f) (tq ?_)
     refine sq ?_
     obtain ⟨r2075,hr2075,h⟩:=bs h
     refine rg (Zb.v 2 (Zw (hc:=Zd8 N r10.x1 (w64 (1+(w64 ((Int.tmod a0_.At 7))))) r2075 hr2075)) Zb.f) (tq ?_)
     refine sq (rgX ⟨[(2,iv a2_),(3,.loc 3 0),(4,.loc 4 0),(7,.loc 7 0),(11,Zd false r10.x1),(56,.agg (ZN r10)),(57,iv 1),(99,.agg [iv a2_,iv (w64 (1+(w64 ((Int.tmod a0_.At 7)))))]),(100,iv 1),(122,bv ((r2074.1 != r2075.1)||(r2074.2 != r2075.2)))],[(3,(ZI a0_)),(4,[iv a1_.Nodes,s_eB false a1_.Station,Ze false l2]),(7,(Za r1))],[]⟩ ?_ ?_)
     ·rcases Bool.eq_false_or_eq_true (r2074.1 != r2075.1) with hc2076 | hc2077
      ·exact (EP.u 2 (Zl (c:=(r2074.1 != r2075.1)) (h:=hc2076)) (EP.f (by simp only [hc2076];kernel_rfl)))
      exact (EP.u 2 (Zl (c:=(r2074.1 != r2075.1)) (h:=hc2077)) (EP.f (by simp only [hc2077];kernel_rfl)))
     refine tq (it h (fun hc2078 h => ?_) (fun hc2078 h => ?_))
     ·refine sq (rg Zb.f ?_)
      refine tq (rt ?_)
      refine br (tr ?_)
      refine tr (br ?_)
      refine br (tr ?_)
      refine tr (br ?_)
      refine tr ?_
      obtain rfl:=Zc h
      exact ZA (by kernel_rfl)
     refine sk (bn ?_)
     refine tq (kq ?_)
     refine rg Zb.f (tq ?_)
     refine Zah ?_
     refine sq (rg Zb.f ?_)
     refine tq (sq ?_)
     refine ZdZ (by kernel_rfl) ?_
     refine kq (xq ?_)
     refine tx (tx ?_)
     refine bx (bn ?_)
     refine tq (rg Zb.f ?_)
     refine tq (Zah ?_)
     refine sq (rg Zb.f ?_)
     refine tq (sq ?_)
     refine ZdZ (by kernel_rfl) ?_
     refine kq (xq ?_)
     refine tx (tx ?_)
     refine bx (tq ?_)
     refine sq ?_
     obtain ⟨r2079,hr2079,h⟩:=bs h
     refine rg (Zb.v 0 (Zw (hc:=Zki N  r2079 hr2079)) Zb.f) (tq ?_)
     refine rt ?_
     obtain rfl:=Zc h
     exact ZA (by kernel_rfl)
    dsimp only at h hq
    obtain ⟨rfl,hq⟩:=hq
    refine br (tr ?_)
    refine br (tr ?_)
    refine tr (br ?_)
    refine tr (br ?_)
    refine tr (tr ?_)
    refine br (tr ?_)
    obtain rfl:=Zc h
    exact hq
   dsimp only at h hq
   obtain ⟨rfl,hq⟩:=hq
   refine br (tr ?_)
   refine br (tr ?_)
   refine tr (br ?_)
   refine tr (br ?_)
   refine tr (tr ?_)
   refine br (tr ?_)
   obtain rfl:=Zc h
   exact hq
  dsimp only at h hq
  obtain ⟨rfl,hq⟩:=hq
  refine br (tr ?_)
  refine br (tr ?_)
  refine tr (br ?_)
  refine tr (br ?_)
  refine tr (tr ?_)
  refine br (tr ?_)
  obtain rfl:=Zc h
  exact hq
 dsimp only at h hq
 obtain ⟨rfl,hq⟩:=hq
 refine br (tr ?_)
 refine br (tr ?_)
 refine tr (br ?_)
 refine tr (br ?_)
 refine tr (tr ?_)
 refine br (tr ?_)
 obtain rfl:=Zc h
 exact hq
end Go.Sh

