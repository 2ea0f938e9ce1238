/- Part of the proof; written by a program out of the texts in wip/. -/
import Derived.Test.YthipedbbcjemhaaPlanMovesOk3
namespace Go.Sh
open Go Go.Eng Go.Proofs
set_option linter.unusedVariables false
set_option linter.unusedSimpArgs false
set_option maxRecDepth 100000
set_option maxHeartbeats 4000000
attribute [local irreducible] vc ev ZcT opsD opsF ZeZ upd updH updO
theorem law24_PlanMoves_ok (N:Nat) (a0_:ZaM) (a1_:(List Int)) (a2_:Int) (r:Bool) (h:Zci N a0_ a1_ a2_=some r):Zab Try.prog 5 [.agg (Z3 a0_),ZbZ false a1_,.p (.int .u8 a2_)] (bv r):=by
 unfold Zci at h
 have hH:HP ([]:List HO) []:=trivial
 refine ZF chk5 rfl rfl (Zr _ _ _ ?_) rfl
 refine sq (rg Za.f ?_)
 refine tq (sq ?_)
 refine sq ?_
 obtain ⟨r1,hr1,h⟩:=bs h
 refine rg (Za.v 0 (Zu (hc:=ZiC N  r1 hr1)) Za.f) (tq ?_)
 refine it h (fun hc2 h => ?_) (fun hc2 h => ?_)
 ·refine sq (rg Za.f ?_)
  refine tq (rt ?_)
  refine tr ?_
  obtain rfl:=Zb h
  exact Zx (by kernel_rfl)
 refine sk (tq ?_)
 refine kq (sq ?_)
 obtain ⟨r3,hr3,h⟩:=bs h
 refine rg (Za.v 1 (Zu (hc:=Zeu N a0_ r3 hr3)) Za.f) (tq ?_)
 refine sq ?_
 obtain ⟨r4,hr4,h⟩:=bs h
 refine rg (Za.v 2 (Zu (hc:=Zjh N r3 a1_ r4 hr4)) Za.f) (tq ?_)
 refine sq (rg Za.f ?_)
 refine tq (sq ?_)
 refine rg Za.f (tq ?_)
 refine sq (sq ?_)
 refine rg Za.f (tq ?_)
 refine bk ?_
 obtain ⟨o1040,ho1040,h⟩:=bs h
 refine ZX ((ZO (fun (x:Bool × Int × (List Int)) s=>∃ (a5:AV) (H6:List HO),s=⟨[(2,.p (.int .u8 a2_)),(7,.loc 7 0),(8,Zg false r4),(9,a5),(10,bv x.1),(11,iv x.2.1)],[(7,(Zd r3))],H6⟩∧HP H6 [.arr a5 1 false (List.map eI64 x.2.2)]) (fun x:Bool × Int × (List Int)=>Zaz N a2_ r3 r4 x.1 x.2.1 x.2.2) (fun (p:(Bool × (List Int)) ⊕ (Bool)) e s=>match p with | (.inl p)=>e = .exit 0∧(∃ (a510:AV) (H511:List HO),s=⟨[(7,.loc 7 0),(8,Zg false r4),(9,a510),(10,bv p.1)],[(7,(Zd r3))],H511⟩∧HP H511 [.arr a510 1 false (List.map eI64 p.2)]) | (.inr p)=>e = .ret∧∃ xs,resL s i5.res=some xs∧ZaD xs=bv p) ?_ N _ o1040 _ ho1040 ⟨(.p (.sl 1 true [])),[],(by show _=_;kernel_rfl),(HP.pick (HP.nilArr hH 1 false) [0] rfl)⟩).mono ?_)
 ·clear h ho1040
  rintro ⟨b7,i8,l9⟩ o s h hR
  obtain ⟨a5,H6,rfl,hH⟩:=hR
  replace hH:HP H6 [.arr a5 1 false (List.map eI64 l9)]:=hH
  have hfa5:=ZA (HP.get hH 0 rfl)
  replace h:Zaz N a2_ r3 r4 b7 i8 l9=some o:=h
  unfold Zaz at h
  refine sq (sq ?_)
  refine rgS ⟨[(2,.p (.int .u8 a2_)),(7,.loc 7 0),(8,Zg false r4),(9,a5),(10,bv b7),(11,iv i8),(31,bv (decide (i8<((List.length r4:Nat):Int))))],[(7,(Zd r3))],H6⟩ (Za.u 2 (Zo (ys:=[Zg false r4]) (h:=Zt eI64)) Za.f) (by rcases hfa5 with ha5e | ⟨_,_,ha5e⟩<;>subst ha5e<;>kernel_rfl) ?_
  refine tq (it h (fun hc512 h => ?_) (fun hc512 h => ?_))
  ·refine sk (tq ?_)
   refine kq (sq ?_)
   refine bk (sq ?_)
   obtain ⟨e513,he513,h⟩:=bs h
   obtain ⟨e514,he514,h⟩:=bs h
   obtain ⟨m515,hm515,h⟩:=bs h
   obtain ⟨l518,hl518,h⟩:=bs h
   obtain ⟨a516,H517,ha516,hH⟩:=HP.app (k:=0) (a:=a5) (sz:=1) (frz:=false) eI64 hH rfl hl518
   replace hH:HP H517 [.arr a516 1 false (List.map eI64 l518)]:=hH
   have hfa516:=ZA (HP.get hH 0 rfl)
   refine rqS ⟨[(2,.p (.int .u8 a2_)),(7,.loc 7 0),(8,Zg false r4),(9,a516),(10,bv b7),(11,iv i8)],[(7,(Zd r3))],H517⟩ (Za.u 3 (Zo (ys:=[Zg false r4,iv i8]) (h:=Zm eI64 he513)) (Za.u 0 (ZV (ZD (sz:=1) (off:=0) (cs:=[.int .i64 e513]) (r:=iv e513) eI64 he513)) (Za.u 6 (Zo (ys:=[Zg false r3.Periods,iv i8]) (h:=Zm eI64 he514)) (Za.u 0 (ZV (ZD (sz:=1) (off:=0) (cs:=[.int .i64 e514]) (r:=iv e514) eI64 he514)) (Za.u 0 (Zo (ys:=[iv (w64 (e513+(w64 (a2_)))),iv e514]) (h:=Zbw hm515)) (Za.h 1 (Zfq (H:=H6) (a:=a5) (b:=Zg true [m515]) (by rcases hfa5 with ha5e | ⟨_,_,ha5e⟩<;>subst ha5e<;>kernel_rfl) (by rcases hfa5 with ha5e | ⟨_,_,ha5e⟩<;>subst ha5e<;>kernel_rfl) (by rcases hfa5 with ha5e | ⟨_,_,ha5e⟩<;>subst ha5e<;>kernel_rfl) (by rcases hfa5 with ha5e | ⟨_,_,ha5e⟩<;>subst ha5e<;>kernel_rfl) ha516) Za.f)))))) (by rcases hfa5 with ha5e | ⟨_,_,ha5e⟩<;>rcases hfa516 with ha516e | ⟨_,_,ha516e⟩<;>subst ha5e ha516e<;>kernel_rfl) ?_
   refine tq (sq ?_)
   refine rgS ⟨[(2,.p (.int .u8 a2_)),(7,.loc 7 0),(8,Zg false r4),(9,a516),(10,bv b7),(11,iv i8),(12,iv 0)],[(7,(Zd r3))],H517⟩ Za.f (by rcases hfa516 with ha516e | ⟨_,_,ha516e⟩<;>subst ha516e<;>kernel_rfl) ?_
   refine tq (bk ?_)
   obtain ⟨o1037,ho1037,h⟩:=bs h
   refine ZX ((ZO (fun (x:Bool × Int) s=>s=⟨[(2,.p (.int .u8 a2_)),(7,.loc 7 0),(8,Zg false r4),(9,a516),(10,bv x.1),(11,iv i8),(12,iv x.2)],[(7,(Zd r3))],H517⟩) (fun x:Bool × Int=>Zay N r3 r4 i8 x.1 x.2) (fun (p:(Bool) ⊕ (Bool)) e s=>match p with | (.inl p)=>e = .exit 2∧(s=⟨[(2,.p (.int .u8 a2_)),(7,.loc 7 0),(8,Zg false r4),(9,a516),(10,bv p),(11,iv i8)],[(7,(Zd r3))],H517⟩) | (.inr p)=>e = .ret∧∃ xs,resL s i5.res=some xs∧ZaD xs=bv p) ?_ N _ o1037 _ ho1037 (by show _=_;rcases hfa516 with ha516e | ⟨_,_,ha516e⟩<;>subst ha516e<;>kernel_rfl)).mono ?_)
   ·clear h ho1037
    rintro ⟨b519,i520⟩ o s h hR
    obtain rfl:=hR
    replace h:Zay N r3 r4 i8 b519 i520=some o:=h
    unfold Zay at h
    refine sq (sq ?_)
    refine rgS ⟨[(2,.p (.int .u8 a2_)),(7,.loc 7 0),(8,Zg false r4),(9,a516),(10,bv b519),(11,iv i8),(12,iv i520),(53,bv (decide (i520<((List.length r4:Nat):Int))))],[(7,(Zd r3))],H517⟩ (Za.u 2 (Zo (ys:=[Zg false r4]) (h:=Zt eI64)) Za.f) (by rcases hfa516 with ha516e | ⟨_,_,ha516e⟩<;>subst ha516e<;>kernel_rfl) ?_
    refine tq (it h (fun hc1021 h => ?_) (fun hc1021 h => ?_))
    ·refine sk (tq ?_)
     refine kq (sq ?_)
     refine bk (sq ?_)
     obtain ⟨e1022,he1022,h⟩:=bs h
     obtain ⟨e1023,he1023,h⟩:=bs h
     obtain ⟨r1024,hr1024,h⟩:=bs h
     refine rqS ⟨[(2,.p (.int .u8 a2_)),(7,.loc 7 0),(8,Zg false r4),(9,a516),(10,bv b519),(11,iv i8),(12,iv i520),(13,bv r1024.1),(14,iv r1024.2)],[(7,(Zd r3))],H517⟩ (Za.u 4 (Zo (ys:=[Zg false r4,iv i8]) (h:=Zm eI64 he1022)) (Za.u 0 (ZV (ZD (sz:=1) (off:=0) (cs:=[.int .i64 e1022]) (r:=iv e1022) eI64 he1022)) (Za.u 3 (Zo (ys:=[Zg false r4,iv i520]) (h:=Zm eI64 he1023)) (Za.u 0 (ZV (ZD (sz:=1) (off:=0) (cs:=[.int .i64 e1023]) (r:=iv e1023) eI64 he1023)) (Za.v 0 (Zu (hc:=ZcS N r3 i8 e1022 i520 e1023 r1024 hr1024)) Za.f))))) (by rcases hfa516 with ha516e | ⟨_,_,ha516e⟩<;>subst ha516e<;>kernel_rfl) ?_
     refine tq (sq ?_)
     obtain ⟨e1025,he1025,h⟩:=bs h
     obtain ⟨e1026,he1026,h⟩:=bs h
     obtain ⟨r1027,hr1027,h⟩:=bs h
     refine rqS ⟨[(2,.p (.int .u8 a2_)),(7,.loc 7 0),(8,Zg false r4),(9,a516),(10,bv b519),(11,iv i8),(12,iv i520),(13,bv r1024.1),(14,iv r1024.2),(15,bv r1027.1),(16,iv r1027.2)],[(7,(Zd r3))],H517⟩ (Za.u 4 (Zo (ys:=[Zg false r4,iv i520]) (h:=Zm eI64 he1025)) (Za.u 0 (ZV (ZD (sz:=1) (off:=0) (cs:=[.int .i64 e1025]) (r:=iv e1025) eI64 he1025)) (Za.u 3 (Zo (ys:=[Zg false r4,iv i8]) (h:=Zm eI64 he1026)) (Za.u 0 (ZV (ZD (sz:=1) (off:=0) (cs:=[.int .i64 e1026]) (r:=iv e1026) eI64 he1026)) (Za.v 0 (Zu (hc:=ZcS N r3 i520 e1025 i8 e1026 r1027 hr1027)) Za.f))))) (by rcases hfa516 with ha516e | ⟨_,_,ha516e⟩<;>subst ha516e<;>kernel_rfl) ?_
     refine tq (sq ?_)
     refine sq (rgX ⟨[(2,.p (.int .u8 a2_)),(7,.loc 7 0),(8,Zg false r4),(9,a516),(10,bv b519),(11,iv i8),(12,iv i520),(13,bv r1024.1),(96,bv ((r1024.2 != 0)||((r1027.2 != 0)||(r1024.1 != r1027.1))))],[(7,(Zd r3))],H517⟩ ?_ ?_)
     ·rcases Bool.eq_false_or_eq_true (r1024.2 != 0) with hc1028 | hc1029
      ·exact (EP.u 1 (Zj (c:=(r1024.2 != 0)) (h:=hc1028)) (EP.f (by simp only [hc1028];rcases hfa516 with ha516e | ⟨_,_,ha516e⟩<;>subst ha516e<;>kernel_rfl)))
      refine (EP.u 1 (Zj (c:=(r1024.2 != 0)) (h:=hc1029)) ?_)
      rcases Bool.eq_false_or_eq_true (r1027.2 != 0) with hc1030 | hc1031
      ·exact (EP.u 2 (Zj (c:=(r1027.2 != 0)) (h:=hc1030)) (EP.f (by simp only [hc1029,hc1030];rcases hfa516 with ha516e | ⟨_,_,ha516e⟩<;>subst ha516e<;>kernel_rfl)))
      exact (EP.u 2 (Zj (c:=(r1027.2 != 0)) (h:=hc1031)) (EP.f (by simp only [hc1029,hc1031];rcases hfa516 with ha516e | ⟨_,_,ha516e⟩<;>subst ha516e<;>kernel_rfl)))
     refine tq (it h (fun hc1032 h => ?_) (fun hc1032 h => ?_))
     ·refine sq (rgS ⟨[(6,bv false)],[],H517⟩ Za.f (by kernel_rfl) ?_)
      replace hH:HP H517 []:=HP.pick hH [] rfl
      refine tq (rt ?_)
      refine tr (br ?_)
      refine tr ?_
      obtain rfl:=Zb h
      exact ⟨_,rfl,rfl,Zx (by kernel_rfl)⟩
     refine sk (tq ?_)
     refine kq (rgX ⟨[(2,.p (.int .u8 a2_)),(7,.loc 7 0),(8,Zg false r4),(9,a516),(10,bv (b519&&((!r1024.1)||false))),(11,iv i8),(12,iv i520)],[(7,(Zd r3))],H517⟩ ?_ ?_)
     ·rcases Bool.eq_false_or_eq_true b519 with hc1033 | hc1036
      ·refine (EP.u 0 (Zj (c:=b519) (h:=hc1033)) ?_)
       rcases Bool.eq_false_or_eq_true (!r1024.1) with hc1034 | hc1035
       ·exact (EP.u 4 (Zj (c:=(!r1024.1)) (h:=hc1034)) (EP.f (by simp only [hc1033,hc1034];rcases hfa516 with ha516e | ⟨_,_,ha516e⟩<;>subst ha516e<;>kernel_rfl)))
       exact (EP.u 4 (Zj (c:=(!r1024.1)) (h:=hc1035)) (EP.f (by simp only [hc1033,hc1035];rcases hfa516 with ha516e | ⟨_,_,ha516e⟩<;>subst ha516e<;>kernel_rfl)))
      exact (EP.u 0 (Zj (c:=b519) (h:=hc1036)) (EP.f (by simp only [hc1036];rcases hfa516 with ha516e | ⟨_,_,ha516e⟩<;>subst ha516e<;>kernel_rfl)))
     refine bn (tq ?_)
     refine kq (rgS ⟨[(2,.p (.int .u8 a2_)),(7,.loc 7 0),(8,Zg false r4),(9,a516),(10,bv (b519&&((!r1024.1)||false))),(11,iv i8),(12,iv (w64 (i520+1)))],[(7,(Zd r3))],H517⟩ Za.f (by rcases hfa516 with ha516e | ⟨_,_,ha516e⟩<;>subst ha516e<;>kernel_rfl) ?_)
     obtain rfl:=Zb h
     exact ⟨_,rfl,(by show _=_;rcases hfa516 with ha516e | ⟨_,_,ha516e⟩<;>subst ha516e<;>kernel_rfl)⟩
    refine kq (xq ?_)
    refine tx ?_
    obtain rfl:=Zb h
    exact ⟨_,rfl,rfl,(by show _=_;rcases hfa516 with ha516e | ⟨_,_,ha516e⟩<;>subst ha516e<;>kernel_rfl)⟩
   rintro e s hq
   rcases o1037 with p1038 | p1039
   ·dsimp only at h hq
    obtain ⟨rfl,hR⟩:=hq
    obtain rfl:=hR
    refine bx (bn ?_)
    refine tq (rgS ⟨[(2,.p (.int .u8 a2_)),(7,.loc 7 0),(8,Zg false r4),(9,a516),(10,bv p1038),(11,iv (w64 (i8+1)))],[(7,(Zd r3))],H517⟩ Za.f (by rcases hfa516 with ha516e | ⟨_,_,ha516e⟩<;>subst ha516e<;>kernel_rfl) ?_)
    obtain rfl:=Zb h
    exact ⟨_,rfl,⟨a516,H517,(by show _=_;rcases hfa516 with ha516e | ⟨_,_,ha516e⟩<;>subst ha516e<;>kernel_rfl),(HP.pick hH [0] rfl)⟩⟩
   dsimp only at h hq
   obtain ⟨rfl,hq⟩:=hq
   refine br (br ?_)
   refine tr ?_
   obtain rfl:=Zb h
   exact ⟨_,rfl,rfl,hq⟩
  refine kq (xq ?_)
  refine tx ?_
  obtain rfl:=Zb h
  exact ⟨_,rfl,rfl,⟨a5,H6,(by show _=_;rcases hfa5 with ha5e | ⟨_,_,ha5e⟩<;>subst ha5e<;>kernel_rfl),(HP.pick hH [0] rfl)⟩⟩
 rintro e s hq
 rcases o1040 with p1041 | p1051
 ·dsimp only at h hq
  obtain ⟨rfl,hR⟩:=hq
  obtain ⟨a510,H511,rfl,hH⟩:=hR
  replace hH:HP H511 [.arr a510 1 false (List.map eI64 p1041.2)]:=hH
  have hfa510:=ZA (HP.get hH 0 rfl)
  refine bx (tq ?_)
  refine sq ?_
  obtain ⟨r1042,hr1042,h⟩:=bs h
  refine rgS ⟨[(7,.loc 7 0),(9,a510),(10,bv p1041.1),(17,bv r1042.1),(18,iv r1042.2)],[(7,(Zd r3))],H511⟩ (Za.v 2 (Zu (hc:=ZeO N r3 r4 r1042 hr1042)) Za.f) (by rcases hfa510 with ha510e | ⟨_,_,ha510e⟩<;>subst ha510e<;>kernel_rfl) ?_
  refine tq (sq ?_)
  obtain ⟨r1043,hr1043,h⟩:=bs h
  obtain ⟨H1044,hzH1044,hzH1044v,hH⟩:=HP.frz (k:=0) (a:=a510) (sz:=1) (frz:=false) eI64 hH rfl
  replace hH:HP H1044 [.arr a510 1 true (List.map eI64 p1041.2)]:=hH
  refine rgS ⟨[(10,bv p1041.1),(17,bv r1042.1),(18,iv r1042.2),(19,bv r1043.1),(20,iv r1043.2)],[],H1044⟩ (Za.v 2 (Zhk (H:=H511) (ys:=[.agg (Zd r3),a510]) (by rcases hfa510 with ha510e | ⟨_,_,ha510e⟩<;>subst ha510e<;>kernel_rfl) (by rcases hfa510 with ha510e | ⟨_,_,ha510e⟩<;>subst ha510e<;>kernel_rfl) (Zd1 rfl (Zd1 hzH1044v Zhq)) (ZeO N r3 p1041.2 r1043 hr1043)) Za.f) (by kernel_rfl) ?_
  replace hH:HP H1044 []:=HP.pick hH [] rfl
  refine tq (sq ?_)
  refine rgX ⟨[(6,bv ((r1042.2==0)&&((r1043.2==0)&&((r1042.1==r1043.1)&&(r1042.1==p1041.1)))))],[],H1044⟩ ?_ ?_
  ·rcases Bool.eq_false_or_eq_true (r1042.2==0) with hc1045 | hc1050
   ·refine (EP.u 1 (Zj (c:=(r1042.2==0)) (h:=hc1045)) ?_)
    rcases Bool.eq_false_or_eq_true (r1043.2==0) with hc1046 | hc1049
    ·refine (EP.u 2 (Zj (c:=(r1043.2==0)) (h:=hc1046)) ?_)
     rcases Bool.eq_false_or_eq_true (r1042.1==r1043.1) with hc1047 | hc1048
     ·exact (EP.u 4 (Zj (c:=(r1042.1==r1043.1)) (h:=hc1047)) (EP.f (by simp only [hc1045,hc1046,hc1047];kernel_rfl)))
     exact (EP.u 4 (Zj (c:=(r1042.1==r1043.1)) (h:=hc1048)) (EP.f (by simp only [hc1045,hc1046,hc1048];kernel_rfl)))
    exact (EP.u 2 (Zj (c:=(r1043.2==0)) (h:=hc1049)) (EP.f (by simp only [hc1045,hc1049];kernel_rfl)))
   exact (EP.u 1 (Zj (c:=(r1042.2==0)) (h:=hc1050)) (EP.f (by simp only [hc1050];kernel_rfl)))
  refine tq (rt ?_)
  obtain rfl:=Zb h
  exact Zx (by kernel_rfl)
 dsimp only at h hq
 obtain ⟨rfl,hq⟩:=hq
 refine br (tr ?_)
 obtain rfl:=Zb h
 exact hq
end Go.Sh

