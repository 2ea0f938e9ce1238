/- Part of the proof; written by a program out of the texts in wip/. -/
import Derived.Test.YthipedbbcjemhaaPlanMovesOk2
namespace Go.Sh
open Go Go.Eng Go.Proofs
set_option linter.unusedVariables false
set_option linter.unusedSimpArgs false
set_option maxRecDepth 100000
set_option maxHeartbeats 4000000
attribute [local irreducible] vc ev ZcT opsD opsF ZeZ upd updH updO
theorem Zgv (N:Nat) (a0_:Z6) (a1_:Zv) (a2_:Z2) (a3_:Zw) (p0_:Nat) (bc0_0_:AV) (bc0_1_:AV) (H:List HO) (hH:HP H [.cel p0_ [bc0_0_,bc0_1_,bv a0_.late],.arr bc0_0_ 1 true (List.map eI64 a0_.Problem.Periods),.arr bc0_1_ 4 true (List.map Zi a0_.Problem.Uses)]) (r:Int × Z6) (h:ZdP N a0_ a1_ a2_ a3_=some r):∃ (oc_0_0_:AV) (oc_0_1_:AV) (H':List HO),Zas Try.prog 43 [.ptr p0_ 0,.agg (Zc a1_),.agg (Zh a2_),.agg (Zf a3_)] H (iv r.1) H'∧Fp H H' [.cel p0_ [bc0_0_,bc0_1_,bv a0_.late],.arr bc0_0_ 1 true (List.map eI64 a0_.Problem.Periods),.arr bc0_1_ 4 true (List.map Zi a0_.Problem.Uses)] [.cel p0_ [oc_0_0_,oc_0_1_,bv r.2.late],.arr oc_0_0_ 1 true (List.map eI64 r.2.Problem.Periods),.arr oc_0_1_ 4 true (List.map Zi r.2.Problem.Uses)]:=by
 suffices hs:∃ r' H',Zas Try.prog 43 [.ptr p0_ 0,.agg (Zc a1_),.agg (Zh a2_),.agg (Zf a3_)] H r' H'∧∃ (oc_0_0_:AV) (oc_0_1_:AV),r'=iv r.1∧Fp H H' [.cel p0_ [bc0_0_,bc0_1_,bv a0_.late],.arr bc0_0_ 1 true (List.map eI64 a0_.Problem.Periods),.arr bc0_1_ 4 true (List.map Zi a0_.Problem.Uses)] [.cel p0_ [oc_0_0_,oc_0_1_,bv r.2.late],.arr oc_0_0_ 1 true (List.map eI64 r.2.Problem.Periods),.arr oc_0_1_ 4 true (List.map Zi r.2.Problem.Uses)] by
  obtain ⟨_,H',h1,oc_0_0_,oc_0_1_,he,h2⟩:=hs
  exact ⟨oc_0_0_,oc_0_1_,H',he ▸ h1,h2⟩
 unfold ZdP at h
 replace hH:=Fp.refl hH
 have hfbc0_0_:=ZA (Fp.get hH 1 rfl)
 have hfbc0_1_:=ZA (Fp.get hH 2 rfl)
 refine Zip chk43 [] (fun r' H'=>∃ (oc_0_0_:AV) (oc_0_1_:AV),r'=iv r.1∧Fp H H' [.cel p0_ [bc0_0_,bc0_1_,bv a0_.late],.arr bc0_0_ 1 true (List.map eI64 a0_.Problem.Periods),.arr bc0_1_ 4 true (List.map Zi a0_.Problem.Uses)] [.cel p0_ [oc_0_0_,oc_0_1_,bv r.2.late],.arr oc_0_0_ 1 true (List.map eI64 r.2.Problem.Periods),.arr oc_0_1_ 4 true (List.map Zi r.2.Problem.Uses)]) (fun r' H' q=>by obtain ⟨oc_0_0_,oc_0_1_,e,hp⟩:=q;subst e;have hfoc_0_0_:=ZA (Fp.get hp 1 rfl);have hfoc_0_1_:=ZA (Fp.get hp 2 rfl);show ZK _=true;rcases hfoc_0_0_ with hoc_0_0_e | ⟨_,_,hoc_0_0_e⟩<;>rcases hfoc_0_1_ with hoc_0_1_e | ⟨_,_,hoc_0_1_e⟩<;>subst hoc_0_0_e hoc_0_1_e<;>rfl) rfl (by rcases hfbc0_0_ with hbc0_0_e | ⟨_,_,hbc0_0_e⟩<;>rcases hfbc0_1_ with hbc0_1_e | ⟨_,_,hbc0_1_e⟩<;>subst hbc0_0_e hbc0_1_e<;>kernel_rfl) ?_
 refine sq (rg Za.f ?_)
 refine tq (sq ?_)
 have hlc1:=Fp.get hH 0 rfl
 have hln2:=Fp.len (k:=1) (a:=bc0_0_) (sz:=1) (frz:=true) (l:=a0_.Problem.Periods) eI64 hH rfl
 refine rg (Za.u 4 (Zn (H:=H) (id:=p0_) (off:=0) (cs:=[bc0_0_,bc0_1_,bv a0_.late]) (c:=[bc0_0_]) (r:=bc0_0_) (by rcases hfbc0_0_ with hbc0_0_e | ⟨_,_,hbc0_0_e⟩<;>subst hbc0_0_e<;>kernel_rfl) (by rcases hfbc0_0_ with hbc0_0_e | ⟨_,_,hbc0_0_e⟩<;>subst hbc0_0_e<;>kernel_rfl) hlc1 (by rcases hfbc0_0_ with hbc0_0_e | ⟨_,_,hbc0_0_e⟩<;>subst hbc0_0_e<;>kernel_rfl) (by rcases hfbc0_0_ with hbc0_0_e | ⟨_,_,hbc0_0_e⟩<;>subst hbc0_0_e<;>kernel_rfl) (by rcases hfbc0_0_ with hbc0_0_e | ⟨_,_,hbc0_0_e⟩<;>subst hbc0_0_e<;>kernel_rfl)) (Za.u 0 (Zo (ys:=[bc0_0_]) (by rcases hfbc0_0_ with hbc0_0_e | ⟨_,_,hbc0_0_e⟩<;>subst hbc0_0_e<;>kernel_rfl) hln2) Za.f)) (tq ?_)
 refine sq ?_
 have hlc3:=Fp.get hH 0 rfl
 obtain ⟨l6,hl6,h⟩:=bs h
 obtain ⟨a4,H5,ha4,hH⟩:=Fp.app (k:=1) (a:=bc0_0_) (sz:=1) (frz:=true) eI64 hH rfl hl6
 replace hH:Fp H H5 [.cel p0_ [bc0_0_,bc0_1_,bv a0_.late],.arr bc0_0_ 1 true (List.map eI64 a0_.Problem.Periods),.arr bc0_1_ 4 true (List.map Zi a0_.Problem.Uses)] [.cel p0_ [bc0_0_,bc0_1_,bv a0_.late],.arr a4 1 true (List.map eI64 l6),.arr bc0_1_ 4 true (List.map Zi a0_.Problem.Uses)]:=hH
 have hfa4:=ZA (Fp.get hH 1 rfl)
 obtain ⟨H7,hH7,hH⟩:=Fp.setCell (k:=0) (off:=0) (cs:=[bc0_0_,bc0_1_,bv a0_.late]) (vs:=[a4]) (cs':=[a4,bc0_1_,bv a0_.late]) hH rfl (by kernel_rfl)
 replace hH:Fp H H7 [.cel p0_ [bc0_0_,bc0_1_,bv a0_.late],.arr bc0_0_ 1 true (List.map eI64 a0_.Problem.Periods),.arr bc0_1_ 4 true (List.map Zi a0_.Problem.Uses)] [.cel p0_ [a4,bc0_1_,bv a0_.late],.arr a4 1 true (List.map eI64 l6),.arr bc0_1_ 4 true (List.map Zi a0_.Problem.Uses)]:=hH
 refine rq (Za.u 5 (ZV (Zn (H:=H) (id:=p0_) (off:=0) (cs:=[bc0_0_,bc0_1_,bv a0_.late]) (c:=[bc0_0_]) (r:=bc0_0_) (by rcases hfbc0_0_ with hbc0_0_e | ⟨_,_,hbc0_0_e⟩<;>subst hbc0_0_e<;>kernel_rfl) (by rcases hfbc0_0_ with hbc0_0_e | ⟨_,_,hbc0_0_e⟩<;>subst hbc0_0_e<;>kernel_rfl) hlc3 (by rcases hfbc0_0_ with hbc0_0_e | ⟨_,_,hbc0_0_e⟩<;>subst hbc0_0_e<;>kernel_rfl) (by rcases hfbc0_0_ with hbc0_0_e | ⟨_,_,hbc0_0_e⟩<;>subst hbc0_0_e<;>kernel_rfl) (by rcases hfbc0_0_ with hbc0_0_e | ⟨_,_,hbc0_0_e⟩<;>subst hbc0_0_e<;>kernel_rfl)) (by rcases hfbc0_0_ with hbc0_0_e | ⟨_,_,hbc0_0_e⟩<;>subst hbc0_0_e<;>kernel_rfl)) (Za.h 3 (Zfq (H:=H) (a:=bc0_0_) (b:=Zg true [a3_.Period]) (by rcases hfbc0_0_ with hbc0_0_e | ⟨_,_,hbc0_0_e⟩<;>subst hbc0_0_e<;>kernel_rfl) (by rcases hfbc0_0_ with hbc0_0_e | ⟨_,_,hbc0_0_e⟩<;>subst hbc0_0_e<;>kernel_rfl) (by rcases hfbc0_0_ with hbc0_0_e | ⟨_,_,hbc0_0_e⟩<;>subst hbc0_0_e<;>kernel_rfl) (by rcases hfbc0_0_ with hbc0_0_e | ⟨_,_,hbc0_0_e⟩<;>subst hbc0_0_e<;>kernel_rfl) ha4) (Za.o 3 (ZjM (ZdS (H:=H5) (v:=a4) (cs:=[a4]) (by rcases hfa4 with ha4e | ⟨_,_,ha4e⟩<;>subst ha4e<;>kernel_rfl) (by rcases hfa4 with ha4e | ⟨_,_,ha4e⟩<;>subst ha4e<;>kernel_rfl) (by rcases hfa4 with ha4e | ⟨_,_,ha4e⟩<;>subst ha4e<;>kernel_rfl) (by rcases hfa4 with ha4e | ⟨_,_,ha4e⟩<;>subst ha4e<;>kernel_rfl) (by rcases hfa4 with ha4e | ⟨_,_,ha4e⟩<;>subst ha4e<;>kernel_rfl) hH7) (by rcases hfa4 with ha4e | ⟨_,_,ha4e⟩<;>subst ha4e<;>kernel_rfl)) Za.f))) (tq ?_)
 refine sq (sq ?_)
 refine rg (Za.u 2 (Zo (ys:=[ZI false a3_.Routes]) (h:=Zt (eSl 1 eI64))) Za.f) (tq ?_)
 refine bk ?_
 obtain ⟨o1050,ho1050,h⟩:=bs h
 refine ZX ((ZO (fun (x:Int × Bool × (List Zy)) s=>∃ (a8:AV) (a9:AV) (H10:List HO),s=⟨[(0,.ptr p0_ 0),(5,.loc 5 0),(6,.loc 6 0),(7,.loc 7 0),(9,iv ((List.length a0_.Problem.Periods:Nat):Int)),(40,iv ((List.length a3_.Routes:Nat):Int)),(41,iv x.1)],[(5,(Zc a1_)),(6,(Zh a2_)),(7,(Zf a3_))],H10⟩∧Fp H H10 [.cel p0_ [bc0_0_,bc0_1_,bv a0_.late],.arr bc0_0_ 1 true (List.map eI64 a0_.Problem.Periods),.arr bc0_1_ 4 true (List.map Zi a0_.Problem.Uses)] [.arr a8 1 true (List.map eI64 l6),.arr a9 4 true (List.map Zi x.2.2),.cel p0_ [a8,a9,bv x.2.1]]) (fun x:Int × Bool × (List Zy)=>ZbI N a0_ a1_ a2_ a3_ l6 x.1 x.2.1 x.2.2) (fun (p:(Bool × (List Zy)) ⊕ (Int × Z6)) e s=>match p with | (.inl p)=>e = .exit 0∧(∃ (a514:AV) (a515:AV) (H516:List HO),s=⟨[],[],H516⟩∧Fp H H516 [.cel p0_ [bc0_0_,bc0_1_,bv a0_.late],.arr bc0_0_ 1 true (List.map eI64 a0_.Problem.Periods),.arr bc0_1_ 4 true (List.map Zi a0_.Problem.Uses)] [.arr a514 1 true (List.map eI64 l6),.arr a515 4 true (List.map Zi p.2),.cel p0_ [a514,a515,bv p.1]]) | (.inr p)=>e = .ret∧∃ xs,rawL (wS [] s) i43.res=some xs∧∃ (oc_0_0_:AV) (oc_0_1_:AV),ZaD xs=iv p.1∧Fp H (weakH [] s.H) [.cel p0_ [bc0_0_,bc0_1_,bv a0_.late],.arr bc0_0_ 1 true (List.map eI64 a0_.Problem.Periods),.arr bc0_1_ 4 true (List.map Zi a0_.Problem.Uses)] [.cel p0_ [oc_0_0_,oc_0_1_,bv p.2.late],.arr oc_0_0_ 1 true (List.map eI64 p.2.Problem.Periods),.arr oc_0_1_ 4 true (List.map Zi p.2.Problem.Uses)]) ?_ N _ o1050 _ ho1050 ⟨a4,bc0_1_,H7,(by show _=_;kernel_rfl),(Fp.pick hH [1,2,0] rfl)⟩).mono ?_)
 ·clear h ho1050
  rintro ⟨i11,b12,l13⟩ o s h hR
  obtain ⟨a8,a9,H10,rfl,hH⟩:=hR
  replace hH:Fp H H10 [.cel p0_ [bc0_0_,bc0_1_,bv a0_.late],.arr bc0_0_ 1 true (List.map eI64 a0_.Problem.Periods),.arr bc0_1_ 4 true (List.map Zi a0_.Problem.Uses)] [.arr a8 1 true (List.map eI64 l6),.arr a9 4 true (List.map Zi l13),.cel p0_ [a8,a9,bv b12]]:=hH
  have hfa8:=ZA (Fp.get hH 0 rfl)
  have hfa9:=ZA (Fp.get hH 1 rfl)
  replace h:ZbI N a0_ a1_ a2_ a3_ l6 i11 b12 l13=some o:=h
  unfold ZbI at h
  refine sq (rg Za.f ?_)
  refine tq (sq ?_)
  refine it h (fun hc517 h => ?_) (fun hc517 h => ?_)
  ·refine sk (tq ?_)
   refine kq (sq ?_)
   refine bk (sq ?_)
   refine rg Za.f (tq ?_)
   refine sq ?_
   obtain ⟨r518,hr518,h⟩:=bs h
   refine rg (Za.v 4 (Zu (hc:=Ziu N a1_ a2_ a3_ i11 r518 hr518)) Za.f) (tq ?_)
   refine sq (sq ?_)
   refine rg Za.f (tq ?_)
   refine it h (fun hc519 h => ?_) (fun hc519 h => ?_)
   ·refine sq (rg Za.f ?_)
    refine tq (rt ?_)
    refine tr (br ?_)
    refine tr ?_
    obtain rfl:=Zb h
    exact ⟨_,rfl,rfl,⟨[iv r518.2],(by kernel_rfl),a8,a9,(by kernel_rfl),Fp.pk hH [2,0,1] rfl⟩⟩
   refine sk (tq ?_)
   refine kq (sq ?_)
   refine sq (rg (Za.u 1 (Zo (ys:=[ZaI false r518.1]) (h:=Zt ZY)) Za.f) ?_)
   refine tq (bk ?_)
   obtain ⟨o1038,ho1038,h⟩:=bs h
   refine ZX ((ZO (fun (x:Int × (List Zy)) s=>∃ (a520:AV) (a521:AV) (H522:List HO),s=⟨[(0,.ptr p0_ 0),(5,.loc 5 0),(6,.loc 6 0),(7,.loc 7 0),(9,iv ((List.length a0_.Problem.Periods:Nat):Int)),(10,iv i11),(40,iv ((List.length a3_.Routes:Nat):Int)),(41,iv i11),(55,ZaI false r518.1),(56,iv ((List.length r518.1:Nat):Int)),(57,iv x.1)],[(5,(Zc a1_)),(6,(Zh a2_)),(7,(Zf a3_))],H522⟩∧Fp H H522 [.cel p0_ [bc0_0_,bc0_1_,bv a0_.late],.arr bc0_0_ 1 true (List.map eI64 a0_.Problem.Periods),.arr bc0_1_ 4 true (List.map Zi a0_.Problem.Uses)] [.arr a520 1 true (List.map eI64 l6),.arr a521 4 true (List.map Zi x.2),.cel p0_ [a520,a521,bv b12]]) (fun x:Int × (List Zy)=>ZbH N a0_ a2_ a3_ r518 x.1 x.2) (fun (p:(List Zy)) e s=>e = .exit 2∧(∃ (a1025:AV) (a1026:AV) (H1027:List HO),s=⟨[(0,.ptr p0_ 0),(5,.loc 5 0),(6,.loc 6 0),(7,.loc 7 0),(9,iv ((List.length a0_.Problem.Periods:Nat):Int)),(10,iv i11),(40,iv ((List.length a3_.Routes:Nat):Int)),(41,iv i11)],[(5,(Zc a1_)),(6,(Zh a2_)),(7,(Zf a3_))],H1027⟩∧Fp H H1027 [.cel p0_ [bc0_0_,bc0_1_,bv a0_.late],.arr bc0_0_ 1 true (List.map eI64 a0_.Problem.Periods),.arr bc0_1_ 4 true (List.map Zi a0_.Problem.Uses)] [.arr a1025 1 true (List.map eI64 l6),.arr a1026 4 true (List.map Zi p),.cel p0_ [a1025,a1026,bv b12]])) ?_ N _ o1038 _ ho1038 ⟨a8,a9,H10,(by show _=_;kernel_rfl),(Fp.pick hH [0,1,2] rfl)⟩).mono ?_)
   ·clear h ho1038
    rintro ⟨i523,l524⟩ o s h hR
    obtain ⟨a520,a521,H522,rfl,hH⟩:=hR
    replace hH:Fp H H522 [.cel p0_ [bc0_0_,bc0_1_,bv a0_.late],.arr bc0_0_ 1 true (List.map eI64 a0_.Problem.Periods),.arr bc0_1_ 4 true (List.map Zi a0_.Problem.Uses)] [.arr a520 1 true (List.map eI64 l6),.arr a521 4 true (List.map Zi l524),.cel p0_ [a520,a521,bv b12]]:=hH
    have hfa520:=ZA (Fp.get hH 0 rfl)
    have hfa521:=ZA (Fp.get hH 1 rfl)
    replace h:ZbH N a0_ a2_ a3_ r518 i523 l524=some o:=h
    unfold ZbH at h
    refine sq (rg Za.f ?_)
    refine tq (sq ?_)
    refine it h (fun hc1028 h => ?_) (fun hc1028 h => ?_)
    ·refine sk (tq ?_)
     refine kq (sq ?_)
     refine bk (sq ?_)
     obtain ⟨e1029,he1029,h⟩:=bs h
     refine rg (Za.u 0 (Zo (ys:=[ZaI false r518.1,iv i523]) (h:=Zm ZY he1029)) (Za.u 0 (ZD (sz:=5) (off:=0) (cs:=[.int .i64 e1029.Port,.int .i64 e1029.Early,.int .i64 e1029.Late,.int .i64 e1029.Open,.int .i64 e1029.Long]) (r:=.agg (Za3 e1029)) ZY he1029) Za.f)) (tq ?_)
     refine sq ?_
     obtain ⟨r1030,hr1030,h⟩:=bs h
     refine rg (Za.v 4 (Zu (hc:=Zed N e1029.Early a2_.Grid r1030 hr1030)) Za.f) (tq ?_)
     refine sq ?_
     obtain ⟨r1031,hr1031,h⟩:=bs h
     refine rg (Za.v 11 (Zu (hc:=Zed N (w64 ((w64 ((w64 (e1029.Open+e1029.Long))+a2_.Grid)) - 1)) a2_.Grid r1031 hr1031)) Za.f) (tq ?_)
     refine sq ?_
     obtain ⟨r1032,hr1032,h⟩:=bs h
     refine rq (Za.u 4 (Zk2 (hc:=Zed N r1030 a3_.Period r1032 hr1032)) Za.f) (tq ?_)
     have hlc1033:=Fp.get hH 2 rfl
     obtain ⟨l1036,hl1036,h⟩:=bs h
     obtain ⟨a1034,H1035,ha1034,hH⟩:=Fp.app (k:=1) (a:=a521) (sz:=4) (frz:=true) Zi hH rfl hl1036
     replace hH:Fp H H1035 [.cel p0_ [bc0_0_,bc0_1_,bv a0_.late],.arr bc0_0_ 1 true (List.map eI64 a0_.Problem.Periods),.arr bc0_1_ 4 true (List.map Zi a0_.Problem.Uses)] [.arr a520 1 true (List.map eI64 l6),.arr a1034 4 true (List.map Zi l1036),.cel p0_ [a520,a521,bv b12]]:=hH
     have hfa1034:=ZA (Fp.get hH 1 rfl)
     obtain ⟨H1037,hH1037,hH⟩:=Fp.setCell (k:=2) (off:=1) (cs:=[a520,a521,bv b12]) (vs:=[a1034]) (cs':=[a520,a1034,bv b12]) hH rfl (by kernel_rfl)
     replace hH:Fp H H1037 [.cel p0_ [bc0_0_,bc0_1_,bv a0_.late],.arr bc0_0_ 1 true (List.map eI64 a0_.Problem.Periods),.arr bc0_1_ 4 true (List.map Zi a0_.Problem.Uses)] [.arr a520 1 true (List.map eI64 l6),.arr a1034 4 true (List.map Zi l1036),.cel p0_ [a520,a1034,bv b12]]:=hH
     refine rq (Za.u 5 (ZV (Zn (H:=H522) (id:=p0_) (off:=1) (cs:=[a520,a521,bv b12]) (c:=[a521]) (r:=a521) (by rcases hfa521 with ha521e | ⟨_,_,ha521e⟩<;>subst ha521e<;>kernel_rfl) (by rcases hfa521 with ha521e | ⟨_,_,ha521e⟩<;>subst ha521e<;>kernel_rfl) hlc1033 (by rcases hfa521 with ha521e | ⟨_,_,ha521e⟩<;>subst ha521e<;>kernel_rfl) (by rcases hfa521 with ha521e | ⟨_,_,ha521e⟩<;>subst ha521e<;>kernel_rfl) (by rcases hfa521 with ha521e | ⟨_,_,ha521e⟩<;>subst ha521e<;>kernel_rfl)) (by rcases hfa521 with ha521e | ⟨_,_,ha521e⟩<;>subst ha521e<;>kernel_rfl)) (Za.h 9 (Zfq (H:=H522) (a:=a521) (b:=Zp true [(Zy.mk ((List.length a0_.Problem.Periods:Nat):Int) e1029.Port (w64 (r1030 - (w64 (r1032 * a3_.Period)))) (w64 (r1031 - r1030)))]) (by rcases hfa521 with ha521e | ⟨_,_,ha521e⟩<;>subst ha521e<;>kernel_rfl) (by rcases hfa521 with ha521e | ⟨_,_,ha521e⟩<;>subst ha521e<;>kernel_rfl) (by rcases hfa521 with ha521e | ⟨_,_,ha521e⟩<;>subst ha521e<;>kernel_rfl) (by rcases hfa521 with ha521e | ⟨_,_,ha521e⟩<;>subst ha521e<;>kernel_rfl) ha1034) (Za.o 3 (ZjM (ZdS (H:=H1035) (v:=a1034) (cs:=[a1034]) (by rcases hfa1034 with ha1034e | ⟨_,_,ha1034e⟩<;>subst ha1034e<;>kernel_rfl) (by rcases hfa1034 with ha1034e | ⟨_,_,ha1034e⟩<;>subst ha1034e<;>kernel_rfl) (by rcases hfa1034 with ha1034e | ⟨_,_,ha1034e⟩<;>subst ha1034e<;>kernel_rfl) (by rcases hfa1034 with ha1034e | ⟨_,_,ha1034e⟩<;>subst ha1034e<;>kernel_rfl) (by rcases hfa1034 with ha1034e | ⟨_,_,ha1034e⟩<;>subst ha1034e<;>kernel_rfl) hH1037) (by rcases hfa1034 with ha1034e | ⟨_,_,ha1034e⟩<;>subst ha1034e<;>kernel_rfl)) Za.f))) (bn ?_)
     refine tq (rg Za.f ?_)
     obtain rfl:=Zb h
     exact ⟨_,rfl,⟨a520,a1034,H1037,(by show _=_;kernel_rfl),(Fp.pick hH [0,1,2] rfl)⟩⟩
    refine kq (xq ?_)
    refine tx ?_
    obtain rfl:=Zb h
    exact ⟨_,rfl,rfl,⟨a520,a521,H522,(by show _=_;kernel_rfl),(Fp.pick hH [0,1,2] rfl)⟩⟩
   rintro e s hq
   obtain ⟨rfl,hR⟩:=hq
   obtain ⟨a1025,a1026,H1027,rfl,hH⟩:=hR
   replace hH:Fp H H1027 [.cel p0_ [bc0_0_,bc0_1_,bv a0_.late],.arr bc0_0_ 1 true (List.map eI64 a0_.Problem.Periods),.arr bc0_1_ 4 true (List.map Zi a0_.Problem.Uses)] [.arr a1025 1 true (List.map eI64 l6),.arr a1026 4 true (List.map Zi o1038),.cel p0_ [a1025,a1026,bv b12]]:=hH
   have hfa1025:=ZA (Fp.get hH 0 rfl)
   have hfa1026:=ZA (Fp.get hH 1 rfl)
   refine bx (tq ?_)
   refine sq ?_
   obtain ⟨r1039,hr1039,h⟩:=bs h
   refine rg (Za.v 4 (Zu (hc:=Zit N a1_ a2_ a3_ i11 r1039 hr1039)) Za.f) (tq ?_)
   refine sq (sq ?_)
   refine rg Za.f (tq ?_)
   refine it h (fun hc1040 h => ?_) (fun hc1040 h => ?_)
   ·refine sq (rg Za.f ?_)
    refine tq (rt ?_)
    refine tr (br ?_)
    refine tr ?_
    obtain rfl:=Zb h
    exact ⟨_,rfl,rfl,⟨[iv r1039.2],(by kernel_rfl),a1025,a1026,(by kernel_rfl),Fp.pk hH [2,0,1] rfl⟩⟩
   refine sk (tq ?_)
   refine kq ?_
   obtain ⟨j1049,hj,h⟩:=bs h
   refine rgR (fun s=>∃ (a1046:AV) (a1047:AV) (H1048:List HO),s=⟨[(0,.ptr p0_ 0),(5,.loc 5 0),(6,.loc 6 0),(7,.loc 7 0),(9,iv ((List.length a0_.Problem.Periods:Nat):Int)),(40,iv ((List.length a3_.Routes:Nat):Int)),(41,iv i11)],[(5,(Zc a1_)),(6,(Zh a2_)),(7,(Zf a3_))],H1048⟩∧Fp H H1048 [.cel p0_ [bc0_0_,bc0_1_,bv a0_.late],.arr bc0_0_ 1 true (List.map eI64 a0_.Problem.Periods),.arr bc0_1_ 4 true (List.map Zi a0_.Problem.Uses)] [.arr a1046 1 true (List.map eI64 l6),.arr a1047 4 true (List.map Zi o1038),.cel p0_ [a1046,a1047,bv j1049]]) ?_ ?_
   ·clear h
    have hlc1041:=Fp.get hH 2 rfl
    rcases ZH hj with ⟨hc1042,hj⟩ | ⟨hc1044,hj⟩
    ·refine (EP.u 4 (ZB.bool (Zn (H:=H1027) (id:=p0_) (off:=2) (cs:=[a1025,a1026,bv b12]) (c:=[bv b12]) (r:=bv b12) (hl:=hlc1041)) hc1042) ?_)
     obtain ⟨H1043,hH1043,hH⟩:=Fp.setCell (k:=2) (off:=2) (cs:=[a1025,a1026,bv b12]) (vs:=[bv true]) (cs':=[a1025,a1026,bv true]) hH rfl (by kernel_rfl)
     replace hH:Fp H H1043 [.cel p0_ [bc0_0_,bc0_1_,bv a0_.late],.arr bc0_0_ 1 true (List.map eI64 a0_.Problem.Periods),.arr bc0_1_ 4 true (List.map Zi a0_.Problem.Uses)] [.arr a1025 1 true (List.map eI64 l6),.arr a1026 4 true (List.map Zi o1038),.cel p0_ [a1025,a1026,bv true]]:=hH
     obtain rfl:=Zb hj
     exact (EP.o 12 (Z9 (H:=H1027) (v:=bv true) (hw:=hH1043)) (EP.f ⟨a1025,a1026,H1043,(by show _=_;kernel_rfl),(Fp.pick hH [0,1,2] rfl)⟩))
    refine (EP.u 4 (ZB.bool (Zn (H:=H1027) (id:=p0_) (off:=2) (cs:=[a1025,a1026,bv b12]) (c:=[bv b12]) (r:=bv b12) (hl:=hlc1041)) hc1044) ?_)
    obtain ⟨H1045,hH1045,hH⟩:=Fp.setCell (k:=2) (off:=2) (cs:=[a1025,a1026,bv b12]) (vs:=[bv (decide ((w64 (r1039.1+(w64 (2 * a2_.Slack)))) > a3_.Deadline))]) (cs':=[a1025,a1026,bv (decide ((w64 (r1039.1+(w64 (2 * a2_.Slack)))) > a3_.Deadline))]) hH rfl (by kernel_rfl)
    replace hH:Fp H H1045 [.cel p0_ [bc0_0_,bc0_1_,bv a0_.late],.arr bc0_0_ 1 true (List.map eI64 a0_.Problem.Periods),.arr bc0_1_ 4 true (List.map Zi a0_.Problem.Uses)] [.arr a1025 1 true (List.map eI64 l6),.arr a1026 4 true (List.map Zi o1038),.cel p0_ [a1025,a1026,bv (decide ((w64 (r1039.1+(w64 (2 * a2_.Slack)))) > a3_.Deadline))]]:=hH
    obtain rfl:=Zb hj
    exact (EP.o 12 (Z9 (H:=H1027) (v:=bv (decide ((w64 (r1039.1+(w64 (2 * a2_.Slack)))) > a3_.Deadline))) (hw:=hH1045)) (EP.f ⟨a1025,a1026,H1045,(by show _=_;kernel_rfl),(Fp.pick hH [0,1,2] rfl)⟩))
   clear hj
   rintro s hR
   obtain ⟨a1046,a1047,H1048,rfl,hH⟩:=hR
   replace hH:Fp H H1048 [.cel p0_ [bc0_0_,bc0_1_,bv a0_.late],.arr bc0_0_ 1 true (List.map eI64 a0_.Problem.Periods),.arr bc0_1_ 4 true (List.map Zi a0_.Problem.Uses)] [.arr a1046 1 true (List.map eI64 l6),.arr a1047 4 true (List.map Zi o1038),.cel p0_ [a1046,a1047,bv j1049]]:=hH
   have hfa1046:=ZA (Fp.get hH 0 rfl)
   have hfa1047:=ZA (Fp.get hH 1 rfl)
   refine bn (tq ?_)
   refine kq (rg Za.f ?_)
   obtain rfl:=Zb h
   exact ⟨_,rfl,⟨a1046,a1047,H1048,(by show _=_;kernel_rfl),(Fp.pick hH [0,1,2] rfl)⟩⟩
  refine kq (xq ?_)
  refine tx ?_
  obtain rfl:=Zb h
  exact ⟨_,rfl,rfl,⟨a8,a9,H10,(by show _=_;kernel_rfl),(Fp.pick hH [0,1,2] rfl)⟩⟩
 rintro e s hq
 rcases o1050 with p1051 | p1052
 ·dsimp only at h hq
  obtain ⟨rfl,hR⟩:=hq
  obtain ⟨a514,a515,H516,rfl,hH⟩:=hR
  replace hH:Fp H H516 [.cel p0_ [bc0_0_,bc0_1_,bv a0_.late],.arr bc0_0_ 1 true (List.map eI64 a0_.Problem.Periods),.arr bc0_1_ 4 true (List.map Zi a0_.Problem.Uses)] [.arr a514 1 true (List.map eI64 l6),.arr a515 4 true (List.map Zi p1051.2),.cel p0_ [a514,a515,bv p1051.1]]:=hH
  have hfa514:=ZA (Fp.get hH 0 rfl)
  have hfa515:=ZA (Fp.get hH 1 rfl)
  refine bx (tq ?_)
  refine sq (rg Za.f ?_)
  refine tq (rt ?_)
  obtain rfl:=Zb h
  exact ⟨[iv 0],(by kernel_rfl),a514,a515,(by kernel_rfl),Fp.pk hH [2,0,1] rfl⟩
 dsimp only at h hq
 obtain ⟨rfl,hq⟩:=hq
 refine br (tr ?_)
 obtain rfl:=Zb h
 exact hq
theorem Zlx (N:Nat) (a0_:Zv) (a1_:Z2) (a2_:(List Zw)) (r:Ze × Int) (h:ZkJ N a0_ a1_ a2_=some r):Zab Try.prog 23 [.agg (Zc a0_),.agg (Zh a1_),ZW false a2_] (.tup [.agg [Zg false r.1.Periods,Zp false r.1.Uses],iv r.2]):=by
 unfold ZkJ at h
 have hH:HP ([]:List HO) []:=trivial
 refine ZF chk23 rfl rfl (Zr _ _ _ ?_) rfl
 refine sq (rg Za.f ?_)
 refine tq (sq ?_)
 refine sq ?_
 obtain ⟨r1,hr1,h⟩:=bs h
 refine rg (Za.v 1 (Zu (hc:=Zdt N a0_ ([]) r1 hr1)) Za.f) (tq ?_)
 refine sq (rg Za.f ?_)
 refine tq (it h (fun hc2 h => ?_) (fun hc2 h => ?_))
 ·refine sq (rg Za.f ?_)
  refine tq (rt ?_)
  refine tr ?_
  obtain rfl:=Zb h
  exact Zx (by kernel_rfl)
 refine sk (tq ?_)
 refine kq (sq ?_)
 refine sq ?_
 obtain ⟨r3,hr3,h⟩:=bs h
 refine rg (Za.v 1 (Zu (hc:=ZcW N a1_ r3 hr3)) Za.f) (tq ?_)
 refine sq (rg Za.f ?_)
 refine tq (it h (fun hc4 h => ?_) (fun hc4 h => ?_))
 ·refine sq (rg Za.f ?_)
  refine tq (rt ?_)
  refine tr ?_
  obtain rfl:=Zb h
  exact Zx (by kernel_rfl)
 refine sk (tq ?_)
 refine kq (sq ?_)
 refine sq ?_
 obtain ⟨r5,hr5,h⟩:=bs h
 refine rg (Za.v 2 (Zu (hc:=Zdt N a0_ a2_ r5 hr5)) Za.f) (tq ?_)
 refine sq (rg Za.f ?_)
 refine tq (it h (fun hc6 h => ?_) (fun hc6 h => ?_))
 ·refine sq (rg Za.f ?_)
  refine tq (rt ?_)
  refine tr ?_
  obtain rfl:=Zb h
  exact Zx (by kernel_rfl)
 refine sk (tq ?_)
 refine kq (sq ?_)
 obtain ⟨id7,H8,hid7,hH8,hH⟩:=HP.newCell hH [Zg true [],Zp true [],bv false]
 replace hH:HP H8 [.cel id7 [Zg true [],Zp true [],bv false]]:=hH
 refine rg (Za.h 0 (ZeG (H:=[]) (by kernel_rfl) hid7 hH8) Za.f) (tq ?_)
 refine sq (sq ?_)
 refine rg (Za.u 1 (Zo (ys:=[ZW false a2_]) (h:=Zt Zav)) Za.f) (tq ?_)
 refine bk ?_
 obtain ⟨o527,ho527,h⟩:=bs h
 refine ZX ((ZO (fun (x:Int × Bool × (List Int) × (List Zy)) s=>∃ (a9:AV) (a10:AV) (H11:List HO),s=⟨[(3,.loc 3 0),(4,.loc 4 0),(6,.loc 6 0),(11,.ptr id7 0),(35,ZW false a2_),(36,iv ((List.length a2_:Nat):Int)),(37,iv x.1)],[(3,(Zc a0_)),(4,(Zh a1_)),(6,[Zg true [],Zp true []])],H11⟩∧HP H11 [.arr a9 1 true (List.map eI64 x.2.2.1),.arr a10 4 true (List.map Zi x.2.2.2),.cel id7 [a9,a10,bv x.2.1]]) (fun x:Int × Bool × (List Int) × (List Zy)=>Ze8 N a0_ a1_ a2_ x.1 x.2.1 x.2.2.1 x.2.2.2) (fun (p:(Bool × (List Int) × (List Zy)) ⊕ (Ze × Int)) e s=>match p with | (.inl p)=>e = .exit 0∧(∃ (a516:AV) (a517:AV) (H518:List HO),s=⟨[(6,.loc 6 0),(11,.ptr id7 0)],[(6,[Zg true [],Zp true []])],H518⟩∧HP H518 [.arr a516 1 true (List.map eI64 p.2.1),.arr a517 4 true (List.map Zi p.2.2),.cel id7 [a516,a517,bv p.1]]) | (.inr p)=>e = .ret∧∃ xs,resL s i23.res=some xs∧ZaD xs = .tup [.agg [Zg false p.1.Periods,Zp false p.1.Uses],iv p.2]) ?_ N _ o527 _ ho527 ⟨(.p (.sl 1 true [])),(.p (.sl 4 true [])),H8,(by show _=_;kernel_rfl),(HP.pick (HP.nilArr (HP.nilArr hH 4 true) 1 true) [0,1,2] rfl)⟩).mono ?_)
 ·clear h ho527
  rintro ⟨i12,b13,l14,l15⟩ o s h hR
  obtain ⟨a9,a10,H11,rfl,hH⟩:=hR
  replace hH:HP H11 [.arr a9 1 true (List.map eI64 l14),.arr a10 4 true (List.map Zi l15),.cel id7 [a9,a10,bv b13]]:=hH
  have hfa9:=ZA (HP.get hH 0 rfl)
  have hfa10:=ZA (HP.get hH 1 rfl)
  replace h:Ze8 N a0_ a1_ a2_ i12 b13 l14 l15=some o:=h
  unfold Ze8 at h
  refine sq (rg Za.f ?_)
  refine tq (sq ?_)
  refine it h (fun hc519 h => ?_) (fun hc519 h => ?_)
  ·refine sk (tq ?_)
   refine kq (sq ?_)
   refine bk (sq ?_)
   obtain ⟨e520,he520,h⟩:=bs h
   refine rg (Za.u 0 (Zo (ys:=[ZW false a2_,iv i12]) (h:=Zm Zav he520)) (Za.u 0 (ZD (sz:=10) (off:=0) (cs:=[.int .i64 e520.Id,.int .i64 e520.Talker,.int .i64 e520.Listener,.int .i64 e520.Class,.int .i64 e520.Size,.int .i64 e520.Period,.int .i64 e520.Bucket.Burst,.int .i64 e520.Bucket.Rate,.int .i64 e520.Deadline,.sl 1 false (List.map (eSl 1 eI64) e520.Routes)]) (r:=.agg (Zf e520)) Zav he520) Za.f)) (tq ?_)
   refine sq (sq ?_)
   refine rg Za.f (tq ?_)
   refine it h (fun hc521 h => ?_) (fun hc521 h => ?_)
   ·refine kq (xq ?_)
    refine tx (bx ?_)
    refine tq (kq ?_)
    refine rg Za.f ?_
    obtain rfl:=Zb h
    exact ⟨_,rfl,⟨a9,a10,H11,(by show _=_;kernel_rfl),(HP.pick hH [0,1,2] rfl)⟩⟩
   refine sk (tq ?_)
   refine kq (sq ?_)
   obtain ⟨r522,hr522,h⟩:=bs h
   have hl_a9:=HP.get hH 0 rfl
   have hl_a10:=HP.get hH 1 rfl
   obtain ⟨a523,a524,H525,hvr522,hpr522⟩:=Zgv N (Z6.mk (Ze.mk l14 l15) b13) a0_ a1_ e520  id7 a9 a10 H11 (HP.now (HP.pick hH [2,0,1] rfl)) r522 hr522
   replace hH:HP H525 [.cel id7 [a523,a524,bv r522.2.late],.arr a523 1 true (List.map eI64 r522.2.Problem.Periods),.arr a524 4 true (List.map Zi r522.2.Problem.Uses)]:=HP.callee (fp:=[.cel id7 [a9,a10,bv b13],.arr a9 1 true (List.map eI64 l14),.arr a10 4 true (List.map Zi l15)]) (rest:=[]) (HP.pick hH [2,0,1] rfl) hpr522
   have hfa523:=ZA (HP.get hH 1 rfl)
   have hfa524:=ZA (HP.get hH 2 rfl)
   refine rg (Za.v 3 (Zk3 (H:=H11) (ys:=[.ptr id7 0,.agg (Zc a0_),.agg (Zh a1_),.agg (Zf e520)]) (by kernel_rfl) (by kernel_rfl) [[],[],[],[]] (ZdZ (ZeP rfl) (ZdZ (ZeP rfl) (ZdZ (ZeP rfl) (ZdZ (ZeP rfl) passL_nil')))) hvr522) Za.f) (tq ?_)
   refine sq (rg Za.f ?_)
   refine tq (it h (fun hc526 h => ?_) (fun hc526 h => ?_))
   ·refine sq (rg Za.f ?_)
    replace hH:HP H525 []:=HP.pick hH [] rfl
    refine tq (rt ?_)
    refine br (tr ?_)
    obtain rfl:=Zb h
    exact ⟨_,rfl,rfl,Zx (by kernel_rfl)⟩
   refine sk (bn ?_)
   refine tq (kq ?_)
   refine rg Za.f ?_
   obtain rfl:=Zb h
   exact ⟨_,rfl,⟨a523,a524,H525,(by show _=_;kernel_rfl),(HP.pick hH [1,2,0] rfl)⟩⟩
  refine kq (xq ?_)
  refine tx ?_
  obtain rfl:=Zb h
  exact ⟨_,rfl,rfl,⟨a9,a10,H11,(by show _=_;kernel_rfl),(HP.pick hH [0,1,2] rfl)⟩⟩
 rintro e s hq
 rcases o527 with p528 | p533
 ·dsimp only at h hq
  obtain ⟨rfl,hR⟩:=hq
  obtain ⟨a516,a517,H518,rfl,hH⟩:=hR
  replace hH:HP H518 [.arr a516 1 true (List.map eI64 p528.2.1),.arr a517 4 true (List.map Zi p528.2.2),.cel id7 [a516,a517,bv p528.1]]:=hH
  have hfa516:=ZA (HP.get hH 0 rfl)
  have hfa517:=ZA (HP.get hH 1 rfl)
  refine bx (tq ?_)
  refine sq (sq ?_)
  obtain ⟨r529,hr529,h⟩:=bs h
  have hl_a516:=HP.get hH 0 rfl
  have hl_a517:=HP.get hH 1 rfl
  obtain ⟨H530,hvr529,hpr529⟩:=ZfJ N (Z6.mk (Ze.mk p528.2.1 p528.2.2) p528.1)  id7 a516 a517 H518 (HP.now (HP.pick hH [2,0,1] rfl)) r529 hr529
  replace hH:HP H530 [.cel id7 [a516,a517,bv p528.1],.arr a516 1 true (List.map eI64 p528.2.1),.arr a517 4 true (List.map Zi p528.2.2)]:=HP.callee (fp:=[.cel id7 [a516,a517,bv p528.1],.arr a516 1 true (List.map eI64 p528.2.1),.arr a517 4 true (List.map Zi p528.2.2)]) (rest:=[]) (HP.pick hH [2,0,1] rfl) hpr529
  refine rg (Za.v 0 (Zk3 (H:=H518) (ys:=[.ptr id7 0]) (by kernel_rfl) (by kernel_rfl) [[]] (ZdZ (ZeP rfl) passL_nil') hvr529) Za.f) (tq ?_)
  refine sq (rg Za.f ?_)
  refine tq (it h (fun hc531 h => ?_) (fun hc531 h => ?_))
  ·refine sq (rg Za.f ?_)
   replace hH:HP H530 []:=HP.pick hH [] rfl
   refine tq (rt ?_)
   refine tr ?_
   obtain rfl:=Zb h
   exact Zx (by kernel_rfl)
  refine sk (tq ?_)
  refine kq (sq ?_)
  have hlc532:=HP.get hH 0 rfl
  refine rgS ⟨[(6,.loc 6 0),(7,iv 0)],[(6,[a516,a517])],H530⟩ (Za.u 1 (Zn (H:=H530) (id:=id7) (off:=0) (cs:=[a516,a517,bv p528.1]) (c:=[a516,a517]) (r:=.agg [a516,a517]) (by rcases hfa516 with ha516e | ⟨_,_,ha516e⟩<;>rcases hfa517 with ha517e | ⟨_,_,ha517e⟩<;>subst ha516e ha517e<;>kernel_rfl) (by rcases hfa516 with ha516e | ⟨_,_,ha516e⟩<;>rcases hfa517 with ha517e | ⟨_,_,ha517e⟩<;>subst ha516e ha517e<;>kernel_rfl) hlc532 (by rcases hfa516 with ha516e | ⟨_,_,ha516e⟩<;>rcases hfa517 with ha517e | ⟨_,_,ha517e⟩<;>subst ha516e ha517e<;>kernel_rfl) (by rcases hfa516 with ha516e | ⟨_,_,ha516e⟩<;>rcases hfa517 with ha517e | ⟨_,_,ha517e⟩<;>subst ha516e ha517e<;>kernel_rfl) (by rcases hfa516 with ha516e | ⟨_,_,ha516e⟩<;>rcases hfa517 with ha517e | ⟨_,_,ha517e⟩<;>subst ha516e ha517e<;>kernel_rfl)) (Za.f (h:=(by rcases hfa516 with ha516e | ⟨_,_,ha516e⟩<;>rcases hfa517 with ha517e | ⟨_,_,ha517e⟩<;>subst ha516e ha517e<;>kernel_rfl)))) (by rcases hfa516 with ha516e | ⟨_,_,ha516e⟩<;>rcases hfa517 with ha517e | ⟨_,_,ha517e⟩<;>subst ha516e ha517e<;>kernel_rfl) ?_
  replace hH:HP H530 [.arr a516 1 true (List.map eI64 p528.2.1),.arr a517 4 true (List.map Zi p528.2.2)]:=HP.pick hH [1,2] rfl
  refine tq (rt ?_)
  obtain rfl:=Zb h
  exact ZeM (H:=H530) (ys:=[.agg [a516,a517],iv 0]) (xs:=[.agg [.p (.sl 1 false (List.map eI64 p528.2.1)),.p (.sl 4 false (List.map Zi p528.2.2))],iv 0]) (by rcases hfa516 with ha516e | ⟨_,_,ha516e⟩<;>rcases hfa517 with ha517e | ⟨_,_,ha517e⟩<;>subst ha516e ha517e<;>kernel_rfl) (by rcases hfa516 with ha516e | ⟨_,_,ha516e⟩<;>rcases hfa517 with ha517e | ⟨_,_,ha517e⟩<;>subst ha516e ha517e<;>kernel_rfl) (ZaS (Zj0 (Ze6 (HP.pure (k:=0) (frz:=true) eI64 hH rfl).1 (Ze6 (HP.pure (k:=1) (frz:=true) Zi hH rfl).1 Zj1))) (ZaS rfl Zb2)) (by kernel_rfl)
 dsimp only at h hq
 obtain ⟨rfl,hq⟩:=hq
 refine br (tr ?_)
 obtain rfl:=Zb h
 exact hq
theorem Zct (N:Nat) (a0_:(List Zw)) (r:Ze × Int) (h:Zdv N a0_=some r):Zab Try.prog 25 [ZW false a0_] (.tup [.agg [Zg false r.1.Periods,Zp false r.1.Uses],iv r.2]):=by
 unfold Zdv at h
 have hH:HP ([]:List HO) []:=trivial
 refine ZF chk25 rfl rfl (Zr _ _ _ ?_) rfl
 refine sq (rg Za.f ?_)
 refine tq (sq ?_)
 obtain ⟨r1,hr1,h⟩:=bs h
 obtain ⟨r2,hr2,h⟩:=bs h
 refine rg (Za.v 0 (Zu (hc:=Zjt N  r1 hr1)) (Za.v 2 (Zu (hc:=Zlx N r1 (Z2.mk 100 2 10 8000) a0_ r2 hr2)) Za.f)) (tq ?_)
 refine rt ?_
 obtain rfl:=Zb h
 exact Zx (by kernel_rfl)
theorem ZiC (N:Nat) (r:Bool) (h:Zdm N=some r):Zab Try.prog 15 [] (bv r):=by
 unfold Zdm at h
 have hH:HP ([]:List HO) []:=trivial
 refine ZF chk15 rfl rfl (Zr _ _ _ ?_) rfl
 refine sq (rg Za.f ?_)
 refine tq (sq ?_)
 obtain ⟨r1,hr1,h⟩:=bs h
 obtain ⟨r2,hr2,h⟩:=bs h
 refine rg (Za.v 0 (Zu (hc:=Zak N 1 20 10000 r1 hr1)) (Za.v 1 (Zu (hc:=Zct N ([r1]) r2 hr2)) Za.f)) (tq ?_)
 refine sq ?_
 obtain ⟨r3,hr3,h⟩:=bs h
 obtain ⟨r4,hr4,h⟩:=bs h
 refine rg (Za.v 0 (Zu (hc:=Zak N 1 8 10000 r3 hr3)) (Za.v 1 (Zu (hc:=Zct N ([r3]) r4 hr4)) Za.f)) (tq ?_)
 refine sq ?_
 obtain ⟨r5,hr5,h⟩:=bs h
 obtain ⟨r6,hr6,h⟩:=bs h
 refine rg (Za.v 0 (Zu (hc:=Zak N 1 20 1718 r5 hr5)) (Za.v 1 (Zu (hc:=Zct N ([r5]) r6 hr6)) Za.f)) (tq ?_)
 refine sq ?_
 obtain ⟨r7,hr7,h⟩:=bs h
 obtain ⟨r8,hr8,h⟩:=bs h
 obtain ⟨r9,hr9,h⟩:=bs h
 refine rg (Za.v 0 (Zu (hc:=Zak N 1 20 10000 r7 hr7)) (Za.v 0 (Zu (hc:=Zak N 2 30 10000 r8 hr8)) (Za.v 1 (Zu (hc:=Zct N ([r7,r8]) r9 hr9)) Za.f))) (tq ?_)
 refine sq ?_
 obtain ⟨r10,hr10,h⟩:=bs h
 obtain ⟨r11,hr11,h⟩:=bs h
 obtain ⟨r12,hr12,h⟩:=bs h
 refine rg (Za.v 0 (Zu (hc:=Zak N 1 40 10000 r10 hr10)) (Za.v 0 (Zu (hc:=Zak N 2 40 10000 r11 hr11)) (Za.v 1 (Zu (hc:=Zct N ([r10,r11]) r12 hr12)) Za.f))) (tq ?_)
 refine sq ?_
 obtain ⟨r13,hr13,h⟩:=bs h
 refine rg (Za.v 0 (Zu (hc:=Zct N ([]) r13 hr13)) Za.f) (tq ?_)
 refine sq ?_
 obtain ⟨r14,hr14,h⟩:=bs h
 refine rg (Za.v 1 (Zu (hc:=ZfY N r9.1 r14 hr14)) Za.f) (tq ?_)
 refine sq ?_
 obtain ⟨r15,hr15,h⟩:=bs h
 refine rg (Za.v 1 (Zu (hc:=ZfY N r13.1 r15 hr15)) Za.f) (tq ?_)
 refine sq (rg Za.f ?_)
 refine tq (sq ?_)
 refine sq ?_
 obtain ⟨j29,hj,h⟩:=bs h
 refine rgR (fun s=>s=⟨[(4,iv r4.2),(6,iv r6.2),(7,.loc 7 0),(9,.loc 9 0),(13,iv r14.1),(15,iv r15.1),(97,bv j29)],[(7,(Zd r9.1)),(9,(Zd r12.1))],[]⟩) ?_ ?_
 ·clear h
  rcases ZH hj with ⟨hc16,hj⟩ | ⟨hc17,hj⟩
  ·obtain rfl:=Zb hj
   exact (EP.u 1 (Zj (c:=(r2.2 != 0)) (h:=hc16)) (EP.f (by show _=_;kernel_rfl)))
  refine (EP.u 1 (Zj (c:=(r2.2 != 0)) (h:=hc17)) ?_)
  rcases ZH hj with ⟨hc18,hj⟩ | ⟨hc19,hj⟩
  ·obtain rfl:=Zb hj
   exact (EP.u 2 (Zj (c:=(r9.2 != 0)) (h:=hc18)) (EP.f (by show _=_;kernel_rfl)))
  refine (EP.u 2 (Zj (c:=(r9.2 != 0)) (h:=hc19)) ?_)
  rcases ZH hj with ⟨hc20,hj⟩ | ⟨hc21,hj⟩
  ·obtain rfl:=Zb hj
   exact (EP.u 3 (Zj (c:=(r12.2 != 0)) (h:=hc20)) (EP.f (by show _=_;kernel_rfl)))
  refine (EP.u 3 (Zj (c:=(r12.2 != 0)) (h:=hc21)) ?_)
  rcases ZH hj with ⟨hc22,hj⟩ | ⟨hc23,hj⟩
  ·obtain rfl:=Zb hj
   exact (EP.u 3 (Zj (c:=(r13.2 != 0)) (h:=hc22)) (EP.f (by show _=_;kernel_rfl)))
  refine (EP.u 3 (Zj (c:=(r13.2 != 0)) (h:=hc23)) ?_)
  rcases ZH hj with ⟨hc24,hj⟩ | ⟨hc25,hj⟩
  ·obtain rfl:=Zb hj
   exact (EP.u 3 (Zj (c:=(r14.2 != 0)) (h:=hc24)) (EP.f (by show _=_;kernel_rfl)))
  refine (EP.u 3 (Zj (c:=(r14.2 != 0)) (h:=hc25)) ?_)
  rcases ZH hj with ⟨hc26,hj⟩ | ⟨hc27,hj⟩
  ·obtain rfl:=Zb hj
   exact (EP.u 3 (Zj (c:=(r15.2 != 0)) (h:=hc26)) (EP.f (by show _=_;kernel_rfl)))
  refine (EP.u 3 (Zj (c:=(r15.2 != 0)) (h:=hc27)) ?_)
  obtain ⟨r28,hr28,hj⟩:=bs hj
  obtain rfl:=Zb hj
  exact (EP.v 4 (Zu (hc:=Zjj N r2.1 (Ze.mk ([20]) ([(Zy.mk 0 0 0 8),(Zy.mk 0 2 8 9)])) r28 hr28)) (EP.f (by show _=_;kernel_rfl)))
 clear hj
 rintro s hR
 obtain rfl:=hR
 refine tq (it h (fun hc30 h => ?_) (fun hc30 h => ?_))
 ·refine sq (rg Za.f ?_)
  refine tq (rt ?_)
  refine tr ?_
  obtain rfl:=Zb h
  exact Zx (by kernel_rfl)
 refine sk (tq ?_)
 refine kq (sq ?_)
 obtain ⟨j41,hj,h⟩:=bs h
 refine rgR (fun s=>s=⟨[(4,iv r4.2),(6,iv r6.2),(9,.loc 9 0),(13,iv r14.1),(15,iv r15.1),(18,bv j41)],[(9,(Zd r12.1))],[]⟩) ?_ ?_
 ·clear h
  obtain ⟨r31,hr31,hj⟩:=bs hj
  rcases ZH hj with ⟨hc32,hj⟩ | ⟨hc40,hj⟩
  ·refine (EP.h 1 (Zap (by kernel_rfl) (Zar N r9.1 0 8 r31 hr31) hc32) ?_)
   obtain ⟨r33,hr33,hj⟩:=bs hj
   rcases ZH hj with ⟨hc34,hj⟩ | ⟨hc39,hj⟩
   ·refine (EP.h 2 (Zap (by kernel_rfl) (Zar N r9.1 0 9 r33 hr33) hc34) ?_)
    obtain ⟨r35,hr35,hj⟩:=bs hj
    rcases ZH hj with ⟨hc36,hj⟩ | ⟨hc38,hj⟩
    ·refine (EP.h 3 (Zap (by kernel_rfl) (Zar N r9.1 0 10 r35 hr35) hc36) ?_)
     obtain ⟨r37,hr37,hj⟩:=bs hj
     obtain rfl:=Zb hj
     exact (EP.v 3 (Zu (hc:=Zar N r9.1 0 2 r37 hr37)) (EP.f (by show _=_;kernel_rfl)))
    obtain rfl:=Zb hj
    exact (EP.h 3 (Zap (by kernel_rfl) (Zar N r9.1 0 10 r35 hr35) hc38) (EP.f (by show _=_;kernel_rfl)))
   obtain rfl:=Zb hj
   exact (EP.h 2 (Zap (by kernel_rfl) (Zar N r9.1 0 9 r33 hr33) hc39) (EP.f (by show _=_;kernel_rfl)))
  obtain rfl:=Zb hj
  exact (EP.h 1 (Zap (by kernel_rfl) (Zar N r9.1 0 8 r31 hr31) hc40) (EP.f (by show _=_;kernel_rfl)))
 clear hj
 rintro s hR
 obtain rfl:=hR
 refine tq (sq ?_)
 obtain ⟨j59,hj,h⟩:=bs h
 refine rgR (fun s=>s=⟨[(0,bv j59)],[],[]⟩) ?_ ?_
 ·clear h
  rcases ZH hj with ⟨hc42,hj⟩ | ⟨hc58,hj⟩
  ·refine (EP.u 1 (Zj (c:=(r4.2==341)) (h:=hc42)) ?_)
   rcases ZH hj with ⟨hc43,hj⟩ | ⟨hc57,hj⟩
   ·refine (EP.u 2 (Zj (c:=(r6.2==342)) (h:=hc43)) ?_)
    rcases ZH hj with ⟨hc44,hj⟩ | ⟨hc56,hj⟩
    ·refine (EP.u 2 (Zj (c:=j41) (h:=hc44)) ?_)
     obtain ⟨r45,hr45,hj⟩:=bs hj
     rcases ZH hj with ⟨hc46,hj⟩ | ⟨hc55,hj⟩
     ·refine (EP.h 4 (Zap (by kernel_rfl) (Zch N r12.1 ([0,9]) r45 hr45) hc46) ?_)
      obtain ⟨r47,hr47,hj⟩:=bs hj
      refine (EP.v 4 (Zu (hc:=Zch N r12.1 ([0,8]) r47 hr47)) ?_)
      rcases ZH hj with ⟨hc48,hj⟩ | ⟨hc54,hj⟩
      ·refine (EP.u 0 (Zj (c:=(!r47)) (h:=hc48)) ?_)
       obtain ⟨r49,hr49,hj⟩:=bs hj
       rcases ZH hj with ⟨hc50,hj⟩ | ⟨hc53,hj⟩
       ·refine (EP.h 4 (Zap (by kernel_rfl) (Zch N r12.1 ([35,4]) r49 hr49) hc50) ?_)
        rcases ZH hj with ⟨hc51,hj⟩ | ⟨hc52,hj⟩
        ·obtain rfl:=Zb hj
         exact (EP.u 3 (Zj (c:=(r14.1==60)) (h:=hc51)) (EP.f (by show _=_;kernel_rfl)))
        obtain rfl:=Zb hj
        exact (EP.u 3 (Zj (c:=(r14.1==60)) (h:=hc52)) (EP.f (by show _=_;kernel_rfl)))
       obtain rfl:=Zb hj
       exact (EP.h 4 (Zap (by kernel_rfl) (Zch N r12.1 ([35,4]) r49 hr49) hc53) (EP.f (by show _=_;kernel_rfl)))
      obtain rfl:=Zb hj
      exact (EP.u 0 (Zj (c:=(!r47)) (h:=hc54)) (EP.f (by show _=_;kernel_rfl)))
     obtain rfl:=Zb hj
     exact (EP.h 4 (Zap (by kernel_rfl) (Zch N r12.1 ([0,9]) r45 hr45) hc55) (EP.f (by show _=_;kernel_rfl)))
    obtain rfl:=Zb hj
    exact (EP.u 2 (Zj (c:=j41) (h:=hc56)) (EP.f (by show _=_;kernel_rfl)))
   obtain rfl:=Zb hj
   exact (EP.u 2 (Zj (c:=(r6.2==342)) (h:=hc57)) (EP.f (by show _=_;kernel_rfl)))
  obtain rfl:=Zb hj
  exact (EP.u 1 (Zj (c:=(r4.2==341)) (h:=hc58)) (EP.f (by show _=_;kernel_rfl)))
 clear hj
 rintro s hR
 obtain rfl:=hR
 refine tq (rt ?_)
 obtain rfl:=Zb h
 exact Zx (by kernel_rfl)
end Go.Sh

