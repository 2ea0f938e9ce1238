/- Part of the proof; written by a program out of the texts in wip/. -/
import Derived.Test.YthipedbbcjemhaaPlanMovesSh
import Derived.Test.YthipedbbcjemhaaPlanMovesChk
namespace Go.Sh
open Go Go.Eng Go.Proofs
set_option linter.unusedVariables false
set_option linter.unusedSimpArgs false
set_option maxRecDepth 100000
set_option maxHeartbeats 4000000
attribute [local irreducible] vc ev ZcT opsD opsF ZeZ upd updH updO
theorem Zjh (N:Nat) (a0_:Ze) (a1_:(List Int)) (r:(List Int)) (h:ZdX N a0_ a1_=some r):Zab Try.prog 9 [.agg (Zd a0_),ZbZ false a1_] (Zg false r):=by
 unfold ZdX at h
 have hH:HP ([]:List HO) []:=trivial
 refine ZF chk9 rfl rfl (Zr _ _ _ ?_) rfl
 refine sq (rg Za.f ?_)
 refine tq (sq ?_)
 refine rg Za.f (tq ?_)
 refine sq (sq ?_)
 refine rg Za.f (tq ?_)
 refine bk ?_
 obtain ⟨o1016,ho1016,h⟩:=bs h
 refine ZX ((ZO (fun (x:Int × (List Int)) s=>∃ (a1:AV) (H2:List HO),s=⟨[(1,ZbZ false a1_),(2,.loc 2 0),(5,a1),(6,iv x.1)],[(2,(Zd a0_))],H2⟩∧HP H2 [.arr a1 1 false (List.map eI64 x.2)]) (fun x:Int × (List Int)=>ZbF N a0_ a1_ x.1 x.2) (fun (p:(List Int)) e s=>e = .exit 0∧(∃ (a505:AV) (H506:List HO),s=⟨[(5,a505)],[],H506⟩∧HP H506 [.arr a505 1 false (List.map eI64 p)])) ?_ N _ o1016 _ ho1016 ⟨(.p (.sl 1 true [])),[],(by show _=_;kernel_rfl),(HP.pick (HP.nilArr hH 1 false) [0] rfl)⟩).mono ?_)
 ·clear h ho1016
  rintro ⟨i3,l4⟩ o s h hR
  obtain ⟨a1,H2,rfl,hH⟩:=hR
  replace hH:HP H2 [.arr a1 1 false (List.map eI64 l4)]:=hH
  have hfa1:=ZA (HP.get hH 0 rfl)
  replace h:ZbF N a0_ a1_ i3 l4=some o:=h
  unfold ZbF at h
  refine sq (sq ?_)
  refine rgS ⟨[(1,ZbZ false a1_),(2,.loc 2 0),(5,a1),(6,iv i3),(12,bv (decide (i3<((List.length a0_.Periods:Nat):Int))))],[(2,(Zd a0_))],H2⟩ (Za.u 3 (Zo (ys:=[Zg false a0_.Periods]) (h:=Zt eI64)) Za.f) (by rcases hfa1 with ha1e | ⟨_,_,ha1e⟩<;>subst ha1e<;>kernel_rfl) ?_
  refine tq (it h (fun hc507 h => ?_) (fun hc507 h => ?_))
  ·refine sk (tq ?_)
   refine kq (sq ?_)
   refine bk (sq ?_)
   refine rgS ⟨[(1,ZbZ false a1_),(2,.loc 2 0),(5,a1),(6,iv i3),(7,iv 0)],[(2,(Zd a0_))],H2⟩ Za.f (by rcases hfa1 with ha1e | ⟨_,_,ha1e⟩<;>subst ha1e<;>kernel_rfl) ?_
   refine tq ?_
   obtain ⟨j1008,hj1008,h⟩:=bs h
   refine Zd5 [1,2,5,6,7] (fun s=>s=⟨[(1,ZbZ false a1_),(2,.loc 2 0),(5,a1),(6,iv i3),(7,iv j1008)],[(2,(Zd a0_))],H2⟩) ?_ ?_
   ·clear h
    have h:=hj1008
    refine sq (rgS ⟨[(1,ZbZ false a1_),(2,.loc 2 0),(5,a1),(6,iv i3),(7,iv 0),(18,bv (decide (i3<((List.length a1_:Nat):Int))))],[(2,(Zd a0_))],H2⟩ (Za.u 2 (Zo (ys:=[ZbZ false a1_]) (h:=Zt (eI .u8))) Za.f) (by rcases hfa1 with ha1e | ⟨_,_,ha1e⟩<;>subst ha1e<;>kernel_rfl) ?_)
    refine tq (it h (fun hc1009 h => ?_) (fun hc1009 h => ?_))
    ·obtain ⟨e1010,he1010,h⟩:=bs h
     obtain ⟨e1011,he1011,h⟩:=bs h
     obtain ⟨m1012,hm1012,h⟩:=bs h
     refine rqS ⟨[(1,ZbZ false a1_),(2,.loc 2 0),(5,a1),(6,iv i3),(7,iv m1012)],[(2,(Zd a0_))],H2⟩ (Za.u 2 (Zo (ys:=[ZbZ false a1_,iv i3]) (h:=Zm (eI .u8) he1010)) (Za.u 0 (ZV (ZD (sz:=1) (off:=0) (cs:=[.int .u8 e1010]) (r:=.p (.int .u8 e1010)) (eI .u8) he1010)) (Za.u 4 (Zo (ys:=[Zg false a0_.Periods,iv i3]) (h:=Zm eI64 he1011)) (Za.u 0 (ZV (ZD (sz:=1) (off:=0) (cs:=[.int .i64 e1011]) (r:=iv e1011) eI64 he1011)) (Za.u 0 (Zo (ys:=[iv (w64 (e1010)),iv e1011]) (h:=Zbw hm1012)) Za.f))))) (by rcases hfa1 with ha1e | ⟨_,_,ha1e⟩<;>subst ha1e<;>kernel_rfl) ?_
     obtain rfl:=Zb h
     exact ⟨rfl,(by show _=_;rcases hfa1 with ha1e | ⟨_,_,ha1e⟩<;>subst ha1e<;>kernel_rfl)⟩
    refine sk ?_
    obtain rfl:=Zb h
    exact ⟨rfl,(by show _=_;rcases hfa1 with ha1e | ⟨_,_,ha1e⟩<;>subst ha1e<;>kernel_rfl)⟩
   clear hj1008
   rintro s hR
   obtain rfl:=hR
   obtain ⟨l1015,hl1015,h⟩:=bs h
   obtain ⟨a1013,H1014,ha1013,hH⟩:=HP.app (k:=0) (a:=a1) (sz:=1) (frz:=false) eI64 hH rfl hl1015
   replace hH:HP H1014 [.arr a1013 1 false (List.map eI64 l1015)]:=hH
   have hfa1013:=ZA (HP.get hH 0 rfl)
   refine rgS ⟨[(1,ZbZ false a1_),(2,.loc 2 0),(5,a1013),(6,iv i3)],[(2,(Zd a0_))],H1014⟩ (Za.h 3 (Zfq (H:=H2) (a:=a1) (b:=Zg true [j1008]) (by rcases hfa1 with ha1e | ⟨_,_,ha1e⟩<;>subst ha1e<;>kernel_rfl) (by rcases hfa1 with ha1e | ⟨_,_,ha1e⟩<;>subst ha1e<;>kernel_rfl) (by rcases hfa1 with ha1e | ⟨_,_,ha1e⟩<;>subst ha1e<;>kernel_rfl) (by rcases hfa1 with ha1e | ⟨_,_,ha1e⟩<;>subst ha1e<;>kernel_rfl) ha1013) Za.f) (by rcases hfa1 with ha1e | ⟨_,_,ha1e⟩<;>rcases hfa1013 with ha1013e | ⟨_,_,ha1013e⟩<;>subst ha1e ha1013e<;>kernel_rfl) ?_
   refine bn (tq ?_)
   refine kq (rgS ⟨[(1,ZbZ false a1_),(2,.loc 2 0),(5,a1013),(6,iv (w64 (i3+1)))],[(2,(Zd a0_))],H1014⟩ Za.f (by rcases hfa1013 with ha1013e | ⟨_,_,ha1013e⟩<;>subst ha1013e<;>kernel_rfl) ?_)
   obtain rfl:=Zb h
   exact ⟨_,rfl,⟨a1013,H1014,(by show _=_;rcases hfa1013 with ha1013e | ⟨_,_,ha1013e⟩<;>subst ha1013e<;>kernel_rfl),(HP.pick hH [0] rfl)⟩⟩
  refine kq (xq ?_)
  refine tx ?_
  obtain rfl:=Zb h
  exact ⟨_,rfl,rfl,⟨a1,H2,(by show _=_;rcases hfa1 with ha1e | ⟨_,_,ha1e⟩<;>subst ha1e<;>kernel_rfl),(HP.pick hH [0] rfl)⟩⟩
 rintro e s hq
 obtain ⟨rfl,hR⟩:=hq
 obtain ⟨a505,H506,rfl,hH⟩:=hR
 replace hH:HP H506 [.arr a505 1 false (List.map eI64 o1016)]:=hH
 have hfa505:=ZA (HP.get hH 0 rfl)
 refine bx (tq ?_)
 refine sq (rgS ⟨[(4,a505)],[],H506⟩ Za.f (by rcases hfa505 with ha505e | ⟨_,_,ha505e⟩<;>subst ha505e<;>kernel_rfl) ?_)
 refine tq (rt ?_)
 obtain rfl:=Zb h
 exact ZeM (H:=H506) (ys:=[a505]) (xs:=[.p (.sl 1 false (List.map eI64 o1016))]) (by rcases hfa505 with ha505e | ⟨_,_,ha505e⟩<;>subst ha505e<;>kernel_rfl) (by rcases hfa505 with ha505e | ⟨_,_,ha505e⟩<;>subst ha505e<;>kernel_rfl) (ZaS (HP.pure (k:=0) (frz:=false) eI64 hH rfl).2 Zb2) (by kernel_rfl)
theorem Zeu (N:Nat) (a0_:ZaM) (r:Ze) (h:ZaL N a0_=some r):Zab Try.prog 10 [.agg (Z3 a0_)] (.agg [Zg false r.Periods,Zp false r.Uses]):=by
 unfold ZaL at h
 have hH:HP ([]:List HO) []:=trivial
 refine ZF chk10 rfl rfl (Zr _ _ _ ?_) rfl
 refine sq (rg Za.f ?_)
 refine tq (sq ?_)
 refine rg Za.f (tq ?_)
 refine sq (sq ?_)
 refine rg Za.f (tq ?_)
 refine bk ?_
 obtain ⟨o515,ho515,h⟩:=bs h
 refine ZX ((ZO (fun (x:Int × (List Int)) s=>∃ (a1:AV) (H2:List HO),s=⟨[(1,.loc 1 0),(2,.loc 2 0),(3,.loc 3 0),(4,iv x.1)],[(1,(Z3 a0_)),(2,[Zg true [],Zp true []]),(3,[a1,Zp true []])],H2⟩∧HP H2 [.arr a1 1 false (List.map eI64 x.2)]) (fun x:Int × (List Int)=>Zae N a0_ x.1 x.2) (fun (p:(List Int)) e s=>e = .exit 0∧(∃ (a505:AV) (H506:List HO),s=⟨[(1,.loc 1 0),(2,.loc 2 0),(3,.loc 3 0)],[(1,(Z3 a0_)),(2,[Zg true [],Zp true []]),(3,[a505,Zp true []])],H506⟩∧HP H506 [.arr a505 1 false (List.map eI64 p)])) ?_ N _ o515 _ ho515 ⟨(.p (.sl 1 true [])),[],(by show _=_;kernel_rfl),(HP.pick (HP.nilArr hH 1 false) [0] rfl)⟩).mono ?_)
 ·clear h ho515
  rintro ⟨i3,l4⟩ o s h hR
  obtain ⟨a1,H2,rfl,hH⟩:=hR
  replace hH:HP H2 [.arr a1 1 false (List.map eI64 l4)]:=hH
  have hfa1:=ZA (HP.get hH 0 rfl)
  replace h:Zae N a0_ i3 l4=some o:=h
  unfold Zae at h
  refine sq (sq ?_)
  refine rgX ⟨[(1,.loc 1 0),(2,.loc 2 0),(3,.loc 3 0),(4,iv i3),(17,bv ((decide (i3<((List.length a0_.Periods:Nat):Int)))&&(decide (i3<5))))],[(1,(Z3 a0_)),(2,[Zg true [],Zp true []]),(3,[a1,Zp true []])],H2⟩ ?_ ?_
  ·refine (EP.u 3 (Zo (ys:=[ZbZ false a0_.Periods]) (h:=Zt (eI .u8))) ?_)
   rcases Bool.eq_false_or_eq_true (decide (i3<((List.length a0_.Periods:Nat):Int))) with hc507 | hc508
   ·exact (EP.u 0 (Zj (c:=(decide (i3<((List.length a0_.Periods:Nat):Int)))) (h:=hc507)) (EP.f (by simp only [hc507];rcases hfa1 with ha1e | ⟨_,_,ha1e⟩<;>subst ha1e<;>kernel_rfl)))
   exact (EP.u 0 (Zj (c:=(decide (i3<((List.length a0_.Periods:Nat):Int)))) (h:=hc508)) (EP.f (by simp only [hc508];rcases hfa1 with ha1e | ⟨_,_,ha1e⟩<;>subst ha1e<;>kernel_rfl)))
  refine tq (it h (fun hc509 h => ?_) (fun hc509 h => ?_))
  ·refine sk (tq ?_)
   refine kq (sq ?_)
   refine bk ?_
   obtain ⟨e510,he510,h⟩:=bs h
   obtain ⟨e511,he511,h⟩:=bs h
   obtain ⟨l514,hl514,h⟩:=bs h
   obtain ⟨a512,H513,ha512,hH⟩:=HP.app (k:=0) (a:=a1) (sz:=1) (frz:=false) eI64 hH rfl hl514
   replace hH:HP H513 [.arr a512 1 false (List.map eI64 l514)]:=hH
   have hfa512:=ZA (HP.get hH 0 rfl)
   refine rqS ⟨[(1,.loc 1 0),(2,.loc 2 0),(3,.loc 3 0),(4,iv i3)],[(1,(Z3 a0_)),(2,[Zg true [],Zp true []]),(3,[a512,Zp true []])],H513⟩ (Za.u (hm:=(by rcases hfa1 with ha1e | ⟨_,_,ha1e⟩<;>subst ha1e<;>kernel_rfl)) 6 (Zo (ys:=[ZbZ false a0_.Periods,iv i3]) (by rcases hfa1 with ha1e | ⟨_,_,ha1e⟩<;>subst ha1e<;>kernel_rfl) (Zm (eI .u8) he510)) (Za.u (hm:=(by rcases hfa1 with ha1e | ⟨_,_,ha1e⟩<;>subst ha1e<;>kernel_rfl)) 0 (ZV (ZD (sz:=1) (off:=0) (cs:=[.int .u8 e510]) (r:=.p (.int .u8 e510)) (eI .u8) he510 (by rcases hfa1 with ha1e | ⟨_,_,ha1e⟩<;>subst ha1e<;>kernel_rfl) (by rcases hfa1 with ha1e | ⟨_,_,ha1e⟩<;>subst ha1e<;>kernel_rfl) (by rcases hfa1 with ha1e | ⟨_,_,ha1e⟩<;>subst ha1e<;>kernel_rfl)) (by rcases hfa1 with ha1e | ⟨_,_,ha1e⟩<;>subst ha1e<;>kernel_rfl)) (Za.u (hm:=(by rcases hfa1 with ha1e | ⟨_,_,ha1e⟩<;>subst ha1e<;>kernel_rfl)) 1 (Zo (ys:=[Zg true [4,6,8,12,3,5,10,24],.p (.int .u8 (Int.tmod e510 8))]) (by rcases hfa1 with ha1e | ⟨_,_,ha1e⟩<;>subst ha1e<;>kernel_rfl) (Zm eI64 he511)) (Za.u (hm:=(by rcases hfa1 with ha1e | ⟨_,_,ha1e⟩<;>subst ha1e<;>kernel_rfl)) 0 (ZV (ZD (sz:=1) (off:=0) (cs:=[.int .i64 e511]) (r:=iv e511) eI64 he511 (by rcases hfa1 with ha1e | ⟨_,_,ha1e⟩<;>subst ha1e<;>kernel_rfl) (by rcases hfa1 with ha1e | ⟨_,_,ha1e⟩<;>subst ha1e<;>kernel_rfl) (by rcases hfa1 with ha1e | ⟨_,_,ha1e⟩<;>subst ha1e<;>kernel_rfl)) (by rcases hfa1 with ha1e | ⟨_,_,ha1e⟩<;>subst ha1e<;>kernel_rfl)) (Za.h (hm:=(by rcases hfa1 with ha1e | ⟨_,_,ha1e⟩<;>subst ha1e<;>kernel_rfl)) 1 (Zfq (H:=H2) (a:=a1) (b:=Zg true [e511]) (by rcases hfa1 with ha1e | ⟨_,_,ha1e⟩<;>subst ha1e<;>kernel_rfl) (by rcases hfa1 with ha1e | ⟨_,_,ha1e⟩<;>subst ha1e<;>kernel_rfl) (by rcases hfa1 with ha1e | ⟨_,_,ha1e⟩<;>subst ha1e<;>kernel_rfl) (by rcases hfa1 with ha1e | ⟨_,_,ha1e⟩<;>subst ha1e<;>kernel_rfl) ha512) (Za.f (h:=(by rcases hfa1 with ha1e | ⟨_,_,ha1e⟩<;>rcases hfa512 with ha512e | ⟨_,_,ha512e⟩<;>subst ha1e ha512e<;>kernel_rfl)))))))) (by rcases hfa1 with ha1e | ⟨_,_,ha1e⟩<;>rcases hfa512 with ha512e | ⟨_,_,ha512e⟩<;>subst ha1e ha512e<;>kernel_rfl) ?_
   refine bn (tq ?_)
   refine rgS ⟨[(1,.loc 1 0),(2,.loc 2 0),(3,.loc 3 0),(4,iv (w64 (i3+1)))],[(1,(Z3 a0_)),(2,[Zg true [],Zp true []]),(3,[a512,Zp true []])],H513⟩ Za.f (by rcases hfa512 with ha512e | ⟨_,_,ha512e⟩<;>subst ha512e<;>kernel_rfl) ?_
   obtain rfl:=Zb h
   exact ⟨_,rfl,⟨a512,H513,(by show _=_;rcases hfa512 with ha512e | ⟨_,_,ha512e⟩<;>subst ha512e<;>kernel_rfl),(HP.pick hH [0] rfl)⟩⟩
  refine kq (xq ?_)
  refine tx ?_
  obtain rfl:=Zb h
  exact ⟨_,rfl,rfl,⟨a1,H2,(by show _=_;rcases hfa1 with ha1e | ⟨_,_,ha1e⟩<;>subst ha1e<;>kernel_rfl),(HP.pick hH [0] rfl)⟩⟩
 rintro e s hq
 obtain ⟨rfl,hR⟩:=hq
 obtain ⟨a505,H506,rfl,hH⟩:=hR
 replace hH:HP H506 [.arr a505 1 false (List.map eI64 o515)]:=hH
 have hfa505:=ZA (HP.get hH 0 rfl)
 refine bx (tq ?_)
 refine sq (sq ?_)
 refine rgS ⟨[(1,.loc 1 0),(2,.loc 2 0),(3,.loc 3 0),(5,iv 0)],[(1,(Z3 a0_)),(2,[Zg true [],Zp true []]),(3,[a505,Zp true []])],H506⟩ Za.f (by rcases hfa505 with ha505e | ⟨_,_,ha505e⟩<;>subst ha505e<;>kernel_rfl) ?_
 refine tq (bk ?_)
 obtain ⟨o1043,ho1043,h⟩:=bs h
 refine ZX ((ZO (fun (x:Int × (List Zy)) s=>∃ (a516:AV) (a517:AV) (H518:List HO),s=⟨[(1,.loc 1 0),(2,.loc 2 0),(3,.loc 3 0),(5,iv x.1)],[(1,(Z3 a0_)),(2,[Zg true [],Zp true []]),(3,[a516,a517])],H518⟩∧HP H518 [.arr a516 1 false (List.map eI64 o515),.arr a517 4 false (List.map Zi x.2)]) (fun x:Int × (List Zy)=>Zad N a0_ o515 x.1 x.2) (fun (p:(List Zy)) e s=>e = .exit 2∧(∃ (a1021:AV) (a1022:AV) (H1023:List HO),s=⟨[(2,.loc 2 0),(3,.loc 3 0)],[(2,[Zg true [],Zp true []]),(3,[a1021,a1022])],H1023⟩∧HP H1023 [.arr a1021 1 false (List.map eI64 o515),.arr a1022 4 false (List.map Zi p)])) ?_ N _ o1043 _ ho1043 ⟨a505,(.p (.sl 4 true [])),H506,(by show _=_;rcases hfa505 with ha505e | ⟨_,_,ha505e⟩<;>subst ha505e<;>kernel_rfl),(HP.pick (HP.nilArr hH 4 false) [1,0] rfl)⟩).mono ?_)
 ·clear h ho1043
  rintro ⟨i519,l520⟩ o s h hR
  obtain ⟨a516,a517,H518,rfl,hH⟩:=hR
  replace hH:HP H518 [.arr a516 1 false (List.map eI64 o515),.arr a517 4 false (List.map Zi l520)]:=hH
  have hfa516:=ZA (HP.get hH 0 rfl)
  have hfa517:=ZA (HP.get hH 1 rfl)
  replace h:Zad N a0_ o515 i519 l520=some o:=h
  unfold Zad at h
  refine sq (sq ?_)
  obtain ⟨j1029,hj,h⟩:=bs h
  refine rgR (fun s=>s=⟨[(1,.loc 1 0),(2,.loc 2 0),(3,.loc 3 0),(5,iv i519),(48,bv j1029)],[(1,(Z3 a0_)),(2,[Zg true [],Zp true []]),(3,[a516,a517])],H518⟩) ?_ ?_
  ·clear h
   refine (EP.u 3 (Zo (ys:=[ZfD false a0_.Uses]) (h:=Zt Zd2)) ?_)
   rcases ZH hj with ⟨hc1024,hj⟩ | ⟨hc1028,hj⟩
   ·refine (EP.u 0 (Zj (c:=(decide (i519<((List.length a0_.Uses:Nat):Int)))) (h:=hc1024)) ?_)
    rcases ZH hj with ⟨hc1025,hj⟩ | ⟨hc1027,hj⟩
    ·refine (EP.u 2 (Zj (c:=(decide (i519<12))) (h:=hc1025)) ?_)
     have hln1026:=HP.len (k:=0) (a:=a516) (sz:=1) (frz:=false) (l:=o515) eI64 hH rfl
     obtain rfl:=Zb hj
     exact (EP.u (hm:=(by rcases hfa516 with ha516e | ⟨_,_,ha516e⟩<;>rcases hfa517 with ha517e | ⟨_,_,ha517e⟩<;>subst ha516e ha517e<;>kernel_rfl)) 4 (Zo (ys:=[a516]) (by rcases hfa516 with ha516e | ⟨_,_,ha516e⟩<;>rcases hfa517 with ha517e | ⟨_,_,ha517e⟩<;>subst ha516e ha517e<;>kernel_rfl) hln1026) (EP.f (by show _=_;rcases hfa516 with ha516e | ⟨_,_,ha516e⟩<;>rcases hfa517 with ha517e | ⟨_,_,ha517e⟩<;>subst ha516e ha517e<;>kernel_rfl) (h:=(by rcases hfa516 with ha516e | ⟨_,_,ha516e⟩<;>rcases hfa517 with ha517e | ⟨_,_,ha517e⟩<;>subst ha516e ha517e<;>kernel_rfl))))
    obtain rfl:=Zb hj
    exact (EP.u 2 (Zj (c:=(decide (i519<12))) (h:=hc1027)) (EP.f (by show _=_;rcases hfa516 with ha516e | ⟨_,_,ha516e⟩<;>rcases hfa517 with ha517e | ⟨_,_,ha517e⟩<;>subst ha516e ha517e<;>kernel_rfl)))
   obtain rfl:=Zb hj
   exact (EP.u 0 (Zj (c:=(decide (i519<((List.length a0_.Uses:Nat):Int)))) (h:=hc1028)) (EP.f (by show _=_;rcases hfa516 with ha516e | ⟨_,_,ha516e⟩<;>rcases hfa517 with ha517e | ⟨_,_,ha517e⟩<;>subst ha516e ha517e<;>kernel_rfl)))
  clear hj
  rintro s hR
  obtain rfl:=hR
  refine tq (it h (fun hc1030 h => ?_) (fun hc1030 h => ?_))
  ·refine sk (tq ?_)
   refine kq (sq ?_)
   refine bk (sq ?_)
   obtain ⟨e1031,he1031,h⟩:=bs h
   refine rgS ⟨[(1,.loc 1 0),(2,.loc 2 0),(3,.loc 3 0),(5,iv i519),(6,.loc 6 0)],[(1,(Z3 a0_)),(2,[Zg true [],Zp true []]),(3,[a516,a517]),(6,(Zf8 e1031))],H518⟩ (Za.u 3 (Zo (ys:=[ZfD false a0_.Uses,iv i519]) (h:=Zm Zd2 he1031)) (Za.u 0 (ZD (sz:=4) (off:=0) (cs:=[.int .u8 e1031.x0,.int .u8 e1031.x1,.int .u8 e1031.x2,.int .u8 e1031.x3]) (r:=.agg (Zf8 e1031)) Zd2 he1031) Za.f)) (by rcases hfa516 with ha516e | ⟨_,_,ha516e⟩<;>rcases hfa517 with ha517e | ⟨_,_,ha517e⟩<;>subst ha516e ha517e<;>kernel_rfl) ?_
   refine tq (sq ?_)
   have hln1032:=HP.len (k:=0) (a:=a516) (sz:=1) (frz:=false) (l:=o515) eI64 hH rfl
   obtain ⟨m1033,hm1033,h⟩:=bs h
   refine rgS ⟨[(1,.loc 1 0),(2,.loc 2 0),(3,.loc 3 0),(5,iv i519),(6,.loc 6 0),(7,iv m1033)],[(1,(Z3 a0_)),(2,[Zg true [],Zp true []]),(3,[a516,a517]),(6,(Zf8 e1031))],H518⟩ (Za.u (hm:=(by rcases hfa516 with ha516e | ⟨_,_,ha516e⟩<;>rcases hfa517 with ha517e | ⟨_,_,ha517e⟩<;>subst ha516e ha517e<;>kernel_rfl)) 5 (Zo (ys:=[a516]) (by rcases hfa516 with ha516e | ⟨_,_,ha516e⟩<;>rcases hfa517 with ha517e | ⟨_,_,ha517e⟩<;>subst ha516e ha517e<;>kernel_rfl) hln1032) (Za.u (hm:=(by rcases hfa516 with ha516e | ⟨_,_,ha516e⟩<;>rcases hfa517 with ha517e | ⟨_,_,ha517e⟩<;>subst ha516e ha517e<;>kernel_rfl)) 0 (Zo (ys:=[iv (w64 (e1031.x0)),iv ((List.length o515:Nat):Int)]) (by rcases hfa516 with ha516e | ⟨_,_,ha516e⟩<;>rcases hfa517 with ha517e | ⟨_,_,ha517e⟩<;>subst ha516e ha517e<;>kernel_rfl) (Zbw hm1033)) (Za.f (h:=(by rcases hfa516 with ha516e | ⟨_,_,ha516e⟩<;>rcases hfa517 with ha517e | ⟨_,_,ha517e⟩<;>subst ha516e ha517e<;>kernel_rfl))))) (by rcases hfa516 with ha516e | ⟨_,_,ha516e⟩<;>rcases hfa517 with ha517e | ⟨_,_,ha517e⟩<;>subst ha516e ha517e<;>kernel_rfl) ?_
   refine tq (sq ?_)
   obtain ⟨e1034,he1034,h⟩:=bs h
   obtain ⟨id1035,ver1036,_,hid1035f,hid1035,hid1035a,hid1035v⟩:=HP.elem (k:=0) (a:=a516) (sz:=1) (frz:=false) eI64 hH rfl he1034
   refine rgS ⟨[(1,.loc 1 0),(2,.loc 2 0),(3,.loc 3 0),(5,iv i519),(6,.loc 6 0),(7,iv m1033),(8,iv e1034)],[(1,(Z3 a0_)),(2,[Zg true [],Zp true []]),(3,[a516,a517]),(6,(Zf8 e1031))],H518⟩ (Za.u (hm:=(by rcases hfa516 with ha516e | ⟨_,_,ha516e⟩<;>rcases hfa517 with ha517e | ⟨_,_,ha517e⟩<;>subst ha516e ha517e<;>kernel_rfl)) 3 (Zo (ys:=[a516,iv m1033]) (by rcases hfa516 with ha516e | ⟨_,_,ha516e⟩<;>rcases hfa517 with ha517e | ⟨_,_,ha517e⟩<;>subst ha516e ha517e<;>kernel_rfl) (hid1035v .i64)) (Za.u (hm:=(by rcases hfa516 with ha516e | ⟨_,_,ha516e⟩<;>rcases hfa517 with ha517e | ⟨_,_,ha517e⟩<;>subst ha516e ha517e<;>kernel_rfl)) 0 (ZbV (H:=H518) (off:=0) (cs:=[.int .i64 e1034]) (r:=iv e1034) eI64 he1034 hid1035 (by rcases hfa516 with ha516e | ⟨_,_,ha516e⟩<;>rcases hfa517 with ha517e | ⟨_,_,ha517e⟩<;>subst ha516e ha517e<;>kernel_rfl) (by rcases hfa516 with ha516e | ⟨_,_,ha516e⟩<;>rcases hfa517 with ha517e | ⟨_,_,ha517e⟩<;>subst ha516e ha517e<;>kernel_rfl) (by rcases hfa516 with ha516e | ⟨_,_,ha516e⟩<;>rcases hfa517 with ha517e | ⟨_,_,ha517e⟩<;>subst ha516e ha517e<;>kernel_rfl) (by rcases hfa516 with ha516e | ⟨_,_,ha516e⟩<;>rcases hfa517 with ha517e | ⟨_,_,ha517e⟩<;>subst ha516e ha517e<;>kernel_rfl)) (Za.f (h:=(by rcases hfa516 with ha516e | ⟨_,_,ha516e⟩<;>rcases hfa517 with ha517e | ⟨_,_,ha517e⟩<;>subst ha516e ha517e<;>kernel_rfl))))) (by rcases hfa516 with ha516e | ⟨_,_,ha516e⟩<;>rcases hfa517 with ha517e | ⟨_,_,ha517e⟩<;>subst ha516e ha517e<;>kernel_rfl) ?_
   refine tq ?_
   obtain ⟨m1037,hm1037,h⟩:=bs h
   obtain ⟨m1038,hm1038,h⟩:=bs h
   obtain ⟨m1039,hm1039,h⟩:=bs h
   obtain ⟨l1042,hl1042,h⟩:=bs h
   obtain ⟨a1040,H1041,ha1040,hH⟩:=HP.app (k:=1) (a:=a517) (sz:=4) (frz:=false) Zi hH rfl hl1042
   replace hH:HP H1041 [.arr a516 1 false (List.map eI64 o515),.arr a1040 4 false (List.map Zi l1042)]:=hH
   have hfa1040:=ZA (HP.get hH 1 rfl)
   refine rqS ⟨[(1,.loc 1 0),(2,.loc 2 0),(3,.loc 3 0),(5,iv i519)],[(1,(Z3 a0_)),(2,[Zg true [],Zp true []]),(3,[a516,a1040])],H1041⟩ (Za.u (hm:=(by rcases hfa516 with ha516e | ⟨_,_,ha516e⟩<;>rcases hfa517 with ha517e | ⟨_,_,ha517e⟩<;>subst ha516e ha517e<;>kernel_rfl)) 11 (Zo (ys:=[iv (w64 (e1031.x2)),iv e1034]) (by rcases hfa516 with ha516e | ⟨_,_,ha516e⟩<;>rcases hfa517 with ha517e | ⟨_,_,ha517e⟩<;>subst ha516e ha517e<;>kernel_rfl) (Zbw hm1037)) (Za.u (hm:=(by rcases hfa516 with ha516e | ⟨_,_,ha516e⟩<;>rcases hfa517 with ha517e | ⟨_,_,ha517e⟩<;>subst ha516e ha517e<;>kernel_rfl)) 4 (Zo (ys:=[iv (w64 (e1031.x3)),iv e1034]) (by rcases hfa516 with ha516e | ⟨_,_,ha516e⟩<;>rcases hfa517 with ha517e | ⟨_,_,ha517e⟩<;>subst ha516e ha517e<;>kernel_rfl) (Zbw hm1038)) (Za.u (hm:=(by rcases hfa516 with ha516e | ⟨_,_,ha516e⟩<;>rcases hfa517 with ha517e | ⟨_,_,ha517e⟩<;>subst ha516e ha517e<;>kernel_rfl)) 2 (Zo (ys:=[iv (Int.tmod m1038 4),iv e1034]) (by rcases hfa516 with ha516e | ⟨_,_,ha516e⟩<;>rcases hfa517 with ha517e | ⟨_,_,ha517e⟩<;>subst ha516e ha517e<;>kernel_rfl) (Zbw hm1039)) (Za.h (hm:=(by rcases hfa516 with ha516e | ⟨_,_,ha516e⟩<;>rcases hfa517 with ha517e | ⟨_,_,ha517e⟩<;>subst ha516e ha517e<;>kernel_rfl)) 3 (Zfq (H:=H518) (a:=a517) (b:=Zp true [(Zy.mk m1033 (w64 ((Int.tmod e1031.x1 4))) m1037 (w64 (1+m1039)))]) (by rcases hfa516 with ha516e | ⟨_,_,ha516e⟩<;>rcases hfa517 with ha517e | ⟨_,_,ha517e⟩<;>subst ha516e ha517e<;>kernel_rfl) (by rcases hfa516 with ha516e | ⟨_,_,ha516e⟩<;>rcases hfa517 with ha517e | ⟨_,_,ha517e⟩<;>subst ha516e ha517e<;>kernel_rfl) (by rcases hfa516 with ha516e | ⟨_,_,ha516e⟩<;>rcases hfa517 with ha517e | ⟨_,_,ha517e⟩<;>subst ha516e ha517e<;>kernel_rfl) (by rcases hfa516 with ha516e | ⟨_,_,ha516e⟩<;>rcases hfa517 with ha517e | ⟨_,_,ha517e⟩<;>subst ha516e ha517e<;>kernel_rfl) ha1040) (Za.f (h:=(by rcases hfa1040 with ha1040e | ⟨_,_,ha1040e⟩<;>rcases hfa516 with ha516e | ⟨_,_,ha516e⟩<;>rcases hfa517 with ha517e | ⟨_,_,ha517e⟩<;>subst ha1040e ha516e ha517e<;>kernel_rfl))))))) (by rcases hfa1040 with ha1040e | ⟨_,_,ha1040e⟩<;>rcases hfa516 with ha516e | ⟨_,_,ha516e⟩<;>rcases hfa517 with ha517e | ⟨_,_,ha517e⟩<;>subst ha1040e ha516e ha517e<;>kernel_rfl) ?_
   refine bn (tq ?_)
   refine rgS ⟨[(1,.loc 1 0),(2,.loc 2 0),(3,.loc 3 0),(5,iv (w64 (i519+1)))],[(1,(Z3 a0_)),(2,[Zg true [],Zp true []]),(3,[a516,a1040])],H1041⟩ Za.f (by rcases hfa1040 with ha1040e | ⟨_,_,ha1040e⟩<;>rcases hfa516 with ha516e | ⟨_,_,ha516e⟩<;>subst ha1040e ha516e<;>kernel_rfl) ?_
   obtain rfl:=Zb h
   exact ⟨_,rfl,⟨a516,a1040,H1041,(by show _=_;rcases hfa1040 with ha1040e | ⟨_,_,ha1040e⟩<;>rcases hfa516 with ha516e | ⟨_,_,ha516e⟩<;>subst ha1040e ha516e<;>kernel_rfl),(HP.pick hH [0,1] rfl)⟩⟩
  refine kq (xq ?_)
  refine tx ?_
  obtain rfl:=Zb h
  exact ⟨_,rfl,rfl,⟨a516,a517,H518,(by show _=_;rcases hfa516 with ha516e | ⟨_,_,ha516e⟩<;>rcases hfa517 with ha517e | ⟨_,_,ha517e⟩<;>subst ha516e ha517e<;>kernel_rfl),(HP.pick hH [0,1] rfl)⟩⟩
 rintro e s hq
 obtain ⟨rfl,hR⟩:=hq
 obtain ⟨a1021,a1022,H1023,rfl,hH⟩:=hR
 replace hH:HP H1023 [.arr a1021 1 false (List.map eI64 o515),.arr a1022 4 false (List.map Zi o1043)]:=hH
 have hfa1021:=ZA (HP.get hH 0 rfl)
 have hfa1022:=ZA (HP.get hH 1 rfl)
 refine bx (tq ?_)
 refine sq (rgS ⟨[(2,.loc 2 0)],[(2,[a1021,a1022])],H1023⟩ (Za.f (h:=(by rcases hfa1021 with ha1021e | ⟨_,_,ha1021e⟩<;>rcases hfa1022 with ha1022e | ⟨_,_,ha1022e⟩<;>subst ha1021e ha1022e<;>kernel_rfl))) (by rcases hfa1021 with ha1021e | ⟨_,_,ha1021e⟩<;>rcases hfa1022 with ha1022e | ⟨_,_,ha1022e⟩<;>subst ha1021e ha1022e<;>kernel_rfl) ?_)
 refine tq (rt ?_)
 obtain rfl:=Zb h
 exact ZeM (H:=H1023) (ys:=[.agg [a1021,a1022]]) (xs:=[.agg [.p (.sl 1 false (List.map eI64 o515)),.p (.sl 4 false (List.map Zi o1043))]]) (by rcases hfa1021 with ha1021e | ⟨_,_,ha1021e⟩<;>rcases hfa1022 with ha1022e | ⟨_,_,ha1022e⟩<;>subst ha1021e ha1022e<;>kernel_rfl) (by rcases hfa1021 with ha1021e | ⟨_,_,ha1021e⟩<;>rcases hfa1022 with ha1022e | ⟨_,_,ha1022e⟩<;>subst ha1021e ha1022e<;>kernel_rfl) (ZaS (Zj0 (Ze6 (HP.pure (k:=0) (frz:=false) eI64 hH rfl).1 (Ze6 (HP.pure (k:=1) (frz:=false) Zi hH rfl).1 Zj1))) Zb2) (by kernel_rfl)
theorem Zjt (N:Nat) (r:Zv) (h:ZgE N=some r):Zab Try.prog 24 [] (.agg [iv r.Nodes,s_eB false r.Station,Zk false r.Links]):=by
 unfold ZgE at h
 have hH:HP ([]:List HO) []:=trivial
 refine ZF chk24 rfl rfl (Zr _ _ _ ?_) rfl
 refine sq (rg Za.f ?_)
 refine tq (sq ?_)
 refine rg Za.f (tq ?_)
 refine rt ?_
 obtain rfl:=Zb h
 exact Zx (by kernel_rfl)
theorem Zak (N:Nat) (a0_:Int) (a1_:Int) (a2_:Int) (r:Zw) (h:Zal N a0_ a1_ a2_=some r):Zab Try.prog 26 [iv a0_,iv a1_,iv a2_] (.agg [iv r.Id,iv r.Talker,iv r.Listener,iv r.Class,iv r.Size,iv r.Period,iv r.Bucket.Burst,iv r.Bucket.Rate,iv r.Deadline,ZI false r.Routes]):=by
 unfold Zal at h
 have hH:HP ([]:List HO) []:=trivial
 refine ZF chk26 rfl rfl (Zr _ _ _ ?_) rfl
 refine sq (rg Za.f ?_)
 refine tq (sq ?_)
 refine rg Za.f (tq ?_)
 refine rt ?_
 obtain rfl:=Zb h
 exact Zx (by kernel_rfl)
theorem ZdN (N:Nat) (a0_:Ze) (a1_:Int) (a2_:Int) (r:Bool) (h:Zb1 N a0_ a1_ a2_=some r):Zab Try.prog 28 [.agg (Zd a0_),iv a1_,iv a2_] (bv r):=by
 unfold Zb1 at h
 have hH:HP ([]:List HO) []:=trivial
 refine ZF chk28 rfl rfl (Zr _ _ _ ?_) rfl
 refine sq (rg Za.f ?_)
 refine tq (sq ?_)
 obtain ⟨j4,hj,h⟩:=bs h
 refine rgR (fun s=>s=⟨[(6,bv j4)],[],[]⟩) ?_ ?_
 ·clear h
  rcases ZH hj with ⟨hc1,hj⟩ | ⟨hc3,hj⟩
  ·refine (EP.u 1 (Zj (c:=(decide (a2_ ≥ 0))) (h:=hc1)) ?_)
   obtain ⟨e2,he2,hj⟩:=bs hj
   obtain rfl:=Zb hj
   exact (EP.u 5 (Zo (ys:=[Zg false a0_.Periods,iv a1_]) (h:=Zm eI64 he2)) (EP.u 0 (ZD (sz:=1) (off:=0) (cs:=[.int .i64 e2]) (r:=iv e2) eI64 he2) (EP.f (by show _=_;kernel_rfl))))
  obtain rfl:=Zb hj
  exact (EP.u 1 (Zj (c:=(decide (a2_ ≥ 0))) (h:=hc3)) (EP.f (by show _=_;kernel_rfl)))
 clear hj
 rintro s hR
 obtain rfl:=hR
 refine tq (rt ?_)
 obtain rfl:=Zb h
 exact Zx (by kernel_rfl)
theorem Zjj (N:Nat) (a0_:Ze) (a1_:Ze) (r:Bool) (h:Zgt N a0_ a1_=some r):Zab Try.prog 35 [.agg (Zd a0_),.agg (Zd a1_)] (bv r):=by
 unfold Zgt at h
 have hH:HP ([]:List HO) []:=trivial
 refine ZF chk35 rfl rfl (Zr _ _ _ ?_) rfl
 refine sq (rg Za.f ?_)
 refine tq (sq ?_)
 refine sq (rgX ⟨[(2,.loc 2 0),(3,.loc 3 0),(22,bv ((((List.length a0_.Periods:Nat):Int) != ((List.length a1_.Periods:Nat):Int))||(((List.length a0_.Uses:Nat):Int) != ((List.length a1_.Uses:Nat):Int))))],[(2,(Zd a0_)),(3,(Zd a1_))],[]⟩ ?_ ?_)
 ·refine (EP.u 2 (Zo (ys:=[Zg false a0_.Periods]) (h:=Zt eI64)) (EP.u 2 (Zo (ys:=[Zg false a1_.Periods]) (h:=Zt eI64)) ?_))
  rcases Bool.eq_false_or_eq_true (((List.length a0_.Periods:Nat):Int) != ((List.length a1_.Periods:Nat):Int)) with hc1 | hc2
  ·exact (EP.u 0 (Zj (c:=(((List.length a0_.Periods:Nat):Int) != ((List.length a1_.Periods:Nat):Int))) (h:=hc1)) (EP.f (by simp only [hc1];kernel_rfl)))
  exact (EP.u 0 (Zj (c:=(((List.length a0_.Periods:Nat):Int) != ((List.length a1_.Periods:Nat):Int))) (h:=hc2)) (EP.u 3 (Zo (ys:=[Zp false a0_.Uses]) (h:=Zt Zi)) (EP.u 2 (Zo (ys:=[Zp false a1_.Uses]) (h:=Zt Zi)) (EP.f (by simp only [hc2];kernel_rfl)))))
 refine tq (it h (fun hc3 h => ?_) (fun hc3 h => ?_))
 ·refine sq (rg Za.f ?_)
  refine tq (rt ?_)
  refine tr ?_
  obtain rfl:=Zb h
  exact Zx (by kernel_rfl)
 refine sk (tq ?_)
 refine kq (sq ?_)
 refine sq (rg Za.f ?_)
 refine tq (bk ?_)
 obtain ⟨o509,ho509,h⟩:=bs h
 refine ZX ((ZO (fun (x:Int) s=>s=⟨[(2,.loc 2 0),(3,.loc 3 0),(5,iv x)],[(2,(Zd a0_)),(3,(Zd a1_))],[]⟩) (fun x:Int=>Zdb N a0_ a1_ x) (fun (p:(Unit) ⊕ (Bool)) e s=>match p with | (.inl p)=>e = .exit 0∧(s=⟨[(2,.loc 2 0),(3,.loc 3 0)],[(2,(Zd a0_)),(3,(Zd a1_))],[]⟩) | (.inr p)=>e = .ret∧∃ xs,resL s i35.res=some xs∧ZaD xs=bv p) ?_ N _ o509 _ ho509 (by show _=_;kernel_rfl)).mono ?_)
 ·clear h ho509
  rintro i4 o s h hR
  obtain rfl:=hR
  replace h:Zdb N a0_ a1_ i4=some o:=h
  unfold Zdb at h
  refine sq (sq ?_)
  refine rg (Za.u 3 (Zo (ys:=[Zg false a0_.Periods]) (h:=Zt eI64)) Za.f) (tq ?_)
  refine it h (fun hc505 h => ?_) (fun hc505 h => ?_)
  ·refine sk (tq ?_)
   refine kq (sq ?_)
   refine bk (sq ?_)
   obtain ⟨e506,he506,h⟩:=bs h
   obtain ⟨e507,he507,h⟩:=bs h
   refine rq (Za.u 3 (Zo (ys:=[Zg false a0_.Periods,iv i4]) (h:=Zm eI64 he506)) (Za.u 0 (ZV (ZD (sz:=1) (off:=0) (cs:=[.int .i64 e506]) (r:=iv e506) eI64 he506)) (Za.u 3 (Zo (ys:=[Zg false a1_.Periods,iv i4]) (h:=Zm eI64 he507)) (Za.u 0 (ZV (ZD (sz:=1) (off:=0) (cs:=[.int .i64 e507]) (r:=iv e507) eI64 he507)) Za.f)))) (tq ?_)
   refine it h (fun hc508 h => ?_) (fun hc508 h => ?_)
   ·refine sq (rg Za.f ?_)
    refine tq (rt ?_)
    refine br (tr ?_)
    obtain rfl:=Zb h
    exact ⟨_,rfl,rfl,Zx (by kernel_rfl)⟩
   refine sk (bn ?_)
   refine tq (kq ?_)
   refine rg Za.f ?_
   obtain rfl:=Zb h
   exact ⟨_,rfl,(by show _=_;kernel_rfl)⟩
  refine kq (xq ?_)
  refine tx ?_
  obtain rfl:=Zb h
  exact ⟨_,rfl,rfl,(by show _=_;kernel_rfl)⟩
 rintro e s hq
 rcases o509 with p510 | p1019
 ·dsimp only at h hq
  obtain ⟨rfl,hR⟩:=hq
  obtain rfl:=hR
  refine bx (tq ?_)
  refine sq (sq ?_)
  refine rg Za.f (tq ?_)
  refine bk ?_
  obtain ⟨o1016,ho1016,h⟩:=bs h
  refine ZX ((ZO (fun (x:Int) s=>s=⟨[(2,.loc 2 0),(3,.loc 3 0),(6,iv x)],[(2,(Zd a0_)),(3,(Zd a1_))],[]⟩) (fun x:Int=>Zda N a0_ a1_ x) (fun (p:(Unit) ⊕ (Bool)) e s=>match p with | (.inl p)=>e = .exit 2∧(s=⟨[],[],[]⟩) | (.inr p)=>e = .ret∧∃ xs,resL s i35.res=some xs∧ZaD xs=bv p) ?_ N _ o1016 _ ho1016 (by show _=_;kernel_rfl)).mono ?_)
  ·clear h ho1016
   rintro i511 o s h hR
   obtain rfl:=hR
   replace h:Zda N a0_ a1_ i511=some o:=h
   unfold Zda at h
   refine sq (sq ?_)
   refine rg (Za.u 3 (Zo (ys:=[Zp false a0_.Uses]) (h:=Zt Zi)) Za.f) (tq ?_)
   refine it h (fun hc1012 h => ?_) (fun hc1012 h => ?_)
   ·refine sk (tq ?_)
    refine kq (sq ?_)
    refine bk (sq ?_)
    obtain ⟨e1013,he1013,h⟩:=bs h
    obtain ⟨e1014,he1014,h⟩:=bs h
    refine rq (Za.u 3 (Zo (ys:=[Zp false a0_.Uses,iv i511]) (h:=Zm Zi he1013)) (Za.u 0 (ZV (ZD (sz:=4) (off:=0) (cs:=[.int .i64 e1013.Stream,.int .i64 e1013.Port,.int .i64 e1013.From,.int .i64 e1013.Long]) (r:=.agg (ZP e1013)) Zi he1013)) (Za.u 3 (Zo (ys:=[Zp false a1_.Uses,iv i511]) (h:=Zm Zi he1014)) (Za.u 0 (ZV (ZD (sz:=4) (off:=0) (cs:=[.int .i64 e1014.Stream,.int .i64 e1014.Port,.int .i64 e1014.From,.int .i64 e1014.Long]) (r:=.agg (ZP e1014)) Zi he1014)) Za.f)))) (tq ?_)
    refine it h (fun hc1015 h => ?_) (fun hc1015 h => ?_)
    ·refine sq (rg Za.f ?_)
     refine tq (rt ?_)
     refine br (tr ?_)
     obtain rfl:=Zb h
     exact ⟨_,rfl,rfl,Zx (by kernel_rfl)⟩
    refine sk (bn ?_)
    refine tq (kq ?_)
    refine rg Za.f ?_
    obtain rfl:=Zb h
    exact ⟨_,rfl,(by show _=_;kernel_rfl)⟩
   refine kq (xq ?_)
   refine tx ?_
   obtain rfl:=Zb h
   exact ⟨_,rfl,rfl,(by show _=_;kernel_rfl)⟩
  rintro e s hq
  rcases o1016 with p1017 | p1018
  ·dsimp only at h hq
   obtain ⟨rfl,hR⟩:=hq
   obtain rfl:=hR
   refine bx (tq ?_)
   refine sq (rg Za.f ?_)
   refine tq (rt ?_)
   obtain rfl:=Zb h
   exact Zx (by kernel_rfl)
  dsimp only at h hq
  obtain ⟨rfl,hq⟩:=hq
  refine br (tr ?_)
  obtain rfl:=Zb h
  exact hq
 dsimp only at h hq
 obtain ⟨rfl,hq⟩:=hq
 refine br (tr ?_)
 obtain rfl:=Zb h
 exact hq
theorem Zen (N:Nat) (a0_:Ze) (a1_:Zy) (a2_:Int) (r:Zs) (h:ZbG N a0_ a1_ a2_=some r):Zab Try.prog 39 [.agg (Zd a0_),.agg (ZP a1_),iv a2_] (.agg [iv r.Period,iv r.From,iv r.Long]):=by
 unfold ZbG at h
 have hH:HP ([]:List HO) []:=trivial
 refine ZF chk39 rfl rfl (Zr _ _ _ ?_) rfl
 refine sq (rg Za.f ?_)
 refine tq (sq ?_)
 obtain ⟨e1,he1,h⟩:=bs h
 refine rg (Za.u 4 (Zo (ys:=[Zg false a0_.Periods,iv a1_.Stream]) (h:=Zm eI64 he1)) (Za.u 0 (ZD (sz:=1) (off:=0) (cs:=[.int .i64 e1]) (r:=iv e1) eI64 he1) Za.f)) (tq ?_)
 refine sq ?_
 obtain ⟨m2,hm2,h⟩:=bs h
 refine rq (Za.u 6 (Zo (ys:=[iv (w64 (a1_.From+a2_)),iv e1]) (h:=Zbw hm2)) Za.f) (tq ?_)
 refine rt ?_
 obtain rfl:=Zb h
 exact Zx (by kernel_rfl)
theorem Zjk (N:Nat) (a0_:Ze) (a1_:Int) (a2_:Int) (H:List HO) (r:Ze × Int × Int) (h:Ze7 N a0_ a1_ a2_=some r):∃ (id0_ id1_ id2_:Nat) (H':List HO),Zas Try.prog 45 [.agg (Zd a0_),iv a1_,iv a2_] H (.fn 55 [] [.ptr id0_ 0,.ptr id1_ 0,.ptr id2_ 0]) H'∧Fp H H' [] [.cel id0_ [Zg false r.1.Periods,Zp false r.1.Uses],.cel id1_ [iv r.2.1],.cel id2_ [iv r.2.2]]:=by
 suffices hs:∃ r' H',Zas Try.prog 45 [.agg (Zd a0_),iv a1_,iv a2_] H r' H'∧∃ (id0_ id1_ id2_:Nat),r' = .fn 55 [] [.ptr id0_ 0,.ptr id1_ 0,.ptr id2_ 0]∧Fp H H' [] [.cel id0_ [Zg false r.1.Periods,Zp false r.1.Uses],.cel id1_ [iv r.2.1],.cel id2_ [iv r.2.2]] by
  obtain ⟨_,H',h1,id0_,id1_,id2_,rfl,h2⟩:=hs
  exact ⟨id0_,id1_,id2_,H',h1,h2⟩
 unfold Ze7 at h
 have hH:Fp H H [] []:=Fp.refl trivial
 refine ZgL chk45 (fun r' H'=>∃ (id0_ id1_ id2_:Nat),r' = .fn 55 [] [.ptr id0_ 0,.ptr id1_ 0,.ptr id2_ 0]∧Fp H H' [] [.cel id0_ [Zg false r.1.Periods,Zp false r.1.Uses],.cel id1_ [iv r.2.1],.cel id2_ [iv r.2.2]]) (fun r' H' ⟨_,_,_,e,_⟩=>by rw [e];rfl) rfl rfl ?_
 refine sq ?_
 obtain ⟨id1,H2,hid1,hH2,hH⟩:=Fp.newCell hH (Zd a0_)
 replace hH:Fp H H2 [] [.cel id1 (Zd a0_)]:=hH
 obtain ⟨id3,H4,hid3,hH4,hH⟩:=Fp.newCell hH [iv a1_]
 replace hH:Fp H H4 [] [.cel id3 [iv a1_],.cel id1 (Zd a0_)]:=hH
 obtain ⟨id5,H6,hid5,hH6,hH⟩:=Fp.newCell hH [iv a2_]
 replace hH:Fp H H6 [] [.cel id5 [iv a2_],.cel id3 [iv a1_],.cel id1 (Zd a0_)]:=hH
 refine rg (Za.h 0 (ZaQ (H:=H) (v:=.agg (Zd a0_)) (hid:=hid1) (hH:=hH2)) (Za.h 0 (ZaQ (H:=H2) (v:=iv a1_) (hid:=hid3) (hH:=hH4)) (Za.h 0 (ZaQ (H:=H4) (v:=iv a2_) (hid:=hid5) (hH:=hH6)) Za.f))) (tq ?_)
 refine sq (rg Za.f ?_)
 refine tq (rt ?_)
 obtain rfl:=Zb h
 exact ⟨[.fn 55 [] [.ptr id1 0,.ptr id3 0,.ptr id5 0]],(by kernel_rfl),id1,id3,id5,rfl,Fp.pk hH [2,1,0] rfl⟩
theorem ZU (N:Nat) (a0_:Int) (a1_:Int) (a2_:Int) (r:Bool) (h:Z5 N a0_ a1_ a2_=some r):Zab Try.prog 51 [iv a0_,iv a1_,iv a2_] (bv r):=by
 unfold Z5 at h
 have hH:HP ([]:List HO) []:=trivial
 refine ZF chk51 rfl rfl (Zr _ _ _ ?_) rfl
 refine sq (rg Za.f ?_)
 refine tq (sq ?_)
 refine rgX ⟨[(6,bv ((decide (a0_ ≥ a1_))&&(decide (a0_≤a2_))))],[],[]⟩ ?_ ?_
 ·rcases Bool.eq_false_or_eq_true (decide (a0_ ≥ a1_)) with hc1 | hc2
  ·exact (EP.u 2 (Zj (c:=(decide (a0_ ≥ a1_))) (h:=hc1)) (EP.f (by simp only [hc1];kernel_rfl)))
  exact (EP.u 2 (Zj (c:=(decide (a0_ ≥ a1_))) (h:=hc2)) (EP.f (by simp only [hc2];kernel_rfl)))
 refine tq (rt ?_)
 obtain rfl:=Zb h
 exact Zx (by kernel_rfl)
theorem Zed (N:Nat) (a0_:Int) (a1_:Int) (r:Int) (h:ZdY N a0_ a1_=some r):Zab Try.prog 53 [iv a0_,iv a1_] (iv r):=by
 unfold ZdY at h
 have hH:HP ([]:List HO) []:=trivial
 refine ZF chk53 rfl rfl (Zr _ _ _ ?_) rfl
 refine sq (rg Za.f ?_)
 refine tq (sq ?_)
 obtain ⟨q1,hq1,h⟩:=bs h
 refine rg (Za.u 2 (Zo (ys:=[iv a0_,iv a1_]) (h:=ZfR hq1)) Za.f) (tq ?_)
 obtain ⟨j502,hj502,h⟩:=bs h
 refine Zd5 [5] (fun s=>s=⟨[(5,iv j502)],[],[]⟩) ?_ ?_
 ·clear h
  have h:=hj502
  refine sq ?_
  obtain ⟨m503,hm503,h⟩:=bs h
  refine rg (Za.u 2 (Zo (ys:=[iv a0_,iv a1_]) (h:=Zbw hm503)) Za.f) (tq ?_)
  refine it h (fun hc504 h => ?_) (fun hc504 h => ?_)
  ·refine rg Za.f ?_
   obtain rfl:=Zb h
   exact ⟨rfl,(by show _=_;kernel_rfl)⟩
  refine sk ?_
  obtain rfl:=Zb h
  exact ⟨rfl,(by show _=_;kernel_rfl)⟩
 clear hj502
 rintro s hR
 obtain rfl:=hR
 refine sq (rg Za.f ?_)
 refine tq (rt ?_)
 obtain rfl:=Zb h
 exact Zx (by kernel_rfl)
theorem ZhT {σ:Type} (N:Nat) (y_:σ→Zy→Zy→Option (σ × Bool)) (c0_:Ze) (c1_:Int) (c2_:Int) (s_:σ) (k0_:Nat) (k1_:Nat) (k2_:Nat) (yid_:Nat) (T_:σ→List ZR→Prop) (hy_:∀ (x0:Zy) (x1:Zy) (s:σ) (r:σ × Bool) (H:List HO) (its:List ZR),T_ s its→HP H its→y_ s x0 x1=some r→∃ H' its',Ze3 Try.prog yid_ [.agg [iv x0.Stream,iv x0.Port,iv x0.From,iv x0.Long],.agg [iv x1.Stream,iv x1.Port,iv x1.From,iv x1.Long]] H r.2 H'∧T_ r.1 its'∧Fp H H' its its') (H:List HO) (its:List ZR) (hT:T_ s_ its) (hH:HP H (.cel k0_ (Zd c0_) :: .cel k1_ [iv c1_] :: .cel k2_ [iv c2_]::its)) (r:σ) (h:ZcF N y_ c0_ c1_ c2_ s_=some r):∃ H' its',Zas Try.prog 55 [.yl yid_,.ptr k0_ 0,.ptr k1_ 0,.ptr k2_ 0] H (.tup []) H'∧T_ r its'∧Fp H H' (.cel k0_ (Zd c0_) :: .cel k1_ [iv c1_] :: .cel k2_ [iv c2_]::its) (.cel k0_ (Zd c0_) :: .cel k1_ [iv c1_] :: .cel k2_ [iv c2_]::its'):=by
 suffices hs:∃ H',Zas Try.prog 55 [.yl yid_,.ptr k0_ 0,.ptr k1_ 0,.ptr k2_ 0] H (.tup []) H'∧∃ its',T_ r its'∧Fp H H' (.cel k0_ (Zd c0_) :: .cel k1_ [iv c1_] :: .cel k2_ [iv c2_]::its) (.cel k0_ (Zd c0_) :: .cel k1_ [iv c1_] :: .cel k2_ [iv c2_]::its') by
  obtain ⟨H',h1,its',h2,h3⟩:=hs
  exact ⟨H',its',h1,h2,h3⟩
 unfold ZcF at h
 replace hH:Fp H H (.cel k0_ (Zd c0_) :: .cel k1_ [iv c1_] :: .cel k2_ [iv c2_]::its) (.cel k0_ (Zd c0_) :: .cel k1_ [iv c1_] :: .cel k2_ [iv c2_]::its):=Fp.refl hH
 refine Ziq chk55 (fun H'=>∃ its',T_ r its'∧Fp H H' (.cel k0_ (Zd c0_) :: .cel k1_ [iv c1_] :: .cel k2_ [iv c2_]::its) (.cel k0_ (Zd c0_) :: .cel k1_ [iv c1_] :: .cel k2_ [iv c2_]::its')) rfl rfl rfl ?_
 refine sq ?_
 have hlc1:=Fp.get hH 0 rfl
 refine rg (Za.u 1 (Zn (H:=H) (id:=k0_) (off:=1) (cs:=(Zd c0_)) (c:=[Zp false c0_.Uses]) (r:=Zp false c0_.Uses) (hl:=hlc1)) (Za.u 0 (Zo (ys:=[Zp false c0_.Uses]) (h:=Zt Zi)) Za.f)) (tq ?_)
 refine bk ?_
 obtain ⟨o1035,ho1035,h⟩:=bs h
 refine ZX ((ZO (fun (x:Int × σ) s=>∃ (its2:List ZR) (H3:List HO),s=⟨[(0,.yl yid_),(1,.ptr k0_ 0),(2,.ptr k1_ 0),(3,.ptr k2_ 0),(10,Zp false c0_.Uses),(11,iv ((List.length c0_.Uses:Nat):Int)),(12,iv x.1)],[],H3⟩∧T_ x.2 its2∧Fp H H3 (.cel k0_ (Zd c0_) :: .cel k1_ [iv c1_] :: .cel k2_ [iv c2_]::its) (.cel k0_ (Zd c0_) :: .cel k1_ [iv c1_] :: .cel k2_ [iv c2_]::its2)) (fun x:Int × σ=>Za1 N y_ c0_ c1_ c2_ x.1 x.2) (fun (p:(σ) ⊕ (σ)) e s=>match p with | (.inl p)=>e = .exit 0∧(∃ (its506:List ZR) (H507:List HO),s=⟨[],[],H507⟩∧T_ p its506∧Fp H H507 (.cel k0_ (Zd c0_) :: .cel k1_ [iv c1_] :: .cel k2_ [iv c2_]::its) (.cel k0_ (Zd c0_) :: .cel k1_ [iv c1_] :: .cel k2_ [iv c2_]::its506)) | (.inr p)=>e = .ret∧∃ xs,rawL s i55.res=some xs∧ZaD xs = .tup []∧∃ its',T_ p its'∧Fp H s.H (.cel k0_ (Zd c0_) :: .cel k1_ [iv c1_] :: .cel k2_ [iv c2_]::its) (.cel k0_ (Zd c0_) :: .cel k1_ [iv c1_] :: .cel k2_ [iv c2_]::its')) ?_ N _ o1035 _ ho1035 ⟨its,H,(by show _=_;kernel_rfl),hT,Fp.at hH⟩).mono ?_)
 ·clear h ho1035
  rintro ⟨i4,g5⟩ o s h hR
  obtain ⟨its2,H3,rfl,hT,hH⟩:=hR
  replace hH:Fp H H3 (.cel k0_ (Zd c0_) :: .cel k1_ [iv c1_] :: .cel k2_ [iv c2_]::its) (.cel k0_ (Zd c0_) :: .cel k1_ [iv c1_] :: .cel k2_ [iv c2_]::its2):=hH
  replace h:Za1 N y_ c0_ c1_ c2_ i4 g5=some o:=h
  unfold Za1 at h
  refine sq (rg Za.f ?_)
  refine tq (sq ?_)
  refine it h (fun hc508 h => ?_) (fun hc508 h => ?_)
  ·refine sk (tq ?_)
   refine kq (sq ?_)
   refine bk (sq ?_)
   obtain ⟨e509,he509,h⟩:=bs h
   refine rg (Za.u 1 (Zo (ys:=[Zp false c0_.Uses,iv i4]) (h:=Zm Zi he509)) (Za.u 0 (ZD (sz:=4) (off:=0) (cs:=[.int .i64 e509.Stream,.int .i64 e509.Port,.int .i64 e509.From,.int .i64 e509.Long]) (r:=.agg (ZP e509)) Zi he509) Za.f)) (tq ?_)
   refine sq (sq ?_)
   have hlc510:=Fp.get hH 1 rfl
   refine rg (Za.u 2 (Zn (H:=H3) (id:=k1_) (off:=0) (cs:=[iv c1_]) (c:=[iv c1_]) (r:=iv c1_) (hl:=hlc510)) Za.f) (tq ?_)
   refine it h (fun hc511 h => ?_) (fun hc511 h => ?_)
   ·refine kq (xq ?_)
    refine tx (bx ?_)
    refine tq (kq ?_)
    refine rg Za.f ?_
    obtain rfl:=Zb h
    exact ⟨_,rfl,⟨its2,H3,(by show _=_;kernel_rfl),hT,Fp.at hH⟩⟩
   refine sk (tq ?_)
   refine kq (sq ?_)
   have hlc512:=Fp.get hH 0 rfl
   refine rg (Za.u 1 (Zn (H:=H3) (id:=k0_) (off:=1) (cs:=(Zd c0_)) (c:=[Zp false c0_.Uses]) (r:=Zp false c0_.Uses) (hl:=hlc512)) (Za.u 0 (Zo (ys:=[Zp false c0_.Uses]) (h:=Zt Zi)) Za.f)) (tq ?_)
   refine bk ?_
   obtain ⟨o1032,ho1032,h⟩:=bs h
   refine ZX ((ZO (fun (x:Int × σ) s=>∃ (its513:List ZR) (H514:List HO),s=⟨[(0,.yl yid_),(1,.ptr k0_ 0),(2,.ptr k1_ 0),(3,.ptr k2_ 0),(5,iv i4),(6,.loc 6 0),(10,Zp false c0_.Uses),(11,iv ((List.length c0_.Uses:Nat):Int)),(12,iv i4),(22,Zp false c0_.Uses),(23,iv ((List.length c0_.Uses:Nat):Int)),(24,iv x.1)],[(6,(ZP e509))],H514⟩∧T_ x.2 its513∧Fp H H514 (.cel k0_ (Zd c0_) :: .cel k1_ [iv c1_] :: .cel k2_ [iv c2_]::its) (.cel k0_ (Zd c0_) :: .cel k1_ [iv c1_] :: .cel k2_ [iv c2_]::its513)) (fun x:Int × σ=>Za0 N y_ c0_ c2_ i4 e509 x.1 x.2) (fun (p:(σ) ⊕ (σ)) e s=>match p with | (.inl p)=>e = .exit 2∧(∃ (its1017:List ZR) (H1018:List HO),s=⟨[(0,.yl yid_),(1,.ptr k0_ 0),(2,.ptr k1_ 0),(3,.ptr k2_ 0),(10,Zp false c0_.Uses),(11,iv ((List.length c0_.Uses:Nat):Int)),(12,iv i4)],[],H1018⟩∧T_ p its1017∧Fp H H1018 (.cel k0_ (Zd c0_) :: .cel k1_ [iv c1_] :: .cel k2_ [iv c2_]::its) (.cel k0_ (Zd c0_) :: .cel k1_ [iv c1_] :: .cel k2_ [iv c2_]::its1017)) | (.inr p)=>e = .ret∧∃ xs,rawL s i55.res=some xs∧ZaD xs = .tup []∧∃ its',T_ p its'∧Fp H s.H (.cel k0_ (Zd c0_) :: .cel k1_ [iv c1_] :: .cel k2_ [iv c2_]::its) (.cel k0_ (Zd c0_) :: .cel k1_ [iv c1_] :: .cel k2_ [iv c2_]::its')) ?_ N _ o1032 _ ho1032 ⟨its2,H3,(by show _=_;kernel_rfl),hT,Fp.at hH⟩).mono ?_)
   ·clear h ho1032
    rintro ⟨i515,g516⟩ o s h hR
    obtain ⟨its513,H514,rfl,hT,hH⟩:=hR
    replace hH:Fp H H514 (.cel k0_ (Zd c0_) :: .cel k1_ [iv c1_] :: .cel k2_ [iv c2_]::its) (.cel k0_ (Zd c0_) :: .cel k1_ [iv c1_] :: .cel k2_ [iv c2_]::its513):=hH
    replace h:Za0 N y_ c0_ c2_ i4 e509 i515 g516=some o:=h
    unfold Za0 at h
    refine sq (rg Za.f ?_)
    refine tq (sq ?_)
    refine it h (fun hc1019 h => ?_) (fun hc1019 h => ?_)
    ·refine sk (tq ?_)
     refine kq (sq ?_)
     refine bk (sq ?_)
     obtain ⟨e1020,he1020,h⟩:=bs h
     refine rg (Za.u 1 (Zo (ys:=[Zp false c0_.Uses,iv i515]) (h:=Zm Zi he1020)) (Za.u 0 (ZD (sz:=4) (off:=0) (cs:=[.int .i64 e1020.Stream,.int .i64 e1020.Port,.int .i64 e1020.From,.int .i64 e1020.Long]) (r:=.agg (ZP e1020)) Zi he1020) Za.f)) (tq ?_)
     refine sq (sq ?_)
     obtain ⟨j1026,hj,h⟩:=bs h
     refine rgR (fun s=>s=⟨[(0,.yl yid_),(1,.ptr k0_ 0),(2,.ptr k1_ 0),(3,.ptr k2_ 0),(5,iv i4),(6,.loc 6 0),(8,.loc 8 0),(10,Zp false c0_.Uses),(11,iv ((List.length c0_.Uses:Nat):Int)),(12,iv i4),(22,Zp false c0_.Uses),(23,iv ((List.length c0_.Uses:Nat):Int)),(24,iv i515),(44,bv j1026)],[(6,(ZP e509)),(8,(ZP e1020))],H514⟩) ?_ ?_
     ·clear h
      rcases ZH hj with ⟨hc1021,hj⟩ | ⟨hc1022,hj⟩
      ·obtain rfl:=Zb hj
       exact (EP.u 2 (Zj (c:=(i515==i4)) (h:=hc1021)) (EP.f (by show _=_;kernel_rfl)))
      refine (EP.u 2 (Zj (c:=(i515==i4)) (h:=hc1022)) ?_)
      have hlc1023:=Fp.get hH 2 rfl
      refine (EP.u 3 (Zn (H:=H514) (id:=k2_) (off:=0) (cs:=[iv c2_]) (c:=[iv c2_]) (r:=iv c2_) (hl:=hlc1023)) ?_)
      rcases ZH hj with ⟨hc1024,hj⟩ | ⟨hc1025,hj⟩
      ·obtain rfl:=Zb hj
       exact (EP.u 0 (Zj (c:=(e1020.Stream != c2_)) (h:=hc1024)) (EP.f (by show _=_;kernel_rfl)))
      obtain rfl:=Zb hj
      exact (EP.u 0 (Zj (c:=(e1020.Stream != c2_)) (h:=hc1025)) (EP.f (by show _=_;kernel_rfl)))
     clear hj
     rintro s hR
     obtain rfl:=hR
     refine tq (it h (fun hc1027 h => ?_) (fun hc1027 h => ?_))
     ·refine kq (xq ?_)
      refine tx (bx ?_)
      refine tq (kq ?_)
      refine rg Za.f ?_
      obtain rfl:=Zb h
      exact ⟨_,rfl,⟨its513,H514,(by show _=_;kernel_rfl),hT,Fp.at hH⟩⟩
     refine sk (tq ?_)
     refine kq (sq ?_)
     obtain ⟨r1028,hr1028,h⟩:=bs h
     obtain ⟨H1029,its1030,hvr1028,hT,hFr1028⟩:=hy_ e509 e1020 g516 r1028 H514 its513 hT (Fp.tail (own:=[.cel k0_ (Zd c0_),.cel k1_ [iv c1_],.cel k2_ [iv c2_]]) (its:=its513) hH) hr1028
     replace hH:Fp H H1029 (.cel k0_ (Zd c0_) :: .cel k1_ [iv c1_] :: .cel k2_ [iv c2_]::its) (.cel k0_ (Zd c0_) :: .cel k1_ [iv c1_] :: .cel k2_ [iv c2_]::its1030):=Fp.callT (own:=[.cel k0_ (Zd c0_),.cel k1_ [iv c1_],.cel k2_ [iv c2_]]) (its:=its513) hH hFr1028
     refine rg (Za.v 3 (Zja (H:=H514) (id:=yid_) (ys:=[.agg (ZP e509),.agg (ZP e1020)]) (by kernel_rfl) (by kernel_rfl) (by kernel_rfl) (by kernel_rfl) hvr1028) Za.f) (tq ?_)
     refine it h (fun hc1031 h => ?_) (fun hc1031 h => ?_)
     ·refine rt (br ?_)
      refine tr ?_
      obtain rfl:=Zb h
      exact ⟨_,rfl,rfl,⟨[],(by kernel_rfl),(by kernel_rfl),its1030,hT,Fp.at hH⟩⟩
     refine sk (bn ?_)
     refine tq (kq ?_)
     refine rg Za.f ?_
     obtain rfl:=Zb h
     exact ⟨_,rfl,⟨its1030,H1029,(by show _=_;kernel_rfl),hT,Fp.at hH⟩⟩
    refine kq (xq ?_)
    refine tx ?_
    obtain rfl:=Zb h
    exact ⟨_,rfl,rfl,⟨its513,H514,(by show _=_;kernel_rfl),hT,Fp.at hH⟩⟩
   rintro e s hq
   rcases o1032 with p1033 | p1034
   ·dsimp only at h hq
    obtain ⟨rfl,hR⟩:=hq
    obtain ⟨its1017,H1018,rfl,hT,hH⟩:=hR
    replace hH:Fp H H1018 (.cel k0_ (Zd c0_) :: .cel k1_ [iv c1_] :: .cel k2_ [iv c2_]::its) (.cel k0_ (Zd c0_) :: .cel k1_ [iv c1_] :: .cel k2_ [iv c2_]::its1017):=hH
    refine bx (bn ?_)
    refine tq (kq ?_)
    refine rg Za.f ?_
    obtain rfl:=Zb h
    exact ⟨_,rfl,⟨its1017,H1018,(by show _=_;kernel_rfl),hT,Fp.at hH⟩⟩
   dsimp only at h hq
   obtain ⟨rfl,hq⟩:=hq
   refine br (br ?_)
   refine tr ?_
   obtain rfl:=Zb h
   exact ⟨_,rfl,rfl,hq⟩
  refine kq (xq ?_)
  refine tx ?_
  obtain rfl:=Zb h
  exact ⟨_,rfl,rfl,⟨its2,H3,(by show _=_;kernel_rfl),hT,Fp.at hH⟩⟩
 rintro e s hq
 rcases o1035 with p1036 | p1037
 ·dsimp only at h hq
  obtain ⟨rfl,hR⟩:=hq
  obtain ⟨its506,H507,rfl,hT,hH⟩:=hR
  replace hH:Fp H H507 (.cel k0_ (Zd c0_) :: .cel k1_ [iv c1_] :: .cel k2_ [iv c2_]::its) (.cel k0_ (Zd c0_) :: .cel k1_ [iv c1_] :: .cel k2_ [iv c2_]::its506):=hH
  refine bx ?_
  obtain rfl:=Zb h
  exact ⟨[],(by kernel_rfl),(by kernel_rfl),its506,hT,Fp.at hH⟩
 dsimp only at h hq
 obtain ⟨rfl,hq⟩:=hq
 refine br ?_
 obtain rfl:=Zb h
 exact hq
theorem ZcO (N:Nat) (a0_:Zs) (r:Int) (h:Zbb N a0_=some r):Zab Try.prog 56 [.agg (Za2 a0_)] (iv r):=by
 unfold Zbb at h
 have hH:HP ([]:List HO) []:=trivial
 refine ZF chk56 rfl rfl (Zr _ _ _ ?_) rfl
 refine sq (rg Za.f ?_)
 refine tq (sq ?_)
 refine sq (rgX ⟨[(1,.loc 1 0),(22,bv ((decide (a0_.Period<1))||((decide (a0_.Period > 960))||((decide (a0_.From<0))||(decide (a0_.From ≥ a0_.Period))))))],[(1,(Za2 a0_))],[]⟩ ?_ ?_)
 ·rcases Bool.eq_false_or_eq_true (decide (a0_.Period<1)) with hc1 | hc2
  ·exact (EP.u 2 (Zj (c:=(decide (a0_.Period<1))) (h:=hc1)) (EP.f (by simp only [hc1];kernel_rfl)))
  refine (EP.u 2 (Zj (c:=(decide (a0_.Period<1))) (h:=hc2)) ?_)
  rcases Bool.eq_false_or_eq_true (decide (a0_.Period > 960)) with hc3 | hc4
  ·exact (EP.u 3 (Zj (c:=(decide (a0_.Period > 960))) (h:=hc3)) (EP.f (by simp only [hc2,hc3];kernel_rfl)))
  refine (EP.u 3 (Zj (c:=(decide (a0_.Period > 960))) (h:=hc4)) ?_)
  rcases Bool.eq_false_or_eq_true (decide (a0_.From<0)) with hc5 | hc6
  ·exact (EP.u 4 (Zj (c:=(decide (a0_.From<0))) (h:=hc5)) (EP.f (by simp only [hc2,hc4,hc5];kernel_rfl)))
  exact (EP.u 4 (Zj (c:=(decide (a0_.From<0))) (h:=hc6)) (EP.f (by simp only [hc2,hc4,hc6];kernel_rfl)))
 refine tq (it h (fun hc7 h => ?_) (fun hc7 h => ?_))
 ·refine sq (rg Za.f ?_)
  refine tq (rt ?_)
  refine tr ?_
  obtain rfl:=Zb h
  exact Zx (by kernel_rfl)
 refine sk (tq ?_)
 refine kq (sq ?_)
 refine sq (rgX ⟨[(32,bv ((decide (a0_.Long<1))||(decide (a0_.Long > a0_.Period))))],[],[]⟩ ?_ ?_)
 ·rcases Bool.eq_false_or_eq_true (decide (a0_.Long<1)) with hc8 | hc9
  ·exact (EP.u 2 (Zj (c:=(decide (a0_.Long<1))) (h:=hc8)) (EP.f (by simp only [hc8];kernel_rfl)))
  exact (EP.u 2 (Zj (c:=(decide (a0_.Long<1))) (h:=hc9)) (EP.f (by simp only [hc9];kernel_rfl)))
 refine tq (it h (fun hc10 h => ?_) (fun hc10 h => ?_))
 ·refine sq (rg Za.f ?_)
  refine tq (rt ?_)
  refine tr ?_
  obtain rfl:=Zb h
  exact Zx (by kernel_rfl)
 refine sk (tq ?_)
 refine kq (sq ?_)
 refine rg Za.f (tq ?_)
 refine rt ?_
 obtain rfl:=Zb h
 exact Zx (by kernel_rfl)
theorem ZfG (N:Nat) (a0_:(List Zs)) (r:Int) (h:Zbi N a0_=some r):Zab Try.prog 60 [Z7 false a0_] (iv r):=by
 unfold Zbi at h
 have hH:HP ([]:List HO) []:=trivial
 refine ZF chk60 rfl rfl (Zr _ _ _ ?_) rfl
 refine sq (rg Za.f ?_)
 refine tq (sq ?_)
 refine sq (rg (Za.u 1 (Zo (ys:=[Z7 false a0_]) (h:=Zt Zaa)) Za.f) ?_)
 refine tq (it h (fun hc1 h => ?_) (fun hc1 h => ?_))
 ·refine sq (rg Za.f ?_)
  refine tq (rt ?_)
  refine tr ?_
  obtain rfl:=Zb h
  exact Zx (by kernel_rfl)
 refine sk (tq ?_)
 refine kq (sq ?_)
 refine sq (rg (Za.u 1 (Zo (ys:=[Z7 false a0_]) (h:=Zt Zaa)) Za.f) ?_)
 refine tq (bk ?_)
 obtain ⟨o507,ho507,h⟩:=bs h
 refine ZX ((ZO (fun (x:Int) s=>s=⟨[(9,Z7 false a0_),(10,iv ((List.length a0_:Nat):Int)),(11,iv x)],[],[]⟩) (fun x:Int=>Zag N a0_ x) (fun (p:(Unit) ⊕ (Int)) e s=>match p with | (.inl p)=>e = .exit 0∧(s=⟨[],[],[]⟩) | (.inr p)=>e = .ret∧∃ xs,resL s i60.res=some xs∧ZaD xs=iv p) ?_ N _ o507 _ ho507 (by show _=_;kernel_rfl)).mono ?_)
 ·clear h ho507
  rintro i2 o s h hR
  obtain rfl:=hR
  replace h:Zag N a0_ i2=some o:=h
  unfold Zag at h
  refine sq (rg Za.f ?_)
  refine tq (sq ?_)
  refine it h (fun hc503 h => ?_) (fun hc503 h => ?_)
  ·refine sk (tq ?_)
   refine kq (sq ?_)
   refine bk (sq ?_)
   obtain ⟨e504,he504,h⟩:=bs h
   refine rg (Za.u 0 (Zo (ys:=[Z7 false a0_,iv i2]) (h:=Zm Zaa he504)) (Za.u 0 (ZD (sz:=3) (off:=0) (cs:=[.int .i64 e504.Period,.int .i64 e504.From,.int .i64 e504.Long]) (r:=.agg (Za2 e504)) Zaa he504) Za.f)) (tq ?_)
   refine sq ?_
   obtain ⟨r505,hr505,h⟩:=bs h
   refine rg (Za.v 1 (Zu (hc:=ZcO N e504 r505 hr505)) Za.f) (tq ?_)
   refine sq (rg Za.f ?_)
   refine tq (it h (fun hc506 h => ?_) (fun hc506 h => ?_))
   ·refine sq (rg Za.f ?_)
    refine tq (rt ?_)
    refine br (tr ?_)
    obtain rfl:=Zb h
    exact ⟨_,rfl,rfl,Zx (by kernel_rfl)⟩
   refine sk (bn ?_)
   refine tq (kq ?_)
   refine rg Za.f ?_
   obtain rfl:=Zb h
   exact ⟨_,rfl,(by show _=_;kernel_rfl)⟩
  refine kq (xq ?_)
  refine tx ?_
  obtain rfl:=Zb h
  exact ⟨_,rfl,rfl,(by show _=_;kernel_rfl)⟩
 rintro e s hq
 rcases o507 with p508 | p509
 ·dsimp only at h hq
  obtain ⟨rfl,hR⟩:=hq
  obtain rfl:=hR
  refine bx (tq ?_)
  refine sq (rg Za.f ?_)
  refine tq (rt ?_)
  obtain rfl:=Zb h
  exact Zx (by kernel_rfl)
 dsimp only at h hq
 obtain ⟨rfl,hq⟩:=hq
 refine br (tr ?_)
 obtain rfl:=Zb h
 exact hq
theorem Zi5 (N:Nat) (a0_:Zv) (a1_:Int) (a2_:Za4) (r:(List Bool)) (h:Zge N a0_ a1_ a2_=some r):Zab Try.prog 64 [.agg (Zc a0_),iv a1_,.agg (Z1 a2_)] (s_eB false r):=by
 unfold Zge at h
 have hH:HP ([]:List HO) []:=trivial
 refine ZF chk64 rfl rfl (Zr _ _ _ ?_) rfl
 refine sq (rg Za.f ?_)
 refine tq (sq ?_)
 obtain ⟨l3,hl3,h⟩:=bs h
 obtain ⟨a1,H2,ha1,hH2,ha1b,hH⟩:=HP.make eB hH hl3
 replace hH:HP H2 [.arr a1 1 false (List.map eB l3)]:=hH
 have hfa1:=ZA (HP.get hH 0 rfl)
 refine rgS ⟨[(1,iv a1_),(3,.loc 3 0),(5,.loc 5 0),(7,a1)],[(3,(Zc a0_)),(5,(Z1 a2_))],H2⟩ (Za.h 2 (ZhG (H:=[]) (zero:=[.bool false]) (bytes:=1) (by kernel_rfl) (by kernel_rfl) (by kernel_rfl) ha1 hH2 ha1b) Za.f) (by rcases hfa1 with ha1e | ⟨_,_,ha1e⟩<;>subst ha1e<;>kernel_rfl) ?_
 refine tq (sq ?_)
 obtain ⟨e4,he4,h⟩:=bs h
 obtain ⟨id5,ver6,_,hid5f,hid5,hid5a,hid5v⟩:=HP.elem (k:=0) (a:=a1) (sz:=1) (frz:=false) eB hH rfl he4
 obtain ⟨H7,hH7,hH⟩:=HP.setRow (k:=0) (off:=0) (cs:=[bv true]) (ps:=[.bool true]) (e':=true) eB hH rfl hid5a hid5 (hid5f rfl) he4 (by kernel_rfl) (by kernel_rfl)
 replace hH:HP H7 [.arr a1 1 false (List.map eB (List.set l3 (Int.toNat a1_) true))]:=hH
 refine rgS ⟨[(3,.loc 3 0),(5,.loc 5 0),(7,a1)],[(3,(Zc a0_)),(5,(Z1 a2_))],H7⟩ (Za.u 2 (Zo (ys:=[a1,iv a1_]) (by rcases hfa1 with ha1e | ⟨_,_,ha1e⟩<;>subst ha1e<;>kernel_rfl) (hid5v .i64)) (Za.o 0 (Z9 (H:=H2) (v:=bv true) (hw:=hH7)) Za.f)) (by rcases hfa1 with ha1e | ⟨_,_,ha1e⟩<;>subst ha1e<;>kernel_rfl) ?_
 refine tq (sq ?_)
 refine sq (rgS ⟨[(3,.loc 3 0),(5,.loc 5 0),(7,a1),(17,iv a0_.Nodes),(18,iv 0)],[(3,(Zc a0_)),(5,(Z1 a2_))],H7⟩ Za.f (by rcases hfa1 with ha1e | ⟨_,_,ha1e⟩<;>subst ha1e<;>kernel_rfl) ?_)
 refine tq (bk ?_)
 obtain ⟨o1546,ho1546,h⟩:=bs h
 refine ZX ((ZO (fun (x:Int × (List Bool)) s=>∃ (a8:AV) (H9:List HO),s=⟨[(3,.loc 3 0),(5,.loc 5 0),(7,a8),(17,iv a0_.Nodes),(18,iv x.1)],[(3,(Zc a0_)),(5,(Z1 a2_))],H9⟩∧HP H9 [.arr a8 1 false (List.map eB x.2)]) (fun x:Int × (List Bool)=>Zc4 N a0_ a2_ x.1 x.2) (fun (p:(List Bool)) e s=>e = .exit 0∧(∃ (a512:AV) (H513:List HO),s=⟨[(7,a512)],[],H513⟩∧HP H513 [.arr a512 1 false (List.map eB p)])) ?_ N _ o1546 _ ho1546 ⟨a1,H7,(by show _=_;rcases hfa1 with ha1e | ⟨_,_,ha1e⟩<;>subst ha1e<;>kernel_rfl),(HP.pick hH [0] rfl)⟩).mono ?_)
 ·clear h ho1546
  rintro ⟨i10,l11⟩ o s h hR
  obtain ⟨a8,H9,rfl,hH⟩:=hR
  replace hH:HP H9 [.arr a8 1 false (List.map eB l11)]:=hH
  have hfa8:=ZA (HP.get hH 0 rfl)
  replace h:Zc4 N a0_ a2_ i10 l11=some o:=h
  unfold Zc4 at h
  refine sq (rgS ⟨[(3,.loc 3 0),(5,.loc 5 0),(7,a8),(17,iv a0_.Nodes),(18,iv i10),(19,bv (decide (i10<a0_.Nodes)))],[(3,(Zc a0_)),(5,(Z1 a2_))],H9⟩ Za.f (by rcases hfa8 with ha8e | ⟨_,_,ha8e⟩<;>subst ha8e<;>kernel_rfl) ?_)
  refine tq (sq ?_)
  refine it h (fun hc514 h => ?_) (fun hc514 h => ?_)
  ·refine sk (tq ?_)
   refine kq (sq ?_)
   refine bk (sq ?_)
   refine rgS ⟨[(3,.loc 3 0),(5,.loc 5 0),(7,a8),(17,iv a0_.Nodes),(18,iv i10),(21,Zk false a0_.Links),(22,iv ((List.length a0_.Links:Nat):Int)),(23,iv 0)],[(3,(Zc a0_)),(5,(Z1 a2_))],H9⟩ (Za.u 2 (Zo (ys:=[Zk false a0_.Links]) (h:=Zt ZN)) Za.f) (by rcases hfa8 with ha8e | ⟨_,_,ha8e⟩<;>subst ha8e<;>kernel_rfl) ?_
   refine tq (bk ?_)
   obtain ⟨o1545,ho1545,h⟩:=bs h
   refine ZX ((ZO (fun (x:Int × (List Bool)) s=>∃ (a515:AV) (H516:List HO),s=⟨[(3,.loc 3 0),(5,.loc 5 0),(7,a515),(17,iv a0_.Nodes),(18,iv i10),(21,Zk false a0_.Links),(22,iv ((List.length a0_.Links:Nat):Int)),(23,iv x.1)],[(3,(Zc a0_)),(5,(Z1 a2_))],H516⟩∧HP H516 [.arr a515 1 false (List.map eB x.2)]) (fun x:Int × (List Bool)=>Zc3 N a0_ a2_ x.1 x.2) (fun (p:(List Bool)) e s=>e = .exit 2∧(∃ (a1019:AV) (H1020:List HO),s=⟨[(3,.loc 3 0),(5,.loc 5 0),(7,a1019),(17,iv a0_.Nodes),(18,iv i10)],[(3,(Zc a0_)),(5,(Z1 a2_))],H1020⟩∧HP H1020 [.arr a1019 1 false (List.map eB p)])) ?_ N _ o1545 _ ho1545 ⟨a8,H9,(by show _=_;rcases hfa8 with ha8e | ⟨_,_,ha8e⟩<;>subst ha8e<;>kernel_rfl),(HP.pick hH [0] rfl)⟩).mono ?_)
   ·clear h ho1545
    rintro ⟨i517,l518⟩ o s h hR
    obtain ⟨a515,H516,rfl,hH⟩:=hR
    replace hH:HP H516 [.arr a515 1 false (List.map eB l518)]:=hH
    have hfa515:=ZA (HP.get hH 0 rfl)
    replace h:Zc3 N a0_ a2_ i517 l518=some o:=h
    unfold Zc3 at h
    refine sq (rgS ⟨[(3,.loc 3 0),(5,.loc 5 0),(7,a515),(17,iv a0_.Nodes),(18,iv i10),(21,Zk false a0_.Links),(22,iv ((List.length a0_.Links:Nat):Int)),(23,iv i517),(24,bv (decide (i517<((List.length a0_.Links:Nat):Int))))],[(3,(Zc a0_)),(5,(Z1 a2_))],H516⟩ Za.f (by rcases hfa515 with ha515e | ⟨_,_,ha515e⟩<;>subst ha515e<;>kernel_rfl) ?_)
    refine tq (sq ?_)
    refine it h (fun hc1021 h => ?_) (fun hc1021 h => ?_)
    ·refine sk (tq ?_)
     refine kq ?_
     obtain ⟨j1524,hj1524,h⟩:=bs h
     refine Zd5 [3,5,7,17,18,21,22,23] (fun s=>∃ (a1522:AV) (H1523:List HO),s=⟨[(3,.loc 3 0),(5,.loc 5 0),(7,a1522),(17,iv a0_.Nodes),(18,iv i10),(21,Zk false a0_.Links),(22,iv ((List.length a0_.Links:Nat):Int)),(23,iv i517)],[(3,(Zc a0_)),(5,(Z1 a2_))],H1523⟩∧HP H1523 [.arr a1522 1 false (List.map eB j1524)]) ?_ ?_
     ·clear h
      have h:=hj1524
      refine bk (sq ?_)
      obtain ⟨e1525,he1525,h⟩:=bs h
      refine rgS ⟨[(3,.loc 3 0),(5,.loc 5 0),(7,a515),(8,iv i517),(9,.loc 9 0),(17,iv a0_.Nodes),(18,iv i10),(21,Zk false a0_.Links),(22,iv ((List.length a0_.Links:Nat):Int)),(23,iv i517)],[(3,(Zc a0_)),(5,(Z1 a2_)),(9,(ZaA e1525))],H516⟩ (Za.u 1 (Zo (ys:=[Zk false a0_.Links,iv i517]) (h:=Zm ZN he1525)) (Za.u 0 (ZD (sz:=4) (off:=0) (cs:=[.int .i64 e1525.A,.int .i64 e1525.B,.int .i64 e1525.Per,.int .i64 e1525.Delay]) (r:=.agg (ZaA e1525)) ZN he1525) (Za.f (h:=(by rcases hfa515 with ha515e | ⟨_,_,ha515e⟩<;>subst ha515e<;>kernel_rfl))))) (by rcases hfa515 with ha515e | ⟨_,_,ha515e⟩<;>subst ha515e<;>kernel_rfl) ?_
      refine tq (sq ?_)
      obtain ⟨j1535,hj,h⟩:=bs h
      refine rqR (fun s=>s=⟨[(3,.loc 3 0),(5,.loc 5 0),(7,a515),(9,.loc 9 0),(17,iv a0_.Nodes),(18,iv i10),(21,Zk false a0_.Links),(22,iv ((List.length a0_.Links:Nat):Int)),(23,iv i517),(44,bv j1535)],[(3,(Zc a0_)),(5,(Z1 a2_)),(9,(ZaA e1525))],H516⟩) ?_ ?_
      ·clear h
       obtain ⟨e1526,he1526,hj⟩:=bs hj
       refine (EP.u 1 (Zo (ys:=[.loc 5 0,iv i517]) (h:=ZjG (l:=a2_.l) he1526 rfl)) (EP.o 0 (Zlr (t:=5) (off:=0) (cs:=(Z1 a2_)) (l:=a2_.l) (fun x=>bv x) [] [] he1526 (by kernel_rfl) (by kernel_rfl) rfl rfl) ?_))
       rcases ZH hj with ⟨hc1527,hj⟩ | ⟨hc1534,hj⟩
       ·refine (EP.u 0 (Zj (c:=(!e1526)) (h:=hc1527)) ?_)
        obtain ⟨e1528,he1528,hj⟩:=bs hj
        obtain ⟨id1529,ver1530,_,hid1529f,hid1529,hid1529a,hid1529v⟩:=HP.elem (k:=0) (a:=a515) (sz:=1) (frz:=false) eB hH rfl he1528
        refine (EP.u 4 (Zo (ys:=[a515,iv e1525.A]) (by rcases hfa515 with ha515e | ⟨_,_,ha515e⟩<;>subst ha515e<;>kernel_rfl) (hid1529v .i64)) (EP.u 0 (ZV (ZbV (H:=H516) (off:=0) (cs:=[.bool e1528]) (r:=bv e1528) eB he1528 hid1529)) ?_))
        obtain ⟨e1531,he1531,hj⟩:=bs hj
        obtain ⟨id1532,ver1533,_,hid1532f,hid1532,hid1532a,hid1532v⟩:=HP.elem (k:=0) (a:=a515) (sz:=1) (frz:=false) eB hH rfl he1531
        obtain rfl:=Zb hj
        exact (EP.u 3 (Zo (ys:=[a515,iv e1525.B]) (by rcases hfa515 with ha515e | ⟨_,_,ha515e⟩<;>subst ha515e<;>kernel_rfl) (hid1532v .i64)) (EP.u 0 (ZV (ZbV (H:=H516) (off:=0) (cs:=[.bool e1531]) (r:=bv e1531) eB he1531 hid1532)) (EP.f (by show _=_;rcases hfa515 with ha515e | ⟨_,_,ha515e⟩<;>subst ha515e<;>kernel_rfl))))
       obtain rfl:=Zb hj
       exact (EP.u 0 (Zj (c:=(!e1526)) (h:=hc1534)) (EP.f (by show _=_;rcases hfa515 with ha515e | ⟨_,_,ha515e⟩<;>subst ha515e<;>kernel_rfl)))
      clear hj
      rintro s hR
      obtain rfl:=hR
      refine tq (it h (fun hc1536 h => ?_) (fun hc1536 h => ?_))
      ·obtain ⟨e1537,he1537,h⟩:=bs h
       obtain ⟨id1538,ver1539,_,hid1538f,hid1538,hid1538a,hid1538v⟩:=HP.elem (k:=0) (a:=a515) (sz:=1) (frz:=false) eB hH rfl he1537
       obtain ⟨H1540,hH1540,hH⟩:=HP.setRow (k:=0) (off:=0) (cs:=[bv true]) (ps:=[.bool true]) (e':=true) eB hH rfl hid1538a hid1538 (hid1538f rfl) he1537 (by kernel_rfl) (by kernel_rfl)
       replace hH:HP H1540 [.arr a515 1 false (List.map eB (List.set l518 (Int.toNat e1525.A) true))]:=hH
       obtain ⟨e1541,he1541,h⟩:=bs h
       obtain ⟨id1542,ver1543,_,hid1542f,hid1542,hid1542a,hid1542v⟩:=HP.elem (k:=0) (a:=a515) (sz:=1) (frz:=false) eB hH rfl he1541
       obtain ⟨H1544,hH1544,hH⟩:=HP.setRow (k:=0) (off:=0) (cs:=[bv true]) (ps:=[.bool true]) (e':=true) eB hH rfl hid1542a hid1542 (hid1542f rfl) he1541 (by kernel_rfl) (by kernel_rfl)
       replace hH:HP H1544 [.arr a515 1 false (List.map eB (List.set (List.set l518 (Int.toNat e1525.A) true) (Int.toNat e1525.B) true))]:=hH
       refine rqS ⟨[(3,.loc 3 0),(5,.loc 5 0),(7,a515),(17,iv a0_.Nodes),(18,iv i10),(21,Zk false a0_.Links),(22,iv ((List.length a0_.Links:Nat):Int)),(23,iv i517)],[(3,(Zc a0_)),(5,(Z1 a2_))],H1544⟩ (Za.u 6 (Zo (ys:=[a515,iv e1525.A]) (by rcases hfa515 with ha515e | ⟨_,_,ha515e⟩<;>subst ha515e<;>kernel_rfl) (hid1538v .i64)) (Za.o 0 (ZjM (Z9 (H:=H516) (v:=bv true) (hw:=hH1540)) (by kernel_rfl)) (Za.u 0 (Zo (ys:=[a515,iv e1525.B]) (by rcases hfa515 with ha515e | ⟨_,_,ha515e⟩<;>subst ha515e<;>kernel_rfl) (hid1542v .i64)) (Za.o 0 (ZjM (Z9 (H:=H1540) (v:=bv true) (hw:=hH1544)) (by kernel_rfl)) Za.f)))) (by rcases hfa515 with ha515e | ⟨_,_,ha515e⟩<;>subst ha515e<;>kernel_rfl) ?_
       refine bn ?_
       obtain rfl:=Zb h
       exact ⟨rfl,⟨a515,H1544,(by show _=_;rcases hfa515 with ha515e | ⟨_,_,ha515e⟩<;>subst ha515e<;>kernel_rfl),(HP.pick hH [0] rfl)⟩⟩
      refine sk (bn ?_)
      obtain rfl:=Zb h
      exact ⟨rfl,⟨a515,H516,(by show _=_;rcases hfa515 with ha515e | ⟨_,_,ha515e⟩<;>subst ha515e<;>kernel_rfl),(HP.pick hH [0] rfl)⟩⟩
     clear hj1524
     rintro s hR
     obtain ⟨a1522,H1523,rfl,hH⟩:=hR
     replace hH:HP H1523 [.arr a1522 1 false (List.map eB j1524)]:=hH
     have hfa1522:=ZA (HP.get hH 0 rfl)
     refine rgS ⟨[(3,.loc 3 0),(5,.loc 5 0),(7,a1522),(17,iv a0_.Nodes),(18,iv i10),(21,Zk false a0_.Links),(22,iv ((List.length a0_.Links:Nat):Int)),(23,iv (w64 (i517+1)))],[(3,(Zc a0_)),(5,(Z1 a2_))],H1523⟩ Za.f (by rcases hfa1522 with ha1522e | ⟨_,_,ha1522e⟩<;>subst ha1522e<;>kernel_rfl) ?_
     obtain rfl:=Zb h
     exact ⟨_,rfl,⟨a1522,H1523,(by show _=_;rcases hfa1522 with ha1522e | ⟨_,_,ha1522e⟩<;>subst ha1522e<;>kernel_rfl),(HP.pick hH [0] rfl)⟩⟩
    refine kq (xq ?_)
    refine tx ?_
    obtain rfl:=Zb h
    exact ⟨_,rfl,rfl,⟨a515,H516,(by show _=_;rcases hfa515 with ha515e | ⟨_,_,ha515e⟩<;>subst ha515e<;>kernel_rfl),(HP.pick hH [0] rfl)⟩⟩
   rintro e s hq
   obtain ⟨rfl,hR⟩:=hq
   obtain ⟨a1019,H1020,rfl,hH⟩:=hR
   replace hH:HP H1020 [.arr a1019 1 false (List.map eB o1545)]:=hH
   have hfa1019:=ZA (HP.get hH 0 rfl)
   refine bx (bn ?_)
   refine tq (rgS ⟨[(3,.loc 3 0),(5,.loc 5 0),(7,a1019),(17,iv a0_.Nodes),(18,iv (w64 (i10+1)))],[(3,(Zc a0_)),(5,(Z1 a2_))],H1020⟩ Za.f (by rcases hfa1019 with ha1019e | ⟨_,_,ha1019e⟩<;>subst ha1019e<;>kernel_rfl) ?_)
   obtain rfl:=Zb h
   exact ⟨_,rfl,⟨a1019,H1020,(by show _=_;rcases hfa1019 with ha1019e | ⟨_,_,ha1019e⟩<;>subst ha1019e<;>kernel_rfl),(HP.pick hH [0] rfl)⟩⟩
  refine kq (xq ?_)
  refine tx ?_
  obtain rfl:=Zb h
  exact ⟨_,rfl,rfl,⟨a8,H9,(by show _=_;rcases hfa8 with ha8e | ⟨_,_,ha8e⟩<;>subst ha8e<;>kernel_rfl),(HP.pick hH [0] rfl)⟩⟩
 rintro e s hq
 obtain ⟨rfl,hR⟩:=hq
 obtain ⟨a512,H513,rfl,hH⟩:=hR
 replace hH:HP H513 [.arr a512 1 false (List.map eB o1546)]:=hH
 have hfa512:=ZA (HP.get hH 0 rfl)
 refine bx (tq ?_)
 refine sq (rgS ⟨[(6,a512)],[],H513⟩ Za.f (by rcases hfa512 with ha512e | ⟨_,_,ha512e⟩<;>subst ha512e<;>kernel_rfl) ?_)
 refine tq (rt ?_)
 obtain rfl:=Zb h
 exact ZeM (H:=H513) (ys:=[a512]) (xs:=[.p (.sl 1 false (List.map eB o1546))]) (by rcases hfa512 with ha512e | ⟨_,_,ha512e⟩<;>subst ha512e<;>kernel_rfl) (by rcases hfa512 with ha512e | ⟨_,_,ha512e⟩<;>subst ha512e<;>kernel_rfl) (ZaS (HP.pure (k:=0) (frz:=false) eB hH rfl).2 Zb2) (by kernel_rfl)
theorem Zgm (N:Nat) (c0_:Zw) (k0_:Nat) (H:List HO) (hH:HP H [.cel k0_ (Zf c0_)]) (r:Bool) (h:ZdK N c0_=some r):Zas Try.prog 65 [.ptr k0_ 0] H (bv r) H:=by
 unfold ZdK at h
 refine ZaF chk65 rfl rfl rfl (Zr _ _ _ ?_)
 refine sq (rg Za.f ?_)
 refine tq (sq ?_)
 have hlc1:=HP.get hH 0 rfl
 obtain ⟨r2,hr2,h⟩:=bs h
 refine rg (Za.u 1 (Zn (H:=H) (id:=k0_) (off:=0) (cs:=(Zf c0_)) (c:=[iv c0_.Id]) (r:=iv c0_.Id) (hl:=hlc1)) (Za.v 0 (Zu (hc:=ZU N c0_.Id 1 4095 r2 hr2)) Za.f)) ?_
 replace hH:HP H []:=HP.pick hH [] rfl
 refine tq (rt ?_)
 obtain rfl:=Zb h
 exact Zai (by kernel_rfl) (by kernel_rfl)
theorem ZbC (N:Nat) (a0_:Zv) (a1_:Int) (r:Bool) (h:Zcw N a0_ a1_=some r):Zab Try.prog 67 [.agg (Zc a0_),iv a1_] (bv r):=by
 unfold Zcw at h
 have hH:HP ([]:List HO) []:=trivial
 refine ZF chk67 rfl rfl (Zr _ _ _ ?_) rfl
 refine sq (rg Za.f ?_)
 refine tq (sq ?_)
 obtain ⟨j5,hj,h⟩:=bs h
 refine rgR (fun s=>s=⟨[(4,bv j5)],[],[]⟩) ?_ ?_
 ·clear h
  obtain ⟨r1,hr1,hj⟩:=bs hj
  rcases ZH hj with ⟨hc2,hj⟩ | ⟨hc4,hj⟩
  ·refine (EP.h 4 (Zap (by kernel_rfl) (ZU N a1_ 0 (w64 (a0_.Nodes - 1)) r1 hr1) hc2) ?_)
   obtain ⟨e3,he3,hj⟩:=bs hj
   obtain rfl:=Zb hj
   exact (EP.u 4 (Zo (ys:=[s_eB false a0_.Station,iv a1_]) (h:=Zm eB he3)) (EP.u 0 (ZD (sz:=1) (off:=0) (cs:=[.bool e3]) (r:=bv e3) eB he3) (EP.f (by show _=_;kernel_rfl))))
  obtain rfl:=Zb hj
  exact (EP.h 4 (Zap (by kernel_rfl) (ZU N a1_ 0 (w64 (a0_.Nodes - 1)) r1 hr1) hc4) (EP.f (by show _=_;kernel_rfl)))
 clear hj
 rintro s hR
 obtain rfl:=hR
 refine tq (rt ?_)
 obtain rfl:=Zb h
 exact Zx (by kernel_rfl)
theorem Zgk (N:Nat) (c0_:Zw) (k0_:Nat) (H:List HO) (hH:HP H [.cel k0_ (Zf c0_)]) (r:Bool) (h:ZdI N c0_=some r):Zas Try.prog 68 [.ptr k0_ 0] H (bv r) H:=by
 unfold ZdI at h
 refine ZaF chk68 rfl rfl rfl (Zr _ _ _ ?_)
 refine sq (rg Za.f ?_)
 refine tq (sq ?_)
 have hlc1:=HP.get hH 0 rfl
 obtain ⟨r2,hr2,h⟩:=bs h
 refine rg (Za.u 1 (Zn (H:=H) (id:=k0_) (off:=4) (cs:=(Zf c0_)) (c:=[iv c0_.Size]) (r:=iv c0_.Size) (hl:=hlc1)) (Za.v 0 (Zu (hc:=ZU N c0_.Size 84 1542 r2 hr2)) Za.f)) ?_
 replace hH:HP H []:=HP.pick hH [] rfl
 refine tq (rt ?_)
 obtain rfl:=Zb h
 exact Zai (by kernel_rfl) (by kernel_rfl)
theorem Zgj (N:Nat) (c0_:Zw) (k0_:Nat) (H:List HO) (hH:HP H [.cel k0_ (Zf c0_)]) (r:Bool) (h:ZdH N c0_=some r):Zas Try.prog 69 [.ptr k0_ 0] H (bv r) H:=by
 unfold ZdH at h
 refine ZaF chk69 rfl rfl rfl (Zr _ _ _ ?_)
 refine sq (rg Za.f ?_)
 refine tq (sq ?_)
 have hlc1:=HP.get hH 0 rfl
 obtain ⟨r2,hr2,h⟩:=bs h
 refine rg (Za.u 1 (Zn (H:=H) (id:=k0_) (off:=8) (cs:=(Zf c0_)) (c:=[iv c0_.Deadline]) (r:=iv c0_.Deadline) (hl:=hlc1)) (Za.v 0 (Zu (hc:=ZU N c0_.Deadline 1 1099511627776 r2 hr2)) Za.f)) ?_
 replace hH:HP H []:=HP.pick hH [] rfl
 refine tq (rt ?_)
 obtain rfl:=Zb h
 exact Zai (by kernel_rfl) (by kernel_rfl)
theorem Zgh (N:Nat) (c0_:Zw) (k0_:Nat) (H:List HO) (hH:HP H [.cel k0_ (Zf c0_)]) (r:Bool) (h:ZdF N c0_=some r):Zas Try.prog 72 [.ptr k0_ 0] H (bv r) H:=by
 unfold ZdF at h
 refine ZaF chk72 rfl rfl rfl (Zr _ _ _ ?_)
 refine sq (rg Za.f ?_)
 refine tq (sq ?_)
 have hlc1:=HP.get hH 0 rfl
 obtain ⟨r2,hr2,h⟩:=bs h
 refine rg (Za.u 1 (Zn (H:=H) (id:=k0_) (off:=9) (cs:=(Zf c0_)) (c:=[ZI false c0_.Routes]) (r:=ZI false c0_.Routes) (hl:=hlc1)) (Za.u 0 (Zo (ys:=[ZI false c0_.Routes]) (h:=Zt (eSl 1 eI64))) (Za.v 0 (Zu (hc:=ZU N ((List.length c0_.Routes:Nat):Int) 1 2 r2 hr2)) Za.f))) ?_
 replace hH:HP H []:=HP.pick hH [] rfl
 refine tq (rt ?_)
 obtain rfl:=Zb h
 exact Zai (by kernel_rfl) (by kernel_rfl)
theorem Zfp (N:Nat) (a0_:Zv) (a1_:Z2) (a2_:Zw) (a3_:Int) (H:List HO) (r:Zw × Int × Zv × Z2) (h:Zd8 N a0_ a1_ a2_ a3_=some r):∃ (id0_ id1_ id2_ id3_:Nat) (H':List HO),Zas Try.prog 78 [.agg (Zc a0_),.agg (Zh a1_),.agg (Zf a2_),iv a3_] H (.fn 95 [] [.ptr id0_ 0,.ptr id1_ 0,.ptr id2_ 0,.ptr id3_ 0]) H'∧Fp H H' [] [.cel id0_ [iv r.1.Id,iv r.1.Talker,iv r.1.Listener,iv r.1.Class,iv r.1.Size,iv r.1.Period,iv r.1.Bucket.Burst,iv r.1.Bucket.Rate,iv r.1.Deadline,ZI false r.1.Routes],.cel id1_ [iv r.2.1],.cel id2_ [iv r.2.2.1.Nodes,s_eB false r.2.2.1.Station,Zk false r.2.2.1.Links],.cel id3_ [iv r.2.2.2.Grid,iv r.2.2.2.Slack,iv r.2.2.2.Proc,iv r.2.2.2.Cap]]:=by
 suffices hs:∃ r' H',Zas Try.prog 78 [.agg (Zc a0_),.agg (Zh a1_),.agg (Zf a2_),iv a3_] H r' H'∧∃ (id0_ id1_ id2_ id3_:Nat),r' = .fn 95 [] [.ptr id0_ 0,.ptr id1_ 0,.ptr id2_ 0,.ptr id3_ 0]∧Fp H H' [] [.cel id0_ [iv r.1.Id,iv r.1.Talker,iv r.1.Listener,iv r.1.Class,iv r.1.Size,iv r.1.Period,iv r.1.Bucket.Burst,iv r.1.Bucket.Rate,iv r.1.Deadline,ZI false r.1.Routes],.cel id1_ [iv r.2.1],.cel id2_ [iv r.2.2.1.Nodes,s_eB false r.2.2.1.Station,Zk false r.2.2.1.Links],.cel id3_ [iv r.2.2.2.Grid,iv r.2.2.2.Slack,iv r.2.2.2.Proc,iv r.2.2.2.Cap]] by
  obtain ⟨_,H',h1,id0_,id1_,id2_,id3_,rfl,h2⟩:=hs
  exact ⟨id0_,id1_,id2_,id3_,H',h1,h2⟩
 unfold Zd8 at h
 have hH:Fp H H [] []:=Fp.refl trivial
 refine ZgL chk78 (fun r' H'=>∃ (id0_ id1_ id2_ id3_:Nat),r' = .fn 95 [] [.ptr id0_ 0,.ptr id1_ 0,.ptr id2_ 0,.ptr id3_ 0]∧Fp H H' [] [.cel id0_ [iv r.1.Id,iv r.1.Talker,iv r.1.Listener,iv r.1.Class,iv r.1.Size,iv r.1.Period,iv r.1.Bucket.Burst,iv r.1.Bucket.Rate,iv r.1.Deadline,ZI false r.1.Routes],.cel id1_ [iv r.2.1],.cel id2_ [iv r.2.2.1.Nodes,s_eB false r.2.2.1.Station,Zk false r.2.2.1.Links],.cel id3_ [iv r.2.2.2.Grid,iv r.2.2.2.Slack,iv r.2.2.2.Proc,iv r.2.2.2.Cap]]) (fun r' H' ⟨_,_,_,_,e,_⟩=>by rw [e];rfl) rfl rfl ?_
 refine sq ?_
 obtain ⟨id1,H2,hid1,hH2,hH⟩:=Fp.newCell hH (Zc a0_)
 replace hH:Fp H H2 [] [.cel id1 (Zc a0_)]:=hH
 obtain ⟨id3,H4,hid3,hH4,hH⟩:=Fp.newCell hH (Zh a1_)
 replace hH:Fp H H4 [] [.cel id3 (Zh a1_),.cel id1 (Zc a0_)]:=hH
 obtain ⟨id5,H6,hid5,hH6,hH⟩:=Fp.newCell hH (Zf a2_)
 replace hH:Fp H H6 [] [.cel id5 (Zf a2_),.cel id3 (Zh a1_),.cel id1 (Zc a0_)]:=hH
 obtain ⟨id7,H8,hid7,hH8,hH⟩:=Fp.newCell hH [iv a3_]
 replace hH:Fp H H8 [] [.cel id7 [iv a3_],.cel id5 (Zf a2_),.cel id3 (Zh a1_),.cel id1 (Zc a0_)]:=hH
 refine rg (Za.h 0 (ZaQ (H:=H) (v:=.agg (Zc a0_)) (hid:=hid1) (hH:=hH2)) (Za.h 0 (ZaQ (H:=H2) (v:=.agg (Zh a1_)) (hid:=hid3) (hH:=hH4)) (Za.h 0 (ZaQ (H:=H4) (v:=.agg (Zf a2_)) (hid:=hid5) (hH:=hH6)) (Za.h 0 (ZaQ (H:=H6) (v:=iv a3_) (hid:=hid7) (hH:=hH8)) Za.f)))) (tq ?_)
 refine sq (rg Za.f ?_)
 refine tq (rt ?_)
 obtain rfl:=Zb h
 exact ⟨[.fn 95 [] [.ptr id5 0,.ptr id7 0,.ptr id1 0,.ptr id3 0]],(by kernel_rfl),id5,id7,id1,id3,rfl,Fp.pk hH [1,0,3,2] rfl⟩
theorem Ziy (N:Nat) (a0_:Int) (a1_:Int) (r:Int) (h:Zdk N a0_ a1_=some r):Zab Try.prog 80 [iv a0_,iv a1_] (iv r):=by
 unfold Zdk at h
 have hH:HP ([]:List HO) []:=trivial
 refine ZF chk80 rfl rfl (Zr _ _ _ ?_) rfl
 refine sq (rg Za.f ?_)
 refine tq (sq ?_)
 obtain ⟨m1,hm1,h⟩:=bs h
 obtain ⟨m2,hm2,h⟩:=bs h
 refine rg (Za.u 2 (Zo (ys:=[iv a0_,iv a1_]) (h:=Zbw hm1)) (Za.u 3 (Zo (ys:=[iv (w64 (m1+a1_)),iv a1_]) (h:=Zbw hm2)) Za.f)) (tq ?_)
 refine rt ?_
 obtain rfl:=Zb h
 exact Zx (by kernel_rfl)
theorem Zfw (N:Nat) (a0_:Int) (a1_:Int) (r:Int) (h:Zcp N a0_ a1_=some r):Zab Try.prog 81 [iv a0_,iv a1_] (iv r):=by
 unfold Zcp at h
 have hH:HP ([]:List HO) []:=trivial
 refine ZF chk81 rfl rfl (Zr _ _ _ ?_) rfl
 refine sq (rg Za.f ?_)
 refine tq (sq ?_)
 refine bk ?_
 obtain ⟨o505,ho505,h⟩:=bs h
 refine ZX ((ZO (fun (x:Int × Int) s=>s=⟨[(0,iv x.1),(1,iv x.2)],[],[]⟩) (fun x:Int × Int=>ZaR N x.1 x.2) (fun (p:Int) e s=>e = .exit 0∧(s=⟨[(0,iv p)],[],[]⟩)) ?_ N _ o505 _ ho505 (by show _=_;kernel_rfl)).mono ?_)
 ·clear h ho505
  rintro ⟨i1,i2⟩ o s h hR
  obtain rfl:=hR
  replace h:ZaR N i1 i2=some o:=h
  unfold ZaR at h
  refine sq (sq ?_)
  refine rg Za.f (tq ?_)
  refine it h (fun hc503 h => ?_) (fun hc503 h => ?_)
  ·refine sk (tq ?_)
   refine kq (bk ?_)
   obtain ⟨m504,hm504,h⟩:=bs h
   refine rq (Za.u 3 (Zo (ys:=[iv i1,iv i2]) (h:=Zbw hm504)) Za.f) (bn ?_)
   obtain rfl:=Zb h
   exact ⟨_,rfl,(by show _=_;kernel_rfl)⟩
  refine kq (xq ?_)
  refine tx ?_
  obtain rfl:=Zb h
  exact ⟨_,rfl,rfl,(by show _=_;kernel_rfl)⟩
 rintro e s hq
 obtain ⟨rfl,hR⟩:=hq
 obtain rfl:=hR
 refine bx (tq ?_)
 refine sq (rg Za.f ?_)
 refine tq (rt ?_)
 obtain rfl:=Zb h
 exact Zx (by kernel_rfl)
theorem Zdr (N:Nat) (a0_:Zv) (a1_:Int) (r:Bool) (h:ZfU N a0_ a1_=some r):Zab Try.prog 83 [.agg (Zc a0_),iv a1_] (bv r):=by
 unfold ZfU at h
 have hH:HP ([]:List HO) []:=trivial
 refine ZF chk83 rfl rfl (Zr _ _ _ ?_) rfl
 refine sq (rg Za.f ?_)
 refine tq (sq ?_)
 refine rgX ⟨[(4,bv ((decide (a1_ ≥ 0))&&(decide (a1_<a0_.Nodes))))],[],[]⟩ ?_ ?_
 ·rcases Bool.eq_false_or_eq_true (decide (a1_ ≥ 0)) with hc1 | hc2
  ·exact (EP.u 1 (Zj (c:=(decide (a1_ ≥ 0))) (h:=hc1)) (EP.f (by simp only [hc1];kernel_rfl)))
  exact (EP.u 1 (Zj (c:=(decide (a1_ ≥ 0))) (h:=hc2)) (EP.f (by simp only [hc2];kernel_rfl)))
 refine tq (rt ?_)
 obtain rfl:=Zb h
 exact Zx (by kernel_rfl)
theorem ZhA (N:Nat) (a0_:Int) (c0_:Zv) (k0_:Nat) (H:List HO) (hH:HP H [.cel k0_ (Zc c0_)]) (r:Bool) (h:ZeC N a0_ c0_=some r):Zas Try.prog 84 [iv a0_,.ptr k0_ 0] H (bv r) H:=by
 unfold ZeC at h
 refine ZaF chk84 rfl rfl rfl (Zr _ _ _ ?_)
 refine sq (rg Za.f ?_)
 refine tq (sq ?_)
 have hlc1:=HP.get hH 0 rfl
 obtain ⟨e2,he2,h⟩:=bs h
 refine rg (Za.u 1 (Zn (H:=H) (id:=k0_) (off:=2) (cs:=(Zc c0_)) (c:=[Zk false c0_.Links]) (r:=Zk false c0_.Links) (hl:=hlc1)) (Za.u 1 (Zo (ys:=[Zk false c0_.Links,iv a0_]) (h:=Zm ZN he2)) (Za.u 0 (ZD (sz:=4) (off:=0) (cs:=[.int .i64 e2.A,.int .i64 e2.B,.int .i64 e2.Per,.int .i64 e2.Delay]) (r:=.agg (ZaA e2)) ZN he2) Za.f))) (tq ?_)
 refine sq ?_
 obtain ⟨j9,hj,h⟩:=bs h
 refine rgR (fun s=>s=⟨[(3,bv j9)],[],H⟩) ?_ ?_
 ·clear h
  have hlc3:=HP.get hH 0 rfl
  refine (EP.u 1 (Zn (H:=H) (id:=k0_) (off:=1) (cs:=(Zc c0_)) (c:=[s_eB false c0_.Station]) (r:=s_eB false c0_.Station) (hl:=hlc3)) ?_)
  obtain ⟨e4,he4,hj⟩:=bs hj
  refine (EP.u 2 (Zo (ys:=[s_eB false c0_.Station,iv e2.A]) (h:=Zm eB he4)) (EP.u 0 (ZD (sz:=1) (off:=0) (cs:=[.bool e4]) (r:=bv e4) eB he4) ?_))
  rcases ZH hj with ⟨hc5,hj⟩ | ⟨hc6,hj⟩
  ·obtain rfl:=Zb hj
   exact (EP.u 0 (Zj (c:=(!e4)) (h:=hc5)) (EP.f (by show _=_;kernel_rfl)))
  refine (EP.u 0 (Zj (c:=(!e4)) (h:=hc6)) ?_)
  have hlc7:=HP.get hH 0 rfl
  refine (EP.u 2 (Zn (H:=H) (id:=k0_) (off:=1) (cs:=(Zc c0_)) (c:=[s_eB false c0_.Station]) (r:=s_eB false c0_.Station) (hl:=hlc7)) ?_)
  obtain ⟨e8,he8,hj⟩:=bs hj
  obtain rfl:=Zb hj
  exact (EP.u 2 (Zo (ys:=[s_eB false c0_.Station,iv e2.B]) (h:=Zm eB he8)) (EP.u 0 (ZD (sz:=1) (off:=0) (cs:=[.bool e8]) (r:=bv e8) eB he8) (EP.f (by show _=_;kernel_rfl))))
 clear hj
 rintro s hR
 obtain rfl:=hR
 refine tq (rt ?_)
 obtain rfl:=Zb h
 exact Zai (by kernel_rfl) (by kernel_rfl)
theorem Zhz (N:Nat) (a0_:Int) (c0_:Zv) (k0_:Nat) (H:List HO) (hH:HP H [.cel k0_ (Zc c0_)]) (r:Bool) (h:ZeB N a0_ c0_=some r):Zas Try.prog 85 [iv a0_,.ptr k0_ 0] H (bv r) H:=by
 unfold ZeB at h
 refine ZaF chk85 rfl rfl rfl (Zr _ _ _ ?_)
 refine sq (rg Za.f ?_)
 refine tq (sq ?_)
 have hlc1:=HP.get hH 0 rfl
 obtain ⟨e2,he2,h⟩:=bs h
 refine rg (Za.u 1 (Zn (H:=H) (id:=k0_) (off:=2) (cs:=(Zc c0_)) (c:=[Zk false c0_.Links]) (r:=Zk false c0_.Links) (hl:=hlc1)) (Za.u 1 (Zo (ys:=[Zk false c0_.Links,iv a0_]) (h:=Zm ZN he2)) (Za.u 0 (ZD (sz:=4) (off:=0) (cs:=[.int .i64 e2.A,.int .i64 e2.B,.int .i64 e2.Per,.int .i64 e2.Delay]) (r:=.agg (ZaA e2)) ZN he2) Za.f))) (tq ?_)
 refine sq (sq ?_)
 have hlc3:=HP.get hH 0 rfl
 obtain ⟨l4,hl4,h⟩:=bs h
 refine rg (Za.u 1 (Zn (H:=H) (id:=k0_) (off:=2) (cs:=(Zc c0_)) (c:=[Zk false c0_.Links]) (r:=Zk false c0_.Links) (hl:=hlc3)) (Za.u 1 (Zo (ys:=[Zk false c0_.Links,iv a0_]) (h:=ZfQ ZN hl4)) (Za.u 0 (Zo (ys:=[Zk false l4]) (h:=Zt ZN)) Za.f))) ?_
 replace hH:HP H []:=HP.pick hH [] rfl
 refine tq (bk ?_)
 obtain ⟨o517,ho517,h⟩:=bs h
 refine ZX ((ZO (fun (x:Int) s=>s=⟨[(4,.loc 4 0),(15,Zk false l4),(16,iv ((List.length l4:Nat):Int)),(17,iv x)],[(4,(ZaA e2))],H⟩) (fun x:Int=>Zb8 N e2 l4 x) (fun (p:(Unit) ⊕ (Bool)) e s=>match p with | (.inl p)=>e = .exit 0∧(s=⟨[],[],H⟩) | (.inr p)=>e = .ret∧∃ xs,rawL s i85.res=some xs∧ZaD (weakVs xs)=bv p∧s.H=H) ?_ N _ o517 _ ho517 (by show _=_;kernel_rfl)).mono ?_)
 ·clear h ho517
  rintro i5 o s h hR
  obtain rfl:=hR
  replace h:Zb8 N e2 l4 i5=some o:=h
  unfold Zb8 at h
  refine sq (rg Za.f ?_)
  refine tq (sq ?_)
  refine it h (fun hc506 h => ?_) (fun hc506 h => ?_)
  ·refine sk (tq ?_)
   refine kq (sq ?_)
   refine bk (sq ?_)
   obtain ⟨e507,he507,h⟩:=bs h
   refine rg (Za.u 0 (Zo (ys:=[Zk false l4,iv i5]) (h:=Zm ZN he507)) (Za.u 0 (ZD (sz:=4) (off:=0) (cs:=[.int .i64 e507.A,.int .i64 e507.B,.int .i64 e507.Per,.int .i64 e507.Delay]) (r:=.agg (ZaA e507)) ZN he507) Za.f)) (tq ?_)
   refine sq (rgX ⟨[(4,.loc 4 0),(15,Zk false l4),(16,iv ((List.length l4:Nat):Int)),(17,iv i5),(46,bv (if (e2.A==e507.A) then ((e2.B==e507.B)||((e2.A==e507.B)&&(e2.B==e507.A))) else ((e2.A==e507.B)&&(e2.B==e507.A))))],[(4,(ZaA e2))],H⟩ ?_ ?_)
   ·rcases Bool.eq_false_or_eq_true (e2.A==e507.A) with hc508 | hc513
    ·refine (EP.u 4 (Zj (c:=(e2.A==e507.A)) (h:=hc508)) ?_)
     rcases Bool.eq_false_or_eq_true (e2.B==e507.B) with hc509 | hc510
     ·exact (EP.u 5 (Zj (c:=(e2.B==e507.B)) (h:=hc509)) (EP.f (by simp only [hc508,hc509];kernel_rfl)))
     refine (EP.u 5 (Zj (c:=(e2.B==e507.B)) (h:=hc510)) ?_)
     rcases Bool.eq_false_or_eq_true (e2.A==e507.B) with hc511 | hc512
     ·exact (EP.u 6 (Zj (c:=(e2.A==e507.B)) (h:=hc511)) (EP.f (by simp only [hc508,hc510,hc511];kernel_rfl)))
     exact (EP.u 6 (Zj (c:=(e2.A==e507.B)) (h:=hc512)) (EP.f (by simp only [hc508,hc510,hc512];kernel_rfl)))
    refine (EP.u 4 (Zj (c:=(e2.A==e507.A)) (h:=hc513)) ?_)
    rcases Bool.eq_false_or_eq_true (e2.A==e507.B) with hc514 | hc515
    ·exact (EP.u 12 (Zj (c:=(e2.A==e507.B)) (h:=hc514)) (EP.f (by simp only [hc513,hc514];kernel_rfl)))
    exact (EP.u 12 (Zj (c:=(e2.A==e507.B)) (h:=hc515)) (EP.f (by simp only [hc513,hc515];kernel_rfl)))
   refine tq (it h (fun hc516 h => ?_) (fun hc516 h => ?_))
   ·refine sq (rg Za.f ?_)
    refine tq (rt ?_)
    refine br (tr ?_)
    obtain rfl:=Zb h
    exact ⟨_,rfl,rfl,Zai (by kernel_rfl) (by kernel_rfl)⟩
   refine sk (bn ?_)
   refine tq (kq ?_)
   refine rg Za.f ?_
   obtain rfl:=Zb h
   exact ⟨_,rfl,(by show _=_;kernel_rfl)⟩
  refine kq (xq ?_)
  refine tx ?_
  obtain rfl:=Zb h
  exact ⟨_,rfl,rfl,(by show _=_;kernel_rfl)⟩
 rintro e s hq
 rcases o517 with p518 | p519
 ·dsimp only at h hq
  obtain ⟨rfl,hR⟩:=hq
  obtain rfl:=hR
  refine bx (tq ?_)
  refine sq (rg Za.f ?_)
  refine tq (rt ?_)
  obtain rfl:=Zb h
  exact Zai (by kernel_rfl) (by kernel_rfl)
 dsimp only at h hq
 obtain ⟨rfl,hq⟩:=hq
 refine br (tr ?_)
 obtain rfl:=Zb h
 exact hq
theorem Zhy (N:Nat) (a0_:Int) (c0_:Zv) (k0_:Nat) (H:List HO) (hH:HP H [.cel k0_ (Zc c0_)]) (r:Bool) (h:ZeA N a0_ c0_=some r):Zas Try.prog 86 [iv a0_,.ptr k0_ 0] H (bv r) H:=by
 unfold ZeA at h
 refine ZaF chk86 rfl rfl rfl (Zr _ _ _ ?_)
 refine sq (rg Za.f ?_)
 refine tq (sq ?_)
 have hlc1:=HP.get hH 0 rfl
 obtain ⟨e2,he2,h⟩:=bs h
 refine rg (Za.u 1 (Zn (H:=H) (id:=k0_) (off:=2) (cs:=(Zc c0_)) (c:=[Zk false c0_.Links]) (r:=Zk false c0_.Links) (hl:=hlc1)) (Za.u 1 (Zo (ys:=[Zk false c0_.Links,iv a0_]) (h:=Zm ZN he2)) (Za.u 0 (ZD (sz:=4) (off:=0) (cs:=[.int .i64 e2.A,.int .i64 e2.B,.int .i64 e2.Per,.int .i64 e2.Delay]) (r:=.agg (ZaA e2)) ZN he2) Za.f))) ?_
 replace hH:HP H []:=HP.pick hH [] rfl
 refine tq (sq ?_)
 refine rgX ⟨[(3,bv ((decide (e2.Per ≥ 1))&&((decide (e2.Per≤1000))&&((decide (e2.Delay ≥ 0))&&(decide (e2.Delay≤10000))))))],[],H⟩ ?_ ?_
 ·rcases Bool.eq_false_or_eq_true (decide (e2.Per ≥ 1)) with hc3 | hc8
  ·refine (EP.u 2 (Zj (c:=(decide (e2.Per ≥ 1))) (h:=hc3)) ?_)
   rcases Bool.eq_false_or_eq_true (decide (e2.Per≤1000)) with hc4 | hc7
   ·refine (EP.u 3 (Zj (c:=(decide (e2.Per≤1000))) (h:=hc4)) ?_)
    rcases Bool.eq_false_or_eq_true (decide (e2.Delay ≥ 0)) with hc5 | hc6
    ·exact (EP.u 4 (Zj (c:=(decide (e2.Delay ≥ 0))) (h:=hc5)) (EP.f (by simp only [hc3,hc4,hc5];kernel_rfl)))
    exact (EP.u 4 (Zj (c:=(decide (e2.Delay ≥ 0))) (h:=hc6)) (EP.f (by simp only [hc3,hc4,hc6];kernel_rfl)))
   exact (EP.u 3 (Zj (c:=(decide (e2.Per≤1000))) (h:=hc7)) (EP.f (by simp only [hc3,hc7];kernel_rfl)))
  exact (EP.u 2 (Zj (c:=(decide (e2.Per ≥ 1))) (h:=hc8)) (EP.f (by simp only [hc8];kernel_rfl)))
 refine tq (rt ?_)
 obtain rfl:=Zb h
 exact Zai (by kernel_rfl) (by kernel_rfl)
theorem Zdp (N:Nat) (a0_:(List Bool)) (a1_:Bool) (r:Int) (h:Za9 N a0_ a1_=some r):Zab Try.prog 87 [s_eB false a0_,bv a1_] (iv r):=by
 unfold Za9 at h
 have hH:HP ([]:List HO) []:=trivial
 refine ZF chk87 rfl rfl (Zr _ _ _ ?_) rfl
 refine sq (rg Za.f ?_)
 refine tq (sq ?_)
 refine sq (rg (Za.u 1 (Zo (ys:=[s_eB false a0_]) (h:=Zt eB)) Za.f) ?_)
 refine tq (bk ?_)
 obtain ⟨o505,ho505,h⟩:=bs h
 refine ZX ((ZO (fun (x:Int) s=>s=⟨[(0,s_eB false a0_),(1,bv a1_),(7,iv ((List.length a0_:Nat):Int)),(8,iv x)],[],[]⟩) (fun x:Int=>Zaq N a0_ a1_ x) (fun (p:(Unit) ⊕ (Int)) e s=>match p with | (.inl p)=>e = .exit 0∧(s=⟨[],[],[]⟩) | (.inr p)=>e = .ret∧∃ xs,resL s i87.res=some xs∧ZaD xs=iv p) ?_ N _ o505 _ ho505 (by show _=_;kernel_rfl)).mono ?_)
 ·clear h ho505
  rintro i1 o s h hR
  obtain rfl:=hR
  replace h:Zaq N a0_ a1_ i1=some o:=h
  unfold Zaq at h
  refine sq (rg Za.f ?_)
  refine tq (sq ?_)
  refine it h (fun hc502 h => ?_) (fun hc502 h => ?_)
  ·refine sk (tq ?_)
   refine kq (sq ?_)
   refine bk (sq ?_)
   refine rg Za.f (tq ?_)
   refine sq ?_
   obtain ⟨e503,he503,h⟩:=bs h
   refine rg (Za.u 3 (Zo (ys:=[s_eB false a0_,iv i1]) (h:=Zm eB he503)) (Za.u 0 (ZD (sz:=1) (off:=0) (cs:=[.bool e503]) (r:=bv e503) eB he503) Za.f)) (tq ?_)
   refine it h (fun hc504 h => ?_) (fun hc504 h => ?_)
   ·refine sq (rg Za.f ?_)
    refine tq (rt ?_)
    refine br (tr ?_)
    obtain rfl:=Zb h
    exact ⟨_,rfl,rfl,Zx (by kernel_rfl)⟩
   refine sk (bn ?_)
   refine tq (kq ?_)
   refine rg Za.f ?_
   obtain rfl:=Zb h
   exact ⟨_,rfl,(by show _=_;kernel_rfl)⟩
  refine kq (xq ?_)
  refine tx ?_
  obtain rfl:=Zb h
  exact ⟨_,rfl,rfl,(by show _=_;kernel_rfl)⟩
 rintro e s hq
 rcases o505 with p506 | p507
 ·dsimp only at h hq
  obtain ⟨rfl,hR⟩:=hq
  obtain rfl:=hR
  refine bx (tq ?_)
  refine sq (rg Za.f ?_)
  refine tq (rt ?_)
  obtain rfl:=Zb h
  exact Zx (by kernel_rfl)
 dsimp only at h hq
 obtain ⟨rfl,hq⟩:=hq
 refine br (tr ?_)
 obtain rfl:=Zb h
 exact hq
theorem Zc1 (N:Nat) (a0_:Int) (a1_:Int) (a2_:Int) (r:Bool) (h:ZbM N a0_ a1_ a2_=some r):Zab Try.prog 88 [iv a0_,iv a1_,iv a2_] (bv r):=by
 unfold ZbM at h
 have hH:HP ([]:List HO) []:=trivial
 refine ZF chk88 rfl rfl (Zr _ _ _ ?_) rfl
 refine sq (rg Za.f ?_)
 refine tq (sq ?_)
 refine rgX ⟨[(6,bv ((decide (a1_≤a0_))&&(decide (a0_≤a2_))))],[],[]⟩ ?_ ?_
 ·rcases Bool.eq_false_or_eq_true (decide (a1_≤a0_)) with hc1 | hc2
  ·exact (EP.u 2 (Zj (c:=(decide (a1_≤a0_))) (h:=hc1)) (EP.f (by simp only [hc1];kernel_rfl)))
  exact (EP.u 2 (Zj (c:=(decide (a1_≤a0_))) (h:=hc2)) (EP.f (by simp only [hc2];kernel_rfl)))
 refine tq (rt ?_)
 obtain rfl:=Zb h
 exact Zx (by kernel_rfl)
theorem ZhL (N:Nat) (a0_:(List Int)) (a1_:(List Int)) (r:Bool) (h:ZeL N a0_ a1_=some r):Zab Try.prog 93 [Zg false a0_,Zg false a1_] (bv r):=by
 unfold ZeL at h
 have hH:HP ([]:List HO) []:=trivial
 refine ZF chk93 rfl rfl (Zr _ _ _ ?_) rfl
 refine sq (rg Za.f ?_)
 refine tq (sq ?_)
 refine sq (rg (Za.u 1 (Zo (ys:=[Zg false a0_]) (h:=Zt eI64)) Za.f) ?_)
 refine tq (bk ?_)
 obtain ⟨o1011,ho1011,h⟩:=bs h
 refine ZX ((ZO (fun (x:Int) s=>s=⟨[(1,Zg false a1_),(9,Zg false a0_),(10,iv ((List.length a0_:Nat):Int)),(11,iv x)],[],[]⟩) (fun x:Int=>Zcc N a0_ a1_ x) (fun (p:(Unit) ⊕ (Bool)) e s=>match p with | (.inl p)=>e = .exit 0∧(s=⟨[],[],[]⟩) | (.inr p)=>e = .ret∧∃ xs,resL s i93.res=some xs∧ZaD xs=bv p) ?_ N _ o1011 _ ho1011 (by show _=_;kernel_rfl)).mono ?_)
 ·clear h ho1011
  rintro i1 o s h hR
  obtain rfl:=hR
  replace h:Zcc N a0_ a1_ i1=some o:=h
  unfold Zcc at h
  refine sq (rg Za.f ?_)
  refine tq (sq ?_)
  refine it h (fun hc502 h => ?_) (fun hc502 h => ?_)
  ·refine sk (tq ?_)
   refine kq (sq ?_)
   refine bk (sq ?_)
   obtain ⟨e503,he503,h⟩:=bs h
   refine rg (Za.u 0 (Zo (ys:=[Zg false a0_,iv i1]) (h:=Zm eI64 he503)) (Za.u 0 (ZD (sz:=1) (off:=0) (cs:=[.int .i64 e503]) (r:=iv e503) eI64 he503) Za.f)) (tq ?_)
   refine sq (rg (Za.u 1 (Zo (ys:=[Zg false a1_]) (h:=Zt eI64)) Za.f) ?_)
   refine tq (bk ?_)
   obtain ⟨o1008,ho1008,h⟩:=bs h
   refine ZX ((ZO (fun (x:Int) s=>s=⟨[(1,Zg false a1_),(6,iv e503),(9,Zg false a0_),(10,iv ((List.length a0_:Nat):Int)),(11,iv i1),(15,Zg false a1_),(16,iv ((List.length a1_:Nat):Int)),(17,iv x)],[],[]⟩) (fun x:Int=>Zcb N a1_ e503 x) (fun (p:(Unit) ⊕ (Bool)) e s=>match p with | (.inl p)=>e = .exit 2∧(s=⟨[(1,Zg false a1_),(9,Zg false a0_),(10,iv ((List.length a0_:Nat):Int)),(11,iv i1)],[],[]⟩) | (.inr p)=>e = .ret∧∃ xs,resL s i93.res=some xs∧ZaD xs=bv p) ?_ N _ o1008 _ ho1008 (by show _=_;kernel_rfl)).mono ?_)
   ·clear h ho1008
    rintro i504 o s h hR
    obtain rfl:=hR
    replace h:Zcb N a1_ e503 i504=some o:=h
    unfold Zcb at h
    refine sq (rg Za.f ?_)
    refine tq (sq ?_)
    refine it h (fun hc1005 h => ?_) (fun hc1005 h => ?_)
    ·refine sk (tq ?_)
     refine kq (sq ?_)
     refine bk (sq ?_)
     obtain ⟨e1006,he1006,h⟩:=bs h
     refine rg (Za.u 0 (Zo (ys:=[Zg false a1_,iv i504]) (h:=Zm eI64 he1006)) (Za.u 0 (ZD (sz:=1) (off:=0) (cs:=[.int .i64 e1006]) (r:=iv e1006) eI64 he1006) Za.f)) (tq ?_)
     refine sq (rg Za.f ?_)
     refine tq (it h (fun hc1007 h => ?_) (fun hc1007 h => ?_))
     ·refine sq (rg Za.f ?_)
      refine tq (rt ?_)
      refine br (tr ?_)
      obtain rfl:=Zb h
      exact ⟨_,rfl,rfl,Zx (by kernel_rfl)⟩
     refine sk (bn ?_)
     refine tq (kq ?_)
     refine rg Za.f ?_
     obtain rfl:=Zb h
     exact ⟨_,rfl,(by show _=_;kernel_rfl)⟩
    refine kq (xq ?_)
    refine tx ?_
    obtain rfl:=Zb h
    exact ⟨_,rfl,rfl,(by show _=_;kernel_rfl)⟩
   rintro e s hq
   rcases o1008 with p1009 | p1010
   ·dsimp only at h hq
    obtain ⟨rfl,hR⟩:=hq
    obtain rfl:=hR
    refine bx (bn ?_)
    refine tq (rg Za.f ?_)
    obtain rfl:=Zb h
    exact ⟨_,rfl,(by show _=_;kernel_rfl)⟩
   dsimp only at h hq
   obtain ⟨rfl,hq⟩:=hq
   refine br (br ?_)
   refine tr ?_
   obtain rfl:=Zb h
   exact ⟨_,rfl,rfl,hq⟩
  refine kq (xq ?_)
  refine tx ?_
  obtain rfl:=Zb h
  exact ⟨_,rfl,rfl,(by show _=_;kernel_rfl)⟩
 rintro e s hq
 rcases o1011 with p1012 | p1013
 ·dsimp only at h hq
  obtain ⟨rfl,hR⟩:=hq
  obtain rfl:=hR
  refine bx (tq ?_)
  refine sq (rg Za.f ?_)
  refine tq (rt ?_)
  obtain rfl:=Zb h
  exact Zx (by kernel_rfl)
 dsimp only at h hq
 obtain ⟨rfl,hq⟩:=hq
 refine br (tr ?_)
 obtain rfl:=Zb h
 exact hq
theorem Zem {σ:Type} (N:Nat) (y_:σ→Z4→Option (σ × Bool)) (c0_:Zw) (c1_:Int) (c2_:Zv) (c3_:Z2) (s_:σ) (k0_:Nat) (k1_:Nat) (k2_:Nat) (k3_:Nat) (yid_:Nat) (T_:σ→List ZR→Prop) (hy_:∀ (x0:Z4) (s:σ) (r:σ × Bool) (H:List HO) (its:List ZR),T_ s its→HP H its→y_ s x0=some r→∃ H' its',Ze3 Try.prog yid_ [.agg [iv x0.Port,iv x0.Early,iv x0.Late,iv x0.Open,iv x0.Long]] H r.2 H'∧T_ r.1 its'∧Fp H H' its its') (H:List HO) (its:List ZR) (hT:T_ s_ its) (hH:HP H (.cel k0_ (Zf c0_) :: .cel k1_ [iv c1_] :: .cel k2_ (Zc c2_) :: .cel k3_ (Zh c3_)::its)) (r:σ) (h:Zc7 N y_ c0_ c1_ c2_ c3_ s_=some r):∃ H' its',Zas Try.prog 95 [.yl yid_,.ptr k0_ 0,.ptr k1_ 0,.ptr k2_ 0,.ptr k3_ 0] H (.tup []) H'∧T_ r its'∧Fp H H' (.cel k0_ (Zf c0_) :: .cel k1_ [iv c1_] :: .cel k2_ (Zc c2_) :: .cel k3_ (Zh c3_)::its) (.cel k0_ (Zf c0_) :: .cel k1_ [iv c1_] :: .cel k2_ (Zc c2_) :: .cel k3_ (Zh c3_)::its'):=by
 suffices hs:∃ H',Zas Try.prog 95 [.yl yid_,.ptr k0_ 0,.ptr k1_ 0,.ptr k2_ 0,.ptr k3_ 0] H (.tup []) H'∧∃ its',T_ r its'∧Fp H H' (.cel k0_ (Zf c0_) :: .cel k1_ [iv c1_] :: .cel k2_ (Zc c2_) :: .cel k3_ (Zh c3_)::its) (.cel k0_ (Zf c0_) :: .cel k1_ [iv c1_] :: .cel k2_ (Zc c2_) :: .cel k3_ (Zh c3_)::its') by
  obtain ⟨H',h1,its',h2,h3⟩:=hs
  exact ⟨H',its',h1,h2,h3⟩
 unfold Zc7 at h
 replace hH:Fp H H (.cel k0_ (Zf c0_) :: .cel k1_ [iv c1_] :: .cel k2_ (Zc c2_) :: .cel k3_ (Zh c3_)::its) (.cel k0_ (Zf c0_) :: .cel k1_ [iv c1_] :: .cel k2_ (Zc c2_) :: .cel k3_ (Zh c3_)::its):=Fp.refl hH
 refine Ziq chk95 (fun H'=>∃ its',T_ r its'∧Fp H H' (.cel k0_ (Zf c0_) :: .cel k1_ [iv c1_] :: .cel k2_ (Zc c2_) :: .cel k3_ (Zh c3_)::its) (.cel k0_ (Zf c0_) :: .cel k1_ [iv c1_] :: .cel k2_ (Zc c2_) :: .cel k3_ (Zh c3_)::its')) rfl rfl rfl ?_
 refine sq (rg Za.f ?_)
 refine tq (sq ?_)
 have hlc1:=Fp.get hH 0 rfl
 have hlc2:=Fp.get hH 1 rfl
 obtain ⟨e3,he3,h⟩:=bs h
 refine rg (Za.u 1 (Zn (H:=H) (id:=k0_) (off:=9) (cs:=(Zf c0_)) (c:=[ZI false c0_.Routes]) (r:=ZI false c0_.Routes) (hl:=hlc1)) (Za.u 0 (Zn (H:=H) (id:=k1_) (off:=0) (cs:=[iv c1_]) (c:=[iv c1_]) (r:=iv c1_) (hl:=hlc2)) (Za.u 0 (Zo (ys:=[ZI false c0_.Routes,iv c1_]) (h:=Zm (eSl 1 eI64) he3)) (Za.u 0 (ZD (sz:=1) (off:=0) (cs:=[.sl 1 false (List.map eI64 e3)]) (r:=Zg false e3) (eSl 1 eI64) he3) (Za.u 0 (Zo (ys:=[Zg false e3]) (h:=Zt eI64)) Za.f))))) (tq ?_)
 refine bk ?_
 obtain ⟨o1035,ho1035,h⟩:=bs h
 refine ZX ((ZO (fun (x:Int × Int × Int × Int × Int × Int × σ) s=>∃ (its4:List ZR) (H5:List HO),s=⟨[(0,.yl yid_),(1,.ptr k0_ 0),(3,.ptr k2_ 0),(4,.ptr k3_ 0),(6,.loc 6 0),(14,Zg false e3),(15,iv ((List.length e3:Nat):Int)),(16,iv x.1)],[(6,[iv x.2.1,iv x.2.2.1,iv x.2.2.2.1,iv x.2.2.2.2.1,iv x.2.2.2.2.2.1])],H5⟩∧T_ x.2.2.2.2.2.2 its4∧Fp H H5 (.cel k0_ (Zf c0_) :: .cel k1_ [iv c1_] :: .cel k2_ (Zc c2_) :: .cel k3_ (Zh c3_)::its) (.cel k0_ (Zf c0_) :: .cel k1_ [iv c1_] :: .cel k2_ (Zc c2_) :: .cel k3_ (Zh c3_)::its4)) (fun x:Int × Int × Int × Int × Int × Int × σ=>ZbU N y_ c0_ c2_ c3_ e3 x.1 x.2.1 x.2.2.1 x.2.2.2.1 x.2.2.2.2.1 x.2.2.2.2.2.1 x.2.2.2.2.2.2) (fun (p:(σ) ⊕ (σ)) e s=>match p with | (.inl p)=>e = .exit 0∧(∃ (its513:List ZR) (H514:List HO),s=⟨[],[],H514⟩∧T_ p its513∧Fp H H514 (.cel k0_ (Zf c0_) :: .cel k1_ [iv c1_] :: .cel k2_ (Zc c2_) :: .cel k3_ (Zh c3_)::its) (.cel k0_ (Zf c0_) :: .cel k1_ [iv c1_] :: .cel k2_ (Zc c2_) :: .cel k3_ (Zh c3_)::its513)) | (.inr p)=>e = .ret∧∃ xs,rawL s i95.res=some xs∧ZaD xs = .tup []∧∃ its',T_ p its'∧Fp H s.H (.cel k0_ (Zf c0_) :: .cel k1_ [iv c1_] :: .cel k2_ (Zc c2_) :: .cel k3_ (Zh c3_)::its) (.cel k0_ (Zf c0_) :: .cel k1_ [iv c1_] :: .cel k2_ (Zc c2_) :: .cel k3_ (Zh c3_)::its')) ?_ N _ o1035 _ ho1035 ⟨its,H,(by show _=_;kernel_rfl),hT,Fp.at hH⟩).mono ?_)
 ·clear h ho1035
  rintro ⟨i6,i7,i10,i11,i12,i8,g9⟩ o s h hR
  obtain ⟨its4,H5,rfl,hT,hH⟩:=hR
  replace hH:Fp H H5 (.cel k0_ (Zf c0_) :: .cel k1_ [iv c1_] :: .cel k2_ (Zc c2_) :: .cel k3_ (Zh c3_)::its) (.cel k0_ (Zf c0_) :: .cel k1_ [iv c1_] :: .cel k2_ (Zc c2_) :: .cel k3_ (Zh c3_)::its4):=hH
  replace h:ZbU N y_ c0_ c2_ c3_ e3 i6 i7 i10 i11 i12 i8 g9=some o:=h
  unfold ZbU at h
  refine sq (rg Za.f ?_)
  refine tq (sq ?_)
  refine it h (fun hc515 h => ?_) (fun hc515 h => ?_)
  ·refine sk (tq ?_)
   refine kq (sq ?_)
   refine bk (sq ?_)
   obtain ⟨e516,he516,h⟩:=bs h
   refine rg (Za.u 1 (Zo (ys:=[Zg false e3,iv i6]) (h:=Zm eI64 he516)) (Za.u 0 (ZD (sz:=1) (off:=0) (cs:=[.int .i64 e516]) (r:=iv e516) eI64 he516) Za.f)) (tq ?_)
   obtain ⟨j1017,hj1017,h⟩:=bs h
   refine Zd5 [0,1,3,4,6,8,14,15,16] (fun s=>s=⟨[(0,.yl yid_),(1,.ptr k0_ 0),(3,.ptr k2_ 0),(4,.ptr k3_ 0),(6,.loc 6 0),(8,iv e516),(14,Zg false e3),(15,iv ((List.length e3:Nat):Int)),(16,iv i6)],[(6,[iv i7,iv j1017.1,iv j1017.2.1,iv j1017.2.2,iv i8])],H5⟩) ?_ ?_
   ·clear h
    have h:=hj1017
    refine sq (rg Za.f ?_)
    refine tq (it h (fun hc1018 h => ?_) (fun hc1018 h => ?_))
    ·refine sq ?_
     have hlc1019:=Fp.get hH 2 rfl
     obtain ⟨e1020,he1020,h⟩:=bs h
     have hlc1021:=Fp.get hH 3 rfl
     refine rq (Za.u 6 (ZV (Zn (H:=H5) (id:=k2_) (off:=2) (cs:=(Zc c2_)) (c:=[Zk false c2_.Links]) (r:=Zk false c2_.Links) (hl:=hlc1019))) (Za.u 3 (Zo (ys:=[Zk false c2_.Links,iv (w64 (Int.tdiv i7 2))]) (h:=Zm ZN he1020)) (Za.u 1 (ZV (ZD (sz:=4) (off:=3) (cs:=[.int .i64 e1020.Delay]) (r:=iv e1020.Delay) ZN he1020)) (Za.u 2 (ZV (Zn (H:=H5) (id:=k3_) (off:=2) (cs:=(Zh c3_)) (c:=[iv c3_.Proc]) (r:=iv c3_.Proc) (hl:=hlc1021))) Za.f)))) (tq ?_)
     refine sq ?_
     have hlc1022:=Fp.get hH 3 rfl
     have hlc1023:=Fp.get hH 3 rfl
     refine rq (Za.u 2 (ZV (Zn (H:=H5) (id:=k3_) (off:=1) (cs:=(Zh c3_)) (c:=[iv c3_.Slack]) (r:=iv c3_.Slack) (hl:=hlc1022))) (Za.u 4 (ZV (Zn (H:=H5) (id:=k3_) (off:=1) (cs:=(Zh c3_)) (c:=[iv c3_.Slack]) (r:=iv c3_.Slack) (hl:=hlc1023))) Za.f)) (tq ?_)
     have hlc1024:=Fp.get hH 3 rfl
     have hlc1025:=Fp.get hH 3 rfl
     obtain ⟨q1026,hq1026,h⟩:=bs h
     have hlc1027:=Fp.get hH 3 rfl
     refine rq (Za.u 3 (ZV (Zn (H:=H5) (id:=k3_) (off:=0) (cs:=(Zh c3_)) (c:=[iv c3_.Grid]) (r:=iv c3_.Grid) (hl:=hlc1024))) (Za.u 3 (ZV (Zn (H:=H5) (id:=k3_) (off:=0) (cs:=(Zh c3_)) (c:=[iv c3_.Grid]) (r:=iv c3_.Grid) (hl:=hlc1025))) (Za.u 0 (Zo (ys:=[iv (w64 ((w64 ((w64 ((w64 ((w64 ((w64 (i12+i8))+e1020.Delay))+c3_.Proc))+(w64 (2 * c3_.Slack))))+c3_.Grid)) - 1)),iv c3_.Grid]) (h:=ZfR hq1026)) (Za.u 1 (ZV (Zn (H:=H5) (id:=k3_) (off:=0) (cs:=(Zh c3_)) (c:=[iv c3_.Grid]) (r:=iv c3_.Grid) (hl:=hlc1027))) Za.f)))) ?_
     obtain rfl:=Zb h
     exact ⟨rfl,(by show _=_;kernel_rfl)⟩
    refine sk ?_
    obtain rfl:=Zb h
    exact ⟨rfl,(by show _=_;kernel_rfl)⟩
   clear hj1017
   rintro s hR
   obtain rfl:=hR
   refine sq ?_
   have hlc1028:=Fp.get hH 0 rfl
   have hlc1029:=Fp.get hH 2 rfl
   obtain ⟨e1030,he1030,h⟩:=bs h
   refine rq (Za.u 2 (ZV (Zn (H:=H5) (id:=k0_) (off:=4) (cs:=(Zf c0_)) (c:=[iv c0_.Size]) (r:=iv c0_.Size) (hl:=hlc1028))) (Za.u 1 (ZV (Zn (H:=H5) (id:=k2_) (off:=2) (cs:=(Zc c2_)) (c:=[Zk false c2_.Links]) (r:=Zk false c2_.Links) (hl:=hlc1029))) (Za.u 2 (Zo (ys:=[Zk false c2_.Links,iv (w64 (Int.tdiv e516 2))]) (h:=Zm ZN he1030)) (Za.u 1 (ZV (ZD (sz:=4) (off:=2) (cs:=[.int .i64 e1030.Per]) (r:=iv e1030.Per) ZN he1030)) Za.f)))) (tq ?_)
   refine sq ?_
   obtain ⟨r1031,hr1031,h⟩:=bs h
   obtain ⟨H1032,its1033,hvr1031,hT,hFr1031⟩:=hy_ (Z4.mk e516 j1017.1 j1017.2.1 j1017.2.2 (w64 (c0_.Size * e1030.Per))) g9 r1031 H5 its4 hT (Fp.tail (own:=[.cel k0_ (Zf c0_),.cel k1_ [iv c1_],.cel k2_ (Zc c2_),.cel k3_ (Zh c3_)]) (its:=its4) hH) hr1031
   replace hH:Fp H H1032 (.cel k0_ (Zf c0_) :: .cel k1_ [iv c1_] :: .cel k2_ (Zc c2_) :: .cel k3_ (Zh c3_)::its) (.cel k0_ (Zf c0_) :: .cel k1_ [iv c1_] :: .cel k2_ (Zc c2_) :: .cel k3_ (Zh c3_)::its1033):=Fp.callT (own:=[.cel k0_ (Zf c0_),.cel k1_ [iv c1_],.cel k2_ (Zc c2_),.cel k3_ (Zh c3_)]) (its:=its4) hH hFr1031
   refine rg (Za.v 2 (Zja (H:=H5) (id:=yid_) (ys:=[.agg [iv e516,iv j1017.1,iv j1017.2.1,iv j1017.2.2,iv (w64 (c0_.Size * e1030.Per))]]) (by kernel_rfl) (by kernel_rfl) (by kernel_rfl) (by kernel_rfl) hvr1031) Za.f) (tq ?_)
   refine it h (fun hc1034 h => ?_) (fun hc1034 h => ?_)
   ·refine rt (br ?_)
    refine tr ?_
    obtain rfl:=Zb h
    exact ⟨_,rfl,rfl,⟨[],(by kernel_rfl),(by kernel_rfl),its1033,hT,Fp.at hH⟩⟩
   refine sk (bn ?_)
   refine tq (kq ?_)
   refine rg Za.f ?_
   obtain rfl:=Zb h
   exact ⟨_,rfl,⟨its1033,H1032,(by show _=_;kernel_rfl),hT,Fp.at hH⟩⟩
  refine kq (xq ?_)
  refine tx ?_
  obtain rfl:=Zb h
  exact ⟨_,rfl,rfl,⟨its4,H5,(by show _=_;kernel_rfl),hT,Fp.at hH⟩⟩
 rintro e s hq
 rcases o1035 with p1036 | p1037
 ·dsimp only at h hq
  obtain ⟨rfl,hR⟩:=hq
  obtain ⟨its513,H514,rfl,hT,hH⟩:=hR
  replace hH:Fp H H514 (.cel k0_ (Zf c0_) :: .cel k1_ [iv c1_] :: .cel k2_ (Zc c2_) :: .cel k3_ (Zh c3_)::its) (.cel k0_ (Zf c0_) :: .cel k1_ [iv c1_] :: .cel k2_ (Zc c2_) :: .cel k3_ (Zh c3_)::its513):=hH
  refine bx ?_
  obtain rfl:=Zb h
  exact ⟨[],(by kernel_rfl),(by kernel_rfl),its513,hT,Fp.at hH⟩
 dsimp only at h hq
 obtain ⟨rfl,hq⟩:=hq
 refine br ?_
 obtain rfl:=Zb h
 exact hq
theorem Zdu (N:Nat) (a0_:ZM) (a1_:(List Int)) (H:List HO) (r:(List Int) × ZM) (h:Zca N a0_ a1_=some r):∃ (id0_ id1_:Nat) (H':List HO),Zas Try.prog 98 [.agg (Zc a0_.Topo),Zg false a1_] H (.fn 103 [] [.ptr id0_ 0,.ptr id1_ 0]) H'∧Fp H H' [] [.cel id0_ [Zg false r.1],.cel id1_ [iv r.2.Topo.Nodes,s_eB false r.2.Topo.Station,Zk false r.2.Topo.Links]]:=by
 suffices hs:∃ r' H',Zas Try.prog 98 [.agg (Zc a0_.Topo),Zg false a1_] H r' H'∧∃ (id0_ id1_:Nat),r' = .fn 103 [] [.ptr id0_ 0,.ptr id1_ 0]∧Fp H H' [] [.cel id0_ [Zg false r.1],.cel id1_ [iv r.2.Topo.Nodes,s_eB false r.2.Topo.Station,Zk false r.2.Topo.Links]] by
  obtain ⟨_,H',h1,id0_,id1_,rfl,h2⟩:=hs
  exact ⟨id0_,id1_,H',h1,h2⟩
 unfold Zca at h
 have hH:Fp H H [] []:=Fp.refl trivial
 refine ZgL chk98 (fun r' H'=>∃ (id0_ id1_:Nat),r' = .fn 103 [] [.ptr id0_ 0,.ptr id1_ 0]∧Fp H H' [] [.cel id0_ [Zg false r.1],.cel id1_ [iv r.2.Topo.Nodes,s_eB false r.2.Topo.Station,Zk false r.2.Topo.Links]]) (fun r' H' ⟨_,_,e,_⟩=>by rw [e];rfl) rfl rfl ?_
 refine sq ?_
 obtain ⟨id1,H2,hid1,hH2,hH⟩:=Fp.newCell hH (Zc a0_.Topo)
 replace hH:Fp H H2 [] [.cel id1 (Zc a0_.Topo)]:=hH
 obtain ⟨id3,H4,hid3,hH4,hH⟩:=Fp.newCell hH [Zg false a1_]
 replace hH:Fp H H4 [] [.cel id3 [Zg false a1_],.cel id1 (Zc a0_.Topo)]:=hH
 refine rg (Za.h 0 (ZaQ (H:=H) (v:=.agg (Zc a0_.Topo)) (hid:=hid1) (hH:=hH2)) (Za.h 0 (ZaQ (H:=H2) (v:=Zg false a1_) (hid:=hid3) (hH:=hH4)) Za.f)) (tq ?_)
 refine sq (rg Za.f ?_)
 refine tq (rt ?_)
 obtain rfl:=Zb h
 exact ⟨[.fn 103 [] [.ptr id3 0,.ptr id1 0]],(by kernel_rfl),id3,id1,rfl,Fp.pk hH [0,1] rfl⟩
theorem ZcX {σ:Type} (N:Nat) (y_:σ→Int→Zau→Option (σ × Bool)) (c0_:(List Int)) (c1_:ZM) (s_:σ) (k0_:Nat) (k1_:Nat) (yid_:Nat) (T_:σ→List ZR→Prop) (hy_:∀ (x0:Int) (x1:Zau) (s:σ) (r:σ × Bool) (H:List HO) (its:List ZR),T_ s its→HP H its→y_ s x0 x1=some r→∃ H' its',Ze3 Try.prog yid_ [iv x0,.agg [iv x1.port,iv x1.from_,iv x1.to_]] H r.2 H'∧T_ r.1 its'∧Fp H H' its its') (H:List HO) (its:List ZR) (hT:T_ s_ its) (hH:HP H (.cel k0_ [Zg false c0_] :: .cel k1_ (Zc c1_.Topo)::its)) (r:σ) (h:ZbE N y_ c0_ c1_ s_=some r):∃ H' its',Zas Try.prog 103 [.yl yid_,.ptr k0_ 0,.ptr k1_ 0] H (.tup []) H'∧T_ r its'∧Fp H H' (.cel k0_ [Zg false c0_] :: .cel k1_ (Zc c1_.Topo)::its) (.cel k0_ [Zg false c0_] :: .cel k1_ (Zc c1_.Topo)::its'):=by
 suffices hs:∃ H',Zas Try.prog 103 [.yl yid_,.ptr k0_ 0,.ptr k1_ 0] H (.tup []) H'∧∃ its',T_ r its'∧Fp H H' (.cel k0_ [Zg false c0_] :: .cel k1_ (Zc c1_.Topo)::its) (.cel k0_ [Zg false c0_] :: .cel k1_ (Zc c1_.Topo)::its') by
  obtain ⟨H',h1,its',h2,h3⟩:=hs
  exact ⟨H',its',h1,h2,h3⟩
 unfold ZbE at h
 replace hH:Fp H H (.cel k0_ [Zg false c0_] :: .cel k1_ (Zc c1_.Topo)::its) (.cel k0_ [Zg false c0_] :: .cel k1_ (Zc c1_.Topo)::its):=Fp.refl hH
 refine Ziq chk103 (fun H'=>∃ its',T_ r its'∧Fp H H' (.cel k0_ [Zg false c0_] :: .cel k1_ (Zc c1_.Topo)::its) (.cel k0_ [Zg false c0_] :: .cel k1_ (Zc c1_.Topo)::its')) rfl rfl rfl ?_
 refine ZmF (EvI.scope ?_)
 refine sq (ZmG ?_)
 refine tq (sq ?_)
 have hlc1:=Fp.get hH 0 rfl
 refine rg (Za.u 0 (Zn (H:=H) (id:=k0_) (off:=0) (cs:=[Zg false c0_]) (c:=[Zg false c0_]) (r:=Zg false c0_) (hl:=hlc1)) (Za.u 0 (Zo (ys:=[Zg false c0_]) (h:=Zt eI64)) Za.f)) (tq ?_)
 refine bk ?_
 obtain ⟨o1023,ho1023,h⟩:=bs h
 refine ZX ((ZO (fun (x:Int × σ) s=>∃ (its2:List ZR) (H3:List HO),s=⟨[(0,.yl yid_),(2,.ptr k1_ 0),(8,Zg false c0_),(9,iv ((List.length c0_:Nat):Int)),(10,iv x.1)],[],H3⟩∧T_ x.2 its2∧Fp H H3 (.cel k0_ [Zg false c0_] :: .cel k1_ (Zc c1_.Topo)::its) (.cel k0_ [Zg false c0_] :: .cel k1_ (Zc c1_.Topo)::its2)) (fun x:Int × σ=>ZaW N y_ c0_ c1_ x.1 x.2) (fun (p:σ) e s=>e = .exit 0∧(∃ (its506:List ZR) (H507:List HO),s=⟨[],[],H507⟩∧T_ p its506∧Fp H H507 (.cel k0_ [Zg false c0_] :: .cel k1_ (Zc c1_.Topo)::its) (.cel k0_ [Zg false c0_] :: .cel k1_ (Zc c1_.Topo)::its506))) ?_ N _ o1023 _ ho1023 ⟨its,H,(by show _=_;kernel_rfl),hT,Fp.at hH⟩).mono ?_)
 ·clear h ho1023
  rintro ⟨i4,g5⟩ o s h hR
  obtain ⟨its2,H3,rfl,hT,hH⟩:=hR
  replace hH:Fp H H3 (.cel k0_ [Zg false c0_] :: .cel k1_ (Zc c1_.Topo)::its) (.cel k0_ [Zg false c0_] :: .cel k1_ (Zc c1_.Topo)::its2):=hH
  replace h:ZaW N y_ c0_ c1_ i4 g5=some o:=h
  unfold ZaW at h
  refine sq (rg Za.f ?_)
  refine tq (sq ?_)
  refine it h (fun hc508 h => ?_) (fun hc508 h => ?_)
  ·refine sk (tq ?_)
   refine kq (sq ?_)
   refine bk (sq ?_)
   obtain ⟨e509,he509,h⟩:=bs h
   refine rg (Za.u 1 (Zo (ys:=[Zg false c0_,iv i4]) (h:=Zm eI64 he509)) (Za.u 0 (ZD (sz:=1) (off:=0) (cs:=[.int .i64 e509]) (r:=iv e509) eI64 he509) Za.f)) (tq ?_)
   refine sq (sq ?_)
   obtain ⟨j513,hj,h⟩:=bs h
   refine rgR (fun s=>s=⟨[(0,.yl yid_),(2,.ptr k1_ 0),(4,iv i4),(5,iv e509),(8,Zg false c0_),(9,iv ((List.length c0_:Nat):Int)),(10,iv i4),(25,bv j513)],[],H3⟩) ?_ ?_
   ·clear h
    rcases ZH hj with ⟨hc510,hj⟩ | ⟨hc511,hj⟩
    ·obtain rfl:=Zb hj
     exact (EP.u 1 (Zj (c:=(decide (e509<0))) (h:=hc510)) (EP.f (by show _=_;kernel_rfl)))
    refine (EP.u 1 (Zj (c:=(decide (e509<0))) (h:=hc511)) ?_)
    have hlc512:=Fp.get hH 1 rfl
    obtain rfl:=Zb hj
    exact (EP.u 4 (Zn (H:=H3) (id:=k1_) (off:=2) (cs:=(Zc c1_.Topo)) (c:=[Zk false c1_.Topo.Links]) (r:=Zk false c1_.Topo.Links) (hl:=hlc512)) (EP.u 0 (Zo (ys:=[Zk false c1_.Topo.Links]) (h:=Zt ZN)) (EP.f (by show _=_;kernel_rfl))))
   clear hj
   rintro s hR
   obtain rfl:=hR
   refine tq (it h (fun hc514 h => ?_) (fun hc514 h => ?_))
   ·refine kq (xq ?_)
    refine tx (bo ?_)
    refine tx ?_
    obtain rfl:=Zb h
    exact ⟨_,rfl,rfl,⟨its2,H3,(by show _=_;kernel_rfl),hT,Fp.at hH⟩⟩
   refine sk (tq ?_)
   refine kq (sq ?_)
   have hlc515:=Fp.get hH 1 rfl
   obtain ⟨e516,he516,h⟩:=bs h
   refine rg (Za.u 2 (Zn (H:=H3) (id:=k1_) (off:=2) (cs:=(Zc c1_.Topo)) (c:=[Zk false c1_.Topo.Links]) (r:=Zk false c1_.Topo.Links) (hl:=hlc515)) (Za.u 2 (Zo (ys:=[Zk false c1_.Topo.Links,iv (w64 (Int.tdiv e509 2))]) (h:=Zm ZN he516)) (Za.u 0 (ZD (sz:=4) (off:=0) (cs:=[.int .i64 e516.A,.int .i64 e516.B,.int .i64 e516.Per,.int .i64 e516.Delay]) (r:=.agg (ZaA e516)) ZN he516) Za.f))) (tq ?_)
   refine sq (rg Za.f ?_)
   refine tq ?_
   obtain ⟨j1017,hj1017,h⟩:=bs h
   refine Zd5 [0,2,4,7,8,9,10] (fun s=>s=⟨[(0,.yl yid_),(2,.ptr k1_ 0),(4,iv i4),(7,.loc 7 0),(8,Zg false c0_),(9,iv ((List.length c0_:Nat):Int)),(10,iv i4)],[(7,[iv e509,iv j1017.1,iv j1017.2])],H3⟩) ?_ ?_
   ·clear h
    have h:=hj1017
    refine sq (rg Za.f ?_)
    refine tq (it h (fun hc1018 h => ?_) (fun hc1018 h => ?_))
    ·refine rg Za.f ?_
     obtain rfl:=Zb h
     exact ⟨rfl,(by show _=_;kernel_rfl)⟩
    refine sk ?_
    obtain rfl:=Zb h
    exact ⟨rfl,(by show _=_;kernel_rfl)⟩
   clear hj1017
   rintro s hR
   obtain rfl:=hR
   refine sq ?_
   obtain ⟨r1019,hr1019,h⟩:=bs h
   obtain ⟨H1020,its1021,hvr1019,hT,hFr1019⟩:=hy_ i4 (Zau.mk e509 j1017.1 j1017.2) g5 r1019 H3 its2 hT (Fp.tail (own:=[.cel k0_ [Zg false c0_],.cel k1_ (Zc c1_.Topo)]) (its:=its2) hH) hr1019
   replace hH:Fp H H1020 (.cel k0_ [Zg false c0_] :: .cel k1_ (Zc c1_.Topo)::its) (.cel k0_ [Zg false c0_] :: .cel k1_ (Zc c1_.Topo)::its1021):=Fp.callT (own:=[.cel k0_ [Zg false c0_],.cel k1_ (Zc c1_.Topo)]) (its:=its2) hH hFr1019
   refine rg (Za.v 3 (Zja (H:=H3) (id:=yid_) (ys:=[iv i4,.agg [iv e509,iv j1017.1,iv j1017.2]]) (by kernel_rfl) (by kernel_rfl) (by kernel_rfl) (by kernel_rfl) hvr1019) Za.f) (tq ?_)
   refine it h (fun hc1022 h => ?_) (fun hc1022 h => ?_)
   ·refine kq (xq ?_)
    refine bo (tx ?_)
    obtain rfl:=Zb h
    exact ⟨_,rfl,rfl,⟨its1021,H1020,(by show _=_;kernel_rfl),hT,Fp.at hH⟩⟩
   refine sk (bn ?_)
   refine tq (kq ?_)
   refine rg Za.f ?_
   obtain rfl:=Zb h
   exact ⟨_,rfl,⟨its1021,H1020,(by show _=_;kernel_rfl),hT,Fp.at hH⟩⟩
  refine kq (xq ?_)
  refine tx ?_
  obtain rfl:=Zb h
  exact ⟨_,rfl,rfl,⟨its2,H3,(by show _=_;kernel_rfl),hT,Fp.at hH⟩⟩
 rintro e s hq
 obtain ⟨rfl,hR⟩:=hq
 obtain ⟨its506,H507,rfl,hT,hH⟩:=hR
 replace hH:Fp H H507 (.cel k0_ [Zg false c0_] :: .cel k1_ (Zc c1_.Topo)::its) (.cel k0_ [Zg false c0_] :: .cel k1_ (Zc c1_.Topo)::its506):=hH
 refine bx (nn ?_)
 obtain rfl:=Zb h
 exact ⟨[],(by kernel_rfl),(by kernel_rfl),its506,hT,Fp.at hH⟩
theorem ZdU (N:Nat) (a0_:(List Int)) (a1_:Int) (r:Int) (h:Zbx N a0_ a1_=some r):Zab Try.prog 104 [Zg false a0_,iv a1_] (iv r):=by
 unfold Zbx at h
 have hH:HP ([]:List HO) []:=trivial
 refine ZF chk104 rfl rfl (Zr _ _ _ ?_) rfl
 refine sq (rg Za.f ?_)
 refine tq (sq ?_)
 refine sq (rg (Za.u 1 (Zo (ys:=[Zg false a0_]) (h:=Zt eI64)) Za.f) ?_)
 refine tq (bk ?_)
 obtain ⟨o505,ho505,h⟩:=bs h
 refine ZX ((ZO (fun (x:Int) s=>s=⟨[(0,Zg false a0_),(1,iv a1_),(7,iv ((List.length a0_:Nat):Int)),(8,iv x)],[],[]⟩) (fun x:Int=>Zax N a0_ a1_ x) (fun (p:(Unit) ⊕ (Int)) e s=>match p with | (.inl p)=>e = .exit 0∧(s=⟨[],[],[]⟩) | (.inr p)=>e = .ret∧∃ xs,resL s i104.res=some xs∧ZaD xs=iv p) ?_ N _ o505 _ ho505 (by show _=_;kernel_rfl)).mono ?_)
 ·clear h ho505
  rintro i1 o s h hR
  obtain rfl:=hR
  replace h:Zax N a0_ a1_ i1=some o:=h
  unfold Zax at h
  refine sq (rg Za.f ?_)
  refine tq (sq ?_)
  refine it h (fun hc502 h => ?_) (fun hc502 h => ?_)
  ·refine sk (tq ?_)
   refine kq (sq ?_)
   refine bk (sq ?_)
   refine rg Za.f (tq ?_)
   refine sq ?_
   obtain ⟨e503,he503,h⟩:=bs h
   refine rg (Za.u 3 (Zo (ys:=[Zg false a0_,iv i1]) (h:=Zm eI64 he503)) (Za.u 0 (ZD (sz:=1) (off:=0) (cs:=[.int .i64 e503]) (r:=iv e503) eI64 he503) Za.f)) (tq ?_)
   refine it h (fun hc504 h => ?_) (fun hc504 h => ?_)
   ·refine sq (rg Za.f ?_)
    refine tq (rt ?_)
    refine br (tr ?_)
    obtain rfl:=Zb h
    exact ⟨_,rfl,rfl,Zx (by kernel_rfl)⟩
   refine sk (bn ?_)
   refine tq (kq ?_)
   refine rg Za.f ?_
   obtain rfl:=Zb h
   exact ⟨_,rfl,(by show _=_;kernel_rfl)⟩
  refine kq (xq ?_)
  refine tx ?_
  obtain rfl:=Zb h
  exact ⟨_,rfl,rfl,(by show _=_;kernel_rfl)⟩
 rintro e s hq
 rcases o505 with p506 | p507
 ·dsimp only at h hq
  obtain ⟨rfl,hR⟩:=hq
  obtain rfl:=hR
  refine bx (tq ?_)
  refine sq (rg Za.f ?_)
  refine tq (rt ?_)
  obtain rfl:=Zb h
  exact Zx (by kernel_rfl)
 dsimp only at h hq
 obtain ⟨rfl,hq⟩:=hq
 refine br (tr ?_)
 obtain rfl:=Zb h
 exact hq
theorem ZcW (N:Nat) (a0_:Z2) (r:Int) (h:ZbD N a0_=some r):Zab Try.prog 42 [.agg (Zh a0_)] (iv r):=by
 unfold ZbD at h
 have hH:HP ([]:List HO) []:=trivial
 refine ZF chk42 rfl rfl (Zr _ _ _ ?_) rfl
 refine sq (rg Za.f ?_)
 refine tq (sq ?_)
 refine sq ?_
 obtain ⟨j5,hj,h⟩:=bs h
 refine rgR (fun s=>s=⟨[(1,.loc 1 0),(12,bv j5)],[(1,(Zh a0_))],[]⟩) ?_ ?_
 ·clear h
  obtain ⟨r1,hr1,hj⟩:=bs hj
  refine (EP.v 2 (Zu (hc:=ZU N a0_.Grid 1 10000 r1 hr1)) ?_)
  rcases ZH hj with ⟨hc2,hj⟩ | ⟨hc3,hj⟩
  ·obtain rfl:=Zb hj
   exact (EP.u 0 (Zj (c:=(!r1)) (h:=hc2)) (EP.f (by show _=_;kernel_rfl)))
  refine (EP.u 0 (Zj (c:=(!r1)) (h:=hc3)) ?_)
  obtain ⟨r4,hr4,hj⟩:=bs hj
  obtain rfl:=Zb hj
  exact (EP.v 3 (Zu (hc:=ZU N a0_.Slack 0 1000 r4 hr4)) (EP.f (by show _=_;kernel_rfl)))
 clear hj
 rintro s hR
 obtain rfl:=hR
 refine tq (it h (fun hc6 h => ?_) (fun hc6 h => ?_))
 ·refine sq (rg Za.f ?_)
  refine tq (rt ?_)
  refine tr ?_
  obtain rfl:=Zb h
  exact Zx (by kernel_rfl)
 refine sk (tq ?_)
 refine kq (sq ?_)
 refine sq ?_
 obtain ⟨j11,hj,h⟩:=bs h
 refine rgR (fun s=>s=⟨[(22,bv j11)],[],[]⟩) ?_ ?_
 ·clear h
  obtain ⟨r7,hr7,hj⟩:=bs hj
  refine (EP.v 2 (Zu (hc:=ZU N a0_.Proc 0 10000 r7 hr7)) ?_)
  rcases ZH hj with ⟨hc8,hj⟩ | ⟨hc9,hj⟩
  ·obtain rfl:=Zb hj
   exact (EP.u 0 (Zj (c:=(!r7)) (h:=hc8)) (EP.f (by show _=_;kernel_rfl)))
  refine (EP.u 0 (Zj (c:=(!r7)) (h:=hc9)) ?_)
  obtain ⟨r10,hr10,hj⟩:=bs hj
  obtain rfl:=Zb hj
  exact (EP.v 3 (Zu (hc:=ZU N a0_.Cap 1542 65536 r10 hr10)) (EP.f (by show _=_;kernel_rfl)))
 clear hj
 rintro s hR
 obtain rfl:=hR
 refine tq (it h (fun hc12 h => ?_) (fun hc12 h => ?_))
 ·refine sq (rg Za.f ?_)
  refine tq (rt ?_)
  refine tr ?_
  obtain rfl:=Zb h
  exact Zx (by kernel_rfl)
 refine sk (tq ?_)
 refine kq (sq ?_)
 refine rg Za.f (tq ?_)
 refine rt ?_
 obtain rfl:=Zb h
 exact Zx (by kernel_rfl)
theorem ZhO (N:Nat) (a0_:Int) (a1_:(List Int)) (r:Int) (h:ZcE N a0_ a1_=some r):Zab Try.prog 61 [iv a0_,Zg false a1_] (iv r):=by
 unfold ZcE at h
 have hH:HP ([]:List HO) []:=trivial
 refine ZF chk61 rfl rfl (Zr _ _ _ ?_) rfl
 refine sq (rg Za.f ?_)
 refine tq (sq ?_)
 refine rg Za.f (tq ?_)
 refine sq (sq ?_)
 refine rg (Za.u 1 (Zo (ys:=[Zg false a1_]) (h:=Zt eI64)) Za.f) (tq ?_)
 refine bk ?_
 obtain ⟨o508,ho508,h⟩:=bs h
 refine ZX ((ZO (fun (x:Int × Int) s=>s=⟨[(0,iv a0_),(5,iv x.1),(8,Zg false a1_),(9,iv ((List.length a1_:Nat):Int)),(10,iv x.2)],[],[]⟩) (fun x:Int × Int=>Zaj N a0_ a1_ x.1 x.2) (fun (p:Int) e s=>e = .exit 0∧(s=⟨[(5,iv p)],[],[]⟩)) ?_ N _ o508 _ ho508 (by show _=_;kernel_rfl)).mono ?_)
 ·clear h ho508
  rintro ⟨i1,i2⟩ o s h hR
  obtain rfl:=hR
  replace h:Zaj N a0_ a1_ i1 i2=some o:=h
  unfold Zaj at h
  refine sq (rg Za.f ?_)
  refine tq (sq ?_)
  refine it h (fun hc503 h => ?_) (fun hc503 h => ?_)
  ·refine sk (tq ?_)
   refine kq (sq ?_)
   refine bk (sq ?_)
   obtain ⟨e504,he504,h⟩:=bs h
   refine rg (Za.u 0 (Zo (ys:=[Zg false a1_,iv i2]) (h:=Zm eI64 he504)) (Za.u 0 (ZD (sz:=1) (off:=0) (cs:=[.int .i64 e504]) (r:=iv e504) eI64 he504) Za.f)) (tq ?_)
   refine sq ?_
   obtain ⟨r505,hr505,h⟩:=bs h
   obtain ⟨q506,hq506,h⟩:=bs h
   refine rg (Za.v 3 (Zu (hc:=Zfw N i1 e504 r505 hr505)) (Za.u 0 (Zo (ys:=[iv i1,iv r505]) (h:=ZfR hq506)) Za.f)) (tq ?_)
   refine sq (rg Za.f ?_)
   refine tq (it h (fun hc507 h => ?_) (fun hc507 h => ?_))
   ·refine kq (xq ?_)
    refine bo (tx ?_)
    obtain rfl:=Zb h
    exact ⟨_,rfl,rfl,(by show _=_;kernel_rfl)⟩
   refine sk (bn ?_)
   refine tq (kq ?_)
   refine rg Za.f ?_
   obtain rfl:=Zb h
   exact ⟨_,rfl,(by show _=_;kernel_rfl)⟩
  refine kq (xq ?_)
  refine tx ?_
  obtain rfl:=Zb h
  exact ⟨_,rfl,rfl,(by show _=_;kernel_rfl)⟩
 rintro e s hq
 obtain ⟨rfl,hR⟩:=hq
 obtain rfl:=hR
 refine bx (tq ?_)
 refine sq (rg Za.f ?_)
 refine tq (rt ?_)
 obtain rfl:=Zb h
 exact Zx (by kernel_rfl)
theorem ZcN (N:Nat) (a0_:(List Bool)) (a1_:Bool) (r:Bool) (h:ZaO N a0_ a1_=some r):Zab Try.prog 63 [s_eB false a0_,bv a1_] (bv r):=by
 unfold ZaO at h
 have hH:HP ([]:List HO) []:=trivial
 refine ZF chk63 rfl rfl (Zr _ _ _ ?_) rfl
 refine sq (rg Za.f ?_)
 refine tq (sq ?_)
 obtain ⟨r1,hr1,h⟩:=bs h
 refine rg (Za.v 2 (Zu (hc:=Zdp N a0_ a1_ r1 hr1)) Za.f) (tq ?_)
 refine rt ?_
 obtain rfl:=Zb h
 exact Zx (by kernel_rfl)
theorem Zgl (N:Nat) (c0_:Zv) (c1_:Zw) (k0_:Nat) (k1_:Nat) (H:List HO) (hH:HP H [.cel k0_ (Zc c0_),.cel k1_ (Zf c1_)]) (r:Bool) (h:ZdJ N c0_ c1_=some r):Zas Try.prog 66 [.ptr k0_ 0,.ptr k1_ 0] H (bv r) H:=by
 unfold ZdJ at h
 refine ZaF chk66 rfl rfl rfl (Zr _ _ _ ?_)
 refine sq (rg Za.f ?_)
 refine tq (sq ?_)
 obtain ⟨j13,hj,h⟩:=bs h
 refine rgR (fun s=>s=⟨[(2,bv j13)],[],H⟩) ?_ ?_
 ·clear h
  have hlc1:=HP.get hH 0 rfl
  refine (EP.u 0 (Zn (H:=H) (id:=k0_) (off:=0) (cs:=(Zc c0_)) (c:=(Zc c0_)) (r:=.agg (Zc c0_)) (hl:=hlc1)) ?_)
  have hlc2:=HP.get hH 1 rfl
  refine (EP.u 1 (Zn (H:=H) (id:=k1_) (off:=1) (cs:=(Zf c1_)) (c:=[iv c1_.Talker]) (r:=iv c1_.Talker) (hl:=hlc2)) ?_)
  obtain ⟨r3,hr3,hj⟩:=bs hj
  rcases ZH hj with ⟨hc4,hj⟩ | ⟨hc12,hj⟩
  ·refine (EP.h 0 (Zap (by kernel_rfl) (ZbC N c0_ c1_.Talker r3 hr3) hc4) ?_)
   have hlc5:=HP.get hH 0 rfl
   refine (EP.u 1 (Zn (H:=H) (id:=k0_) (off:=0) (cs:=(Zc c0_)) (c:=(Zc c0_)) (r:=.agg (Zc c0_)) (hl:=hlc5)) ?_)
   have hlc6:=HP.get hH 1 rfl
   refine (EP.u 1 (Zn (H:=H) (id:=k1_) (off:=2) (cs:=(Zf c1_)) (c:=[iv c1_.Listener]) (r:=iv c1_.Listener) (hl:=hlc6)) ?_)
   obtain ⟨r7,hr7,hj⟩:=bs hj
   rcases ZH hj with ⟨hc8,hj⟩ | ⟨hc11,hj⟩
   ·refine (EP.h 0 (Zap (by kernel_rfl) (ZbC N c0_ c1_.Listener r7 hr7) hc8) ?_)
    have hlc9:=HP.get hH 1 rfl
    refine (EP.u 3 (Zn (H:=H) (id:=k1_) (off:=1) (cs:=(Zf c1_)) (c:=[iv c1_.Talker]) (r:=iv c1_.Talker) (hl:=hlc9)) ?_)
    have hlc10:=HP.get hH 1 rfl
    obtain rfl:=Zb hj
    exact (EP.u 1 (Zn (H:=H) (id:=k1_) (off:=2) (cs:=(Zf c1_)) (c:=[iv c1_.Listener]) (r:=iv c1_.Listener) (hl:=hlc10)) (EP.f (by show _=_;kernel_rfl)))
   obtain rfl:=Zb hj
   exact (EP.h 0 (Zap (by kernel_rfl) (ZbC N c0_ c1_.Listener r7 hr7) hc11) (EP.f (by show _=_;kernel_rfl)))
  obtain rfl:=Zb hj
  exact (EP.h 0 (Zap (by kernel_rfl) (ZbC N c0_ c1_.Talker r3 hr3) hc12) (EP.f (by show _=_;kernel_rfl)))
 clear hj
 rintro s hR
 obtain rfl:=hR
 refine tq (rt ?_)
 obtain rfl:=Zb h
 exact Zai (by kernel_rfl) (by kernel_rfl)
theorem Zim (N:Nat) (a0_:Zd3) (r:Int) (h:Ze1 N a0_=some r):Zab Try.prog 71 [.agg (ZcI a0_)] (iv r):=by
 unfold Ze1 at h
 have hH:HP ([]:List HO) []:=trivial
 refine ZF chk71 rfl rfl (Zr _ _ _ ?_) rfl
 refine sq (rg Za.f ?_)
 refine tq (sq ?_)
 refine sq ?_
 obtain ⟨j5,hj,h⟩:=bs h
 refine rgR (fun s=>s=⟨[(12,bv j5)],[],[]⟩) ?_ ?_
 ·clear h
  obtain ⟨r1,hr1,hj⟩:=bs hj
  refine (EP.v 2 (Zu (hc:=Zc1 N a0_.Burst 1 1048576 r1 hr1)) ?_)
  rcases ZH hj with ⟨hc2,hj⟩ | ⟨hc3,hj⟩
  ·obtain rfl:=Zb hj
   exact (EP.u 0 (Zj (c:=(!r1)) (h:=hc2)) (EP.f (by show _=_;kernel_rfl)))
  refine (EP.u 0 (Zj (c:=(!r1)) (h:=hc3)) ?_)
  obtain ⟨r4,hr4,hj⟩:=bs hj
  obtain rfl:=Zb hj
  exact (EP.v 3 (Zu (hc:=Zc1 N a0_.Rate 1 2097152 r4 hr4)) (EP.f (by show _=_;kernel_rfl)))
 clear hj
 rintro s hR
 obtain rfl:=hR
 refine tq (it h (fun hc6 h => ?_) (fun hc6 h => ?_))
 ·refine sq (rg Za.f ?_)
  refine tq (rt ?_)
  refine tr ?_
  obtain rfl:=Zb h
  exact Zx (by kernel_rfl)
 refine sk (tq ?_)
 refine kq (sq ?_)
 refine rg Za.f (tq ?_)
 refine rt ?_
 obtain rfl:=Zb h
 exact Zx (by kernel_rfl)
theorem ZhM (N:Nat) (a0_:Zs) (a1_:Zs) (r:Int × Int × Int) (h:ZcD N a0_ a1_=some r):Zab Try.prog 79 [.agg (Za2 a0_),.agg (Za2 a1_)] (.tup [iv r.1,iv r.2.1,iv r.2.2]):=by
 unfold ZcD at h
 have hH:HP ([]:List HO) []:=trivial
 refine ZF chk79 rfl rfl (Zr _ _ _ ?_) rfl
 refine sq (rg Za.f ?_)
 refine tq (sq ?_)
 obtain ⟨r1,hr1,h⟩:=bs h
 refine rg (Za.v 4 (Zu (hc:=Zfw N a0_.Period a1_.Period r1 hr1)) Za.f) (tq ?_)
 refine sq (rq Za.f ?_)
 refine tq (rt ?_)
 obtain rfl:=Zb h
 exact Zx (by kernel_rfl)
theorem ZhB (N:Nat) (a0_:Int) (c0_:Zv) (k0_:Nat) (H:List HO) (hH:HP H [.cel k0_ (Zc c0_)]) (r:Bool) (h:ZeD N a0_ c0_=some r):Zas Try.prog 82 [iv a0_,.ptr k0_ 0] H (bv r) H:=by
 unfold ZeD at h
 refine ZaF chk82 rfl rfl rfl (Zr _ _ _ ?_)
 refine sq (rg Za.f ?_)
 refine tq (sq ?_)
 have hlc1:=HP.get hH 0 rfl
 obtain ⟨e2,he2,h⟩:=bs h
 refine rg (Za.u 1 (Zn (H:=H) (id:=k0_) (off:=2) (cs:=(Zc c0_)) (c:=[Zk false c0_.Links]) (r:=Zk false c0_.Links) (hl:=hlc1)) (Za.u 1 (Zo (ys:=[Zk false c0_.Links,iv a0_]) (h:=Zm ZN he2)) (Za.u 0 (ZD (sz:=4) (off:=0) (cs:=[.int .i64 e2.A,.int .i64 e2.B,.int .i64 e2.Per,.int .i64 e2.Delay]) (r:=.agg (ZaA e2)) ZN he2) Za.f))) (tq ?_)
 refine sq ?_
 obtain ⟨j11,hj,h⟩:=bs h
 refine rgR (fun s=>s=⟨[(3,bv j11)],[],H⟩) ?_ ?_
 ·clear h
  have hlc3:=HP.get hH 0 rfl
  refine (EP.u 0 (Zn (H:=H) (id:=k0_) (off:=0) (cs:=(Zc c0_)) (c:=(Zc c0_)) (r:=.agg (Zc c0_)) (hl:=hlc3)) ?_)
  obtain ⟨r4,hr4,hj⟩:=bs hj
  rcases ZH hj with ⟨hc5,hj⟩ | ⟨hc10,hj⟩
  ·refine (EP.h 2 (Zap (by kernel_rfl) (Zdr N c0_ e2.A r4 hr4) hc5) ?_)
   have hlc6:=HP.get hH 0 rfl
   refine (EP.u 1 (Zn (H:=H) (id:=k0_) (off:=0) (cs:=(Zc c0_)) (c:=(Zc c0_)) (r:=.agg (Zc c0_)) (hl:=hlc6)) ?_)
   obtain ⟨r7,hr7,hj⟩:=bs hj
   rcases ZH hj with ⟨hc8,hj⟩ | ⟨hc9,hj⟩
   ·obtain rfl:=Zb hj
    exact (EP.h 2 (Zap (by kernel_rfl) (Zdr N c0_ e2.B r7 hr7) hc8) (EP.f (by show _=_;kernel_rfl)))
   obtain rfl:=Zb hj
   exact (EP.h 2 (Zap (by kernel_rfl) (Zdr N c0_ e2.B r7 hr7) hc9) (EP.f (by show _=_;kernel_rfl)))
  obtain rfl:=Zb hj
  exact (EP.h 2 (Zap (by kernel_rfl) (Zdr N c0_ e2.A r4 hr4) hc10) (EP.f (by show _=_;kernel_rfl)))
 clear hj
 rintro s hR
 obtain rfl:=hR
 refine tq (rt ?_)
 obtain rfl:=Zb h
 exact Zai (by kernel_rfl) (by kernel_rfl)
theorem Zdi (N:Nat) (a0_:ZM) (a1_:(List Int)) (r:Bool) (h:ZbW N a0_ a1_=some r):Zab Try.prog 92 [.agg (Zc a0_.Topo),Zg false a1_] (bv r):=by
 unfold ZbW at h
 have hH:HP ([]:List HO) []:=trivial
 refine ZF chk92 rfl rfl (Zr _ _ _ ?_) rfl
 refine sq ?_
 obtain ⟨id1,H2,hid1,hH2,hH⟩:=HP.newCell hH (Zc a0_.Topo)
 replace hH:HP H2 [.cel id1 (Zc a0_.Topo)]:=hH
 refine rgS ⟨[(1,Zg false a1_),(2,.ptr id1 0)],[],H2⟩ (Za.h 0 (ZaQ (H:=[]) (v:=.agg (Zc a0_.Topo)) (hid:=hid1) (hH:=hH2)) Za.f) (by kernel_rfl) ?_
 refine tq (sq ?_)
 refine sq (rgX ⟨[(1,Zg false a1_),(2,.ptr id1 0),(17,bv ((decide (((List.length a1_:Nat):Int)<1))||(decide (((List.length a1_:Nat):Int) > 8))))],[],H2⟩ ?_ ?_)
 ·refine (EP.u 1 (Zo (ys:=[Zg false a1_]) (h:=Zt eI64)) ?_)
  rcases Bool.eq_false_or_eq_true (decide (((List.length a1_:Nat):Int)<1)) with hc3 | hc4
  ·exact (EP.u 0 (Zj (c:=(decide (((List.length a1_:Nat):Int)<1))) (h:=hc3)) (EP.f (by simp only [hc3];kernel_rfl)))
  exact (EP.u 0 (Zj (c:=(decide (((List.length a1_:Nat):Int)<1))) (h:=hc4)) (EP.u 2 (Zo (ys:=[Zg false a1_]) (h:=Zt eI64)) (EP.f (by simp only [hc4];kernel_rfl))))
 refine tq (it h (fun hc5 h => ?_) (fun hc5 h => ?_))
 ·refine sq (rgS ⟨[(4,bv false)],[],H2⟩ Za.f (by kernel_rfl) ?_)
  replace hH:HP H2 []:=HP.pick hH [] rfl
  refine tq (rt ?_)
  refine tr ?_
  obtain rfl:=Zb h
  exact Zx (by kernel_rfl)
 refine sk (tq ?_)
 refine kq (sq ?_)
 obtain ⟨id6,H7,hid6,hH7,hH⟩:=HP.newCell hH (Zq (Zl.mk false false false false false false false false false false false false))
 replace hH:HP H7 [.cel id6 (Zq (Zl.mk false false false false false false false false false false false false)),.cel id1 (Zc a0_.Topo)]:=hH
 refine rgS ⟨[(1,Zg false a1_),(2,.ptr id1 0),(5,.ptr id6 0)],[],H7⟩ (Za.h 0 (ZeG (H:=H2) (by kernel_rfl) hid6 hH7) Za.f) (by kernel_rfl) ?_
 refine tq (sq ?_)
 obtain ⟨id8,H9,hid8,hH9,hH⟩:=HP.newCell hH [iv 0]
 replace hH:HP H9 [.cel id8 [iv 0],.cel id6 (Zq (Zl.mk false false false false false false false false false false false false)),.cel id1 (Zc a0_.Topo)]:=hH
 obtain ⟨id10,H11,hid10,hH11,hH⟩:=HP.newCell hH [iv 0]
 replace hH:HP H11 [.cel id10 [iv 0],.cel id8 [iv 0],.cel id6 (Zq (Zl.mk false false false false false false false false false false false false)),.cel id1 (Zc a0_.Topo)]:=hH
 obtain ⟨H12,hH12,hH⟩:=HP.setCell (k:=1) (off:=0) (cs:=[iv 0]) (vs:=[iv 0]) (cs':=[iv 0]) hH rfl (by kernel_rfl)
 replace hH:HP H12 [.cel id10 [iv 0],.cel id8 [iv 0],.cel id6 (Zq (Zl.mk false false false false false false false false false false false false)),.cel id1 (Zc a0_.Topo)]:=hH
 obtain ⟨H13,hH13,hH⟩:=HP.setCell (k:=0) (off:=0) (cs:=[iv 0]) (vs:=[iv 0]) (cs':=[iv 0]) hH rfl (by kernel_rfl)
 replace hH:HP H13 [.cel id10 [iv 0],.cel id8 [iv 0],.cel id6 (Zq (Zl.mk false false false false false false false false false false false false)),.cel id1 (Zc a0_.Topo)]:=hH
 refine rgS ⟨[(1,Zg false a1_),(2,.ptr id1 0),(5,.ptr id6 0),(6,.ptr id8 0),(7,.ptr id10 0)],[],H13⟩ (Za.h 0 (ZeG (H:=H7) (by kernel_rfl) hid8 hH9) (Za.h 0 (ZeG (H:=H9) (by kernel_rfl) hid10 hH11) (Za.o 0 (Z9 (H:=H11) (v:=iv 0) (hw:=hH12)) (Za.o 0 (Z9 (H:=H12) (v:=iv 0) (hw:=hH13)) Za.f)))) (by kernel_rfl) ?_
 refine tq ?_
 obtain ⟨j515,hj515,h⟩:=bs h
 refine Zd5 [1,7] (fun s=>∃ (H514:List HO),s=⟨[(1,Zg false a1_),(7,.ptr id10 0)],[],H514⟩∧HP H514 [.cel id10 [iv j515]]) ?_ ?_
 ·clear h
  have h:=hj515
  refine sq ?_
  have hlc516:=HP.get hH 3 rfl
  obtain ⟨r517,hr517,h⟩:=bs h
  obtain ⟨id519,id520,H518,hvr517,hpr517⟩:=Zdu N a0_ a1_ H13 r517 hr517
  replace hH:HP H518 [.cel id519 [Zg false r517.1],.cel id520 (Zc r517.2.Topo),.cel id10 [iv 0],.cel id8 [iv 0],.cel id6 (Zq (Zl.mk false false false false false false false false false false false false)),.cel id1 (Zc a0_.Topo)]:=HP.callee (fp:=[]) (rest:=[.cel id10 [iv 0],.cel id8 [iv 0],.cel id6 (Zq (Zl.mk false false false false false false false false false false false false)),.cel id1 (Zc a0_.Topo)]) hH hpr517
  refine rgS ⟨[(1,Zg false a1_),(2,.ptr id1 0),(5,.ptr id6 0),(6,.ptr id8 0),(7,.ptr id10 0),(20,.fn 103 [] [.ptr id519 0,.ptr id520 0])],[],H518⟩ (Za.u 0 (Zn (H:=H13) (id:=id1) (off:=0) (cs:=(Zc a0_.Topo)) (c:=(Zc a0_.Topo)) (r:=.agg (Zc a0_.Topo)) (hl:=hlc516)) (Za.v 1 (Zea (H:=H13) (ys:=[.agg (Zc a0_.Topo),Zg false a1_]) (by kernel_rfl) (by kernel_rfl) (by kernel_rfl) hvr517) Za.f)) (by kernel_rfl) ?_
  refine tq (bk ?_)
  obtain ⟨o1052,ho1052,h⟩:=bs h
  have hyo1052:∀ (x522:Int) (x523:Zau) (s:(Int × Int × Zl) × Nat) (r:((Int × Int × Zl) × Nat) × Bool) (H:List HO) (its:List ZR),(fun (s:(Int × Int × Zl) × Nat) (its:List ZR)=>its=[.cel id10 [iv s.1.1],.cel id8 [iv s.1.2.1],.cel id6 (Zq s.1.2.2),.cel id1 (Zc a0_.Topo)]++[.lp (List.length H518) (lcOf Try.prog i92.nt [21,22] ZaU ZaT) [(2,.ptr id1 0),(5,.ptr id6 0),(6,.ptr id8 0),(7,.ptr id10 0)] (stAt [.ready,.done (.exit 0)] s.2)]) s its→HP H its→(fun (s:(Int × Int × Zl) × Nat) (x522:Int) (x523:Zau)=>Zfo (fun v:Int × Int × Zl=>ZaJ N a0_ v.1 v.2.1 v.2.2 x522 x523) s) s x522 x523=some r→∃ H' its',Ze3 Try.prog (List.length H518) [iv x522,.agg (ZT x523)] H r.2 H'∧(fun (s:(Int × Int × Zl) × Nat) (its:List ZR)=>its=[.cel id10 [iv s.1.1],.cel id8 [iv s.1.2.1],.cel id6 (Zq s.1.2.2),.cel id1 (Zc a0_.Topo)]++[.lp (List.length H518) (lcOf Try.prog i92.nt [21,22] ZaU ZaT) [(2,.ptr id1 0),(5,.ptr id6 0),(6,.ptr id8 0),(7,.ptr id10 0)] (stAt [.ready,.done (.exit 0)] s.2)]) r.1 its'∧Fp H H' its its':=by
   clear h
   intro x522 x523 s r H521 its hT hH h
   obtain ⟨h0,q,hb,rfl⟩:=Zhx h
   clear h
   obtain ⟨vs,e⟩:=s
   obtain rfl:e=0:=h0
   obtain ⟨i524,i525,l526⟩:=vs
   obtain rfl:=hT
   replace h:ZaJ N a0_ i524 i525 l526 x522 x523=some q:=hb
   clear hb
   unfold ZaJ at h
   replace hH:Fp H521 H521 [.cel id10 [iv i524],.cel id8 [iv i525],.cel id6 (Zq l526),.cel id1 (Zc a0_.Topo),.lp (List.length H518) (lcOf Try.prog i92.nt [21,22] ZaU ZaT) [(2,.ptr id1 0),(5,.ptr id6 0),(6,.ptr id8 0),(7,.ptr id10 0)] .ready] [.cel id10 [iv i524],.cel id8 [iv i525],.cel id6 (Zq l526),.cel id1 (Zc a0_.Topo),.lp (List.length H518) (lcOf Try.prog i92.nt [21,22] ZaU ZaT) [(2,.ptr id1 0),(5,.ptr id6 0),(6,.ptr id8 0),(7,.ptr id10 0)] .ready]:=Fp.refl hH
   suffices hs:∃ H',Ze3 Try.prog (List.length H518) [iv x522,.agg (ZT x523)] H521 (q.2==0) H'∧∃ its',(fun (s:(Int × Int × Zl) × Nat) (its:List ZR)=>its=[.cel id10 [iv s.1.1],.cel id8 [iv s.1.2.1],.cel id6 (Zq s.1.2.2),.cel id1 (Zc a0_.Topo)]++[.lp (List.length H518) (lcOf Try.prog i92.nt [21,22] ZaU ZaT) [(2,.ptr id1 0),(5,.ptr id6 0),(6,.ptr id8 0),(7,.ptr id10 0)] (stAt [.ready,.done (.exit 0)] s.2)]) q its'∧Fp H521 H' [.cel id10 [iv i524],.cel id8 [iv i525],.cel id6 (Zq l526),.cel id1 (Zc a0_.Topo),.lp (List.length H518) (lcOf Try.prog i92.nt [21,22] ZaU ZaT) [(2,.ptr id1 0),(5,.ptr id6 0),(6,.ptr id8 0),(7,.ptr id10 0)] .ready] its' by
    obtain ⟨H',h1,its',h2,h3⟩:=hs
    exact ⟨H',its',h1,h2,h3⟩
   refine Zez (id:=(List.length H518)) (args:=[iv x522,.agg (ZT x523)]) (H:=H521) (n:=i92.nt) (ps:=[21,22]) (fr0:=[(2,.ptr id1 0),(5,.ptr id6 0),(6,.ptr id8 0),(7,.ptr id10 0)]) (ia:=ZaU) (ib:=ZaT) (q.2==0) (fun H'=>∃ its',(fun (s:(Int × Int × Zl) × Nat) (its:List ZR)=>its=[.cel id10 [iv s.1.1],.cel id8 [iv s.1.2.1],.cel id6 (Zq s.1.2.2),.cel id1 (Zc a0_.Topo)]++[.lp (List.length H518) (lcOf Try.prog i92.nt [21,22] ZaU ZaT) [(2,.ptr id1 0),(5,.ptr id6 0),(6,.ptr id8 0),(7,.ptr id10 0)] (stAt [.ready,.done (.exit 0)] s.2)]) q its'∧Fp H521 H' [.cel id10 [iv i524],.cel id8 [iv i525],.cel id6 (Zq l526),.cel id1 (Zc a0_.Topo),.lp (List.length H518) (lcOf Try.prog i92.nt [21,22] ZaU ZaT) [(2,.ptr id1 0),(5,.ptr id6 0),(6,.ptr id8 0),(7,.ptr id10 0)] .ready] its') (Fp.get hH 4 rfl) rfl (by decide +kernel) rfl ?_
   show vc _ _ _ _ ⟨[(2,.ptr id1 0),(5,.ptr id6 0),(6,.ptr id8 0),(7,.ptr id10 0),(21,iv x522),(22,.agg (ZT x523))],[],H521⟩
   refine sq (rgS ⟨[(2,.ptr id1 0),(5,.ptr id6 0),(6,.ptr id8 0),(7,.ptr id10 0),(8,iv x522),(22,.agg (ZT x523))],[],H521⟩ Za.f (by kernel_rfl) ?_)
   refine tq (rgS ⟨[(2,.ptr id1 0),(5,.ptr id6 0),(6,.ptr id8 0),(7,.ptr id10 0),(8,iv x522),(9,.loc 9 0)],[(9,(ZT x523))],H521⟩ Za.f (by kernel_rfl) ?_)
   refine Zib (k:=4) hH rfl ?_
   intro H1024 hH
   replace hH:Fp H521 H1024 [.cel id10 [iv i524],.cel id8 [iv i525],.cel id6 (Zq l526),.cel id1 (Zc a0_.Topo),.lp (List.length H518) (lcOf Try.prog i92.nt [21,22] ZaU ZaT) [(2,.ptr id1 0),(5,.ptr id6 0),(6,.ptr id8 0),(7,.ptr id10 0)] .ready] [.cel id10 [iv i524],.cel id8 [iv i525],.cel id6 (Zq l526),.cel id1 (Zc a0_.Topo),.lp (List.length H518) (lcOf Try.prog i92.nt [21,22] ZaU ZaT) [(2,.ptr id1 0),(5,.ptr id6 0),(6,.ptr id8 0),(7,.ptr id10 0)] .busy]:=hH
   show vc _ _ _ _ ⟨[(2,.ptr id1 0),(5,.ptr id6 0),(6,.ptr id8 0),(7,.ptr id10 0),(8,iv x522),(9,.loc 9 0)],[(9,(ZT x523))],H1024⟩
   refine bk (sq ?_)
   refine sq (rgS ⟨[(2,.ptr id1 0),(5,.ptr id6 0),(6,.ptr id8 0),(7,.ptr id10 0),(9,.loc 9 0),(24,bv (x522==0))],[(9,(ZT x523))],H1024⟩ Za.f (by kernel_rfl) ?_)
   refine tq (it h (fun hc1025 h => ?_) (fun hc1025 h => ?_))
   ·obtain ⟨e1026,he1026,h⟩:=bs h
    obtain ⟨H1027,hH1027,hH⟩:=Fp.setCell (k:=2) (off:=0+Int.toNat x523.from_ * 1) (cs:=(Zq l526)) (vs:=[bv true]) (cs':=(Zq (Zl.set l526 x523.from_ true))) hH rfl (Zgn (fun x=>bv x) [] [] (l:=l526.l) he1026 rfl rfl rfl (ZkW (Zl.c_set l526 x523.from_ true) (by show (Zq (Zl.set l526 x523.from_ true))=[]++(Zq (Zl.set l526 x523.from_ true)++[]);rfl)))
    replace hH:Fp H521 H1027 [.cel id10 [iv i524],.cel id8 [iv i525],.cel id6 (Zq l526),.cel id1 (Zc a0_.Topo),.lp (List.length H518) (lcOf Try.prog i92.nt [21,22] ZaU ZaT) [(2,.ptr id1 0),(5,.ptr id6 0),(6,.ptr id8 0),(7,.ptr id10 0)] .ready] [.cel id10 [iv i524],.cel id8 [iv i525],.cel id6 (Zq (Zl.set l526 x523.from_ true)),.cel id1 (Zc a0_.Topo),.lp (List.length H518) (lcOf Try.prog i92.nt [21,22] ZaU ZaT) [(2,.ptr id1 0),(5,.ptr id6 0),(6,.ptr id8 0),(7,.ptr id10 0)] .busy]:=hH
    refine rgS ⟨[(5,.ptr id6 0),(6,.ptr id8 0),(7,.ptr id10 0),(9,.loc 9 0)],[(9,(ZT x523))],H1027⟩ (Za.u 2 (Zo (ys:=[.ptr id6 0,iv x523.from_]) (h:=ZcB (l:=l526.l) he1026 rfl)) (Za.o 0 (Z9 (H:=H1024) (v:=bv true) (hw:=hH1027)) Za.f)) (by kernel_rfl) ?_
    refine tq (kq ?_)
    refine sq (sq ?_)
    obtain ⟨e1028,he1028,h⟩:=bs h
    have hlc1029:=Fp.get hH 2 rfl
    refine rgS ⟨[(5,.ptr id6 0),(6,.ptr id8 0),(7,.ptr id10 0),(9,.loc 9 0),(43,bv e1028)],[(9,(ZT x523))],H1027⟩ (Za.u 2 (Zo (ys:=[.ptr id6 0,iv x523.to_]) (h:=ZcB (l:=(Zl.set l526 x523.from_ true).l) he1028 rfl)) (Za.u 0 (ZjP (H:=H1027) (id:=id6) (off:=0) (cs:=(Zq (Zl.set l526 x523.from_ true))) (l:=(Zl.set l526 x523.from_ true).l) (fun x=>bv x) [] [] he1028 (by kernel_rfl) (by kernel_rfl) hlc1029 rfl rfl) Za.f)) (by kernel_rfl) ?_
    refine tq (it h (fun hc1030 h => ?_) (fun hc1030 h => ?_))
    ·refine kq (xq ?_)
     refine tx (bo ?_)
     obtain rfl:=Zb h
     exact rbd (k:=4) (.done (.exit 0)) hH rfl rfl (fun H6 hH=>⟨_,(Eq.refl _),(Fp.pick hH [0,1,2,3,4] rfl)⟩)
    refine sk (tq ?_)
    refine kq (sq ?_)
    obtain ⟨e1031,he1031,h⟩:=bs h
    obtain ⟨H1032,hH1032,hH⟩:=Fp.setCell (k:=2) (off:=0+Int.toNat x523.to_ * 1) (cs:=(Zq (Zl.set l526 x523.from_ true))) (vs:=[bv true]) (cs':=(Zq (Zl.set (Zl.set l526 x523.from_ true) x523.to_ true))) hH rfl (Zgn (fun x=>bv x) [] [] (l:=(Zl.set l526 x523.from_ true).l) he1031 rfl rfl rfl (ZkW (Zl.c_set (Zl.set l526 x523.from_ true) x523.to_ true) (by show (Zq (Zl.set (Zl.set l526 x523.from_ true) x523.to_ true))=[]++(Zq (Zl.set (Zl.set l526 x523.from_ true) x523.to_ true)++[]);rfl)))
    replace hH:Fp H521 H1032 [.cel id10 [iv i524],.cel id8 [iv i525],.cel id6 (Zq l526),.cel id1 (Zc a0_.Topo),.lp (List.length H518) (lcOf Try.prog i92.nt [21,22] ZaU ZaT) [(2,.ptr id1 0),(5,.ptr id6 0),(6,.ptr id8 0),(7,.ptr id10 0)] .ready] [.cel id10 [iv i524],.cel id8 [iv i525],.cel id6 (Zq (Zl.set (Zl.set l526 x523.from_ true) x523.to_ true)),.cel id1 (Zc a0_.Topo),.lp (List.length H518) (lcOf Try.prog i92.nt [21,22] ZaU ZaT) [(2,.ptr id1 0),(5,.ptr id6 0),(6,.ptr id8 0),(7,.ptr id10 0)] .busy]:=hH
    refine rgS ⟨[(6,.ptr id8 0),(7,.ptr id10 0),(9,.loc 9 0)],[(9,(ZT x523))],H1032⟩ (Za.u 2 (Zo (ys:=[.ptr id6 0,iv x523.to_]) (h:=ZcB (l:=(Zl.set l526 x523.from_ true).l) he1031 rfl)) (Za.o 0 (Z9 (H:=H1027) (v:=bv true) (hw:=hH1032)) Za.f)) (by kernel_rfl) ?_
    refine tq (sq ?_)
    obtain ⟨H1033,hH1033,hH⟩:=Fp.setCell (k:=1) (off:=0) (cs:=[iv i525]) (vs:=[iv x523.to_]) (cs':=[iv x523.to_]) hH rfl (by kernel_rfl)
    replace hH:Fp H521 H1033 [.cel id10 [iv i524],.cel id8 [iv i525],.cel id6 (Zq l526),.cel id1 (Zc a0_.Topo),.lp (List.length H518) (lcOf Try.prog i92.nt [21,22] ZaU ZaT) [(2,.ptr id1 0),(5,.ptr id6 0),(6,.ptr id8 0),(7,.ptr id10 0)] .ready] [.cel id10 [iv i524],.cel id8 [iv x523.to_],.cel id6 (Zq (Zl.set (Zl.set l526 x523.from_ true) x523.to_ true)),.cel id1 (Zc a0_.Topo),.lp (List.length H518) (lcOf Try.prog i92.nt [21,22] ZaU ZaT) [(2,.ptr id1 0),(5,.ptr id6 0),(6,.ptr id8 0),(7,.ptr id10 0)] .busy]:=hH
    refine rgS ⟨[(7,.ptr id10 0)],[],H1033⟩ (Za.o 2 (Z9 (H:=H1032) (v:=iv x523.to_) (hw:=hH1033)) Za.f) (by kernel_rfl) ?_
    refine tq ?_
    have hlc1034:=Fp.get hH 0 rfl
    obtain ⟨H1035,hH1035,hH⟩:=Fp.setCell (k:=0) (off:=0) (cs:=[iv i524]) (vs:=[iv (w64 (i524+1))]) (cs':=[iv (w64 (i524+1))]) hH rfl (by kernel_rfl)
    replace hH:Fp H521 H1035 [.cel id10 [iv i524],.cel id8 [iv i525],.cel id6 (Zq l526),.cel id1 (Zc a0_.Topo),.lp (List.length H518) (lcOf Try.prog i92.nt [21,22] ZaU ZaT) [(2,.ptr id1 0),(5,.ptr id6 0),(6,.ptr id8 0),(7,.ptr id10 0)] .ready] [.cel id10 [iv (w64 (i524+1))],.cel id8 [iv x523.to_],.cel id6 (Zq (Zl.set (Zl.set l526 x523.from_ true) x523.to_ true)),.cel id1 (Zc a0_.Topo),.lp (List.length H518) (lcOf Try.prog i92.nt [21,22] ZaU ZaT) [(2,.ptr id1 0),(5,.ptr id6 0),(6,.ptr id8 0),(7,.ptr id10 0)] .busy]:=hH
    refine rgS ⟨[],[],H1035⟩ (Za.u 0 (Zn (H:=H1033) (id:=id10) (off:=0) (cs:=[iv i524]) (c:=[iv i524]) (r:=iv i524) (hl:=hlc1034)) (Za.o 1 (Z9 (H:=H1033) (v:=iv (w64 (i524+1))) (hw:=hH1035)) Za.f)) (by kernel_rfl) ?_
    refine bn ?_
    obtain rfl:=Zb h
    exact rbd (k:=4) (.ready) hH rfl rfl (fun H6 hH=>⟨_,(Eq.refl _),(Fp.pick hH [0,1,2,3,4] rfl)⟩)
   refine sq ?_
   obtain ⟨j1042,hj,h⟩:=bs h
   refine rgR (fun s=>s=⟨[(5,.ptr id6 0),(6,.ptr id8 0),(7,.ptr id10 0),(9,.loc 9 0),(39,bv j1042)],[(9,(ZT x523))],H1024⟩) ?_ ?_
   ·clear h
    have hlc1036:=Fp.get hH 1 rfl
    refine (EP.u 2 (Zn (H:=H1024) (id:=id8) (off:=0) (cs:=[iv i525]) (c:=[iv i525]) (r:=iv i525) (hl:=hlc1036)) ?_)
    rcases ZH hj with ⟨hc1037,hj⟩ | ⟨hc1038,hj⟩
    ·obtain rfl:=Zb hj
     exact (EP.u 0 (Zj (c:=(x523.from_ != i525)) (h:=hc1037)) (EP.f (by show _=_;kernel_rfl)))
    refine (EP.u 0 (Zj (c:=(x523.from_ != i525)) (h:=hc1038)) ?_)
    have hlc1039:=Fp.get hH 3 rfl
    refine (EP.u 3 (Zn (H:=H1024) (id:=id1) (off:=1) (cs:=(Zc a0_.Topo)) (c:=[s_eB false a0_.Topo.Station]) (r:=s_eB false a0_.Topo.Station) (hl:=hlc1039)) ?_)
    have hlc1040:=Fp.get hH 1 rfl
    refine (EP.u 0 (Zn (H:=H1024) (id:=id8) (off:=0) (cs:=[iv i525]) (c:=[iv i525]) (r:=iv i525) (hl:=hlc1040)) ?_)
    obtain ⟨e1041,he1041,hj⟩:=bs hj
    obtain rfl:=Zb hj
    exact (EP.u 0 (Zo (ys:=[s_eB false a0_.Topo.Station,iv i525]) (h:=Zm eB he1041)) (EP.u 0 (ZD (sz:=1) (off:=0) (cs:=[.bool e1041]) (r:=bv e1041) eB he1041) (EP.f (by show _=_;kernel_rfl))))
   clear hj
   rintro s hR
   obtain rfl:=hR
   refine tq (it h (fun hc1043 h => ?_) (fun hc1043 h => ?_))
   ·refine kq (xq ?_)
    refine tx (bo ?_)
    obtain rfl:=Zb h
    exact rbd (k:=4) (.done (.exit 0)) hH rfl rfl (fun H6 hH=>⟨_,(Eq.refl _),(Fp.pick hH [0,1,2,3,4] rfl)⟩)
   refine sk (tq ?_)
   refine kq (sq ?_)
   refine sq ?_
   obtain ⟨e1044,he1044,h⟩:=bs h
   have hlc1045:=Fp.get hH 2 rfl
   refine rgS ⟨[(5,.ptr id6 0),(6,.ptr id8 0),(7,.ptr id10 0),(9,.loc 9 0),(43,bv e1044)],[(9,(ZT x523))],H1024⟩ (Za.u 2 (Zo (ys:=[.ptr id6 0,iv x523.to_]) (h:=ZcB (l:=l526.l) he1044 rfl)) (Za.u 0 (ZjP (H:=H1024) (id:=id6) (off:=0) (cs:=(Zq l526)) (l:=l526.l) (fun x=>bv x) [] [] he1044 (by kernel_rfl) (by kernel_rfl) hlc1045 rfl rfl) Za.f)) (by kernel_rfl) ?_
   refine tq (it h (fun hc1046 h => ?_) (fun hc1046 h => ?_))
   ·refine kq (xq ?_)
    refine tx (bo ?_)
    obtain rfl:=Zb h
    exact rbd (k:=4) (.done (.exit 0)) hH rfl rfl (fun H6 hH=>⟨_,(Eq.refl _),(Fp.pick hH [0,1,2,3,4] rfl)⟩)
   refine sk (tq ?_)
   refine kq (sq ?_)
   obtain ⟨e1047,he1047,h⟩:=bs h
   obtain ⟨H1048,hH1048,hH⟩:=Fp.setCell (k:=2) (off:=0+Int.toNat x523.to_ * 1) (cs:=(Zq l526)) (vs:=[bv true]) (cs':=(Zq (Zl.set l526 x523.to_ true))) hH rfl (Zgn (fun x=>bv x) [] [] (l:=l526.l) he1047 rfl rfl rfl (ZkW (Zl.c_set l526 x523.to_ true) (by show (Zq (Zl.set l526 x523.to_ true))=[]++(Zq (Zl.set l526 x523.to_ true)++[]);rfl)))
   replace hH:Fp H521 H1048 [.cel id10 [iv i524],.cel id8 [iv i525],.cel id6 (Zq l526),.cel id1 (Zc a0_.Topo),.lp (List.length H518) (lcOf Try.prog i92.nt [21,22] ZaU ZaT) [(2,.ptr id1 0),(5,.ptr id6 0),(6,.ptr id8 0),(7,.ptr id10 0)] .ready] [.cel id10 [iv i524],.cel id8 [iv i525],.cel id6 (Zq (Zl.set l526 x523.to_ true)),.cel id1 (Zc a0_.Topo),.lp (List.length H518) (lcOf Try.prog i92.nt [21,22] ZaU ZaT) [(2,.ptr id1 0),(5,.ptr id6 0),(6,.ptr id8 0),(7,.ptr id10 0)] .busy]:=hH
   refine rgS ⟨[(6,.ptr id8 0),(7,.ptr id10 0),(9,.loc 9 0)],[(9,(ZT x523))],H1048⟩ (Za.u 2 (Zo (ys:=[.ptr id6 0,iv x523.to_]) (h:=ZcB (l:=l526.l) he1047 rfl)) (Za.o 0 (Z9 (H:=H1024) (v:=bv true) (hw:=hH1048)) Za.f)) (by kernel_rfl) ?_
   refine tq (sq ?_)
   obtain ⟨H1049,hH1049,hH⟩:=Fp.setCell (k:=1) (off:=0) (cs:=[iv i525]) (vs:=[iv x523.to_]) (cs':=[iv x523.to_]) hH rfl (by kernel_rfl)
   replace hH:Fp H521 H1049 [.cel id10 [iv i524],.cel id8 [iv i525],.cel id6 (Zq l526),.cel id1 (Zc a0_.Topo),.lp (List.length H518) (lcOf Try.prog i92.nt [21,22] ZaU ZaT) [(2,.ptr id1 0),(5,.ptr id6 0),(6,.ptr id8 0),(7,.ptr id10 0)] .ready] [.cel id10 [iv i524],.cel id8 [iv x523.to_],.cel id6 (Zq (Zl.set l526 x523.to_ true)),.cel id1 (Zc a0_.Topo),.lp (List.length H518) (lcOf Try.prog i92.nt [21,22] ZaU ZaT) [(2,.ptr id1 0),(5,.ptr id6 0),(6,.ptr id8 0),(7,.ptr id10 0)] .busy]:=hH
   refine rgS ⟨[(7,.ptr id10 0)],[],H1049⟩ (Za.o 2 (Z9 (H:=H1048) (v:=iv x523.to_) (hw:=hH1049)) Za.f) (by kernel_rfl) ?_
   refine tq ?_
   have hlc1050:=Fp.get hH 0 rfl
   obtain ⟨H1051,hH1051,hH⟩:=Fp.setCell (k:=0) (off:=0) (cs:=[iv i524]) (vs:=[iv (w64 (i524+1))]) (cs':=[iv (w64 (i524+1))]) hH rfl (by kernel_rfl)
   replace hH:Fp H521 H1051 [.cel id10 [iv i524],.cel id8 [iv i525],.cel id6 (Zq l526),.cel id1 (Zc a0_.Topo),.lp (List.length H518) (lcOf Try.prog i92.nt [21,22] ZaU ZaT) [(2,.ptr id1 0),(5,.ptr id6 0),(6,.ptr id8 0),(7,.ptr id10 0)] .ready] [.cel id10 [iv (w64 (i524+1))],.cel id8 [iv x523.to_],.cel id6 (Zq (Zl.set l526 x523.to_ true)),.cel id1 (Zc a0_.Topo),.lp (List.length H518) (lcOf Try.prog i92.nt [21,22] ZaU ZaT) [(2,.ptr id1 0),(5,.ptr id6 0),(6,.ptr id8 0),(7,.ptr id10 0)] .busy]:=hH
   refine rgS ⟨[],[],H1051⟩ (Za.u 0 (Zn (H:=H1049) (id:=id10) (off:=0) (cs:=[iv i524]) (c:=[iv i524]) (r:=iv i524) (hl:=hlc1050)) (Za.o 1 (Z9 (H:=H1049) (v:=iv (w64 (i524+1))) (hw:=hH1051)) Za.f)) (by kernel_rfl) ?_
   refine bn ?_
   obtain rfl:=Zb h
   exact rbd (k:=4) (.ready) hH rfl rfl (fun H6 hH=>⟨_,(Eq.refl _),(Fp.pick hH [0,1,2,3,4] rfl)⟩)
  refine ZfS (s:=⟨[(1,Zg false a1_),(2,.ptr id1 0),(5,.ptr id6 0),(6,.ptr id8 0),(7,.ptr id10 0),(20,.fn 103 [] [.ptr id519 0,.ptr id520 0])],[],H518⟩) [(2,.ptr id1 0),(5,.ptr id6 0),(6,.ptr id8 0),(7,.ptr id10 0)] (FrOK.cons (by kernel_rfl) (by kernel_rfl) (FrOK.cons (by kernel_rfl) (by kernel_rfl) (FrOK.cons (by kernel_rfl) (by kernel_rfl) (FrOK.cons (by kernel_rfl) (by kernel_rfl) FrOK.nil)))) (by kernel_rfl) (fun H=>rfl) (capT:=[.cel id519 [Zg false r517.1],.cel id520 (Zc r517.2.Topo)]) (cells0:=[.cel id10 [iv 0],.cel id8 [iv 0],.cel id6 (Zq (Zl.mk false false false false false false false false false false false false)),.cel id1 (Zc a0_.Topo)]) (rest:=[]) (HP.now (HP.pick hH [0,1,2,3,4,5] rfl)) (fun (s:(Int × Int × Zl) × Nat) (its:List ZR)=>its=[.cel id10 [iv s.1.1],.cel id8 [iv s.1.2.1],.cel id6 (Zq s.1.2.2),.cel id1 (Zc a0_.Topo)]++[.lp (List.length H518) (lcOf Try.prog i92.nt [21,22] ZaU ZaT) [(2,.ptr id1 0),(5,.ptr id6 0),(6,.ptr id8 0),(7,.ptr id10 0)] (stAt [.ready,.done (.exit 0)] s.2)]) ((0,0,(Zl.mk false false false false false false false false false false false false)),0) o1052 (by exact (Eq.refl _)) (fun H its hT hH=>ZcX N (fun (s:(Int × Int × Zl) × Nat) (x522:Int) (x523:Zau)=>Zfo (fun v:Int × Int × Zl=>ZaJ N a0_ v.1 v.2.1 v.2.2 x522 x523) s) r517.1 r517.2 ((0,0,(Zl.mk false false false false false false false false false false false false)),0) id519 id520 (List.length H518) (fun (s:(Int × Int × Zl) × Nat) (its:List ZR)=>its=[.cel id10 [iv s.1.1],.cel id8 [iv s.1.2.1],.cel id6 (Zq s.1.2.2),.cel id1 (Zc a0_.Topo)]++[.lp (List.length H518) (lcOf Try.prog i92.nt [21,22] ZaU ZaT) [(2,.ptr id1 0),(5,.ptr id6 0),(6,.ptr id8 0),(7,.ptr id10 0)] (stAt [.ready,.done (.exit 0)] s.2)]) hyo1052 H its hT hH o1052 ho1052) ?_
  rintro its hT
  obtain rfl:=hT
  refine ⟨_,_,rfl,?_⟩
  intro H1053 hF
  replace hH:HP H1053 [.cel id519 [Zg false r517.1],.cel id520 (Zc r517.2.Topo),.cel id10 [iv o1052.1.1],.cel id8 [iv o1052.1.2.1],.cel id6 (Zq o1052.1.2.2),.cel id1 (Zc a0_.Topo)]:=HP.after (HP.pick hH [0,1,2,3,4,5] rfl) hF
  rcases ZH h with ⟨hc1054,h⟩ | ⟨_,h⟩
  ·refine Zjn (S:=⟨[(1,Zg false a1_),(2,.ptr id1 0),(5,.ptr id6 0),(6,.ptr id8 0),(7,.ptr id10 0),(20,.fn 103 [] [.ptr id519 0,.ptr id520 0])],[],H1053⟩) (e:=.normal) hc1054 rfl ?_
   refine bn ?_
   obtain rfl:=Zb h
   exact ⟨rfl,⟨H1053,(by show _=_;kernel_rfl),(HP.pick hH [2] rfl)⟩⟩
  rcases ZH h with ⟨hc1055,h⟩ | ⟨_,h⟩
  ·refine Zjn (S:=⟨[(1,Zg false a1_),(2,.ptr id1 0),(5,.ptr id6 0),(6,.ptr id8 0),(7,.ptr id10 0),(20,.fn 103 [] [.ptr id519 0,.ptr id520 0])],[],H1053⟩) (e:=(.exit 0)) hc1055 rfl ?_
   refine bx ?_
   obtain rfl:=Zb h
   exact ⟨rfl,⟨H1053,(by show _=_;kernel_rfl),(HP.pick hH [2] rfl)⟩⟩
  cases h
 clear hj515
 rintro s hR
 obtain ⟨H514,rfl,hH⟩:=hR
 replace hH:HP H514 [.cel id10 [iv j515]]:=hH
 refine sq ?_
 have hlc1056:=HP.get hH 0 rfl
 refine rgS ⟨[(4,bv (j515==((List.length a1_:Nat):Int)))],[],H514⟩ (Za.u 0 (Zn (H:=H514) (id:=id10) (off:=0) (cs:=[iv j515]) (c:=[iv j515]) (r:=iv j515) (hl:=hlc1056)) (Za.u 1 (Zo (ys:=[Zg false a1_]) (h:=Zt eI64)) Za.f)) (by kernel_rfl) ?_
 replace hH:HP H514 []:=HP.pick hH [] rfl
 refine tq (rt ?_)
 obtain rfl:=Zb h
 exact Zx (by kernel_rfl)
end Go.Sh

