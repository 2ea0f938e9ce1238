/- Part of the proof; written by a program out of the texts in wip/. -/
import Derived.Test.YthipedbbcjemhaaGreatPlanCoversOk1
namespace Go.Sh
open Go Go.Eng Go.Proofs
set_option linter.unusedVariables false
set_option linter.unusedSimpArgs false
set_option maxRecDepth 100000
set_option maxHeartbeats 4000000
attribute [local irreducible] vc ev Zeu opsD opsF Zhf upd updH updO
theorem ZdB (N:Nat) (a0_:Z6) (a1_:(List Int)) (r:(List Int)) (h:Zbt N a0_ a1_=some r):Zac Tryz.prog 108 [.agg (Zc a0_.Topo),Zg false a1_] (Zg false r):=by
 unfold Zbt at h
 have hH:HP ([]:List HO) []:=trivial
 refine ZD chk108 rfl rfl (Zt _ _ _ ?_) rfl
 refine sq (rgS ⟨[(1,Zg false a1_),(2,.loc 2 0)],[(2,(Zc a0_.Topo))],[]⟩ Za.f kr ?_)
 refine tq (sq ?_)
 obtain ⟨l3,hl3,h⟩:=bs h
 obtain ⟨a1,H2,ha1,hH2,ha1b,hH⟩:=HP.make eI64 hH hl3
 replace hH:HP _ [.arr a1 1 false (List.map eI64 l3)]:=hH
 have hfa1:=ZW (HP.get hH 0 rfl)
 obtain ⟨id4,H5,hid4,hH5,hH⟩:=HP.newCell hH [Zg true []]
 replace hH:HP _ [.cel id4 [Zg true []],.arr a1 1 false (List.map eI64 l3)]:=hH
 obtain ⟨H6,hH6,hH⟩:=HP.setCell (k:=0) (off:=0) (cs:=[Zg true []]) (vs:=[a1]) (cs':=[a1]) hH rfl kr
 replace hH:HP _ [.cel id4 [a1],.arr a1 1 false (List.map eI64 l3)]:=hH
 refine rgS ⟨[(1,Zg false a1_),(2,.loc 2 0),(5,.ptr id4 0)],[(2,(Zc a0_.Topo))],H6⟩ (Za.u 1 (Zm (ys:=[Zg false a1_]) (h:=Zr eI64)) (Za.h 1 (Zkf (H:=[]) (zero:=[.int .i64 0]) (bytes:=8) kr kr kr ha1 hH2 ha1b) (Za.h 0 (ZgP (H:=H2) kr hid4 hH5) (Za.o 0 (ZfQ (H:=H5) (v:=a1) (cs:=[a1]) (by cases hfa1<;>kernel_rfl) (by cases hfa1<;>kernel_rfl) (by cases hfa1<;>kernel_rfl) (by cases hfa1<;>kernel_rfl) (by cases hfa1<;>kernel_rfl) hH6) Za.f)))) kr ?_
 refine tq (sq ?_)
 refine sq ?_
 obtain ⟨r7,hr7,h⟩:=bs h
 obtain ⟨id9,ad,H8,hvr7,hpr7⟩:=Zfm N a0_ a1_ H6 r7 hr7
 replace hH:HP _ [.cel id9 [Zg false r7.1],.cel ad (Zc r7.2.Topo),.cel id4 [a1],.arr a1 1 false (List.map eI64 l3)]:=HP.callee (fp:=[]) (rest:=[.cel id4 [a1],.arr a1 1 false (List.map eI64 l3)]) hH hpr7
 refine rgS ⟨[(5,.ptr id4 0),(14,.fn 114 [] [.ptr id9 0,.ptr ad 0])],[],H8⟩ (Za.v 2 (Zga (H:=H6) (ys:=[.agg (Zc a0_.Topo),Zg false a1_]) kr kr kr hvr7) Za.f) kr ?_
 refine tq (bk ?_)
 obtain ⟨a9,ar,h⟩:=bs h
 have ai:∀ (ac:Int) (aa:ZaG) (s:(List Int)) (r:((List Int)) × Bool) (H:List HO) (its:List Z8),(fun (s:(List Int)) (its:List Z8)=>∃ (a3:AV),its=[.arr a3 1 false (List.map eI64 s),.cel id4 [a3]]++[.lp (List.length H8) (lcOf Tryz.prog i108.nt [15,16] Zcx Zcw) [(5,.ptr id4 0)] .ready]) s its→HP H its→(fun (s:(List Int)) (ac:Int) (aa:ZaG)=>ZdL (fun v:(List Int)=>ZaA N v ac aa) s) s ac aa=some r→∃ H' its',Zhh Tryz.prog (List.length H8) [iv ac,.agg (Zaa aa)] H r.2 H'∧(fun (s:(List Int)) (its:List Z8)=>∃ (a3:AV),its=[.arr a3 1 false (List.map eI64 s),.cel id4 [a3]]++[.lp (List.length H8) (lcOf Tryz.prog i108.nt [15,16] Zcx Zcw) [(5,.ptr id4 0)] .ready]) r.1 its'∧Fp H H' its its':=by
  clear h
  intro ac aa s r ap its hT hH h
  obtain ⟨q,hb,rfl⟩:=ZhO h
  clear h
  obtain ⟨vs,rfl⟩:∃ v,v=s:=⟨s,rfl⟩
  obtain ⟨aB,rfl⟩:∃ v,v=vs:=⟨vs,rfl⟩
  obtain ⟨a3,rfl⟩:=hT
  replace h:ZaA N aB ac aa=some q:=hb
  clear hb
  unfold ZaA at h
  replace hH:Fp _ _ _ [.arr a3 1 false (List.map eI64 aB),.cel id4 [a3],.lp (List.length H8) (lcOf Tryz.prog i108.nt [15,16] Zcx Zcw) [(5,.ptr id4 0)] .ready]:=Fp.refl hH
  have a0:=ZW (Fp.get hH 0 rfl)
  suffices hs:∃ H',Zhh Tryz.prog (List.length H8) [iv ac,.agg (Zaa aa)] ap true H'∧∃ its',(fun (s:(List Int)) (its:List Z8)=>∃ (a3:AV),its=[.arr a3 1 false (List.map eI64 s),.cel id4 [a3]]++[.lp (List.length H8) (lcOf Tryz.prog i108.nt [15,16] Zcx Zcw) [(5,.ptr id4 0)] .ready]) q its'∧Fp ap H' [.arr a3 1 false (List.map eI64 aB),.cel id4 [a3],.lp (List.length H8) (lcOf Tryz.prog i108.nt [15,16] Zcx Zcw) [(5,.ptr id4 0)] .ready] its' by
   obtain ⟨H',h1,its',h2,h3⟩:=hs
   exact ⟨H',its',h1,h2,h3⟩
  refine ZgL (id:=(List.length H8)) (args:=[iv ac,.agg (Zaa aa)]) (H:=ap) (n:=i108.nt) (ps:=[15,16]) (fr0:=[(5,.ptr id4 0)]) (ia:=Zcx) (ib:=Zcw) true (fun H'=>∃ its',(fun (s:(List Int)) (its:List Z8)=>∃ (a3:AV),its=[.arr a3 1 false (List.map eI64 s),.cel id4 [a3]]++[.lp (List.length H8) (lcOf Tryz.prog i108.nt [15,16] Zcx Zcw) [(5,.ptr id4 0)] .ready]) q its'∧Fp ap H' [.arr a3 1 false (List.map eI64 aB),.cel id4 [a3],.lp (List.length H8) (lcOf Tryz.prog i108.nt [15,16] Zcx Zcw) [(5,.ptr id4 0)] .ready] its') (Fp.get hH 2 rfl) rfl (by decide +kernel) rfl ?_
  show vc _ _ _ _ ⟨[(5,.ptr id4 0),(15,iv ac),(16,.agg (Zaa aa))],[],ap⟩
  refine sq (rgS ⟨[(5,.ptr id4 0),(6,iv ac),(16,.agg (Zaa aa))],[],ap⟩ Za.f kr ?_)
  refine tq (rgS ⟨[(5,.ptr id4 0),(6,iv ac),(7,.loc 7 0)],[(7,(Zaa aa))],ap⟩ Za.f kr ?_)
  refine ZkP (k:=2) hH rfl ?_
  intro ag hH
  replace hH:Fp _ _ _ [.arr a3 1 false (List.map eI64 aB),.cel id4 [a3],.lp (List.length H8) (lcOf Tryz.prog i108.nt [15,16] Zcx Zcw) [(5,.ptr id4 0)] .busy]:=hH
  show vc _ _ _ _ ⟨[(5,.ptr id4 0),(6,iv ac),(7,.loc 7 0)],[(7,(Zaa aa))],ag⟩
  refine bk ?_
  obtain ⟨ao,af,h⟩:=bs h
  refine Zc6 [5,7] (fun s=>∃ (a4:AV) (ab:List HO),s=⟨[(5,.ptr id4 0),(7,.loc 7 0)],[(7,(Zaa aa))],ab⟩∧Fp ap ab [.arr a3 1 false (List.map eI64 aB),.cel id4 [a3],.lp (List.length H8) (lcOf Tryz.prog i108.nt [15,16] Zcx Zcw) [(5,.ptr id4 0)] .ready] [.arr a4 1 false (List.map eI64 ao),.cel id4 [a4],.lp (List.length H8) (lcOf Tryz.prog i108.nt [15,16] Zcx Zcw) [(5,.ptr id4 0)] .busy]) ?_ ?_
  ·clear h
   have h:=af
   refine sq (rgS ⟨[(5,.ptr id4 0),(7,.loc 7 0),(18,bv (ac==0))],[(7,(Zaa aa))],ag⟩ Za.f kr ?_)
   refine tq (it h (fun aw h => ?_) (fun aw h => ?_))
   ·have al:=Fp.get hH 1 rfl
    obtain ⟨an,av,h⟩:=bs h
    obtain ⟨a8,aE,ay,hH⟩:=Fp.app (k:=0) (a:=a3) (sz:=1) (frz:=false) eI64 hH rfl av
    replace hH:Fp _ _ _ [.arr a8 1 false (List.map eI64 an),.cel id4 [a3],.lp (List.length H8) (lcOf Tryz.prog i108.nt [15,16] Zcx Zcw) [(5,.ptr id4 0)] .busy]:=hH
    have a6:=ZW (Fp.get hH 0 rfl)
    obtain ⟨aq,aA,hH⟩:=Fp.setCell (k:=1) (off:=0) (cs:=[a3]) (vs:=[a8]) (cs':=[a8]) hH rfl kr
    replace hH:Fp _ _ _ [.arr a8 1 false (List.map eI64 an),.cel id4 [a8],.lp (List.length H8) (lcOf Tryz.prog i108.nt [15,16] Zcx Zcw) [(5,.ptr id4 0)] .busy]:=hH
    refine rgS ⟨[(5,.ptr id4 0),(7,.loc 7 0)],[(7,(Zaa aa))],aq⟩ (Za.u 0 (Zv (H:=ag) (id:=id4) (off:=0) (cs:=[a3]) (c:=[a3]) (r:=a3) (by cases a0<;>kernel_rfl) (by cases a0<;>kernel_rfl) al (by cases a0<;>kernel_rfl) (by cases a0<;>kernel_rfl) (by cases a0<;>kernel_rfl)) (Za.h 3 (Ze1 (H:=ag) (a:=a3) (b:=Zg true [aa.from_]) (by cases a0<;>kernel_rfl) (by cases a0<;>kernel_rfl) (by cases a0<;>kernel_rfl) (by cases a0<;>kernel_rfl) ay) (Za.o 0 (ZfQ (H:=aE) (v:=a8) (cs:=[a8]) (by cases a6<;>kernel_rfl) (by cases a6<;>kernel_rfl) (by cases a6<;>kernel_rfl) (by cases a6<;>kernel_rfl) (by cases a6<;>kernel_rfl) aA) Za.f))) kr ?_
    obtain rfl:=Zb h
    exact ⟨rfl,⟨a8,aq,(by show _=_;kernel_rfl),(Fp.pick hH [0,1,2] rfl)⟩⟩
   refine sk ?_
   obtain rfl:=Zb h
   exact ⟨rfl,⟨a3,ag,(by show _=_;kernel_rfl),(Fp.pick hH [0,1,2] rfl)⟩⟩
  clear af
  rintro s hR
  obtain ⟨a4,ab,rfl,hH⟩:=hR
  replace hH:Fp _ _ _ [.arr a4 1 false (List.map eI64 ao),.cel id4 [a4],.lp (List.length H8) (lcOf Tryz.prog i108.nt [15,16] Zcx Zcw) [(5,.ptr id4 0)] .busy]:=hH
  have a2:=ZW (Fp.get hH 0 rfl)
  have ak:=Fp.get hH 1 rfl
  obtain ⟨am,au,h⟩:=bs h
  obtain ⟨a7,aD,ax,hH⟩:=Fp.app (k:=0) (a:=a4) (sz:=1) (frz:=false) eI64 hH rfl au
  replace hH:Fp _ _ _ [.arr a7 1 false (List.map eI64 am),.cel id4 [a4],.lp (List.length H8) (lcOf Tryz.prog i108.nt [15,16] Zcx Zcw) [(5,.ptr id4 0)] .busy]:=hH
  have a5:=ZW (Fp.get hH 0 rfl)
  obtain ⟨aC,az,hH⟩:=Fp.setCell (k:=1) (off:=0) (cs:=[a4]) (vs:=[a7]) (cs':=[a7]) hH rfl kr
  replace hH:Fp _ _ _ [.arr a7 1 false (List.map eI64 am),.cel id4 [a7],.lp (List.length H8) (lcOf Tryz.prog i108.nt [15,16] Zcx Zcw) [(5,.ptr id4 0)] .busy]:=hH
  refine rgS ⟨[],[],aC⟩ (Za.u 0 (Zv (H:=ab) (id:=id4) (off:=0) (cs:=[a4]) (c:=[a4]) (r:=a4) (by cases a2<;>kernel_rfl) (by cases a2<;>kernel_rfl) ak (by cases a2<;>kernel_rfl) (by cases a2<;>kernel_rfl) (by cases a2<;>kernel_rfl)) (Za.h 3 (Ze1 (H:=ab) (a:=a4) (b:=Zg true [aa.to_]) (by cases a2<;>kernel_rfl) (by cases a2<;>kernel_rfl) (by cases a2<;>kernel_rfl) (by cases a2<;>kernel_rfl) ax) (Za.o 0 (ZfQ (H:=aD) (v:=a7) (cs:=[a7]) (by cases a5<;>kernel_rfl) (by cases a5<;>kernel_rfl) (by cases a5<;>kernel_rfl) (by cases a5<;>kernel_rfl) (by cases a5<;>kernel_rfl) az) Za.f))) kr ?_
  refine bn ?_
  obtain rfl:=Zb h
  exact rbd (k:=2) (.ready) hH rfl rfl (fun H6 hH=>⟨_,⟨a7,Eq.refl _⟩,(Fp.pick hH [0,1,2] rfl)⟩)
 refine Zh9 (s:=⟨[(5,.ptr id4 0),(14,.fn 114 [] [.ptr id9 0,.ptr ad 0])],[],H8⟩) [(5,.ptr id4 0)] (FrOK.cons kr kr FrOK.nil) kr (fun H=>rfl) (capT:=[.cel id9 [Zg false r7.1],.cel ad (Zc r7.2.Topo)]) (cells0:=[.arr a1 1 false (List.map eI64 l3),.cel id4 [a1]]) (rest:=[]) (HP.now (HP.pick hH [0,1,3,2] rfl)) (fun (s:(List Int)) (its:List Z8)=>∃ (a3:AV),its=[.arr a3 1 false (List.map eI64 s),.cel id4 [a3]]++[.lp (List.length H8) (lcOf Tryz.prog i108.nt [15,16] Zcx Zcw) [(5,.ptr id4 0)] .ready]) l3 a9 (by exact ⟨a1,Eq.refl _⟩) (fun H its hT hH=>ZeK N (fun (s:(List Int)) (ac:Int) (aa:ZaG)=>ZdL (fun v:(List Int)=>ZaA N v ac aa) s) r7.1 r7.2 l3 id9 ad (List.length H8) (fun (s:(List Int)) (its:List Z8)=>∃ (a3:AV),its=[.arr a3 1 false (List.map eI64 s),.cel id4 [a3]]++[.lp (List.length H8) (lcOf Tryz.prog i108.nt [15,16] Zcx Zcw) [(5,.ptr id4 0)] .ready]) ai H its hT hH a9 ar) ?_
 rintro its hT
 obtain ⟨a3,rfl⟩:=hT
 refine ⟨_,_,rfl,?_⟩
 intro ae hF
 replace hH:HP _ [.cel id9 [Zg false r7.1],.cel ad (Zc r7.2.Topo),.arr a3 1 false (List.map eI64 a9),.cel id4 [a3]]:=HP.after (HP.pick hH [0,1,3,2] rfl) hF
 have a0:=ZW (HP.get hH 2 rfl)
 refine ZiZ (S:=⟨[(5,.ptr id4 0),(14,.fn 114 [] [.ptr id9 0,.ptr ad 0])],[],ae⟩) ?_
 refine bn (tq ?_)
 refine kq ?_
 replace hH:HP _ [.arr a3 1 false (List.map eI64 a9),.cel id4 [a3]]:=HP.pick hH [2,3] rfl
 refine sq ?_
 have aj:=HP.get hH 1 rfl
 refine rgS ⟨[(4,a3)],[],ae⟩ (Za.u 0 (Zv (H:=ae) (id:=id4) (off:=0) (cs:=[a3]) (c:=[a3]) (r:=a3) (by cases a0<;>kernel_rfl) (by cases a0<;>kernel_rfl) aj (by cases a0<;>kernel_rfl) (by cases a0<;>kernel_rfl) (by cases a0<;>kernel_rfl)) Za.f) (by cases a0<;>kernel_rfl) ?_
 replace hH:HP _ [.arr a3 1 false (List.map eI64 a9)]:=HP.pick hH [0] rfl
 refine tq (rt ?_)
 obtain rfl:=Zb h
 exact Zd6 (H:=ae) (ys:=[a3]) (xs:=[.p (.sl 1 false (List.map eI64 a9))]) (by cases a0<;>kernel_rfl) (by cases a0<;>kernel_rfl) (ZaJ (HP.pure (k:=0) (frz:=false) eI64 hH rfl).2 ZbJ) kr
theorem Ze2 (N:Nat) (a0_:(List Int)) (a1_:Int) (r:Bool) (h:ZaZ N a0_ a1_=some r):Zac Tryz.prog 109 [Zg false a0_,iv a1_] (bv r):=by
 unfold ZaZ at h
 have hH:HP ([]:List HO) []:=trivial
 refine ZD chk109 rfl rfl (Zt _ _ _ ?_) rfl
 refine sq (rg Za.f ?_)
 refine tq (sq ?_)
 obtain ⟨r1,hr1,h⟩:=bs h
 refine rg (Za.v 2 (Zw (hc:=ZfS N a0_ a1_ r1 hr1)) Za.f) (tq ?_)
 refine rt ?_
 obtain rfl:=Zb h
 exact Zx kr
theorem ZjD (N:Nat) (a0_:ZF) (a1_:ZF) (r:Bool) (h:Zgd N a0_ a1_=some r):Zac Tryz.prog 111 [.agg (Zcl a0_),.agg (Zcl a1_)] (bv r):=by
 unfold Zgd at h
 have hH:HP ([]:List HO) []:=trivial
 refine ZD chk111 rfl rfl (Zt _ _ _ ?_) rfl
 refine sq (rg Za.f ?_)
 refine tq (sq ?_)
 refine sq (rg Za.f ?_)
 refine tq (it h (fun hc1 h => ?_) (fun hc1 h => ?_))
 ·refine sq (rg Za.f ?_)
  refine tq (rt ?_)
  refine tr ?_
  obtain rfl:=Zb h
  exact Zx kr
 refine sk (tq ?_)
 refine kq (sq ?_)
 obtain ⟨r2,hr2,h⟩:=bs h
 refine rg (Za.v 2 (Zw (hc:=Zkp N a0_ a1_ r2 hr2)) Za.f) (tq ?_)
 refine sq ?_
 obtain ⟨r3,hr3,h⟩:=bs h
 refine rg (Za.v 6 (Zw (hc:=Zll N (w64 (a1_.From - a0_.From)) r2.2.2 r3 hr3)) Za.f) (tq ?_)
 refine sq (rgX ⟨[(4,bv ((decide (r2.1≤r3))&&(decide (r3≤r2.2.1))))],[],[]⟩ ?_ ?_)
 ·rcases Bool.eq_false_or_eq_true (decide (r2.1≤r3)) with hc4 | hc5
  ·exact (EP.u 2 (Zi (c:=(decide (r2.1≤r3))) (h:=hc4)) (EP.f (by simp only [hc4];kernel_rfl)))
  exact (EP.u 2 (Zi (c:=(decide (r2.1≤r3))) (h:=hc5)) (EP.f (by simp only [hc5];kernel_rfl)))
 refine tq (rt ?_)
 obtain rfl:=Zb h
 exact Zx kr
theorem ZjA (N:Nat) (a0_:Z6) (c0_:(List Int)) (k0_:Nat) (H:List HO) (hH:HP H [.cel k0_ [Zg false c0_]]) (r:(List Int) × Int) (h:ZdM N a0_ c0_=some r):Zbe Tryz.prog 113 [.agg (Zc a0_.Topo),.ptr k0_ 0] H (.tup [Zg false r.1,iv r.2]) H:=by
 unfold ZdM at h
 refine Zbz chk113 rfl rfl rfl (Zt _ _ _ ?_)
 refine sq (rg Za.f ?_)
 refine tq (sq ?_)
 have hlc1:=HP.get hH 0 rfl
 obtain ⟨r2,hr2,h⟩:=bs h
 refine rg (Za.u 1 (Zv (H:=H) (id:=k0_) (off:=0) (cs:=[Zg false c0_]) (c:=[Zg false c0_]) (r:=Zg false c0_) (hl:=hlc1)) (Za.v 0 (Zw (hc:=ZdB N a0_ c0_ r2 hr2)) Za.f)) ?_
 replace hH:HP _ []:=HP.pick hH [] rfl
 refine tq (rt ?_)
 obtain rfl:=Zb h
 exact Za4 kr kr
theorem ZbQ (N:Nat) (a0_:Zae) (a1_:Zh) (a2_:Int) (a3_:Int) (bp1_1_:AV) (bp1_2_:AV) (H:List HO) (hH:HP H [.arr bp1_1_ 1 true (List.map eB a1_.Station),.arr bp1_2_ 4 true (List.map Zp a1_.Links)]) (r:Zh) (h:Zaf N a0_ a1_ a2_ a3_=some r):∃ (or_0_1_:AV) (or_0_2_:AV) (H':List HO),Zbe Tryz.prog 15 [.agg (ZA a0_),.agg [iv a1_.Nodes,bp1_1_,bp1_2_],iv a2_,iv a3_] H (.agg [iv r.Nodes,or_0_1_,or_0_2_]) H'∧Fp H H' [.arr bp1_1_ 1 true (List.map eB a1_.Station),.arr bp1_2_ 4 true (List.map Zp a1_.Links)] [.arr or_0_1_ 1 true (List.map eB r.Station),.arr or_0_2_ 4 true (List.map Zp r.Links)]:=by
 suffices hs:∃ r' H',Zbe Tryz.prog 15 [.agg (ZA a0_),.agg [iv a1_.Nodes,bp1_1_,bp1_2_],iv a2_,iv a3_] H r' H'∧∃ (or_0_1_:AV) (or_0_2_:AV),r' = .agg [iv r.Nodes,or_0_1_,or_0_2_]∧Fp H H' [.arr bp1_1_ 1 true (List.map eB a1_.Station),.arr bp1_2_ 4 true (List.map Zp a1_.Links)] [.arr or_0_1_ 1 true (List.map eB r.Station),.arr or_0_2_ 4 true (List.map Zp r.Links)] by
  obtain ⟨_,H',h1,or_0_1_,or_0_2_,he,h2⟩:=hs
  exact ⟨or_0_1_,or_0_2_,H',he ▸ h1,h2⟩
 unfold Zaf at h
 replace hH:=Fp.refl hH
 have hfbp1_1_:=ZW (Fp.get hH 0 rfl)
 have hfbp1_2_:=ZW (Fp.get hH 1 rfl)
 refine Zh4 chk15 [] (fun r' H'=>∃ (or_0_1_:AV) (or_0_2_:AV),r' = .agg [iv r.Nodes,or_0_1_,or_0_2_]∧Fp H H' [.arr bp1_1_ 1 true (List.map eB a1_.Station),.arr bp1_2_ 4 true (List.map Zp a1_.Links)] [.arr or_0_1_ 1 true (List.map eB r.Station),.arr or_0_2_ 4 true (List.map Zp r.Links)]) (fun r' H' q=>by obtain ⟨or_0_1_,or_0_2_,e,hp⟩:=q;subst e;have hfor_0_1_:=ZW (Fp.get hp 0 rfl);have hfor_0_2_:=ZW (Fp.get hp 1 rfl);show ZX _=true;cases hfor_0_1_<;>cases hfor_0_2_<;>rfl) rfl (by cases hfbp1_1_<;>cases hfbp1_2_<;>kernel_rfl) ?_
 refine sq (rgS ⟨[(2,iv a2_),(3,iv a3_),(4,.loc 4 0),(5,.loc 5 0),(8,.loc 8 0)],[(4,(ZA a0_)),(5,[iv a1_.Nodes,bp1_1_,bp1_2_]),(8,[iv 0,s_eB true [],Ze true []])],H⟩ (Za.f (h:=(by cases hfbp1_1_<;>cases hfbp1_2_<;>kernel_rfl))) (by cases hfbp1_1_<;>cases hfbp1_2_<;>kernel_rfl) ?_)
 refine tq (sq ?_)
 have hln1:=Fp.len (k:=1) (a:=bp1_2_) (sz:=4) (frz:=true) (l:=a1_.Links) Zp hH rfl
 refine rgS ⟨[(2,iv a2_),(3,iv a3_),(4,.loc 4 0),(5,.loc 5 0),(8,.loc 8 0),(9,iv ((List.length a1_.Links:Nat):Int))],[(4,(ZA a0_)),(5,[iv a1_.Nodes,bp1_1_,bp1_2_]),(8,[iv 0,s_eB true [],Ze true []])],H⟩ (Za.u (hm:=(by cases hfbp1_1_<;>cases hfbp1_2_<;>kernel_rfl)) 2 (Zm (ys:=[bp1_2_]) (by cases hfbp1_1_<;>cases hfbp1_2_<;>kernel_rfl) hln1) (Za.f (h:=(by cases hfbp1_1_<;>cases hfbp1_2_<;>kernel_rfl)))) (by cases hfbp1_1_<;>cases hfbp1_2_<;>kernel_rfl) ?_
 refine tq (sq ?_)
 obtain ⟨r2,hr2,h⟩:=bs h
 obtain ⟨r3,hr3,h⟩:=bs h
 refine rqS ⟨[(2,iv a2_),(3,iv a3_),(5,.loc 5 0),(8,.loc 8 0),(9,iv ((List.length a1_.Links:Nat):Int)),(10,.loc 10 0)],[(5,[iv a1_.Nodes,bp1_1_,bp1_2_]),(8,[iv 0,s_eB true [],Ze true []]),(10,[iv a2_,iv a3_,iv (w64 (1+(Int.tmod r2 20))),iv (Int.tmod r3 50)])],H⟩ (Za.u 5 (ZaK (hc:=ZdP N a0_.Pers ((List.length a1_.Links:Nat):Int) r2 hr2)) (Za.u 5 (ZaK (hc:=ZdP N a0_.Delays ((List.length a1_.Links:Nat):Int) r3 hr3)) Za.f)) (by cases hfbp1_1_<;>cases hfbp1_2_<;>kernel_rfl) ?_
 refine tq (sq ?_)
 refine sq ?_
 obtain ⟨au,hj,h⟩:=bs h
 refine rgR (fun s=>∃ (a9:AV) (a2:AV) (a4:List HO),s=⟨[(2,iv a2_),(3,iv a3_),(5,.loc 5 0),(8,.loc 8 0),(9,iv ((List.length a1_.Links:Nat):Int)),(10,.loc 10 0),(36,bv au)],[(5,[iv a1_.Nodes,a9,a2]),(8,[iv 0,s_eB true [],Ze true []]),(10,[iv a2_,iv a3_,iv (w64 (1+(Int.tmod r2 20))),iv (Int.tmod r3 50)])],a4⟩∧Fp H a4 [.arr bp1_1_ 1 true (List.map eB a1_.Station),.arr bp1_2_ 4 true (List.map Zp a1_.Links)] [.arr a9 1 true (List.map eB a1_.Station),.arr a2 4 true (List.map Zp a1_.Links)]) ?_ ?_
 ·clear h
  rcases Zz hj with ⟨hc4,hj⟩ | ⟨hc5,hj⟩
  ·obtain rfl:=Zb hj
   exact (EP.u 1 (Zi (c:=(((List.length a1_.Links:Nat):Int)==24)) (h:=hc4)) (EP.f ⟨bp1_1_,bp1_2_,H,(by show _=_;cases hfbp1_1_<;>cases hfbp1_2_<;>kernel_rfl),(Fp.pick hH [0,1] rfl)⟩))
  refine (EP.u 1 (Zi (c:=(((List.length a1_.Links:Nat):Int)==24)) (h:=hc5)) ?_)
  obtain ⟨r6,hr6,hj⟩:=bs hj
  obtain ⟨H7,hzH7,hzH7v,hH⟩:=Fp.frz (k:=0) (a:=bp1_1_) (sz:=1) (frz:=true) eB hH rfl
  replace hH:Fp _ _ _ [.arr bp1_1_ 1 true (List.map eB a1_.Station),.arr bp1_2_ 4 true (List.map Zp a1_.Links)]:=hH
  obtain ⟨H8,hzH8,hzH8v,hH⟩:=Fp.frz (k:=1) (a:=bp1_2_) (sz:=4) (frz:=true) Zp hH rfl
  replace hH:Fp _ _ _ [.arr bp1_1_ 1 true (List.map eB a1_.Station),.arr bp1_2_ 4 true (List.map Zp a1_.Links)]:=hH
  obtain rfl:=Zb hj
  exact (EP.v (hm:=(by cases hfbp1_1_<;>cases hfbp1_2_<;>kernel_rfl)) 3 (Zic (H:=H) (ys:=[.agg [iv a1_.Nodes,bp1_1_,bp1_2_],.agg [iv a2_,iv a3_,iv (w64 (1+(Int.tmod r2 20))),iv (Int.tmod r3 50)]]) (by cases hfbp1_1_<;>cases hfbp1_2_<;>kernel_rfl) (by cases hfbp1_1_<;>cases hfbp1_2_<;>kernel_rfl) (Zew (ZoQ (Zck rfl (Zck hzH7 (Zck hzH8 ZoR)))) (Zew rfl Zis)) (Zms N a1_ (Zy.mk a2_ a3_ (w64 (1+(Int.tmod r2 20))) (Int.tmod r3 50)) r6 hr6)) (EP.f ⟨bp1_1_,bp1_2_,H8,(by show _=_;cases hfbp1_1_<;>cases hfbp1_2_<;>kernel_rfl),(Fp.pick hH [0,1] rfl)⟩ (h:=(by cases hfbp1_1_<;>cases hfbp1_2_<;>kernel_rfl))))
 clear hj
 rintro s hR
 obtain ⟨a9,a2,a4,rfl,hH⟩:=hR
 replace hH:Fp _ _ _ [.arr a9 1 true (List.map eB a1_.Station),.arr a2 4 true (List.map Zp a1_.Links)]:=hH
 have hfa9:=ZW (Fp.get hH 0 rfl)
 have a0:=ZW (Fp.get hH 1 rfl)
 refine tq (it h (fun ao h => ?_) (fun ao h => ?_))
 ·refine sq (rgS ⟨[(8,.loc 8 0)],[(8,[iv a1_.Nodes,a9,a2])],a4⟩ (Za.f (h:=(by cases a0<;>cases hfa9<;>kernel_rfl))) (by cases a0<;>cases hfa9<;>kernel_rfl) ?_)
  refine tq (rt ?_)
  refine tr ?_
  obtain rfl:=Zb h
  exact ⟨[.agg [iv a1_.Nodes,a9,a2]],(by cases a0<;>cases hfa9<;>kernel_rfl),a9,a2,(by cases a0<;>cases hfa9<;>kernel_rfl),Fp.pk hH [0,1] rfl⟩
 refine sk (tq ?_)
 refine kq (sq ?_)
 refine sq (rgS ⟨[(2,iv a2_),(3,iv a3_),(5,.loc 5 0),(8,.loc 8 0),(9,iv ((List.length a1_.Links:Nat):Int)),(10,.loc 10 0),(11,iv 0)],[(5,[iv a1_.Nodes,a9,a2]),(8,[iv 0,s_eB true [],Ze true []]),(10,[iv a2_,iv a3_,iv (w64 (1+(Int.tmod r2 20))),iv (Int.tmod r3 50)])],a4⟩ Za.f (by cases a0<;>cases hfa9<;>kernel_rfl) ?_)
 refine tq (bk ?_)
 obtain ⟨ac,a7,h⟩:=bs h
 refine ZS ((ZL (fun (x:Int) s=>s=⟨[(2,iv a2_),(3,iv a3_),(5,.loc 5 0),(8,.loc 8 0),(9,iv ((List.length a1_.Links:Nat):Int)),(10,.loc 10 0),(11,iv x)],[(5,[iv a1_.Nodes,a9,a2]),(8,[iv 0,s_eB true [],Ze true []]),(10,[iv a2_,iv a3_,iv (w64 (1+(Int.tmod r2 20))),iv (Int.tmod r3 50)])],a4⟩) (fun x:Int=>ZaP N a1_ a2_ a3_ x) (fun (p:(Unit) ⊕ (Zh)) e s=>match p with | (.inl p)=>e = .exit 0∧(s=⟨[(5,.loc 5 0),(8,.loc 8 0),(10,.loc 10 0)],[(5,[iv a1_.Nodes,a9,a2]),(8,[iv 0,s_eB true [],Ze true []]),(10,[iv a2_,iv a3_,iv (w64 (1+(Int.tmod r2 20))),iv (Int.tmod r3 50)])],a4⟩) | (.inr p)=>e = .ret∧∃ xs,rawL (wS [] s) i15.res=some xs∧∃ (or_0_1_:AV) (or_0_2_:AV),ZaW xs = .agg [iv p.Nodes,or_0_1_,or_0_2_]∧Fp H (weakH [] s.H) [.arr bp1_1_ 1 true (List.map eB a1_.Station),.arr bp1_2_ 4 true (List.map Zp a1_.Links)] [.arr or_0_1_ 1 true (List.map eB p.Station),.arr or_0_2_ 4 true (List.map Zp p.Links)]) ?_ N _ ac _ a7 (by show _=_;cases a0<;>cases hfa9<;>kernel_rfl)).mono ?_)
 ·clear h a7
  rintro i14 o s h hR
  obtain rfl:=hR
  replace h:ZaP N a1_ a2_ a3_ i14=some o:=h
  unfold ZaP at h
  refine sq (sq ?_)
  refine rgS ⟨[(2,iv a2_),(3,iv a3_),(5,.loc 5 0),(8,.loc 8 0),(9,iv ((List.length a1_.Links:Nat):Int)),(10,.loc 10 0),(11,iv i14),(40,bv (decide (i14<((List.length a1_.Links:Nat):Int))))],[(5,[iv a1_.Nodes,a9,a2]),(8,[iv 0,s_eB true [],Ze true []]),(10,[iv a2_,iv a3_,iv (w64 (1+(Int.tmod r2 20))),iv (Int.tmod r3 50)])],a4⟩ Za.f (by cases a0<;>cases hfa9<;>kernel_rfl) ?_
  refine tq (it h (fun ag h => ?_) (fun ag h => ?_))
  ·refine sk (tq ?_)
   refine kq (sq ?_)
   refine bk (sq ?_)
   obtain ⟨a3,a8,h⟩:=bs h
   obtain ⟨ap,am,_,ak,aa,al,a6⟩:=Fp.elem (k:=1) (a:=a2) (sz:=4) (frz:=true) Zp hH rfl a8
   obtain ⟨ab,ad,h⟩:=bs h
   refine rgS ⟨[(2,iv a2_),(3,iv a3_),(5,.loc 5 0),(8,.loc 8 0),(9,iv ((List.length a1_.Links:Nat):Int)),(10,.loc 10 0),(11,iv i14),(50,bv ab)],[(5,[iv a1_.Nodes,a9,a2]),(8,[iv 0,s_eB true [],Ze true []]),(10,[iv a2_,iv a3_,iv (w64 (1+(Int.tmod r2 20))),iv (Int.tmod r3 50)])],a4⟩ (Za.u (hm:=(by cases a0<;>cases hfa9<;>kernel_rfl)) 3 (Zm (ys:=[a2,iv i14]) (by cases a0<;>cases hfa9<;>kernel_rfl) (a6 .i64)) (Za.u (hm:=(by cases a0<;>cases hfa9<;>kernel_rfl)) 0 (Zc8 (H:=a4) (off:=0) (cs:=[.int .i64 a3.A,.int .i64 a3.B,.int .i64 a3.Per,.int .i64 a3.Delay]) (r:=.agg (Zay a3)) Zp a8 aa (by cases a0<;>cases hfa9<;>kernel_rfl) (by cases a0<;>cases hfa9<;>kernel_rfl) (by cases a0<;>cases hfa9<;>kernel_rfl) (by cases a0<;>cases hfa9<;>kernel_rfl)) (Za.v (hm:=(by cases a0<;>cases hfa9<;>kernel_rfl)) 2 (Zw (by cases a0<;>cases hfa9<;>kernel_rfl) (Zlt N a3 a2_ a3_ ab ad)) Za.f))) (by cases a0<;>cases hfa9<;>kernel_rfl) ?_
   refine tq (it h (fun af h => ?_) (fun af h => ?_))
   ·refine sq (rgS ⟨[(8,.loc 8 0)],[(8,[iv a1_.Nodes,a9,a2])],a4⟩ (Za.f (h:=(by cases a0<;>cases hfa9<;>kernel_rfl))) (by cases a0<;>cases hfa9<;>kernel_rfl) ?_)
    refine tq (rt ?_)
    refine br (tr ?_)
    obtain rfl:=Zb h
    exact ⟨_,rfl,rfl,⟨[.agg [iv a1_.Nodes,a9,a2]],(by cases a0<;>cases hfa9<;>kernel_rfl),a9,a2,(by cases a0<;>cases hfa9<;>kernel_rfl),Fp.pk hH [0,1] rfl⟩⟩
   refine sk (bn ?_)
   refine tq (kq ?_)
   refine rgS ⟨[(2,iv a2_),(3,iv a3_),(5,.loc 5 0),(8,.loc 8 0),(9,iv ((List.length a1_.Links:Nat):Int)),(10,.loc 10 0),(11,iv (w64 (i14+1)))],[(5,[iv a1_.Nodes,a9,a2]),(8,[iv 0,s_eB true [],Ze true []]),(10,[iv a2_,iv a3_,iv (w64 (1+(Int.tmod r2 20))),iv (Int.tmod r3 50)])],a4⟩ Za.f (by cases a0<;>cases hfa9<;>kernel_rfl) ?_
   obtain rfl:=Zb h
   exact ⟨_,rfl,(by show _=_;cases a0<;>cases hfa9<;>kernel_rfl)⟩
  refine kq (xq ?_)
  refine tx ?_
  obtain rfl:=Zb h
  exact ⟨_,rfl,rfl,(by show _=_;cases a0<;>cases hfa9<;>kernel_rfl)⟩
 rintro e s hq
 rcases ac with ar | aq
 ·dsimp only at h hq
  obtain ⟨rfl,hR⟩:=hq
  obtain rfl:=hR
  refine bx (tq ?_)
  refine sq ?_
  obtain ⟨an,ae,h⟩:=bs h
  obtain ⟨a5,aj,ai,hH⟩:=Fp.app (k:=1) (a:=a2) (sz:=4) (frz:=true) Zp hH rfl ae
  replace hH:Fp _ _ _ [.arr a9 1 true (List.map eB a1_.Station),.arr a5 4 true (List.map Zp an)]:=hH
  have a1:=ZW (Fp.get hH 1 rfl)
  refine rgS ⟨[(5,.loc 5 0),(8,.loc 8 0)],[(5,[iv a1_.Nodes,a9,a5]),(8,[iv 0,s_eB true [],Ze true []])],aj⟩ (Za.h (hm:=(by cases a0<;>cases hfa9<;>kernel_rfl)) 4 (Ze1 (H:=a4) (a:=a2) (b:=Ze true [(Zy.mk a2_ a3_ (w64 (1+(Int.tmod r2 20))) (Int.tmod r3 50))]) (by cases a0<;>cases hfa9<;>kernel_rfl) (by cases a0<;>cases hfa9<;>kernel_rfl) (by cases a0<;>cases hfa9<;>kernel_rfl) (by cases a0<;>cases hfa9<;>kernel_rfl) ai) (Za.f (h:=(by cases a0<;>cases a1<;>cases hfa9<;>kernel_rfl)))) (by cases a0<;>cases a1<;>cases hfa9<;>kernel_rfl) ?_
  refine tq (sq ?_)
  refine rgS ⟨[(8,.loc 8 0)],[(8,[iv a1_.Nodes,a9,a5])],aj⟩ (Za.f (h:=(by cases a1<;>cases hfa9<;>kernel_rfl))) (by cases a1<;>cases hfa9<;>kernel_rfl) ?_
  refine tq (rt ?_)
  obtain rfl:=Zb h
  exact ⟨[.agg [iv a1_.Nodes,a9,a5]],(by cases a1<;>cases hfa9<;>kernel_rfl),a9,a5,(by cases a1<;>cases hfa9<;>kernel_rfl),Fp.pk hH [0,1] rfl⟩
 dsimp only at h hq
 obtain ⟨rfl,hq⟩:=hq
 refine br (tr ?_)
 obtain rfl:=Zb h
 exact hq
theorem Zif (N:Nat) (a0_:Zh) (a1_:Int) (a2_:Int) (r:(List Int)) (h:ZeX N a0_ a1_ a2_=some r):Zac Tryz.prog 39 [.agg (Zc a0_),.p (.int .u8 a1_),.p (.int .u8 a2_)] (ZmE 1 eI64 r):=by
 unfold ZeX at h
 have hH:HP ([]:List HO) []:=trivial
 refine ZD chk39 rfl rfl (Zt _ _ _ ?_) Zpg
 refine sq (rg Za.f ?_)
 refine tq (sq ?_)
 refine sq (rg Za.f ?_)
 refine tq (bk ?_)
 obtain ⟨ad,a4,h⟩:=bs h
 refine ZS ((ZL (fun (x:Int) s=>s=⟨[(1,.p (.int .u8 a1_)),(2,.p (.int .u8 a2_)),(3,.loc 3 0),(7,iv x)],[(3,(Zc a0_))],[]⟩) (fun x:Int=>Zdc N a0_ a1_ a2_ x) (fun (p:(Unit) ⊕ ((List Int))) e s=>match p with | (.inl p)=>e = .exit 0∧(s=⟨[],[],[]⟩) | (.inr p)=>e = .ret∧∃ xs,resL s i39.res=some xs∧ZaW xs=ZmE 1 eI64 p) ?_ N _ ad _ a4 (by show _=_;kernel_rfl)).mono ?_)
 ·clear h a4
  rintro i1 o s h hR
  obtain rfl:=hR
  replace h:Zdc N a0_ a1_ a2_ i1=some o:=h
  unfold Zdc at h
  refine sq (sq ?_)
  refine rg Za.f (tq ?_)
  refine it h (fun ap h => ?_) (fun ap h => ?_)
  ·refine sk (tq ?_)
   refine kq (sq ?_)
   refine bk (sq ?_)
   obtain ⟨a0,ag,h⟩:=bs h
   refine rg (Za.v 6 (Zw (hc:=Zmr N a0_ a1_ (IntKind.u8.wrap (a2_+(IntKind.u8.wrap (i1)))) a0 ag)) Za.f) (tq ?_)
   refine sq ?_
   obtain ⟨ar,hj,h⟩:=bs h
   refine rqR (fun s=>s=⟨[(1,.p (.int .u8 a1_)),(2,.p (.int .u8 a2_)),(3,.loc 3 0),(7,iv i1),(8,Zg false a0),(52,bv ar)],[(3,(Zc a0_))],[]⟩) ?_ ?_
   ·clear h
    refine (EP.u 1 (Zm (ys:=[Zg false a0]) (h:=Zr eI64)) ?_)
    rcases Zz hj with ⟨ao,hj⟩ | ⟨aj,hj⟩
    ·refine (EP.u 0 (Zi (c:=(decide (((List.length a0:Nat):Int) > 0))) (h:=ao)) ?_)
     obtain ⟨ac,a3,hj⟩:=bs hj
     rcases Zz hj with ⟨an,hj⟩ | ⟨ak,hj⟩
     ·refine (EP.u 3 (Zna kr (Zej N a0_ a0 ac a3) an) ?_)
      obtain ⟨a9,a7,hj⟩:=bs hj
      refine (EP.u 6 (Zm (ys:=[Zg false a0,iv 0]) (h:=Zk eI64 a7)) (EP.u 0 (ZN (Zu (sz:=1) (off:=0) (cs:=[.int .i64 a9]) (r:=iv a9) eI64 a7)) ?_))
      obtain ⟨ab,af,hj⟩:=bs hj
      refine (EP.u 0 (ZaK (hc:=Zcv N a0_ a9 ab af)) ?_)
      obtain ⟨a2,a1,hj⟩:=bs hj
      refine (EP.u 0 (Zm (ys:=[s_eB false a0_.Station,iv ab]) (h:=Zk eB a1)) ?_)
      rcases Zz hj with ⟨am,hj⟩ | ⟨al,hj⟩
      ·refine (EP.u 0 (ZI.bool (ZN (Zu (sz:=1) (off:=0) (cs:=[.bool a2]) (r:=bv a2) eB a1)) am) (EP.u 7 (Zm (ys:=[Zg false a0]) (h:=Zr eI64)) ?_))
       obtain ⟨a8,a6,hj⟩:=bs hj
       refine (EP.u 1 (Zm (ys:=[Zg false a0,iv (w64 (((List.length a0:Nat):Int) - 1))]) (h:=Zk eI64 a6)) (EP.u 0 (ZN (Zu (sz:=1) (off:=0) (cs:=[.int .i64 a8]) (r:=iv a8) eI64 a6)) ?_))
       obtain ⟨aa,ae,hj⟩:=bs hj
       refine (EP.u 0 (ZaK (hc:=ZcZ N a0_ a8 aa ae)) ?_)
       obtain ⟨aq,a5,hj⟩:=bs hj
       obtain rfl:=Zb hj
       exact (EP.u 0 (Zm (ys:=[s_eB false a0_.Station,iv aa]) (h:=Zk eB a5)) (EP.u 0 (ZN (Zu (sz:=1) (off:=0) (cs:=[.bool aq]) (r:=bv aq) eB a5)) (EP.f (by show _=_;kernel_rfl))))
      obtain rfl:=Zb hj
      exact (EP.u 0 (ZI.bool (ZN (Zu (sz:=1) (off:=0) (cs:=[.bool a2]) (r:=bv a2) eB a1)) al) (EP.f (by show _=_;kernel_rfl)))
     obtain rfl:=Zb hj
     exact (EP.u 3 (Zna kr (Zej N a0_ a0 ac a3) ak) (EP.f (by show _=_;kernel_rfl)))
    obtain rfl:=Zb hj
    exact (EP.u 0 (Zi (c:=(decide (((List.length a0:Nat):Int) > 0))) (h:=aj)) (EP.f (by show _=_;kernel_rfl)))
   clear hj
   rintro s hR
   obtain rfl:=hR
   refine tq (it h (fun ai h => ?_) (fun ai h => ?_))
   ·refine sq (rg Za.f ?_)
    refine tq (rt ?_)
    refine br (tr ?_)
    obtain ⟨_,hu_,h⟩:=bind_some h
    obtain rfl:=Zb h
    exact ⟨_,rfl,rfl,Zx (by rw [ZmD (Zq4 hu_)];kernel_rfl)⟩
   refine sk (bn ?_)
   refine tq (kq ?_)
   refine rg Za.f ?_
   obtain rfl:=Zb h
   exact ⟨_,rfl,(by show _=_;kernel_rfl)⟩
  refine kq (xq ?_)
  refine tx ?_
  obtain rfl:=Zb h
  exact ⟨_,rfl,rfl,(by show _=_;kernel_rfl)⟩
 rintro e s hq
 rcases ad with av | au
 ·dsimp only at h hq
  obtain ⟨rfl,hR⟩:=hq
  obtain rfl:=hR
  refine bx (tq ?_)
  refine sq (rg Za.f ?_)
  refine tq (rt ?_)
  obtain rfl:=Zb h
  exact Zx kr
 dsimp only at h hq
 obtain ⟨rfl,hq⟩:=hq
 refine br (tr ?_)
 obtain rfl:=Zb h
 exact hq
theorem ZfG (N:Nat) (a0_:Zh) (a1_:(List Int)) (a2_:(List Int)) (r:Bool) (h:Zcu N a0_ a1_ a2_=some r):Zac Tryz.prog 42 [.agg (Zc a0_),Zg false a1_,Zg false a2_] (bv r):=by
 unfold Zcu at h
 have hH:HP ([]:List HO) []:=trivial
 refine ZD chk42 rfl rfl (Zt _ _ _ ?_) rfl
 refine sq (rg Za.f ?_)
 refine tq (sq ?_)
 refine sq (rg Za.f ?_)
 refine tq (bk ?_)
 obtain ⟨a9,a1,h⟩:=bs h
 refine ZS ((ZL (fun (x:Int) s=>s=⟨[(1,Zg false a1_),(2,Zg false a2_),(3,.loc 3 0),(7,iv x)],[(3,(Zc a0_))],[]⟩) (fun x:Int=>Zcc N a1_ a2_ x) (fun (p:(Unit) ⊕ (Bool)) e s=>match p with | (.inl p)=>e = .exit 0∧(s=⟨[(1,Zg false a1_),(2,Zg false a2_),(3,.loc 3 0)],[(3,(Zc a0_))],[]⟩) | (.inr p)=>e = .ret∧∃ xs,resL s i42.res=some xs∧ZaW xs=bv p) ?_ N _ a9 _ a1 (by show _=_;kernel_rfl)).mono ?_)
 ·clear h a1
  rintro i1 o s h hR
  obtain rfl:=hR
  replace h:Zcc N a1_ a2_ i1=some o:=h
  unfold Zcc at h
  refine sq (sq ?_)
  refine rg (Za.u 2 (Zm (ys:=[Zg false a1_]) (h:=Zr eI64)) Za.f) (tq ?_)
  refine it h (fun ar h => ?_) (fun ar h => ?_)
  ·refine sk (tq ?_)
   refine kq (sq ?_)
   refine bk (sq ?_)
   refine rg Za.f (tq ?_)
   refine bk ?_
   obtain ⟨aa,a2,h⟩:=bs h
   refine ZS ((ZL (fun (x:Int) s=>s=⟨[(1,Zg false a1_),(2,Zg false a2_),(3,.loc 3 0),(7,iv i1),(8,iv x)],[(3,(Zc a0_))],[]⟩) (fun x:Int=>Zcb N a1_ a2_ i1 x) (fun (p:(Unit) ⊕ (Bool)) e s=>match p with | (.inl p)=>e = .exit 2∧(s=⟨[(1,Zg false a1_),(2,Zg false a2_),(3,.loc 3 0),(7,iv i1)],[(3,(Zc a0_))],[]⟩) | (.inr p)=>e = .ret∧∃ xs,resL s i42.res=some xs∧ZaW xs=bv p) ?_ N _ aa _ a2 (by show _=_;kernel_rfl)).mono ?_)
   ·clear h a2
    rintro aq o s h hR
    obtain rfl:=hR
    replace h:Zcb N a1_ a2_ i1 aq=some o:=h
    unfold Zcb at h
    refine sq (sq ?_)
    refine rg (Za.u 2 (Zm (ys:=[Zg false a2_]) (h:=Zr eI64)) Za.f) (tq ?_)
    refine it h (fun an h => ?_) (fun an h => ?_)
    ·refine sk (tq ?_)
     refine kq (sq ?_)
     refine bk (sq ?_)
     obtain ⟨ac,a4,h⟩:=bs h
     obtain ⟨ab,a3,h⟩:=bs h
     refine rq (Za.u 2 (Zm (ys:=[Zg false a1_,iv i1]) (h:=Zk eI64 a4)) (Za.u 0 (ZN (Zu (sz:=1) (off:=0) (cs:=[.int .i64 ac]) (r:=iv ac) eI64 a4)) (Za.u 3 (Zm (ys:=[Zg false a2_,iv aq]) (h:=Zk eI64 a3)) (Za.u 0 (ZN (Zu (sz:=1) (off:=0) (cs:=[.int .i64 ab]) (r:=iv ab) eI64 a3)) Za.f)))) (tq ?_)
     refine it h (fun am h => ?_) (fun am h => ?_)
     ·refine sq (rg Za.f ?_)
      refine tq (rt ?_)
      refine br (tr ?_)
      obtain rfl:=Zb h
      exact ⟨_,rfl,rfl,Zx kr⟩
     refine sk (bn ?_)
     refine tq (kq ?_)
     refine rg Za.f ?_
     obtain rfl:=Zb h
     exact ⟨_,rfl,(by show _=_;kernel_rfl)⟩
    refine kq (xq ?_)
    refine tx ?_
    obtain rfl:=Zb h
    exact ⟨_,rfl,rfl,(by show _=_;kernel_rfl)⟩
   rintro e s hq
   rcases aa with ax | aw
   ·dsimp only at h hq
    obtain ⟨rfl,hR⟩:=hq
    obtain rfl:=hR
    refine bx (bn ?_)
    refine tq (rg Za.f ?_)
    obtain rfl:=Zb h
    exact ⟨_,rfl,(by show _=_;kernel_rfl)⟩
   dsimp only at h hq
   obtain ⟨rfl,hq⟩:=hq
   refine br (br ?_)
   refine tr ?_
   obtain rfl:=Zb h
   exact ⟨_,rfl,rfl,hq⟩
  refine kq (xq ?_)
  refine tx ?_
  obtain rfl:=Zb h
  exact ⟨_,rfl,rfl,(by show _=_;kernel_rfl)⟩
 rintro e s hq
 rcases a9 with av | au
 ·dsimp only at h hq
  obtain ⟨rfl,hR⟩:=hq
  obtain rfl:=hR
  refine bx (tq ?_)
  refine sq ?_
  obtain ⟨ap,hj,h⟩:=bs h
  refine rqR (fun s=>s=⟨[(6,bv ap)],[],[]⟩) ?_ ?_
  ·clear h
   obtain ⟨a8,aj,hj⟩:=bs hj
   refine (EP.u 2 (ZaK (hc:=Zdp N a0_ a1_ a8 aj)) ?_)
   obtain ⟨a7,ai,hj⟩:=bs hj
   refine (EP.v 2 (Zw (hc:=Zdp N a0_ a2_ a7 ai)) ?_)
   obtain ⟨a0,ag,hj⟩:=bs hj
   refine (EP.v 0 (Zw (hc:=Zgz N a8 a7 a0 ag)) ?_)
   rcases Zz hj with ⟨al,hj⟩ | ⟨ak,hj⟩
   ·refine (EP.u 0 (Zi (c:=(!a0)) (h:=al)) ?_)
    obtain ⟨a6,af,hj⟩:=bs hj
    refine (EP.u 3 (ZaK (hc:=Zdp N a0_ a2_ a6 af)) ?_)
    obtain ⟨a5,ae,hj⟩:=bs hj
    refine (EP.u 2 (ZaK (hc:=Zdp N a0_ a1_ a5 ae)) ?_)
    obtain ⟨ao,ad,hj⟩:=bs hj
    obtain rfl:=Zb hj
    exact (EP.u 0 (ZaK (hc:=Zgz N a6 a5 ao ad)) (EP.f (by show _=_;kernel_rfl)))
   obtain rfl:=Zb hj
   exact (EP.u 0 (Zi (c:=(!a0)) (h:=ak)) (EP.f (by show _=_;kernel_rfl)))
  clear hj
  rintro s hR
  obtain rfl:=hR
  refine tq (rt ?_)
  obtain rfl:=Zb h
  exact Zx kr
 dsimp only at h hq
 obtain ⟨rfl,hq⟩:=hq
 refine br (tr ?_)
 obtain rfl:=Zb h
 exact hq
theorem Zlo (N:Nat) (a0_:Zh) (a1_:Zj) (r:Bool) (h:Ze7 N a0_ a1_=some r):Zac Tryz.prog 43 [.agg (Zc a0_),.agg (Zf a1_)] (bv r):=by
 unfold Ze7 at h
 have hH:HP ([]:List HO) []:=trivial
 refine ZD chk43 rfl rfl (Zt _ _ _ ?_) rfl
 refine sq (rg Za.f ?_)
 refine tq (sq ?_)
 refine sq ?_
 obtain ⟨c4,hj,h⟩:=bs h
 refine rgR (fun s=>s=⟨[(2,.loc 2 0),(3,.loc 3 0),(43,bv c4)],[(2,(Zc a0_)),(3,(Zf a1_))],[]⟩) ?_ ?_
 ·clear h
  obtain ⟨r1,hr1,hj⟩:=bs hj
  refine (EP.v 2 (Zw (hc:=ZcY N a1_.Id 1 4095 r1 hr1)) ?_)
  rcases Zz hj with ⟨hc2,hj⟩ | ⟨hc3,hj⟩
  ·obtain rfl:=Zb hj
   exact (EP.u 0 (Zi (c:=(!r1)) (h:=hc2)) (EP.f (by show _=_;kernel_rfl)))
  refine (EP.u 0 (Zi (c:=(!r1)) (h:=hc3)) ?_)
  obtain ⟨r4,hr4,hj⟩:=bs hj
  refine (EP.v 4 (Zw (hc:=Zgy N a0_ a1_.Talker r4 hr4)) ?_)
  rcases Zz hj with ⟨hc5,hj⟩ | ⟨hc6,hj⟩
  ·obtain rfl:=Zb hj
   exact (EP.u 0 (Zi (c:=(!r4)) (h:=hc5)) (EP.f (by show _=_;kernel_rfl)))
  refine (EP.u 0 (Zi (c:=(!r4)) (h:=hc6)) ?_)
  obtain ⟨r7,hr7,hj⟩:=bs hj
  refine (EP.v 5 (Zw (hc:=Zgy N a0_ a1_.Listener r7 hr7)) ?_)
  rcases Zz hj with ⟨hc8,hj⟩ | ⟨hc9,hj⟩
  ·obtain rfl:=Zb hj
   exact (EP.u 0 (Zi (c:=(!r7)) (h:=hc8)) (EP.f (by show _=_;kernel_rfl)))
  refine (EP.u 0 (Zi (c:=(!r7)) (h:=hc9)) ?_)
  rcases Zz hj with ⟨bX,hj⟩ | ⟨bW,hj⟩
  ·obtain rfl:=Zb hj
   exact (EP.u 6 (Zi (c:=(a1_.Talker==a1_.Listener)) (h:=bX)) (EP.f (by show _=_;kernel_rfl)))
  refine (EP.u 6 (Zi (c:=(a1_.Talker==a1_.Listener)) (h:=bW)) ?_)
  obtain ⟨bC,bK,hj⟩:=bs hj
  refine (EP.v 4 (Zw (hc:=ZcY N a1_.Size 84 1542 bC bK)) ?_)
  rcases Zz hj with ⟨bV,hj⟩ | ⟨bU,hj⟩
  ·obtain rfl:=Zb hj
   exact (EP.u 0 (Zi (c:=(!bC)) (h:=bV)) (EP.f (by show _=_;kernel_rfl)))
  refine (EP.u 0 (Zi (c:=(!bC)) (h:=bU)) ?_)
  obtain ⟨c0,bJ,hj⟩:=bs hj
  obtain rfl:=Zb hj
  exact (EP.v 4 (Zw (hc:=ZcY N a1_.Deadline 1 1099511627776 c0 bJ)) (EP.f (by show _=_;kernel_rfl)))
 clear hj
 rintro s hR
 obtain rfl:=hR
 refine tq (it h (fun bT h => ?_) (fun bT h => ?_))
 ·refine sq (rg Za.f ?_)
  refine tq (rt ?_)
  refine tr ?_
  obtain rfl:=Zb h
  exact Zx kr
 refine sk (tq ?_)
 refine kq (sq ?_)
 refine sq (rg Za.f ?_)
 refine tq (bk ?_)
 refine sq (rg Za.f ?_)
 refine tq (it h (fun bS h => ?_) (fun bS h => ?_))
 ·refine sq ?_
  obtain ⟨c3,hj,h⟩:=bs h
  refine rgR (fun s=>s=⟨[(2,.loc 2 0),(3,.loc 3 0),(57,bv c3)],[(2,(Zc a0_)),(3,(Zf a1_))],[]⟩) ?_ ?_
  ·clear h
   obtain ⟨bB,bI,hj⟩:=bs hj
   refine (EP.v 2 (Zw (hc:=ZcY N a1_.Period 1 240 bB bI)) ?_)
   rcases Zz hj with ⟨bR,hj⟩ | ⟨bQ,hj⟩
   ·obtain rfl:=Zb hj
    exact (EP.u 0 (Zi (c:=(!bB)) (h:=bR)) (EP.f (by show _=_;kernel_rfl)))
   obtain rfl:=Zb hj
   exact (EP.u 0 (Zi (c:=(!bB)) (h:=bQ)) (EP.f (by show _=_;kernel_rfl)))
  clear hj
  rintro s hR
  obtain rfl:=hR
  refine tq (it h (fun bM h => ?_) (fun bM h => ?_))
  ·refine sq (rg Za.f ?_)
   refine tq (rt ?_)
   refine br (tr ?_)
   obtain rfl:=Zb h
   exact Zx kr
  refine sk (bn ?_)
  refine tq (kq ?_)
  refine sq (sq ?_)
  refine rgX ⟨[(2,.loc 2 0),(3,.loc 3 0),(88,bv ((decide (((List.length a1_.Routes:Nat):Int)<1))||(decide (((List.length a1_.Routes:Nat):Int) > 2))))],[(2,(Zc a0_)),(3,(Zf a1_))],[]⟩ ?_ ?_
  ·refine (EP.u 2 (Zm (ys:=[Zn false a1_.Routes]) (h:=Zr (eSl 1 eI64))) ?_)
   rcases Bool.eq_false_or_eq_true (decide (((List.length a1_.Routes:Nat):Int)<1)) with bu | bt
   ·exact (EP.u 0 (Zi (c:=(decide (((List.length a1_.Routes:Nat):Int)<1))) (h:=bu)) (EP.f (by simp only [bu];kernel_rfl)))
   exact (EP.u 0 (Zi (c:=(decide (((List.length a1_.Routes:Nat):Int)<1))) (h:=bt)) (EP.u 3 (Zm (ys:=[Zn false a1_.Routes]) (h:=Zr (eSl 1 eI64))) (EP.f (by simp only [bt];kernel_rfl))))
  refine tq (it h (fun bL h => ?_) (fun bL h => ?_))
  ·refine sq (rg Za.f ?_)
   refine tq (rt ?_)
   refine tr ?_
   obtain rfl:=Zb h
   exact Zx kr
  refine sk (tq ?_)
  refine kq (sq ?_)
  refine sq (rg Za.f ?_)
  refine tq (bk ?_)
  obtain ⟨aR,af,h⟩:=bs h
  refine ZS ((ZL (fun (x:Int) s=>s=⟨[(2,.loc 2 0),(3,.loc 3 0),(5,iv x)],[(2,(Zc a0_)),(3,(Zf a1_))],[]⟩) (fun x:Int=>ZbF N a0_ a1_ x) (fun (p:(Unit) ⊕ (Bool)) e s=>match p with | (.inl p)=>e = .exit 1∧(s=⟨[(2,.loc 2 0),(3,.loc 3 0)],[(2,(Zc a0_)),(3,(Zf a1_))],[]⟩) | (.inr p)=>e = .ret∧∃ xs,resL s i43.res=some xs∧ZaW xs=bv p) ?_ N _ aR _ af (by show _=_;kernel_rfl)).mono ?_)
  ·clear h af
   rintro i27 o s h hR
   obtain rfl:=hR
   replace h:ZbF N a0_ a1_ i27=some o:=h
   unfold ZbF at h
   refine sq (sq ?_)
   refine rg (Za.u 3 (Zm (ys:=[Zn false a1_.Routes]) (h:=Zr (eSl 1 eI64))) Za.f) (tq ?_)
   refine it h (fun bq h => ?_) (fun bq h => ?_)
   ·refine sk (tq ?_)
    refine kq (sq ?_)
    refine bk (sq ?_)
    obtain ⟨a1,al,h⟩:=bs h
    refine rg (Za.u 3 (Zm (ys:=[Zn false a1_.Routes,iv i27]) (h:=Zk (eSl 1 eI64) al)) (Za.u 0 (Zu (sz:=1) (off:=0) (cs:=[.sl 1 false (List.map eI64 a1)]) (r:=Zg false a1) (eSl 1 eI64) al) Za.f)) (tq ?_)
    refine sq ?_
    obtain ⟨bG,hj,h⟩:=bs h
    refine rqR (fun s=>s=⟨[(2,.loc 2 0),(3,.loc 3 0),(5,iv i27),(127,bv bG)],[(2,(Zc a0_)),(3,(Zf a1_))],[]⟩) ?_ ?_
    ·clear h
     obtain ⟨aq,aZ,hj⟩:=bs hj
     refine (EP.v 2 (Zw (hc:=Zej N a0_ a1 aq aZ)) ?_)
     rcases Zz hj with ⟨bp,hj⟩ | ⟨bm,hj⟩
     ·obtain rfl:=Zb hj
      exact (EP.u 0 (Zi (c:=(!aq)) (h:=bp)) (EP.f (by show _=_;kernel_rfl)))
     refine (EP.u 0 (Zi (c:=(!aq)) (h:=bm)) ?_)
     obtain ⟨aL,ak,hj⟩:=bs hj
     refine (EP.u 3 (Zm (ys:=[Zg false a1,iv 0]) (h:=Zk eI64 ak)) (EP.u 0 (ZN (Zu (sz:=1) (off:=0) (cs:=[.int .i64 aL]) (r:=iv aL) eI64 ak)) ?_))
     obtain ⟨ap,aY,hj⟩:=bs hj
     refine (EP.u 0 (ZaK (hc:=Zcv N a0_ aL ap aY)) ?_)
     rcases Zz hj with ⟨bl,hj⟩ | ⟨bj,hj⟩
     ·obtain rfl:=Zb hj
      exact (EP.u 2 (Zi (c:=(ap != a1_.Talker)) (h:=bl)) (EP.f (by show _=_;kernel_rfl)))
     refine (EP.u 2 (Zi (c:=(ap != a1_.Talker)) (h:=bj)) (EP.u 5 (Zm (ys:=[Zg false a1]) (h:=Zr eI64)) ?_))
     obtain ⟨aK,aj,hj⟩:=bs hj
     refine (EP.u 1 (Zm (ys:=[Zg false a1,iv (w64 (((List.length a1:Nat):Int) - 1))]) (h:=Zk eI64 aj)) (EP.u 0 (ZN (Zu (sz:=1) (off:=0) (cs:=[.int .i64 aK]) (r:=iv aK) eI64 aj)) ?_))
     obtain ⟨bA,aX,hj⟩:=bs hj
     obtain rfl:=Zb hj
     exact (EP.u 0 (ZaK (hc:=ZcZ N a0_ aK bA aX)) (EP.f (by show _=_;kernel_rfl)))
    clear hj
    rintro s hR
    obtain rfl:=hR
    refine tq (it h (fun bi h => ?_) (fun bi h => ?_))
    ·refine sq (rg Za.f ?_)
     refine tq (rt ?_)
     refine br (tr ?_)
     obtain rfl:=Zb h
     exact ⟨_,rfl,rfl,Zx kr⟩
    refine sk (bn ?_)
    refine tq (kq ?_)
    refine rg Za.f ?_
    obtain rfl:=Zb h
    exact ⟨_,rfl,(by show _=_;kernel_rfl)⟩
   refine kq (xq ?_)
   refine tx ?_
   obtain rfl:=Zb h
   exact ⟨_,rfl,rfl,(by show _=_;kernel_rfl)⟩
  rintro e s hq
  rcases aR with c2 | c1
  ·dsimp only at h hq
   obtain ⟨rfl,hR⟩:=hq
   obtain rfl:=hR
   refine bx (tq ?_)
   refine sq ?_
   obtain ⟨bE,hj,h⟩:=bs h
   refine rqR (fun s=>s=⟨[(4,bv bE)],[],[]⟩) ?_ ?_
   ·clear h
    refine (EP.u 2 (Zm (ys:=[Zn false a1_.Routes]) (h:=Zr (eSl 1 eI64))) ?_)
    rcases Zz hj with ⟨bf,hj⟩ | ⟨be,hj⟩
    ·obtain rfl:=Zb hj
     exact (EP.u 0 (Zi (c:=(((List.length a1_.Routes:Nat):Int)==1)) (h:=bf)) (EP.f (by show _=_;kernel_rfl)))
    refine (EP.u 0 (Zi (c:=(((List.length a1_.Routes:Nat):Int)==1)) (h:=be)) ?_)
    obtain ⟨aJ,ai,hj⟩:=bs hj
    refine (EP.u 4 (Zm (ys:=[Zn false a1_.Routes,iv 0]) (h:=Zk (eSl 1 eI64) ai)) (EP.u 0 (ZN (Zu (sz:=1) (off:=0) (cs:=[.sl 1 false (List.map eI64 aJ)]) (r:=Zg false aJ) (eSl 1 eI64) ai)) ?_))
    obtain ⟨aI,ag,hj⟩:=bs hj
    refine (EP.u 2 (Zm (ys:=[Zn false a1_.Routes,iv 1]) (h:=Zk (eSl 1 eI64) ag)) (EP.u 0 (ZN (Zu (sz:=1) (off:=0) (cs:=[.sl 1 false (List.map eI64 aI)]) (r:=Zg false aI) (eSl 1 eI64) ag)) ?_))
    obtain ⟨bz,aW,hj⟩:=bs hj
    obtain rfl:=Zb hj
    exact (EP.u 0 (ZaK (hc:=ZfG N a0_ aJ aI bz aW)) (EP.f (by show _=_;kernel_rfl)))
   clear hj
   rintro s hR
   obtain rfl:=hR
   refine tq (rt ?_)
   obtain rfl:=Zb h
   exact Zx kr
  dsimp only at h hq
  obtain ⟨rfl,hq⟩:=hq
  refine br (tr ?_)
  obtain rfl:=Zb h
  exact hq
 refine sq (rg Za.f ?_)
 refine tq (it h (fun bd h => ?_) (fun bd h => ?_))
 ·refine sq ?_
  obtain ⟨bD,hj,h⟩:=bs h
  refine rgR (fun s=>s=⟨[(2,.loc 2 0),(3,.loc 3 0),(78,bv bD)],[(2,(Zc a0_)),(3,(Zf a1_))],[]⟩) ?_ ?_
  ·clear h
   rcases Zz hj with ⟨bc,hj⟩ | ⟨bb,hj⟩
   ·obtain rfl:=Zb hj
    exact (EP.u 2 (Zi (c:=(a1_.Period != 0)) (h:=bc)) (EP.f (by show _=_;kernel_rfl)))
   refine (EP.u 2 (Zi (c:=(a1_.Period != 0)) (h:=bb)) ?_)
   obtain ⟨ao,aV,hj⟩:=bs hj
   refine (EP.v 6 (Zw (hc:=ZcY N a1_.Bucket.Burst a1_.Size 1048576 ao aV)) ?_)
   rcases Zz hj with ⟨ba,hj⟩ | ⟨b2,hj⟩
   ·obtain rfl:=Zb hj
    exact (EP.u 0 (Zi (c:=(!ao)) (h:=ba)) (EP.f (by show _=_;kernel_rfl)))
   refine (EP.u 0 (Zi (c:=(!ao)) (h:=b2)) ?_)
   obtain ⟨bw,aU,hj⟩:=bs hj
   obtain rfl:=Zb hj
   exact (EP.v 5 (Zw (hc:=ZcY N a1_.Bucket.Rate 1 2097152 bw aU)) (EP.f (by show _=_;kernel_rfl)))
  clear hj
  rintro s hR
  obtain rfl:=hR
  refine tq (it h (fun b1 h => ?_) (fun b1 h => ?_))
  ·refine sq (rg Za.f ?_)
   refine tq (rt ?_)
   refine br (tr ?_)
   obtain rfl:=Zb h
   exact Zx kr
  refine sk (bn ?_)
  refine tq (kq ?_)
  refine sq (sq ?_)
  refine rgX ⟨[(2,.loc 2 0),(3,.loc 3 0),(88,bv ((decide (((List.length a1_.Routes:Nat):Int)<1))||(decide (((List.length a1_.Routes:Nat):Int) > 2))))],[(2,(Zc a0_)),(3,(Zf a1_))],[]⟩ ?_ ?_
  ·refine (EP.u 2 (Zm (ys:=[Zn false a1_.Routes]) (h:=Zr (eSl 1 eI64))) ?_)
   rcases Bool.eq_false_or_eq_true (decide (((List.length a1_.Routes:Nat):Int)<1)) with an | am
   ·exact (EP.u 0 (Zi (c:=(decide (((List.length a1_.Routes:Nat):Int)<1))) (h:=an)) (EP.f (by simp only [an];kernel_rfl)))
   exact (EP.u 0 (Zi (c:=(decide (((List.length a1_.Routes:Nat):Int)<1))) (h:=am)) (EP.u 3 (Zm (ys:=[Zn false a1_.Routes]) (h:=Zr (eSl 1 eI64))) (EP.f (by simp only [am];kernel_rfl))))
  refine tq (it h (fun b0 h => ?_) (fun b0 h => ?_))
  ·refine sq (rg Za.f ?_)
   refine tq (rt ?_)
   refine tr ?_
   obtain rfl:=Zb h
   exact Zx kr
  refine sk (tq ?_)
  refine kq (sq ?_)
  refine sq (rg Za.f ?_)
  refine tq (bk ?_)
  obtain ⟨ae,a4,h⟩:=bs h
  refine ZS ((ZL (fun (x:Int) s=>s=⟨[(2,.loc 2 0),(3,.loc 3 0),(5,iv x)],[(2,(Zc a0_)),(3,(Zf a1_))],[]⟩) (fun x:Int=>Zdo N a0_ a1_ x) (fun (p:(Unit) ⊕ (Bool)) e s=>match p with | (.inl p)=>e = .exit 1∧(s=⟨[(2,.loc 2 0),(3,.loc 3 0)],[(2,(Zc a0_)),(3,(Zf a1_))],[]⟩) | (.inr p)=>e = .ret∧∃ xs,resL s i43.res=some xs∧ZaW xs=bv p) ?_ N _ ae _ a4 (by show _=_;kernel_rfl)).mono ?_)
  ·clear h a4
   rintro ar o s h hR
   obtain rfl:=hR
   replace h:Zdo N a0_ a1_ ar=some o:=h
   unfold Zdo at h
   refine sq (sq ?_)
   refine rg (Za.u 3 (Zm (ys:=[Zn false a1_.Routes]) (h:=Zr (eSl 1 eI64))) Za.f) (tq ?_)
   refine it h (fun aG h => ?_) (fun aG h => ?_)
   ·refine sk (tq ?_)
    refine kq (sq ?_)
    refine bk (sq ?_)
    obtain ⟨a0,a9,h⟩:=bs h
    refine rg (Za.u 3 (Zm (ys:=[Zn false a1_.Routes,iv ar]) (h:=Zk (eSl 1 eI64) a9)) (Za.u 0 (Zu (sz:=1) (off:=0) (cs:=[.sl 1 false (List.map eI64 a0)]) (r:=Zg false a0) (eSl 1 eI64) a9) Za.f)) (tq ?_)
    refine sq ?_
    obtain ⟨aT,hj,h⟩:=bs h
    refine rqR (fun s=>s=⟨[(2,.loc 2 0),(3,.loc 3 0),(5,iv ar),(127,bv aT)],[(2,(Zc a0_)),(3,(Zf a1_))],[]⟩) ?_ ?_
    ·clear h
     obtain ⟨a3,ax,hj⟩:=bs hj
     refine (EP.v 2 (Zw (hc:=Zej N a0_ a0 a3 ax)) ?_)
     rcases Zz hj with ⟨aE,hj⟩ | ⟨aD,hj⟩
     ·obtain rfl:=Zb hj
      exact (EP.u 0 (Zi (c:=(!a3)) (h:=aE)) (EP.f (by show _=_;kernel_rfl)))
     refine (EP.u 0 (Zi (c:=(!a3)) (h:=aD)) ?_)
     obtain ⟨ad,a8,hj⟩:=bs hj
     refine (EP.u 3 (Zm (ys:=[Zg false a0,iv 0]) (h:=Zk eI64 a8)) (EP.u 0 (ZN (Zu (sz:=1) (off:=0) (cs:=[.int .i64 ad]) (r:=iv ad) eI64 a8)) ?_))
     obtain ⟨a2,aw,hj⟩:=bs hj
     refine (EP.u 0 (ZaK (hc:=Zcv N a0_ ad a2 aw)) ?_)
     rcases Zz hj with ⟨aC,hj⟩ | ⟨aB,hj⟩
     ·obtain rfl:=Zb hj
      exact (EP.u 2 (Zi (c:=(a2 != a1_.Talker)) (h:=aC)) (EP.f (by show _=_;kernel_rfl)))
     refine (EP.u 2 (Zi (c:=(a2 != a1_.Talker)) (h:=aB)) (EP.u 5 (Zm (ys:=[Zg false a0]) (h:=Zr eI64)) ?_))
     obtain ⟨ac,a7,hj⟩:=bs hj
     refine (EP.u 1 (Zm (ys:=[Zg false a0,iv (w64 (((List.length a0:Nat):Int) - 1))]) (h:=Zk eI64 a7)) (EP.u 0 (ZN (Zu (sz:=1) (off:=0) (cs:=[.int .i64 ac]) (r:=iv ac) eI64 a7)) ?_))
     obtain ⟨aQ,av,hj⟩:=bs hj
     obtain rfl:=Zb hj
     exact (EP.u 0 (ZaK (hc:=ZcZ N a0_ ac aQ av)) (EP.f (by show _=_;kernel_rfl)))
    clear hj
    rintro s hR
    obtain rfl:=hR
    refine tq (it h (fun aA h => ?_) (fun aA h => ?_))
    ·refine sq (rg Za.f ?_)
     refine tq (rt ?_)
     refine br (tr ?_)
     obtain rfl:=Zb h
     exact ⟨_,rfl,rfl,Zx kr⟩
    refine sk (bn ?_)
    refine tq (kq ?_)
    refine rg Za.f ?_
    obtain rfl:=Zb h
    exact ⟨_,rfl,(by show _=_;kernel_rfl)⟩
   refine kq (xq ?_)
   refine tx ?_
   obtain rfl:=Zb h
   exact ⟨_,rfl,rfl,(by show _=_;kernel_rfl)⟩
  rintro e s hq
  rcases ae with bZ | bY
  ·dsimp only at h hq
   obtain ⟨rfl,hR⟩:=hq
   obtain rfl:=hR
   refine bx (tq ?_)
   refine sq ?_
   obtain ⟨aS,hj,h⟩:=bs h
   refine rqR (fun s=>s=⟨[(4,bv aS)],[],[]⟩) ?_ ?_
   ·clear h
    refine (EP.u 2 (Zm (ys:=[Zn false a1_.Routes]) (h:=Zr (eSl 1 eI64))) ?_)
    rcases Zz hj with ⟨az,hj⟩ | ⟨ay,hj⟩
    ·obtain rfl:=Zb hj
     exact (EP.u 0 (Zi (c:=(((List.length a1_.Routes:Nat):Int)==1)) (h:=az)) (EP.f (by show _=_;kernel_rfl)))
    refine (EP.u 0 (Zi (c:=(((List.length a1_.Routes:Nat):Int)==1)) (h:=ay)) ?_)
    obtain ⟨ab,a6,hj⟩:=bs hj
    refine (EP.u 4 (Zm (ys:=[Zn false a1_.Routes,iv 0]) (h:=Zk (eSl 1 eI64) a6)) (EP.u 0 (ZN (Zu (sz:=1) (off:=0) (cs:=[.sl 1 false (List.map eI64 ab)]) (r:=Zg false ab) (eSl 1 eI64) a6)) ?_))
    obtain ⟨aa,a5,hj⟩:=bs hj
    refine (EP.u 2 (Zm (ys:=[Zn false a1_.Routes,iv 1]) (h:=Zk (eSl 1 eI64) a5)) (EP.u 0 (ZN (Zu (sz:=1) (off:=0) (cs:=[.sl 1 false (List.map eI64 aa)]) (r:=Zg false aa) (eSl 1 eI64) a5)) ?_))
    obtain ⟨aM,au,hj⟩:=bs hj
    obtain rfl:=Zb hj
    exact (EP.u 0 (ZaK (hc:=ZfG N a0_ ab aa aM au)) (EP.f (by show _=_;kernel_rfl)))
   clear hj
   rintro s hR
   obtain rfl:=hR
   refine tq (rt ?_)
   obtain rfl:=Zb h
   exact Zx kr
  dsimp only at h hq
  obtain ⟨rfl,hq⟩:=hq
  refine br (tr ?_)
  obtain rfl:=Zb h
  exact hq
 refine sq (rg Za.f ?_)
 refine tq (rt ?_)
 refine br (tr ?_)
 obtain rfl:=Zb h
 exact Zx kr
theorem ZjE (N:Nat) (a0_:(List ZF)) (r:Int × Int) (h:ZdN N a0_=some r):Zac Tryz.prog 57 [Zat false a0_] (.tup [iv r.1,iv r.2]):=by
 unfold ZdN at h
 have hH:HP ([]:List HO) []:=trivial
 refine ZD chk57 rfl rfl (Zt _ _ _ ?_) rfl
 refine sq (rg Za.f ?_)
 refine tq (sq ?_)
 refine sq ?_
 obtain ⟨r1,hr1,h⟩:=bs h
 refine rg (Za.v 1 (Zw (hc:=ZhS N a0_ r1 hr1)) Za.f) (tq ?_)
 refine sq (rg Za.f ?_)
 refine tq (it h (fun hc2 h => ?_) (fun hc2 h => ?_))
 ·refine sq (rg Za.f ?_)
  refine tq (rt ?_)
  refine tr ?_
  obtain rfl:=Zb h
  exact Zx kr
 refine sk (tq ?_)
 refine kq (sq ?_)
 obtain ⟨l5,hl5,h⟩:=bs h
 obtain ⟨a3,H4,ha3,hH4,ha3b,hH⟩:=HP.make eI64 hH hl5
 replace hH:HP _ [.arr a3 1 false (List.map eI64 l5)]:=hH
 have hfa3:=ZW (HP.get hH 0 rfl)
 refine rgS ⟨[(0,Zat false a0_),(5,a3)],[],H4⟩ (Za.u 1 (Zm (ys:=[Zat false a0_]) (h:=Zr Zax)) (Za.h 0 (Zkf (H:=[]) (zero:=[.int .i64 0]) (bytes:=8) kr kr kr ha3 hH4 ha3b) Za.f)) (by cases hfa3<;>kernel_rfl) ?_
 refine tq (sq ?_)
 refine sq (rgS ⟨[(5,a3),(17,Zat false a0_),(18,iv ((List.length a0_:Nat):Int)),(19,iv 0)],[],H4⟩ (Za.u 1 (Zm (ys:=[Zat false a0_]) (h:=Zr Zax)) Za.f) (by cases hfa3<;>kernel_rfl) ?_)
 refine tq (bk ?_)
 obtain ⟨a4,ab,h⟩:=bs h
 refine ZS ((ZL (fun (x:Int × (List Int)) s=>∃ (a6:AV) (H7:List HO),s=⟨[(5,a6),(17,Zat false a0_),(18,iv ((List.length a0_:Nat):Int)),(19,iv x.1)],[],H7⟩∧HP H7 [.arr a6 1 false (List.map eI64 x.2)]) (fun x:Int × (List Int)=>Zbu N a0_ x.1 x.2) (fun (p:(List Int)) e s=>e = .exit 0∧(∃ (a1:AV) (aa:List HO),s=⟨[(5,a1)],[],aa⟩∧HP aa [.arr a1 1 false (List.map eI64 p)])) ?_ N _ a4 _ ab ⟨a3,H4,(by show _=_;cases hfa3<;>kernel_rfl),(HP.pick hH [0] rfl)⟩).mono ?_)
 ·clear h ab
  rintro ⟨i8,l9⟩ o s h hR
  obtain ⟨a6,H7,rfl,hH⟩:=hR
  replace hH:HP _ [.arr a6 1 false (List.map eI64 l9)]:=hH
  have hfa6:=ZW (HP.get hH 0 rfl)
  replace h:Zbu N a0_ i8 l9=some o:=h
  unfold Zbu at h
  refine sq (rgS ⟨[(5,a6),(17,Zat false a0_),(18,iv ((List.length a0_:Nat):Int)),(19,iv i8),(20,bv (decide (i8<((List.length a0_:Nat):Int))))],[],H7⟩ Za.f (by cases hfa6<;>kernel_rfl) ?_)
  refine tq (sq ?_)
  refine it h (fun ak h => ?_) (fun ak h => ?_)
  ·refine sk (tq ?_)
   refine kq (sq ?_)
   refine bk (sq ?_)
   obtain ⟨a0,ad,h⟩:=bs h
   refine rgS ⟨[(5,a6),(6,iv i8),(7,.loc 7 0),(17,Zat false a0_),(18,iv ((List.length a0_:Nat):Int)),(19,iv i8)],[(7,(Zcl a0))],H7⟩ (Za.u 1 (Zm (ys:=[Zat false a0_,iv i8]) (h:=Zk Zax ad)) (Za.u 0 (Zu (sz:=3) (off:=0) (cs:=[.int .i64 a0.Period,.int .i64 a0.From,.int .i64 a0.Long]) (r:=.agg (Zcl a0)) Zax ad) (Za.f (h:=(by cases hfa6<;>kernel_rfl))))) (by cases hfa6<;>kernel_rfl) ?_
   refine tq ?_
   obtain ⟨aq,ac,h⟩:=bs h
   obtain ⟨ap,am,_,a8,ae,a9,a7⟩:=HP.elem (k:=0) (a:=a6) (sz:=1) (frz:=false) eI64 hH rfl ac
   obtain ⟨af,al,hH⟩:=HP.setRow (k:=0) (off:=0) (cs:=[iv a0.Period]) (ps:=[.int .i64 a0.Period]) (e':=a0.Period) eI64 hH rfl a9 ae (a8 rfl) ac kr kr
   replace hH:HP _ [.arr a6 1 false (List.map eI64 (List.set l9 (Int.toNat i8) a0.Period))]:=hH
   refine rgS ⟨[(5,a6),(17,Zat false a0_),(18,iv ((List.length a0_:Nat):Int)),(19,iv i8)],[],af⟩ (Za.u 4 (Zm (ys:=[a6,iv i8]) (by cases hfa6<;>kernel_rfl) (a7 .i64)) (Za.o 0 (Zaw (H:=H7) (v:=iv a0.Period) (hw:=al)) Za.f)) (by cases hfa6<;>kernel_rfl) ?_
   refine bn (tq ?_)
   refine rgS ⟨[(5,a6),(17,Zat false a0_),(18,iv ((List.length a0_:Nat):Int)),(19,iv (w64 (i8+1)))],[],af⟩ Za.f (by cases hfa6<;>kernel_rfl) ?_
   obtain rfl:=Zb h
   exact ⟨_,rfl,⟨a6,af,(by show _=_;cases hfa6<;>kernel_rfl),(HP.pick hH [0] rfl)⟩⟩
  refine kq (xq ?_)
  refine tx ?_
  obtain rfl:=Zb h
  exact ⟨_,rfl,rfl,⟨a6,H7,(by show _=_;cases hfa6<;>kernel_rfl),(HP.pick hH [0] rfl)⟩⟩
 rintro e s hq
 obtain ⟨rfl,hR⟩:=hq
 obtain ⟨a1,aa,rfl,hH⟩:=hR
 replace hH:HP _ [.arr a1 1 false (List.map eI64 a4)]:=hH
 have a2:=ZW (HP.get hH 0 rfl)
 refine bx (tq ?_)
 refine sq ?_
 obtain ⟨ag,ai,h⟩:=bs h
 obtain ⟨ao,an,a5,hH⟩:=HP.frz (k:=0) (a:=a1) (sz:=1) (frz:=false) eI64 hH rfl
 replace hH:HP _ [.arr a1 1 true (List.map eI64 a4)]:=hH
 refine rgS ⟨[(8,iv ag)],[],ao⟩ (Za.v 1 (Zic (H:=aa) (ys:=[iv 960,a1]) (by cases a2<;>kernel_rfl) (by cases a2<;>kernel_rfl) (Zew rfl (Zew a5 Zis)) (Zkq N 960 a4 ag ai)) Za.f) kr ?_
 replace hH:HP _ []:=HP.pick hH [] rfl
 refine tq (sq ?_)
 refine sq (rg Za.f ?_)
 refine tq (it h (fun aj h => ?_) (fun aj h => ?_))
 ·refine sq (rg Za.f ?_)
  refine tq (rt ?_)
  refine tr ?_
  obtain rfl:=Zb h
  exact Zx kr
 refine sk (tq ?_)
 refine kq (sq ?_)
 refine rg Za.f (tq ?_)
 refine rt ?_
 obtain rfl:=Zb h
 exact Zx kr
theorem Zmc (N:Nat) (a0_:Zh) (r:Bool) (h:ZfM N a0_=some r):Zac Tryz.prog 65 [.agg (Zc a0_)] (bv r):=by
 unfold ZfM at h
 have hH:HP ([]:List HO) []:=trivial
 refine ZD chk65 rfl rfl (Zt _ _ _ ?_) rfl
 refine sq ?_
 obtain ⟨id1,H2,hid1,hH2,hH⟩:=HP.newCell hH (Zc a0_)
 replace hH:HP _ [.cel id1 (Zc a0_)]:=hH
 refine rg (Za.h 0 (Zb6 (H:=[]) (v:=.agg (Zc a0_)) (hid:=hid1) (hH:=hH2)) Za.f) (tq ?_)
 refine sq (rg Za.f ?_)
 refine tq (sq ?_)
 refine sq ?_
 have hlc3:=HP.get hH 0 rfl
 refine rg (Za.u 1 (Zv (H:=H2) (id:=id1) (off:=2) (cs:=(Zc a0_)) (c:=[Ze false a0_.Links]) (r:=Ze false a0_.Links) (hl:=hlc3)) (Za.u 0 (Zm (ys:=[Ze false a0_.Links]) (h:=Zr Zp)) Za.f)) (tq ?_)
 refine bk ?_
 obtain ⟨a5,a0,h⟩:=bs h
 refine ZS ((ZL (fun (x:Int) s=>s=⟨[(3,.loc 3 0),(14,iv ((List.length a0_.Links:Nat):Int)),(15,iv x)],[(3,[.fn 87 [] [.ptr id1 0],.fn 89 [] [.ptr id1 0],.fn 90 [] [.ptr id1 0],.fn 91 [] [.ptr id1 0]])],H2⟩) (fun x:Int=>Zcq N a0_ x) (fun (p:(Unit) ⊕ (Bool)) e s=>match p with | (.inl p)=>e = .exit 0∧(s=⟨[],[],H2⟩) | (.inr p)=>e = .ret∧∃ xs,resL s i65.res=some xs∧ZaW xs=bv p) ?_ N _ a5 _ a0 (by show _=_;kernel_rfl)).mono ?_)
 ·clear h a0
  rintro i4 o s h hR
  obtain rfl:=hR
  replace h:Zcq N a0_ i4=some o:=h
  unfold Zcq at h
  refine sq (rg Za.f ?_)
  refine tq (sq ?_)
  refine it h (fun ae h => ?_) (fun ae h => ?_)
  ·refine sk (tq ?_)
   refine kq (sq ?_)
   refine bk (sq ?_)
   refine rg Za.f (tq ?_)
   refine sq (rg Za.f ?_)
   refine tq (bk ?_)
   refine ZmZ 18 ?_
   refine ZcN ?_
   refine sq (rg Za.f ?_)
   refine tq (sq ?_)
   refine Zd1 kr ?_
   refine sk (tq ?_)
   refine kq (sq ?_)
   refine bk (sq ?_)
   refine rg Za.f (tq ?_)
   refine sq ?_
   obtain ⟨aj,a9,h⟩:=bs h
   have a4:=(Zj6 N i4 a0_ id1 H2 (HP.now (HP.pick hH [0] rfl)) aj a9)
   refine rg (Za.v 2 (ZcO (H:=H2) (fv:=.fn 87 [] [.ptr id1 0]) (ys:=[iv i4]) (hc:=Zgs.of kr a4)) Za.f) (tq ?_)
   refine it h (fun ad h => ?_) (fun ad h => ?_)
   ·refine sq (rg Za.f ?_)
    replace hH:HP _ []:=HP.pick hH [] rfl
    refine tq (rt ?_)
    refine br (tr ?_)
    refine tr (br ?_)
    refine br (tr ?_)
    obtain rfl:=Zb h
    exact ⟨_,rfl,rfl,Zx kr⟩
   refine sk (bn ?_)
   refine tq (kq ?_)
   refine rg Za.f (tq ?_)
   refine ZcN ?_
   refine sq (rg Za.f ?_)
   refine tq (sq ?_)
   refine Zd1 kr ?_
   refine sk (tq ?_)
   refine kq (sq ?_)
   refine bk (sq ?_)
   refine rg Za.f (tq ?_)
   refine sq ?_
   obtain ⟨ai,a8,h⟩:=bs h
   have a3:=(Zj5 N i4 a0_ id1 H2 (HP.now (HP.pick hH [0] rfl)) ai a8)
   refine rg (Za.v 2 (ZcO (H:=H2) (fv:=.fn 89 [] [.ptr id1 0]) (ys:=[iv i4]) (hc:=Zgs.of kr a3)) Za.f) (tq ?_)
   refine it h (fun ac h => ?_) (fun ac h => ?_)
   ·refine sq (rg Za.f ?_)
    replace hH:HP _ []:=HP.pick hH [] rfl
    refine tq (rt ?_)
    refine br (tr ?_)
    refine tr (br ?_)
    refine br (tr ?_)
    obtain rfl:=Zb h
    exact ⟨_,rfl,rfl,Zx kr⟩
   refine sk (bn ?_)
   refine tq (kq ?_)
   refine rg Za.f (tq ?_)
   refine ZcN ?_
   refine sq (rg Za.f ?_)
   refine tq (sq ?_)
   refine Zd1 kr ?_
   refine sk (tq ?_)
   refine kq (sq ?_)
   refine bk (sq ?_)
   refine rg Za.f (tq ?_)
   refine sq ?_
   obtain ⟨ag,a7,h⟩:=bs h
   have a2:=(Zj4 N i4 a0_ id1 H2 (HP.now (HP.pick hH [0] rfl)) ag a7)
   refine rg (Za.v 2 (ZcO (H:=H2) (fv:=.fn 90 [] [.ptr id1 0]) (ys:=[iv i4]) (hc:=Zgs.of kr a2)) Za.f) (tq ?_)
   refine it h (fun ab h => ?_) (fun ab h => ?_)
   ·refine sq (rg Za.f ?_)
    replace hH:HP _ []:=HP.pick hH [] rfl
    refine tq (rt ?_)
    refine br (tr ?_)
    refine tr (br ?_)
    refine br (tr ?_)
    obtain rfl:=Zb h
    exact ⟨_,rfl,rfl,Zx kr⟩
   refine sk (bn ?_)
   refine tq (kq ?_)
   refine rg Za.f (tq ?_)
   refine ZcN ?_
   refine sq (rg Za.f ?_)
   refine tq (sq ?_)
   refine Zd1 kr ?_
   refine sk (tq ?_)
   refine kq (sq ?_)
   refine bk (sq ?_)
   refine rg Za.f (tq ?_)
   refine sq ?_
   obtain ⟨af,a6,h⟩:=bs h
   have a1:=(Zj3 N i4 a0_ id1 H2 (HP.now (HP.pick hH [0] rfl)) af a6)
   refine rg (Za.v 2 (ZcO (H:=H2) (fv:=.fn 91 [] [.ptr id1 0]) (ys:=[iv i4]) (hc:=Zgs.of kr a1)) Za.f) (tq ?_)
   refine it h (fun aa h => ?_) (fun aa h => ?_)
   ·refine sq (rg Za.f ?_)
    replace hH:HP _ []:=HP.pick hH [] rfl
    refine tq (rt ?_)
    refine br (tr ?_)
    refine tr (br ?_)
    refine br (tr ?_)
    obtain rfl:=Zb h
    exact ⟨_,rfl,rfl,Zx kr⟩
   refine sk (bn ?_)
   refine tq (kq ?_)
   refine rg Za.f (tq ?_)
   refine ZcN ?_
   refine sq (rg Za.f ?_)
   refine tq (sq ?_)
   refine ZjN kr ?_
   refine kq (xq ?_)
   refine tx (tx ?_)
   refine bx (bn ?_)
   refine tq (rg Za.f ?_)
   obtain rfl:=Zb h
   exact ⟨_,rfl,(by show _=_;kernel_rfl)⟩
  refine kq ?_
  replace hH:HP _ []:=HP.pick hH [] rfl
  refine xq (tx ?_)
  obtain rfl:=Zb h
  exact ⟨_,rfl,rfl,(by show _=_;kernel_rfl)⟩
 rintro e s hq
 rcases a5 with al | ak
 ·dsimp only at h hq
  obtain ⟨rfl,hR⟩:=hq
  obtain rfl:=hR
  replace hH:HP _ []:=HP.pick hH [] rfl
  refine bx (tq ?_)
  refine sq (rg Za.f ?_)
  refine tq (rt ?_)
  obtain rfl:=Zb h
  exact Zx kr
 dsimp only at h hq
 obtain ⟨rfl,hq⟩:=hq
 refine br (tr ?_)
 obtain rfl:=Zb h
 exact hq
theorem ZiH (N:Nat) (c0_:Zj) (k0_:Nat) (H:List HO) (hH:HP H [.cel k0_ (Zf c0_)]) (r:Bool) (h:Zdn N c0_=some r):Zbe Tryz.prog 73 [.ptr k0_ 0] H (bv r) H:=by
 unfold Zdn at h
 refine Zbz chk73 rfl rfl rfl (Zt _ _ _ ?_)
 refine sq (rg Za.f ?_)
 refine tq (sq ?_)
 refine sq ?_
 have hlc1:=HP.get hH 0 rfl
 refine rg (Za.u 1 (Zv (H:=H) (id:=k0_) (off:=3) (cs:=(Zf c0_)) (c:=[iv c0_.Class]) (r:=iv c0_.Class) (hl:=hlc1)) Za.f) (tq ?_)
 refine bk (sq ?_)
 refine rg Za.f (tq ?_)
 refine it h (fun hc2 h => ?_) (fun hc2 h => ?_)
 ·refine sq ?_
  obtain ⟨j8,hj,h⟩:=bs h
  refine rgR (fun s=>s=⟨[(1,bv j8)],[],H⟩) ?_ ?_
  ·clear h
   have hlc3:=HP.get hH 0 rfl
   refine (EP.u 1 (Zv (H:=H) (id:=k0_) (off:=5) (cs:=(Zf c0_)) (c:=[iv c0_.Period]) (r:=iv c0_.Period) (hl:=hlc3)) ?_)
   obtain ⟨r4,hr4,hj⟩:=bs hj
   rcases Zz hj with ⟨hc5,hj⟩ | ⟨hc7,hj⟩
   ·refine (EP.h 0 (Za3 kr (Zab N c0_.Period 1 240 r4 hr4) hc5) ?_)
    have hlc6:=HP.get hH 0 rfl
    obtain rfl:=Zb hj
    exact (EP.u 2 (Zv (H:=H) (id:=k0_) (off:=6) (cs:=(Zf c0_)) (c:=(Zex c0_.Bucket)) (r:=.agg (Zex c0_.Bucket)) (hl:=hlc6)) (EP.f (by show _=_;kernel_rfl)))
   obtain rfl:=Zb hj
   exact (EP.h 0 (Za3 kr (Zab N c0_.Period 1 240 r4 hr4) hc7) (EP.f (by show _=_;kernel_rfl)))
  clear hj
  rintro s hR
  obtain rfl:=hR
  refine tq (rt ?_)
  refine br (tr ?_)
  obtain rfl:=Zb h
  exact Za4 kr kr
 refine sq (rg Za.f ?_)
 refine tq (it h (fun hc9 h => ?_) (fun hc9 h => ?_))
 ·refine sq ?_
  obtain ⟨aa,hj,h⟩:=bs h
  refine rgR (fun s=>s=⟨[(1,bv aa)],[],H⟩) ?_ ?_
  ·clear h
   have a3:=HP.get hH 0 rfl
   refine (EP.u 1 (Zv (H:=H) (id:=k0_) (off:=5) (cs:=(Zf c0_)) (c:=[iv c0_.Period]) (r:=iv c0_.Period) (hl:=a3)) ?_)
   rcases Zz hj with ⟨a9,hj⟩ | ⟨a6,hj⟩
   ·refine (EP.u 0 (Zi (c:=(c0_.Period==0)) (h:=a9)) ?_)
    have a2:=HP.get hH 0 rfl
    refine (EP.u 2 (Zv (H:=H) (id:=k0_) (off:=6) (cs:=(Zf c0_)) (c:=(Zex c0_.Bucket)) (r:=.agg (Zex c0_.Bucket)) (hl:=a2)) ?_)
    obtain ⟨a4,a5,hj⟩:=bs hj
    refine (EP.v 0 (Zw (hc:=Zk3 N c0_.Bucket a4 a5)) ?_)
    rcases Zz hj with ⟨a8,hj⟩ | ⟨a7,hj⟩
    ·refine (EP.u 0 (Zi (c:=(a4==0)) (h:=a8)) ?_)
     have a1:=HP.get hH 0 rfl
     refine (EP.u 4 (Zv (H:=H) (id:=k0_) (off:=6) (cs:=(Zf c0_)) (c:=[iv c0_.Bucket.Burst]) (r:=iv c0_.Bucket.Burst) (hl:=a1)) ?_)
     have a0:=HP.get hH 0 rfl
     obtain rfl:=Zb hj
     exact (EP.u 1 (Zv (H:=H) (id:=k0_) (off:=4) (cs:=(Zf c0_)) (c:=[iv c0_.Size]) (r:=iv c0_.Size) (hl:=a0)) (EP.f (by show _=_;kernel_rfl)))
    obtain rfl:=Zb hj
    exact (EP.u 0 (Zi (c:=(a4==0)) (h:=a7)) (EP.f (by show _=_;kernel_rfl)))
   obtain rfl:=Zb hj
   exact (EP.u 0 (Zi (c:=(c0_.Period==0)) (h:=a6)) (EP.f (by show _=_;kernel_rfl)))
  clear hj
  rintro s hR
  obtain rfl:=hR
  refine tq (rt ?_)
  refine br (tr ?_)
  obtain rfl:=Zb h
  exact Za4 kr kr
 refine sk (bn ?_)
 refine tq (kq ?_)
 replace hH:HP _ []:=HP.pick hH [] rfl
 refine sq (rg Za.f ?_)
 refine tq (rt ?_)
 obtain rfl:=Zb h
 exact Za4 kr kr
theorem Ze5 (N:Nat) (a0_:Z6) (a1_:(List Int)) (a2_:(List Int)) (r:Bool) (h:ZbT N a0_ a1_ a2_=some r):Zac Tryz.prog 99 [.agg (Zc a0_.Topo),Zg false a1_,Zg false a2_] (bv r):=by
 unfold ZbT at h
 have hH:HP ([]:List HO) []:=trivial
 refine ZD chk99 rfl rfl (Zt _ _ _ ?_) rfl
 refine sq (rg Za.f ?_)
 refine tq (sq ?_)
 obtain ⟨r1,hr1,h⟩:=bs h
 refine rg (Za.v 2 (Zw (hc:=ZdB N a0_ a1_ r1 hr1)) Za.f) (tq ?_)
 refine sq (rg (Za.u 1 (Zm (ys:=[Zg false r1]) (h:=Zr eI64)) Za.f) ?_)
 refine tq (sq ?_)
 obtain ⟨r2,hr2,h⟩:=bs h
 refine rg (Za.v 2 (Zw (hc:=ZdB N a0_ a2_ r2 hr2)) Za.f) (tq ?_)
 refine sq (sq ?_)
 obtain ⟨l3,hl3,h⟩:=bs h
 refine rg (Za.u 3 (Zm (ys:=[Zg false r1,iv 1,iv (w64 (((List.length r1:Nat):Int) - 1)),iv (w64 (((List.length r1:Nat):Int) - 1))]) (h:=ZmX eI64 hl3)) (Za.u 0 (Zm (ys:=[Zg true l3]) (h:=Zr eI64)) Za.f)) (tq ?_)
 refine bk ?_
 obtain ⟨a3,a0,h⟩:=bs h
 refine ZS ((ZL (fun (x:Int) s=>s=⟨[(9,Zg false r2),(24,Zg true l3),(25,iv ((List.length l3:Nat):Int)),(26,iv x)],[],[]⟩) (fun x:Int=>ZaN N r2 l3 x) (fun (p:(Unit) ⊕ (Bool)) e s=>match p with | (.inl p)=>e = .exit 0∧(s=⟨[],[],[]⟩) | (.inr p)=>e = .ret∧∃ xs,resL s i99.res=some xs∧ZaW xs=bv p) ?_ N _ a3 _ a0 (by show _=_;kernel_rfl)).mono ?_)
 ·clear h a0
  rintro i4 o s h hR
  obtain rfl:=hR
  replace h:ZaN N r2 l3 i4=some o:=h
  unfold ZaN at h
  refine sq (rg Za.f ?_)
  refine tq (sq ?_)
  refine it h (fun a6 h => ?_) (fun a6 h => ?_)
  ·refine sk (tq ?_)
   refine kq (sq ?_)
   refine bk (sq ?_)
   obtain ⟨a2,a1,h⟩:=bs h
   refine rg (Za.u 0 (Zm (ys:=[Zg true l3,iv i4]) (h:=Zk eI64 a1)) (Za.u 0 (Zu (sz:=1) (off:=0) (cs:=[.int .i64 a2]) (r:=iv a2) eI64 a1) Za.f)) (tq ?_)
   refine sq ?_
   obtain ⟨a7,a4,h⟩:=bs h
   refine rg (Za.v 2 (Zw (hc:=Ze2 N r2 a2 a7 a4)) Za.f) (tq ?_)
   refine it h (fun a5 h => ?_) (fun a5 h => ?_)
   ·refine sq (rg Za.f ?_)
    refine tq (rt ?_)
    refine br (tr ?_)
    obtain rfl:=Zb h
    exact ⟨_,rfl,rfl,Zx kr⟩
   refine sk (bn ?_)
   refine tq (kq ?_)
   refine rg Za.f ?_
   obtain rfl:=Zb h
   exact ⟨_,rfl,(by show _=_;kernel_rfl)⟩
  refine kq (xq ?_)
  refine tx ?_
  obtain rfl:=Zb h
  exact ⟨_,rfl,rfl,(by show _=_;kernel_rfl)⟩
 rintro e s hq
 rcases a3 with a9 | a8
 ·dsimp only at h hq
  obtain ⟨rfl,hR⟩:=hq
  obtain rfl:=hR
  refine bx (tq ?_)
  refine sq (rg Za.f ?_)
  refine tq (rt ?_)
  obtain rfl:=Zb h
  exact Zx kr
 dsimp only at h hq
 obtain ⟨rfl,hq⟩:=hq
 refine br (tr ?_)
 obtain rfl:=Zb h
 exact hq
theorem ZjH (N:Nat) (a0_:ZF) (a1_:ZF) (r:Bool × Int) (h:Zge N a0_ a1_=some r):Zac Tryz.prog 101 [.agg (Zcl a0_),.agg (Zcl a1_)] (.tup [bv r.1,iv r.2]):=by
 unfold Zge at h
 have hH:HP ([]:List HO) []:=trivial
 refine ZD chk101 rfl rfl (Zt _ _ _ ?_) rfl
 refine sq (rg Za.f ?_)
 refine tq (sq ?_)
 refine sq ?_
 obtain ⟨r1,hr1,h⟩:=bs h
 refine rg (Za.v 1 (Zw (hc:=ZeE N a0_ r1 hr1)) Za.f) (tq ?_)
 refine sq (rg Za.f ?_)
 refine tq (it h (fun hc2 h => ?_) (fun hc2 h => ?_))
 ·refine sq (rg Za.f ?_)
  refine tq (rt ?_)
  refine tr ?_
  obtain rfl:=Zb h
  exact Zx kr
 refine sk (tq ?_)
 refine kq (sq ?_)
 refine sq ?_
 obtain ⟨r3,hr3,h⟩:=bs h
 refine rg (Za.v 1 (Zw (hc:=ZeE N a1_ r3 hr3)) Za.f) (tq ?_)
 refine sq (rg Za.f ?_)
 refine tq (it h (fun hc4 h => ?_) (fun hc4 h => ?_))
 ·refine sq (rg Za.f ?_)
  refine tq (rt ?_)
  refine tr ?_
  obtain rfl:=Zb h
  exact Zx kr
 refine sk (tq ?_)
 refine kq (sq ?_)
 obtain ⟨r5,hr5,h⟩:=bs h
 refine rg (Za.v 2 (Zw (hc:=ZjD N a0_ a1_ r5 hr5)) Za.f) (tq ?_)
 refine rt ?_
 obtain rfl:=Zb h
 exact Zx kr
theorem ZhX (N:Nat) (a0_:Zae) (r:Zh) (h:ZbW N a0_=some r):Zac Tryz.prog 5 [.agg (ZA a0_)] (.agg [iv r.Nodes,s_eB false r.Station,Ze false r.Links]):=by
 unfold ZbW at h
 have hH:HP ([]:List HO) []:=trivial
 refine ZD chk5 rfl rfl (Zt _ _ _ ?_) rfl
 refine sq (rg Za.f ?_)
 refine tq (sq ?_)
 refine rg Za.f (tq ?_)
 refine sq (rg Za.f ?_)
 refine tq (sq ?_)
 refine rg Za.f (tq ?_)
 refine sq (sq ?_)
 refine rg Za.f (tq ?_)
 refine bk ?_
 obtain ⟨dm,cZ,h⟩:=bs h
 refine ZS ((ZL (fun (x:Int × (List Bool)) s=>∃ (a1:AV) (H2:List HO),s=⟨[(1,.loc 1 0),(2,.loc 2 0),(3,iv (w64 (1+(w64 ((Int.tmod a0_.Bridges 6)))))),(4,iv (w64 (2+(w64 ((Int.tmod a0_.Stations 5)))))),(5,.loc 5 0),(6,iv x.1)],[(1,(ZA a0_)),(2,[iv 0,s_eB true [],Ze true []]),(5,[iv (w64 ((w64 (1+(w64 ((Int.tmod a0_.Bridges 6)))))+(w64 (2+(w64 ((Int.tmod a0_.Stations 5))))))),a1,Ze true []])],H2⟩∧HP H2 [.arr a1 1 false (List.map eB x.2)]) (fun x:Int × (List Bool)=>Zak N a0_ x.1 x.2) (fun (p:(List Bool)) e s=>e = .exit 0∧(∃ (bY:AV) (cr:List HO),s=⟨[(1,.loc 1 0),(2,.loc 2 0),(3,iv (w64 (1+(w64 ((Int.tmod a0_.Bridges 6)))))),(4,iv (w64 (2+(w64 ((Int.tmod a0_.Stations 5)))))),(5,.loc 5 0)],[(1,(ZA a0_)),(2,[iv 0,s_eB true [],Ze true []]),(5,[iv (w64 ((w64 (1+(w64 ((Int.tmod a0_.Bridges 6)))))+(w64 (2+(w64 ((Int.tmod a0_.Stations 5))))))),bY,Ze true []])],cr⟩∧HP cr [.arr bY 1 false (List.map eB p)])) ?_ N _ dm _ cZ ⟨(.p (.sl 1 true [])),[],(by show _=_;kernel_rfl),(HP.pick (HP.nilArr hH 1 false) [0] rfl)⟩).mono ?_)
 ·clear h cZ
  rintro ⟨i3,l4⟩ o s h hR
  obtain ⟨a1,H2,rfl,hH⟩:=hR
  replace hH:HP _ [.arr a1 1 false (List.map eB l4)]:=hH
  have hfa1:=ZW (HP.get hH 0 rfl)
  replace h:Zak N a0_ i3 l4=some o:=h
  unfold Zak at h
  refine sq (sq ?_)
  refine rgS ⟨[(1,.loc 1 0),(2,.loc 2 0),(3,iv (w64 (1+(w64 ((Int.tmod a0_.Bridges 6)))))),(4,iv (w64 (2+(w64 ((Int.tmod a0_.Stations 5)))))),(5,.loc 5 0),(6,iv i3),(28,bv (decide (i3<(w64 ((w64 (1+(w64 ((Int.tmod a0_.Bridges 6)))))+(w64 (2+(w64 ((Int.tmod a0_.Stations 5))))))))))],[(1,(ZA a0_)),(2,[iv 0,s_eB true [],Ze true []]),(5,[iv (w64 ((w64 (1+(w64 ((Int.tmod a0_.Bridges 6)))))+(w64 (2+(w64 ((Int.tmod a0_.Stations 5))))))),a1,Ze true []])],H2⟩ (Za.f (h:=(by cases hfa1<;>kernel_rfl))) (by cases hfa1<;>kernel_rfl) ?_
  refine tq (it h (fun dp h => ?_) (fun dp h => ?_))
  ·refine sk (tq ?_)
   refine kq (sq ?_)
   refine bk ?_
   obtain ⟨dr,dn,h⟩:=bs h
   obtain ⟨cR,dl,dq,hH⟩:=HP.app (k:=0) (a:=a1) (sz:=1) (frz:=false) eB hH rfl dn
   replace hH:HP _ [.arr cR 1 false (List.map eB dr)]:=hH
   have aV:=ZW (HP.get hH 0 rfl)
   refine rgS ⟨[(1,.loc 1 0),(2,.loc 2 0),(3,iv (w64 (1+(w64 ((Int.tmod a0_.Bridges 6)))))),(4,iv (w64 (2+(w64 ((Int.tmod a0_.Stations 5)))))),(5,.loc 5 0),(6,iv i3)],[(1,(ZA a0_)),(2,[iv 0,s_eB true [],Ze true []]),(5,[iv (w64 ((w64 (1+(w64 ((Int.tmod a0_.Bridges 6)))))+(w64 (2+(w64 ((Int.tmod a0_.Stations 5))))))),cR,Ze true []])],dl⟩ (Za.h (hm:=(by cases hfa1<;>kernel_rfl)) 6 (Ze1 (H:=H2) (a:=a1) (b:=s_eB true [(decide (i3 ≥ (w64 (1+(w64 ((Int.tmod a0_.Bridges 6)))))))]) (by cases hfa1<;>kernel_rfl) (by cases hfa1<;>kernel_rfl) (by cases hfa1<;>kernel_rfl) (by cases hfa1<;>kernel_rfl) dq) (Za.f (h:=(by cases hfa1<;>cases aV<;>kernel_rfl)))) (by cases hfa1<;>cases aV<;>kernel_rfl) ?_
   refine bn (tq ?_)
   refine rgS ⟨[(1,.loc 1 0),(2,.loc 2 0),(3,iv (w64 (1+(w64 ((Int.tmod a0_.Bridges 6)))))),(4,iv (w64 (2+(w64 ((Int.tmod a0_.Stations 5)))))),(5,.loc 5 0),(6,iv (w64 (i3+1)))],[(1,(ZA a0_)),(2,[iv 0,s_eB true [],Ze true []]),(5,[iv (w64 ((w64 (1+(w64 ((Int.tmod a0_.Bridges 6)))))+(w64 (2+(w64 ((Int.tmod a0_.Stations 5))))))),cR,Ze true []])],dl⟩ Za.f (by cases aV<;>kernel_rfl) ?_
   obtain rfl:=Zb h
   exact ⟨_,rfl,⟨cR,dl,(by show _=_;cases aV<;>kernel_rfl),(HP.pick hH [0] rfl)⟩⟩
  refine kq (xq ?_)
  refine tx ?_
  obtain rfl:=Zb h
  exact ⟨_,rfl,rfl,⟨a1,H2,(by show _=_;cases hfa1<;>kernel_rfl),(HP.pick hH [0] rfl)⟩⟩
 rintro e s hq
 obtain ⟨rfl,hR⟩:=hq
 obtain ⟨bY,cr,rfl,hH⟩:=hR
 replace hH:HP _ [.arr bY 1 false (List.map eB dm)]:=hH
 have cd:=ZW (HP.get hH 0 rfl)
 refine bx (tq ?_)
 refine sq (sq ?_)
 refine rgS ⟨[(1,.loc 1 0),(2,.loc 2 0),(3,iv (w64 (1+(w64 ((Int.tmod a0_.Bridges 6)))))),(4,iv (w64 (2+(w64 ((Int.tmod a0_.Stations 5)))))),(5,.loc 5 0),(7,iv 1)],[(1,(ZA a0_)),(2,[iv 0,s_eB true [],Ze true []]),(5,[iv (w64 ((w64 (1+(w64 ((Int.tmod a0_.Bridges 6)))))+(w64 (2+(w64 ((Int.tmod a0_.Stations 5))))))),bY,Ze true []])],cr⟩ Za.f (by cases cd<;>kernel_rfl) ?_
 refine tq (bk ?_)
 obtain ⟨bt,c2,h⟩:=bs h
 refine ZS ((ZL (fun (x:Int × Int × (List Bool) × (List Zy)) s=>∃ (b1:AV) (b0:AV) (bl:List HO),s=⟨[(1,.loc 1 0),(2,.loc 2 0),(3,iv (w64 (1+(w64 ((Int.tmod a0_.Bridges 6)))))),(4,iv (w64 (2+(w64 ((Int.tmod a0_.Stations 5)))))),(5,.loc 5 0),(7,iv x.1)],[(1,(ZA a0_)),(2,[iv 0,s_eB true [],Ze true []]),(5,[iv x.2.1,b1,b0])],bl⟩∧HP bl [.arr b1 1 true (List.map eB x.2.2.1),.arr b0 4 true (List.map Zp x.2.2.2)]) (fun x:Int × Int × (List Bool) × (List Zy)=>Zaj N a0_ x.1 x.2.1 x.2.2.1 x.2.2.2) (fun (p:Int × (List Bool) × (List Zy)) e s=>e = .exit 2∧(∃ (aT:AV) (aS:AV) (bj:List HO),s=⟨[(1,.loc 1 0),(2,.loc 2 0),(3,iv (w64 (1+(w64 ((Int.tmod a0_.Bridges 6)))))),(4,iv (w64 (2+(w64 ((Int.tmod a0_.Stations 5)))))),(5,.loc 5 0)],[(1,(ZA a0_)),(2,[iv 0,s_eB true [],Ze true []]),(5,[iv p.1,aT,aS])],bj⟩∧HP bj [.arr aT 1 true (List.map eB p.2.1),.arr aS 4 true (List.map Zp p.2.2)])) ?_ N _ bt _ c2 ⟨bY,(.p (.sl 4 true [])),cr,(by show _=_;cases cd<;>kernel_rfl),(HP.frzUp (k:=0) (HP.pick (HP.nilArr hH 4 true) [1,0] rfl) rfl)⟩).mono ?_)
 ·clear h c2
  rintro ⟨aU,cz,cy,cw⟩ o s h hR
  obtain ⟨b1,b0,bl,rfl,hH⟩:=hR
  replace hH:HP _ [.arr b1 1 true (List.map eB cy),.arr b0 4 true (List.map Zp cw)]:=hH
  have af:=ZW (HP.get hH 0 rfl)
  have ae:=ZW (HP.get hH 1 rfl)
  replace h:Zaj N a0_ aU cz cy cw=some o:=h
  unfold Zaj at h
  refine sq (sq ?_)
  refine rgS ⟨[(1,.loc 1 0),(2,.loc 2 0),(3,iv (w64 (1+(w64 ((Int.tmod a0_.Bridges 6)))))),(4,iv (w64 (2+(w64 ((Int.tmod a0_.Stations 5)))))),(5,.loc 5 0),(7,iv aU),(41,bv (decide (aU<(w64 (1+(w64 ((Int.tmod a0_.Bridges 6))))))))],[(1,(ZA a0_)),(2,[iv 0,s_eB true [],Ze true []]),(5,[iv cz,b1,b0])],bl⟩ Za.f (by cases af<;>cases ae<;>kernel_rfl) ?_
  refine tq (it h (fun dk h => ?_) (fun dk h => ?_))
  ·refine sk (tq ?_)
   refine kq (sq ?_)
   refine bk ?_
   obtain ⟨bb,d9,h⟩:=bs h
   have cQ:=HP.get hH 0 rfl
   have cM:=HP.get hH 1 rfl
   obtain ⟨bX,bW,cv,cE,cL⟩:=ZbQ N a0_ (Zh.mk cz cy cw) (w64 (aU - 1)) aU   b1 b0 bl (HP.now (HP.pick hH [0,1] rfl)) bb d9
   replace hH:HP _ [.arr bX 1 true (List.map eB bb.Station),.arr bW 4 true (List.map Zp bb.Links)]:=HP.callee (fp:=[.arr b1 1 true (List.map eB cy),.arr b0 4 true (List.map Zp cw)]) (rest:=[]) (HP.pick hH [0,1] rfl) cL
   have az:=ZW (HP.get hH 0 rfl)
   have ay:=ZW (HP.get hH 1 rfl)
   refine rgS ⟨[(1,.loc 1 0),(2,.loc 2 0),(3,iv (w64 (1+(w64 ((Int.tmod a0_.Bridges 6)))))),(4,iv (w64 (2+(w64 ((Int.tmod a0_.Stations 5)))))),(5,.loc 5 0),(7,iv aU)],[(1,(ZA a0_)),(2,[iv 0,s_eB true [],Ze true []]),(5,[iv bb.Nodes,bX,bW])],cv⟩ (Za.v (hm:=(by cases af<;>cases ae<;>kernel_rfl)) 5 (Zf9 (H:=bl) (ys:=[.agg (ZA a0_),.agg [iv cz,b1,b0],iv (w64 (aU - 1)),iv aU]) (by cases af<;>cases ae<;>kernel_rfl) (by cases af<;>cases ae<;>kernel_rfl) [[],[false,true,true],[],[]] (Zag (Za2 rfl) (Zag (Zg2 (Zbj (Zg3 rfl) (Zbj (Zdr (Zds cQ)) (Zbj (Zdr (Zds cM)) passC_nil')))) (Zag (Za2 rfl) (Zag (Za2 rfl) passL_nil')))) cE) (Za.f (h:=(by cases az<;>cases ay<;>cases af<;>cases ae<;>kernel_rfl)))) (by cases az<;>cases ay<;>cases af<;>cases ae<;>kernel_rfl) ?_
   refine bn (tq ?_)
   refine rgS ⟨[(1,.loc 1 0),(2,.loc 2 0),(3,iv (w64 (1+(w64 ((Int.tmod a0_.Bridges 6)))))),(4,iv (w64 (2+(w64 ((Int.tmod a0_.Stations 5)))))),(5,.loc 5 0),(7,iv (w64 (aU+1)))],[(1,(ZA a0_)),(2,[iv 0,s_eB true [],Ze true []]),(5,[iv bb.Nodes,bX,bW])],cv⟩ Za.f (by cases az<;>cases ay<;>kernel_rfl) ?_
   obtain rfl:=Zb h
   exact ⟨_,rfl,⟨bX,bW,cv,(by show _=_;cases az<;>cases ay<;>kernel_rfl),(HP.pick hH [0,1] rfl)⟩⟩
  refine kq (xq ?_)
  refine tx ?_
  obtain rfl:=Zb h
  exact ⟨_,rfl,rfl,⟨b1,b0,bl,(by show _=_;cases af<;>cases ae<;>kernel_rfl),(HP.pick hH [0,1] rfl)⟩⟩
 rintro e s hq
 obtain ⟨rfl,hR⟩:=hq
 obtain ⟨aT,aS,bj,rfl,hH⟩:=hR
 replace hH:HP _ [.arr aT 1 true (List.map eB bt.2.1),.arr aS 4 true (List.map Zp bt.2.2)]:=hH
 have bR:=ZW (HP.get hH 0 rfl)
 have bQ:=ZW (HP.get hH 1 rfl)
 refine bx (tq ?_)
 refine sq (sq ?_)
 refine rgS ⟨[(1,.loc 1 0),(2,.loc 2 0),(3,iv (w64 (1+(w64 ((Int.tmod a0_.Bridges 6)))))),(4,iv (w64 (2+(w64 ((Int.tmod a0_.Stations 5)))))),(5,.loc 5 0),(8,iv 0)],[(1,(ZA a0_)),(2,[iv 0,s_eB true [],Ze true []]),(5,[iv bt.1,aT,aS])],bj⟩ Za.f (by cases bR<;>cases bQ<;>kernel_rfl) ?_
 refine tq (bk ?_)
 obtain ⟨ad,c1,h⟩:=bs h
 refine ZS ((ZL (fun (x:Int × Int × (List Bool) × (List Zy)) s=>∃ (am:AV) (al:AV) (aC:List HO),s=⟨[(1,.loc 1 0),(2,.loc 2 0),(3,iv (w64 (1+(w64 ((Int.tmod a0_.Bridges 6)))))),(4,iv (w64 (2+(w64 ((Int.tmod a0_.Stations 5)))))),(5,.loc 5 0),(8,iv x.1)],[(1,(ZA a0_)),(2,[iv 0,s_eB true [],Ze true []]),(5,[iv x.2.1,am,al])],aC⟩∧HP aC [.arr am 1 true (List.map eB x.2.2.1),.arr al 4 true (List.map Zp x.2.2.2)]) (fun x:Int × Int × (List Bool) × (List Zy)=>Zai N a0_ x.1 x.2.1 x.2.2.1 x.2.2.2) (fun (p:Int × (List Bool) × (List Zy)) e s=>e = .exit 4∧(∃ (ak:AV) (aj:AV) (aB:List HO),s=⟨[(1,.loc 1 0),(2,.loc 2 0),(3,iv (w64 (1+(w64 ((Int.tmod a0_.Bridges 6)))))),(4,iv (w64 (2+(w64 ((Int.tmod a0_.Stations 5)))))),(5,.loc 5 0)],[(1,(ZA a0_)),(2,[iv 0,s_eB true [],Ze true []]),(5,[iv p.1,ak,aj])],aB⟩∧HP aB [.arr ak 1 true (List.map eB p.2.1),.arr aj 4 true (List.map Zp p.2.2)])) ?_ N _ ad _ c1 ⟨aT,aS,bj,(by show _=_;cases bR<;>cases bQ<;>kernel_rfl),(HP.pick hH [0,1] rfl)⟩).mono ?_)
 ·clear h c1
  rintro ⟨ap,bE,bC,bB⟩ o s h hR
  obtain ⟨am,al,aC,rfl,hH⟩:=hR
  replace hH:HP _ [.arr am 1 true (List.map eB bC),.arr al 4 true (List.map Zp bB)]:=hH
  have a6:=ZW (HP.get hH 0 rfl)
  have a5:=ZW (HP.get hH 1 rfl)
  replace h:Zai N a0_ ap bE bC bB=some o:=h
  unfold Zai at h
  refine sq (sq ?_)
  refine rgS ⟨[(1,.loc 1 0),(2,.loc 2 0),(3,iv (w64 (1+(w64 ((Int.tmod a0_.Bridges 6)))))),(4,iv (w64 (2+(w64 ((Int.tmod a0_.Stations 5)))))),(5,.loc 5 0),(8,iv ap),(52,bv (decide (ap<(w64 (2+(w64 ((Int.tmod a0_.Stations 5))))))))],[(1,(ZA a0_)),(2,[iv 0,s_eB true [],Ze true []]),(5,[iv bE,am,al])],aC⟩ Za.f (by cases a6<;>cases a5<;>kernel_rfl) ?_
  refine tq (it h (fun dj h => ?_) (fun dj h => ?_))
  ·refine sk (tq ?_)
   refine kq (sq ?_)
   refine bk ?_
   obtain ⟨cU,d8,h⟩:=bs h
   obtain ⟨cY,dd,h⟩:=bs h
   obtain ⟨ba,d7,h⟩:=bs h
   have ca:=HP.get hH 0 rfl
   have c9:=HP.get hH 1 rfl
   obtain ⟨bV,bU,cu,cD,cK⟩:=ZbQ N a0_ (Zh.mk bE bC bB) (w64 ((w64 (1+(w64 ((Int.tmod a0_.Bridges 6)))))+ap)) cY   am al aC (HP.now (HP.pick hH [0,1] rfl)) ba d7
   replace hH:HP _ [.arr bV 1 true (List.map eB ba.Station),.arr bU 4 true (List.map Zp ba.Links)]:=HP.callee (fp:=[.arr am 1 true (List.map eB bC),.arr al 4 true (List.map Zp bB)]) (rest:=[]) (HP.pick hH [0,1] rfl) cK
   have ax:=ZW (HP.get hH 0 rfl)
   have aw:=ZW (HP.get hH 1 rfl)
   refine rqS ⟨[(1,.loc 1 0),(2,.loc 2 0),(3,iv (w64 (1+(w64 ((Int.tmod a0_.Bridges 6)))))),(4,iv (w64 (2+(w64 ((Int.tmod a0_.Stations 5)))))),(5,.loc 5 0),(8,iv ap)],[(1,(ZA a0_)),(2,[iv 0,s_eB true [],Ze true []]),(5,[iv ba.Nodes,bV,bU])],cu⟩ (Za.u (hm:=(by cases a6<;>cases a5<;>kernel_rfl)) 9 (ZaK (by cases a6<;>cases a5<;>kernel_rfl) (ZdP N a0_.Homes (w64 (2 * ap)) cU d8)) (Za.u (hm:=(by cases a6<;>cases a5<;>kernel_rfl)) 1 (Zm (ys:=[iv cU,iv (w64 (1+(w64 ((Int.tmod a0_.Bridges 6)))))]) (by cases a6<;>cases a5<;>kernel_rfl) (Zce dd)) (Za.v (hm:=(by cases a6<;>cases a5<;>kernel_rfl)) 0 (Zf9 (H:=aC) (ys:=[.agg (ZA a0_),.agg [iv bE,am,al],iv (w64 ((w64 (1+(w64 ((Int.tmod a0_.Bridges 6)))))+ap)),iv cY]) (by cases a6<;>cases a5<;>kernel_rfl) (by cases a6<;>cases a5<;>kernel_rfl) [[],[false,true,true],[],[]] (Zag (Za2 rfl) (Zag (Zg2 (Zbj (Zg3 rfl) (Zbj (Zdr (Zds ca)) (Zbj (Zdr (Zds c9)) passC_nil')))) (Zag (Za2 rfl) (Zag (Za2 rfl) passL_nil')))) cD) (Za.f (h:=(by cases a6<;>cases a5<;>cases ax<;>cases aw<;>kernel_rfl)))))) (by cases a6<;>cases a5<;>cases ax<;>cases aw<;>kernel_rfl) ?_
   refine bn (tq ?_)
   refine rgS ⟨[(1,.loc 1 0),(2,.loc 2 0),(3,iv (w64 (1+(w64 ((Int.tmod a0_.Bridges 6)))))),(4,iv (w64 (2+(w64 ((Int.tmod a0_.Stations 5)))))),(5,.loc 5 0),(8,iv (w64 (ap+1)))],[(1,(ZA a0_)),(2,[iv 0,s_eB true [],Ze true []]),(5,[iv ba.Nodes,bV,bU])],cu⟩ Za.f (by cases ax<;>cases aw<;>kernel_rfl) ?_
   obtain rfl:=Zb h
   exact ⟨_,rfl,⟨bV,bU,cu,(by show _=_;cases ax<;>cases aw<;>kernel_rfl),(HP.pick hH [0,1] rfl)⟩⟩
  refine kq (xq ?_)
  refine tx ?_
  obtain rfl:=Zb h
  exact ⟨_,rfl,rfl,⟨am,al,aC,(by show _=_;cases a6<;>cases a5<;>kernel_rfl),(HP.pick hH [0,1] rfl)⟩⟩
 rintro e s hq
 obtain ⟨rfl,hR⟩:=hq
 obtain ⟨ak,aj,aB,rfl,hH⟩:=hR
 replace hH:HP _ [.arr ak 1 true (List.map eB ad.2.1),.arr aj 4 true (List.map Zp ad.2.2)]:=hH
 have a8:=ZW (HP.get hH 0 rfl)
 have a7:=ZW (HP.get hH 1 rfl)
 refine bx (tq ?_)
 obtain ⟨aE,cc,h⟩:=bs h
 refine Zc6 [1,2,3,4,5] (fun s=>∃ (aR:AV) (aQ:AV) (bi:List HO),s=⟨[(1,.loc 1 0),(2,.loc 2 0),(3,iv (w64 (1+(w64 ((Int.tmod a0_.Bridges 6)))))),(4,iv (w64 (2+(w64 ((Int.tmod a0_.Stations 5)))))),(5,.loc 5 0)],[(1,(ZA a0_)),(2,[iv 0,s_eB true [],Ze true []]),(5,[iv aE.1,aR,aQ])],bi⟩∧HP bi [.arr aR 1 true (List.map eB aE.2.1),.arr aQ 4 true (List.map Zp aE.2.2)]) ?_ ?_
 ·clear h
  have h:=cc
  refine sq (rgX ⟨[(1,.loc 1 0),(2,.loc 2 0),(3,iv (w64 (1+(w64 ((Int.tmod a0_.Bridges 6)))))),(4,iv (w64 (2+(w64 ((Int.tmod a0_.Stations 5)))))),(5,.loc 5 0),(75,bv ((decide ((w64 (1+(w64 ((Int.tmod a0_.Bridges 6))))) > 2))&&((Int.tmod a0_.Bridges 2)==0)))],[(1,(ZA a0_)),(2,[iv 0,s_eB true [],Ze true []]),(5,[iv ad.1,ak,aj])],aB⟩ ?_ ?_)
  ·rcases Bool.eq_false_or_eq_true (decide ((w64 (1+(w64 ((Int.tmod a0_.Bridges 6))))) > 2)) with ck | cj
   ·exact (EP.u 1 (Zi (c:=(decide ((w64 (1+(w64 ((Int.tmod a0_.Bridges 6))))) > 2))) (h:=ck)) (EP.f (by simp only [ck];cases a8<;>cases a7<;>kernel_rfl)))
   exact (EP.u 1 (Zi (c:=(decide ((w64 (1+(w64 ((Int.tmod a0_.Bridges 6))))) > 2))) (h:=cj)) (EP.f (by simp only [cj];cases a8<;>cases a7<;>kernel_rfl)))
  refine tq (it h (fun di h => ?_) (fun di h => ?_))
  ·obtain ⟨bp,d6,h⟩:=bs h
   have c8:=HP.get hH 0 rfl
   have c7:=HP.get hH 1 rfl
   obtain ⟨cq,cp,d1,cC,cJ⟩:=ZbQ N a0_ (Zh.mk ad.1 ad.2.1 ad.2.2) (w64 ((w64 (1+(w64 ((Int.tmod a0_.Bridges 6))))) - 1)) 0   ak aj aB (HP.now (HP.pick hH [0,1] rfl)) bp d6
   replace hH:HP _ [.arr cq 1 true (List.map eB bp.Station),.arr cp 4 true (List.map Zp bp.Links)]:=HP.callee (fp:=[.arr ak 1 true (List.map eB ad.2.1),.arr aj 4 true (List.map Zp ad.2.2)]) (rest:=[]) (HP.pick hH [0,1] rfl) cJ
   have aZ:=ZW (HP.get hH 0 rfl)
   have aY:=ZW (HP.get hH 1 rfl)
   refine rgS ⟨[(1,.loc 1 0),(2,.loc 2 0),(3,iv (w64 (1+(w64 ((Int.tmod a0_.Bridges 6)))))),(4,iv (w64 (2+(w64 ((Int.tmod a0_.Stations 5)))))),(5,.loc 5 0)],[(1,(ZA a0_)),(2,[iv 0,s_eB true [],Ze true []]),(5,[iv bp.Nodes,cq,cp])],d1⟩ (Za.v (hm:=(by cases a8<;>cases a7<;>kernel_rfl)) 4 (Zf9 (H:=aB) (ys:=[.agg (ZA a0_),.agg [iv ad.1,ak,aj],iv (w64 ((w64 (1+(w64 ((Int.tmod a0_.Bridges 6))))) - 1)),iv 0]) (by cases a8<;>cases a7<;>kernel_rfl) (by cases a8<;>cases a7<;>kernel_rfl) [[],[false,true,true],[],[]] (Zag (Za2 rfl) (Zag (Zg2 (Zbj (Zg3 rfl) (Zbj (Zdr (Zds c8)) (Zbj (Zdr (Zds c7)) passC_nil')))) (Zag (Za2 rfl) (Zag (Za2 rfl) passL_nil')))) cC) (Za.f (h:=(by cases a8<;>cases a7<;>cases aZ<;>cases aY<;>kernel_rfl)))) (by cases a8<;>cases a7<;>cases aZ<;>cases aY<;>kernel_rfl) ?_
   obtain rfl:=Zb h
   exact ⟨rfl,⟨cq,cp,d1,(by show _=_;cases aZ<;>cases aY<;>kernel_rfl),(HP.pick hH [0,1] rfl)⟩⟩
  refine sk ?_
  obtain rfl:=Zb h
  exact ⟨rfl,⟨ak,aj,aB,(by show _=_;cases a8<;>cases a7<;>kernel_rfl),(HP.pick hH [0,1] rfl)⟩⟩
 clear cc
 rintro s hR
 obtain ⟨aR,aQ,bi,rfl,hH⟩:=hR
 replace hH:HP _ [.arr aR 1 true (List.map eB aE.2.1),.arr aQ 4 true (List.map Zp aE.2.2)]:=hH
 have bM:=ZW (HP.get hH 0 rfl)
 have bL:=ZW (HP.get hH 1 rfl)
 refine sq (sq ?_)
 refine rgS ⟨[(1,.loc 1 0),(2,.loc 2 0),(3,iv (w64 (1+(w64 ((Int.tmod a0_.Bridges 6)))))),(4,iv (w64 (2+(w64 ((Int.tmod a0_.Stations 5)))))),(5,.loc 5 0),(9,iv 0)],[(1,(ZA a0_)),(2,[iv 0,s_eB true [],Ze true []]),(5,[iv aE.1,aR,aQ])],bi⟩ Za.f (by cases bM<;>cases bL<;>kernel_rfl) ?_
 refine tq (bk ?_)
 obtain ⟨bq,c0,h⟩:=bs h
 refine ZS ((ZL (fun (x:Int × Int × (List Bool) × (List Zy)) s=>∃ (ac:AV) (ab:AV) (an:List HO),s=⟨[(1,.loc 1 0),(2,.loc 2 0),(3,iv (w64 (1+(w64 ((Int.tmod a0_.Bridges 6)))))),(4,iv (w64 (2+(w64 ((Int.tmod a0_.Stations 5)))))),(5,.loc 5 0),(9,iv x.1)],[(1,(ZA a0_)),(2,[iv 0,s_eB true [],Ze true []]),(5,[iv x.2.1,ac,ab])],an⟩∧HP an [.arr ac 1 true (List.map eB x.2.2.1),.arr ab 4 true (List.map Zp x.2.2.2)]) (fun x:Int × Int × (List Bool) × (List Zy)=>Z9 N a0_ x.1 x.2.1 x.2.2.1 x.2.2.2) (fun (p:Int × (List Bool) × (List Zy)) e s=>e = .exit 6∧(∃ (aM:AV) (aL:AV) (bf:List HO),s=⟨[(1,.loc 1 0),(2,.loc 2 0),(3,iv (w64 (1+(w64 ((Int.tmod a0_.Bridges 6)))))),(5,.loc 5 0)],[(1,(ZA a0_)),(2,[iv 0,s_eB true [],Ze true []]),(5,[iv p.1,aM,aL])],bf⟩∧HP bf [.arr aM 1 true (List.map eB p.2.1),.arr aL 4 true (List.map Zp p.2.2)])) ?_ N _ bq _ c0 ⟨aR,aQ,bi,(by show _=_;cases bM<;>cases bL<;>kernel_rfl),(HP.pick hH [0,1] rfl)⟩).mono ?_)
 ·clear h c0
  rintro ⟨aa,bc,bA,bz⟩ o s h hR
  obtain ⟨ac,ab,an,rfl,hH⟩:=hR
  replace hH:HP _ [.arr ac 1 true (List.map eB bA),.arr ab 4 true (List.map Zp bz)]:=hH
  have a4:=ZW (HP.get hH 0 rfl)
  have a3:=ZW (HP.get hH 1 rfl)
  replace h:Z9 N a0_ aa bc bA bz=some o:=h
  unfold Z9 at h
  refine sq (sq ?_)
  refine rgS ⟨[(1,.loc 1 0),(2,.loc 2 0),(3,iv (w64 (1+(w64 ((Int.tmod a0_.Bridges 6)))))),(4,iv (w64 (2+(w64 ((Int.tmod a0_.Stations 5)))))),(5,.loc 5 0),(9,iv aa),(83,bv (decide (aa<(w64 (2+(w64 ((Int.tmod a0_.Stations 5))))))))],[(1,(ZA a0_)),(2,[iv 0,s_eB true [],Ze true []]),(5,[iv bc,ac,ab])],an⟩ Za.f (by cases a4<;>cases a3<;>kernel_rfl) ?_
  refine tq (it h (fun dg h => ?_) (fun dg h => ?_))
  ·refine sk (tq ?_)
   refine kq ?_
   obtain ⟨aD,cb,h⟩:=bs h
   refine Zc6 [1,2,3,4,5,9] (fun s=>∃ (aK:AV) (aJ:AV) (be:List HO),s=⟨[(1,.loc 1 0),(2,.loc 2 0),(3,iv (w64 (1+(w64 ((Int.tmod a0_.Bridges 6)))))),(4,iv (w64 (2+(w64 ((Int.tmod a0_.Stations 5)))))),(5,.loc 5 0),(9,iv aa)],[(1,(ZA a0_)),(2,[iv 0,s_eB true [],Ze true []]),(5,[iv aD.1,aK,aJ])],be⟩∧HP be [.arr aK 1 true (List.map eB aD.2.1),.arr aJ 4 true (List.map Zp aD.2.2)]) ?_ ?_
   ·clear h
    have h:=cb
    refine bk (sq ?_)
    obtain ⟨cT,d5,h⟩:=bs h
    refine rgS ⟨[(1,.loc 1 0),(2,.loc 2 0),(3,iv (w64 (1+(w64 ((Int.tmod a0_.Bridges 6)))))),(4,iv (w64 (2+(w64 ((Int.tmod a0_.Stations 5)))))),(5,.loc 5 0),(9,iv aa),(93,bv (decide ((Int.tmod cT 3) > 0)))],[(1,(ZA a0_)),(2,[iv 0,s_eB true [],Ze true []]),(5,[iv bc,ac,ab])],an⟩ (Za.v 5 (Zw (hc:=ZdP N a0_.Homes (w64 ((w64 (2 * aa))+1)) cT d5)) Za.f) (by cases a4<;>cases a3<;>kernel_rfl) ?_
    refine tq (it h (fun df h => ?_) (fun df h => ?_))
    ·obtain ⟨cS,d4,h⟩:=bs h
     obtain ⟨cX,dc,h⟩:=bs h
     obtain ⟨bm,d3,h⟩:=bs h
     have c6:=HP.get hH 0 rfl
     have c5:=HP.get hH 1 rfl
     obtain ⟨co,cn,d0,cB,cI⟩:=ZbQ N a0_ (Zh.mk bc bA bz) (w64 ((w64 (1+(w64 ((Int.tmod a0_.Bridges 6)))))+aa)) cX   ac ab an (HP.now (HP.pick hH [0,1] rfl)) bm d3
     replace hH:HP _ [.arr co 1 true (List.map eB bm.Station),.arr cn 4 true (List.map Zp bm.Links)]:=HP.callee (fp:=[.arr ac 1 true (List.map eB bA),.arr ab 4 true (List.map Zp bz)]) (rest:=[]) (HP.pick hH [0,1] rfl) cI
     have aX:=ZW (HP.get hH 0 rfl)
     have aW:=ZW (HP.get hH 1 rfl)
     refine rqS ⟨[(1,.loc 1 0),(2,.loc 2 0),(3,iv (w64 (1+(w64 ((Int.tmod a0_.Bridges 6)))))),(4,iv (w64 (2+(w64 ((Int.tmod a0_.Stations 5)))))),(5,.loc 5 0),(9,iv aa)],[(1,(ZA a0_)),(2,[iv 0,s_eB true [],Ze true []]),(5,[iv bm.Nodes,co,cn])],d0⟩ (Za.u (hm:=(by cases a4<;>cases a3<;>kernel_rfl)) 10 (ZaK (by cases a4<;>cases a3<;>kernel_rfl) (ZdP N a0_.Homes (w64 ((w64 (2 * aa))+1)) cS d4)) (Za.u (hm:=(by cases a4<;>cases a3<;>kernel_rfl)) 1 (Zm (ys:=[iv cS,iv (w64 (1+(w64 ((Int.tmod a0_.Bridges 6)))))]) (by cases a4<;>cases a3<;>kernel_rfl) (Zce dc)) (Za.v (hm:=(by cases a4<;>cases a3<;>kernel_rfl)) 0 (Zf9 (H:=an) (ys:=[.agg (ZA a0_),.agg [iv bc,ac,ab],iv (w64 ((w64 (1+(w64 ((Int.tmod a0_.Bridges 6)))))+aa)),iv cX]) (by cases a4<;>cases a3<;>kernel_rfl) (by cases a4<;>cases a3<;>kernel_rfl) [[],[false,true,true],[],[]] (Zag (Za2 rfl) (Zag (Zg2 (Zbj (Zg3 rfl) (Zbj (Zdr (Zds c6)) (Zbj (Zdr (Zds c5)) passC_nil')))) (Zag (Za2 rfl) (Zag (Za2 rfl) passL_nil')))) cB) (Za.f (h:=(by cases a4<;>cases a3<;>cases aX<;>cases aW<;>kernel_rfl)))))) (by cases a4<;>cases a3<;>cases aX<;>cases aW<;>kernel_rfl) ?_
     refine bn ?_
     obtain rfl:=Zb h
     exact ⟨rfl,⟨co,cn,d0,(by show _=_;cases aX<;>cases aW<;>kernel_rfl),(HP.pick hH [0,1] rfl)⟩⟩
    refine sk (bn ?_)
    obtain rfl:=Zb h
    exact ⟨rfl,⟨ac,ab,an,(by show _=_;cases a4<;>cases a3<;>kernel_rfl),(HP.pick hH [0,1] rfl)⟩⟩
   clear cb
   rintro s hR
   obtain ⟨aK,aJ,be,rfl,hH⟩:=hR
   replace hH:HP _ [.arr aK 1 true (List.map eB aD.2.1),.arr aJ 4 true (List.map Zp aD.2.2)]:=hH
   have bI:=ZW (HP.get hH 0 rfl)
   have bG:=ZW (HP.get hH 1 rfl)
   refine rgS ⟨[(1,.loc 1 0),(2,.loc 2 0),(3,iv (w64 (1+(w64 ((Int.tmod a0_.Bridges 6)))))),(4,iv (w64 (2+(w64 ((Int.tmod a0_.Stations 5)))))),(5,.loc 5 0),(9,iv (w64 (aa+1)))],[(1,(ZA a0_)),(2,[iv 0,s_eB true [],Ze true []]),(5,[iv aD.1,aK,aJ])],be⟩ Za.f (by cases bI<;>cases bG<;>kernel_rfl) ?_
   obtain rfl:=Zb h
   exact ⟨_,rfl,⟨aK,aJ,be,(by show _=_;cases bI<;>cases bG<;>kernel_rfl),(HP.pick hH [0,1] rfl)⟩⟩
  refine kq (xq ?_)
  refine tx ?_
  obtain rfl:=Zb h
  exact ⟨_,rfl,rfl,⟨ac,ab,an,(by show _=_;cases a4<;>cases a3<;>kernel_rfl),(HP.pick hH [0,1] rfl)⟩⟩
 rintro e s hq
 obtain ⟨rfl,hR⟩:=hq
 obtain ⟨aM,aL,bf,rfl,hH⟩:=hR
 replace hH:HP _ [.arr aM 1 true (List.map eB bq.2.1),.arr aL 4 true (List.map Zp bq.2.2)]:=hH
 have bK:=ZW (HP.get hH 0 rfl)
 have bJ:=ZW (HP.get hH 1 rfl)
 refine bx (tq ?_)
 refine sq (sq ?_)
 refine rgS ⟨[(1,.loc 1 0),(2,.loc 2 0),(3,iv (w64 (1+(w64 ((Int.tmod a0_.Bridges 6)))))),(5,.loc 5 0),(10,iv 0)],[(1,(ZA a0_)),(2,[iv 0,s_eB true [],Ze true []]),(5,[iv bq.1,aM,aL])],bf⟩ Za.f (by cases bK<;>cases bJ<;>kernel_rfl) ?_
 refine tq (bk ?_)
 obtain ⟨ao,bZ,h⟩:=bs h
 refine ZS ((ZL (fun (x:Int × Int × (List Bool) × (List Zy)) s=>∃ (ai:AV) (ag:AV) (aA:List HO),s=⟨[(1,.loc 1 0),(2,.loc 2 0),(3,iv (w64 (1+(w64 ((Int.tmod a0_.Bridges 6)))))),(5,.loc 5 0),(10,iv x.1)],[(1,(ZA a0_)),(2,[iv 0,s_eB true [],Ze true []]),(5,[iv x.2.1,ai,ag])],aA⟩∧HP aA [.arr ai 1 true (List.map eB x.2.2.1),.arr ag 4 true (List.map Zp x.2.2.2)]) (fun x:Int × Int × (List Bool) × (List Zy)=>Zar N a0_ x.1 x.2.1 x.2.2.1 x.2.2.2) (fun (p:Int × (List Bool) × (List Zy)) e s=>e = .exit 8∧(∃ (aI:AV) (aG:AV) (bd:List HO),s=⟨[(2,.loc 2 0),(5,.loc 5 0)],[(2,[iv 0,s_eB true [],Ze true []]),(5,[iv p.1,aI,aG])],bd⟩∧HP bd [.arr aI 1 true (List.map eB p.2.1),.arr aG 4 true (List.map Zp p.2.2)])) ?_ N _ ao _ bZ ⟨aM,aL,bf,(by show _=_;cases bK<;>cases bJ<;>kernel_rfl),(HP.pick hH [0,1] rfl)⟩).mono ?_)
 ·clear h bZ
  rintro ⟨a9,bD,bw,bu⟩ o s h hR
  obtain ⟨ai,ag,aA,rfl,hH⟩:=hR
  replace hH:HP _ [.arr ai 1 true (List.map eB bw),.arr ag 4 true (List.map Zp bu)]:=hH
  have a2:=ZW (HP.get hH 0 rfl)
  have a0:=ZW (HP.get hH 1 rfl)
  replace h:Zar N a0_ a9 bD bw bu=some o:=h
  unfold Zar at h
  refine sq (sq ?_)
  refine rgX ⟨[(1,.loc 1 0),(2,.loc 2 0),(3,iv (w64 (1+(w64 ((Int.tmod a0_.Bridges 6)))))),(5,.loc 5 0),(10,iv a9),(117,bv ((decide ((w64 (a9+1))<((List.length a0_.Chords:Nat):Int)))&&(decide (a9<12))))],[(1,(ZA a0_)),(2,[iv 0,s_eB true [],Ze true []]),(5,[iv bD,ai,ag])],aA⟩ ?_ ?_
  ·refine (EP.u 4 (Zm (ys:=[ZfC false a0_.Chords]) (h:=Zr (eI .u8))) ?_)
   rcases Bool.eq_false_or_eq_true (decide ((w64 (a9+1))<((List.length a0_.Chords:Nat):Int))) with ci | cg
   ·exact (EP.u 0 (Zi (c:=(decide ((w64 (a9+1))<((List.length a0_.Chords:Nat):Int)))) (h:=ci)) (EP.f (by simp only [ci];cases a2<;>cases a0<;>kernel_rfl)))
   exact (EP.u 0 (Zi (c:=(decide ((w64 (a9+1))<((List.length a0_.Chords:Nat):Int)))) (h:=cg)) (EP.f (by simp only [cg];cases a2<;>cases a0<;>kernel_rfl)))
  refine tq (it h (fun de h => ?_) (fun de h => ?_))
  ·refine sk (tq ?_)
   refine kq (sq ?_)
   refine bk ?_
   obtain ⟨cm,cf,h⟩:=bs h
   obtain ⟨cW,db,h⟩:=bs h
   obtain ⟨cl,ce,h⟩:=bs h
   obtain ⟨cV,da,h⟩:=bs h
   obtain ⟨b2,d2,h⟩:=bs h
   have c4:=HP.get hH 0 rfl
   have c3:=HP.get hH 1 rfl
   obtain ⟨bT,bS,ct,cA,cG⟩:=ZbQ N a0_ (Zh.mk bD bw bu) cW cV   ai ag aA (HP.now (HP.pick hH [0,1] rfl)) b2 d2
   replace hH:HP _ [.arr bT 1 true (List.map eB b2.Station),.arr bS 4 true (List.map Zp b2.Links)]:=HP.callee (fp:=[.arr ai 1 true (List.map eB bw),.arr ag 4 true (List.map Zp bu)]) (rest:=[]) (HP.pick hH [0,1] rfl) cG
   have ar:=ZW (HP.get hH 0 rfl)
   have aq:=ZW (HP.get hH 1 rfl)
   refine rqS ⟨[(1,.loc 1 0),(2,.loc 2 0),(3,iv (w64 (1+(w64 ((Int.tmod a0_.Bridges 6)))))),(5,.loc 5 0),(10,iv a9)],[(1,(ZA a0_)),(2,[iv 0,s_eB true [],Ze true []]),(5,[iv b2.Nodes,bT,bS])],ct⟩ (Za.u (hm:=(by cases a2<;>cases a0<;>kernel_rfl)) 5 (Zm (ys:=[ZfC false a0_.Chords,iv a9]) (by cases a2<;>cases a0<;>kernel_rfl) (Zk (eI .u8) cf)) (Za.u (hm:=(by cases a2<;>cases a0<;>kernel_rfl)) 0 (ZN (Zu (sz:=1) (off:=0) (cs:=[.int .u8 cm]) (r:=.p (.int .u8 cm)) (eI .u8) cf (by cases a2<;>cases a0<;>kernel_rfl) (by cases a2<;>cases a0<;>kernel_rfl) (by cases a2<;>cases a0<;>kernel_rfl)) (by cases a2<;>cases a0<;>kernel_rfl)) (Za.u (hm:=(by cases a2<;>cases a0<;>kernel_rfl)) 2 (Zm (ys:=[iv (w64 (cm)),iv (w64 (1+(w64 ((Int.tmod a0_.Bridges 6)))))]) (by cases a2<;>cases a0<;>kernel_rfl) (Zce db)) (Za.u (hm:=(by cases a2<;>cases a0<;>kernel_rfl)) 4 (Zm (ys:=[ZfC false a0_.Chords,iv (w64 (a9+1))]) (by cases a2<;>cases a0<;>kernel_rfl) (Zk (eI .u8) ce)) (Za.u (hm:=(by cases a2<;>cases a0<;>kernel_rfl)) 0 (ZN (Zu (sz:=1) (off:=0) (cs:=[.int .u8 cl]) (r:=.p (.int .u8 cl)) (eI .u8) ce (by cases a2<;>cases a0<;>kernel_rfl) (by cases a2<;>cases a0<;>kernel_rfl) (by cases a2<;>cases a0<;>kernel_rfl)) (by cases a2<;>cases a0<;>kernel_rfl)) (Za.u (hm:=(by cases a2<;>cases a0<;>kernel_rfl)) 2 (Zm (ys:=[iv (w64 (cl)),iv (w64 (1+(w64 ((Int.tmod a0_.Bridges 6)))))]) (by cases a2<;>cases a0<;>kernel_rfl) (Zce da)) (Za.v (hm:=(by cases a2<;>cases a0<;>kernel_rfl)) 0 (Zf9 (H:=aA) (ys:=[.agg (ZA a0_),.agg [iv bD,ai,ag],iv cW,iv cV]) (by cases a2<;>cases a0<;>kernel_rfl) (by cases a2<;>cases a0<;>kernel_rfl) [[],[false,true,true],[],[]] (Zag (Za2 rfl) (Zag (Zg2 (Zbj (Zg3 rfl) (Zbj (Zdr (Zds c4)) (Zbj (Zdr (Zds c3)) passC_nil')))) (Zag (Za2 rfl) (Zag (Za2 rfl) passL_nil')))) cA) (Za.f (h:=(by cases a2<;>cases a0<;>cases ar<;>cases aq<;>kernel_rfl)))))))))) (by cases a2<;>cases a0<;>cases ar<;>cases aq<;>kernel_rfl) ?_
   refine bn (tq ?_)
   refine rgS ⟨[(1,.loc 1 0),(2,.loc 2 0),(3,iv (w64 (1+(w64 ((Int.tmod a0_.Bridges 6)))))),(5,.loc 5 0),(10,iv (w64 (a9+2)))],[(1,(ZA a0_)),(2,[iv 0,s_eB true [],Ze true []]),(5,[iv b2.Nodes,bT,bS])],ct⟩ Za.f (by cases ar<;>cases aq<;>kernel_rfl) ?_
   obtain rfl:=Zb h
   exact ⟨_,rfl,⟨bT,bS,ct,(by show _=_;cases ar<;>cases aq<;>kernel_rfl),(HP.pick hH [0,1] rfl)⟩⟩
  refine kq (xq ?_)
  refine tx ?_
  obtain rfl:=Zb h
  exact ⟨_,rfl,rfl,⟨ai,ag,aA,(by show _=_;cases a2<;>cases a0<;>kernel_rfl),(HP.pick hH [0,1] rfl)⟩⟩
 rintro e s hq
 obtain ⟨rfl,hR⟩:=hq
 obtain ⟨aI,aG,bd,rfl,hH⟩:=hR
 replace hH:HP _ [.arr aI 1 true (List.map eB ao.2.1),.arr aG 4 true (List.map Zp ao.2.2)]:=hH
 have av:=ZW (HP.get hH 0 rfl)
 have au:=ZW (HP.get hH 1 rfl)
 refine bx (tq ?_)
 refine sq (rgS ⟨[(2,.loc 2 0)],[(2,[iv ao.1,aI,aG])],bd⟩ (Za.f (h:=(by cases av<;>cases au<;>kernel_rfl))) (by cases av<;>cases au<;>kernel_rfl) ?_)
 refine tq (rt ?_)
 obtain rfl:=Zb h
 exact Zd6 (H:=bd) (ys:=[.agg [iv ao.1,aI,aG]]) (xs:=[.agg [iv ao.1,.p (.sl 1 false (List.map eB ao.2.1)),.p (.sl 4 false (List.map Zp ao.2.2))]]) (by cases av<;>cases au<;>kernel_rfl) (by cases av<;>cases au<;>kernel_rfl) (ZaJ (Zkt (Zbg rfl (Zbg (HP.pure (k:=0) (frz:=true) eB hH rfl).1 (Zbg (HP.pure (k:=1) (frz:=true) Zp hH rfl).1 Zkv)))) ZbJ) kr
theorem ZgX (N:Nat) (a0_:ZaB) (a1_:Zh) (a2_:Int) (r:Zj × Bool) (h:Zb1 N a0_ a1_ a2_=some r):Zac Tryz.prog 17 [.agg (ZJ a0_),.agg (Zc a1_),iv a2_] (.tup [.agg [iv r.1.Id,iv r.1.Talker,iv r.1.Listener,iv r.1.Class,iv r.1.Size,iv r.1.Period,iv r.1.Bucket.Burst,iv r.1.Bucket.Rate,iv r.1.Deadline,Zn false r.1.Routes],bv r.2]):=by
 unfold Zb1 at h
 have hH:HP ([]:List HO) []:=trivial
 refine ZD chk17 rfl rfl (Zt _ _ _ ?_) rfl
 refine sq (rgS ⟨[(2,iv a2_),(3,.loc 3 0),(4,.loc 4 0),(6,.loc 6 0)],[(3,(ZJ a0_)),(4,(Zc a1_)),(6,[iv 0,iv 0,iv 0,iv 0,iv 0,iv 0,iv 0,iv 0,iv 0,Zn true []])],[]⟩ Za.f kr ?_)
 refine tq (sq ?_)
 obtain ⟨m1,hm1,h⟩:=bs h
 refine rgS ⟨[(2,iv a2_),(3,.loc 3 0),(4,.loc 4 0),(6,.loc 6 0),(8,iv m1)],[(3,(ZJ a0_)),(4,(Zc a1_)),(6,[iv 0,iv 0,iv 0,iv 0,iv 0,iv 0,iv 0,iv 0,iv 0,Zn true []])],[]⟩ (Za.u 5 (Zm (ys:=[iv (w64 (a0_.Node)),iv a1_.Nodes]) (h:=Zce hm1)) Za.f) kr ?_
 refine tq (sq ?_)
 refine sq (rgS ⟨[(2,iv a2_),(3,.loc 3 0),(4,.loc 4 0),(6,.loc 6 0),(8,iv m1),(9,iv 0)],[(3,(ZJ a0_)),(4,(Zc a1_)),(6,[iv 0,iv 0,iv 0,iv 0,iv 0,iv 0,iv 0,iv 0,iv 0,Zn true []])],[]⟩ Za.f kr ?_)
 refine tq (bk ?_)
 obtain ⟨a4,aK,h⟩:=bs h
 refine ZS ((ZL (fun (x:Int × Int) s=>s=⟨[(2,iv a2_),(3,.loc 3 0),(4,.loc 4 0),(6,.loc 6 0),(8,iv x.1),(9,iv x.2)],[(3,(ZJ a0_)),(4,(Zc a1_)),(6,[iv 0,iv 0,iv 0,iv 0,iv 0,iv 0,iv 0,iv 0,iv 0,Zn true []])],[]⟩) (fun x:Int × Int=>Za1 N a1_ x.1 x.2) (fun (p:Int) e s=>e = .exit 0∧(s=⟨[(2,iv a2_),(3,.loc 3 0),(4,.loc 4 0),(6,.loc 6 0),(8,iv p)],[(3,(ZJ a0_)),(4,(Zc a1_)),(6,[iv 0,iv 0,iv 0,iv 0,iv 0,iv 0,iv 0,iv 0,iv 0,Zn true []])],[]⟩)) ?_ N _ a4 _ aK (by show _=_;kernel_rfl)).mono ?_)
 ·clear h aK
  rintro ⟨i2,i3⟩ o s h hR
  obtain rfl:=hR
  replace h:Za1 N a1_ i2 i3=some o:=h
  unfold Za1 at h
  refine sq (sq ?_)
  obtain ⟨bI,hj,h⟩:=bs h
  refine rgR (fun s=>s=⟨[(2,iv a2_),(3,.loc 3 0),(4,.loc 4 0),(6,.loc 6 0),(8,iv i2),(9,iv i3),(31,bv bI)],[(3,(ZJ a0_)),(4,(Zc a1_)),(6,[iv 0,iv 0,iv 0,iv 0,iv 0,iv 0,iv 0,iv 0,iv 0,Zn true []])],[]⟩) ?_ ?_
  ·clear h
   rcases Zz hj with ⟨bC,hj⟩ | ⟨bB,hj⟩
   ·refine (EP.u 3 (Zi (c:=(decide (i3<a1_.Nodes))) (h:=bC)) ?_)
    obtain ⟨bG,aQ,hj⟩:=bs hj
    obtain rfl:=Zb hj
    exact (EP.u 4 (Zm (ys:=[s_eB false a1_.Station,iv i2]) (h:=Zk eB aQ)) (EP.u 0 (Zu (sz:=1) (off:=0) (cs:=[.bool bG]) (r:=bv bG) eB aQ) (EP.f (by show _=_;kernel_rfl))))
   obtain rfl:=Zb hj
   exact (EP.u 3 (Zi (c:=(decide (i3<a1_.Nodes))) (h:=bB)) (EP.f (by show _=_;kernel_rfl)))
  clear hj
  rintro s hR
  obtain rfl:=hR
  refine tq (it h (fun bA h => ?_) (fun bA h => ?_))
  ·refine sk (tq ?_)
   refine kq (sq ?_)
   refine bk ?_
   obtain ⟨bj,bz,h⟩:=bs h
   refine rgS ⟨[(2,iv a2_),(3,.loc 3 0),(4,.loc 4 0),(6,.loc 6 0),(8,iv bj),(9,iv i3)],[(3,(ZJ a0_)),(4,(Zc a1_)),(6,[iv 0,iv 0,iv 0,iv 0,iv 0,iv 0,iv 0,iv 0,iv 0,Zn true []])],[]⟩ (Za.u 4 (Zm (ys:=[iv (w64 (i2+1)),iv a1_.Nodes]) (h:=Zce bz)) Za.f) kr ?_
   refine bn (tq ?_)
   refine rgS ⟨[(2,iv a2_),(3,.loc 3 0),(4,.loc 4 0),(6,.loc 6 0),(8,iv bj),(9,iv (w64 (i3+1)))],[(3,(ZJ a0_)),(4,(Zc a1_)),(6,[iv 0,iv 0,iv 0,iv 0,iv 0,iv 0,iv 0,iv 0,iv 0,Zn true []])],[]⟩ Za.f kr ?_
   obtain rfl:=Zb h
   exact ⟨_,rfl,(by show _=_;kernel_rfl)⟩
  refine kq (xq ?_)
  refine tx ?_
  obtain rfl:=Zb h
  exact ⟨_,rfl,rfl,(by show _=_;kernel_rfl)⟩
 rintro e s hq
 obtain ⟨rfl,hR⟩:=hq
 obtain rfl:=hR
 refine bx (tq ?_)
 refine sq ?_
 obtain ⟨a2,bw,h⟩:=bs h
 refine rgS ⟨[(2,iv a2_),(3,.loc 3 0),(4,.loc 4 0),(6,.loc 6 0),(8,iv a4),(10,ZmE 1 eI64 a2)],[(3,(ZJ a0_)),(4,(Zc a1_)),(6,[iv 0,iv 0,iv 0,iv 0,iv 0,iv 0,iv 0,iv 0,iv 0,Zn true []])],[]⟩ (Za.v 5 (Zw (hc:=Zif N a1_ (IntKind.u8.wrap (a4)) a0_.Way a2 bw)) Za.f) kr ?_
 refine tq (sq ?_)
 refine sq ?_
 rcases Zz h with ⟨an,h⟩ | ⟨an,h⟩
 ·rw [Znx an]
  show vc _ _ _ _ ⟨[(2,iv a2_),(3,.loc 3 0),(4,.loc 4 0),(6,.loc 6 0),(8,iv a4),(10,.nl .nilSl)],[(3,(ZJ a0_)),(4,(Zc a1_)),(6,[iv 0,iv 0,iv 0,iv 0,iv 0,iv 0,iv 0,iv 0,iv 0,Zn true []])],[]⟩
  refine rgS ⟨[(2,iv a2_),(3,.loc 3 0),(4,.loc 4 0),(6,.loc 6 0),(8,iv a4),(10,.nl .nilSl),(46,bv true)],[(3,(ZJ a0_)),(4,(Zc a1_)),(6,[iv 0,iv 0,iv 0,iv 0,iv 0,iv 0,iv 0,iv 0,iv 0,Zn true []])],[]⟩ Za.f kr ?_
  refine tq (Zd1 kr ?_)
  refine sq (rgS ⟨[(6,.loc 6 0),(7,bv false)],[(6,[iv 0,iv 0,iv 0,iv 0,iv 0,iv 0,iv 0,iv 0,iv 0,Zn true []])],[]⟩ Za.f kr ?_)
  refine tq (rt ?_)
  refine tr ?_
  obtain rfl:=Zb h
  exact Zx kr
 rw [ZmD an]
 show vc _ _ _ _ ⟨[(2,iv a2_),(3,.loc 3 0),(4,.loc 4 0),(6,.loc 6 0),(8,iv a4),(10,Zg false a2)],[(3,(ZJ a0_)),(4,(Zc a1_)),(6,[iv 0,iv 0,iv 0,iv 0,iv 0,iv 0,iv 0,iv 0,iv 0,Zn true []])],[]⟩
 refine rgS ⟨[(2,iv a2_),(3,.loc 3 0),(4,.loc 4 0),(6,.loc 6 0),(8,iv a4),(10,Zg false a2),(46,bv false)],[(3,(ZJ a0_)),(4,(Zc a1_)),(6,[iv 0,iv 0,iv 0,iv 0,iv 0,iv 0,iv 0,iv 0,iv 0,Zn true []])],[]⟩ (Za.u 1 (Zm (ys:=[Zg false a2]) (h:=Zj2 (neg:=false) an)) Za.f) kr ?_
 refine tq (ZjN kr ?_)
 refine sk (tq ?_)
 refine kq (sq ?_)
 obtain ⟨bf,aM,h⟩:=bs h
 obtain ⟨a5,bu,h⟩:=bs h
 obtain ⟨be,aL,h⟩:=bs h
 obtain ⟨a3,bt,h⟩:=bs h
 obtain ⟨ad,ai,bD,bE,hH⟩:=HP.lit 1 [a2] (eSl 1 eI64) hH
 replace hH:HP _ [.arr ad 1 false (List.map (eSl 1 eI64) [a2])]:=hH
 have a7:=ZW (HP.get hH 0 rfl)
 refine rqS ⟨[(3,.loc 3 0),(4,.loc 4 0),(6,.loc 6 0),(8,iv a4),(10,Zg false a2),(11,.loc 11 0)],[(3,(ZJ a0_)),(4,(Zc a1_)),(6,[iv 0,iv 0,iv 0,iv 0,iv 0,iv 0,iv 0,iv 0,iv 0,Zn true []]),(11,[iv a2_,iv a5,iv a3,iv 0,iv (w64 (84+(w64 (a0_.Size)))),iv 0,iv 0,iv 0,iv 1099511627776,ad])],ai⟩ (Za.u 3 (Zm (ys:=[Zg false a2,iv 0]) (h:=Zk eI64 aM)) (Za.u 0 (ZN (Zu (sz:=1) (off:=0) (cs:=[.int .i64 bf]) (r:=iv bf) eI64 aM)) (Za.u 0 (ZaK (hc:=Zcv N a1_ bf a5 bu)) (Za.u 3 (Zm (ys:=[Zg false a2]) (h:=Zr eI64)) (Za.u 1 (Zm (ys:=[Zg false a2,iv (w64 (((List.length a2:Nat):Int) - 1))]) (h:=Zk eI64 aL)) (Za.u 0 (ZN (Zu (sz:=1) (off:=0) (cs:=[.int .i64 be]) (r:=iv be) eI64 aL)) (Za.u 0 (ZaK (hc:=ZcZ N a1_ be a3 bt)) (Za.h 5 (Zmj (H:=[]) (ys:=[Zg false a2]) (rows:=(List.map (eSl 1 eI64) [a2])) kr kr kr bD bE) (Za.f (h:=(by cases a7<;>kernel_rfl))))))))))) (by cases a7<;>kernel_rfl) ?_
 refine tq ?_
 obtain ⟨a0,ay,h⟩:=bs h
 refine Zc6 [3,4,6,8,10,11] (fun s=>s=⟨[(3,.loc 3 0),(4,.loc 4 0),(6,.loc 6 0),(8,iv a4),(10,Zg false a2),(11,.loc 11 0)],[(3,(ZJ a0_)),(4,(Zc a1_)),(6,[iv 0,iv 0,iv 0,iv 0,iv 0,iv 0,iv 0,iv 0,iv 0,Zn true []]),(11,[iv a2_,iv a5,iv a3,iv a0.1,iv (w64 (84+(w64 (a0_.Size)))),iv a0.2.1,iv a0.2.2.1,iv a0.2.2.2,iv 1099511627776,ad])],ai⟩) ?_ ?_
 ·clear h
  have h:=ay
  refine sq (rgS ⟨[(3,.loc 3 0),(4,.loc 4 0),(6,.loc 6 0),(8,iv a4),(10,Zg false a2),(11,.loc 11 0),(70,bv a0_.Reserved)],[(3,(ZJ a0_)),(4,(Zc a1_)),(6,[iv 0,iv 0,iv 0,iv 0,iv 0,iv 0,iv 0,iv 0,iv 0,Zn true []]),(11,[iv a2_,iv a5,iv a3,iv 0,iv (w64 (84+(w64 (a0_.Size)))),iv 0,iv 0,iv 0,iv 1099511627776,ad])],ai⟩ Za.f (by cases a7<;>kernel_rfl) ?_)
  refine tq (it h (fun bc h => ?_) (fun bc h => ?_))
  ·refine sq (rgS ⟨[(3,.loc 3 0),(4,.loc 4 0),(6,.loc 6 0),(8,iv a4),(10,Zg false a2),(11,.loc 11 0)],[(3,(ZJ a0_)),(4,(Zc a1_)),(6,[iv 0,iv 0,iv 0,iv 0,iv 0,iv 0,iv 0,iv 0,iv 0,Zn true []]),(11,[iv a2_,iv a5,iv a3,iv 6,iv (w64 (84+(w64 (a0_.Size)))),iv 0,iv 0,iv 0,iv 1099511627776,ad])],ai⟩ Za.f (by cases a7<;>kernel_rfl) ?_)
   refine tq (rgS ⟨[(3,.loc 3 0),(4,.loc 4 0),(6,.loc 6 0),(8,iv a4),(10,Zg false a2),(11,.loc 11 0)],[(3,(ZJ a0_)),(4,(Zc a1_)),(6,[iv 0,iv 0,iv 0,iv 0,iv 0,iv 0,iv 0,iv 0,iv 0,Zn true []]),(11,[iv a2_,iv a5,iv a3,iv 6,iv (w64 (84+(w64 (a0_.Size)))),iv 0,iv (w64 ((w64 (84+(w64 (a0_.Size))))+(w64 (4 * (w64 (a0_.Burst)))))),iv (w64 (1+(w64 (a0_.Rate)))),iv 1099511627776,ad])],ai⟩ (Za.f (h:=(by cases a7<;>kernel_rfl))) (by cases a7<;>kernel_rfl) ?_)
   obtain rfl:=Zb h
   exact ⟨rfl,(by show _=_;cases a7<;>kernel_rfl)⟩
  refine sq (rgS ⟨[(3,.loc 3 0),(4,.loc 4 0),(6,.loc 6 0),(8,iv a4),(10,Zg false a2),(11,.loc 11 0)],[(3,(ZJ a0_)),(4,(Zc a1_)),(6,[iv 0,iv 0,iv 0,iv 0,iv 0,iv 0,iv 0,iv 0,iv 0,Zn true []]),(11,[iv a2_,iv a5,iv a3,iv 7,iv (w64 (84+(w64 (a0_.Size)))),iv 0,iv 0,iv 0,iv 1099511627776,ad])],ai⟩ Za.f (by cases a7<;>kernel_rfl) ?_)
  refine tq ?_
  obtain ⟨aC,aA,h⟩:=bs h
  refine rgS ⟨[(3,.loc 3 0),(4,.loc 4 0),(6,.loc 6 0),(8,iv a4),(10,Zg false a2),(11,.loc 11 0)],[(3,(ZJ a0_)),(4,(Zc a1_)),(6,[iv 0,iv 0,iv 0,iv 0,iv 0,iv 0,iv 0,iv 0,iv 0,Zn true []]),(11,[iv a2_,iv a5,iv a3,iv 7,iv (w64 (84+(w64 (a0_.Size)))),iv aC,iv 0,iv 0,iv 1099511627776,ad])],ai⟩ (Za.u 4 (Zm (ys:=[Zg true [4,6,8,12,16,24,48,10,5,240],.p (.int .u8 (Int.tmod a0_.Period 10))]) (h:=Zk eI64 aA)) (Za.u 0 (Zu (sz:=1) (off:=0) (cs:=[.int .i64 aC]) (r:=iv aC) eI64 aA) Za.f)) (by cases a7<;>kernel_rfl) ?_
  obtain rfl:=Zb h
  exact ⟨rfl,(by show _=_;cases a7<;>kernel_rfl)⟩
 clear ay
 rintro s hR
 obtain rfl:=hR
 refine sq (sq ?_)
 refine rgS ⟨[(3,.loc 3 0),(4,.loc 4 0),(6,.loc 6 0),(8,iv a4),(10,Zg false a2),(11,.loc 11 0),(12,iv 0)],[(3,(ZJ a0_)),(4,(Zc a1_)),(6,[iv 0,iv 0,iv 0,iv 0,iv 0,iv 0,iv 0,iv 0,iv 0,Zn true []]),(11,[iv a2_,iv a5,iv a3,iv a0.1,iv (w64 (84+(w64 (a0_.Size)))),iv a0.2.1,iv a0.2.2.1,iv a0.2.2.2,iv 1099511627776,ad])],ai⟩ Za.f (by cases a7<;>kernel_rfl) ?_
 refine tq (bk ?_)
 obtain ⟨aj,aw,h⟩:=bs h
 refine ZS ((ZL (fun (x:Int × (List (List Int))) s=>∃ (a6:AV) (aa:List HO),s=⟨[(3,.loc 3 0),(4,.loc 4 0),(6,.loc 6 0),(8,iv a4),(10,Zg false a2),(11,.loc 11 0),(12,iv x.1)],[(3,(ZJ a0_)),(4,(Zc a1_)),(6,[iv 0,iv 0,iv 0,iv 0,iv 0,iv 0,iv 0,iv 0,iv 0,Zn true []]),(11,[iv a2_,iv a5,iv a3,iv a0.1,iv (w64 (84+(w64 (a0_.Size)))),iv a0.2.1,iv a0.2.2.1,iv a0.2.2.2,iv 1099511627776,a6])],aa⟩∧HP aa [.arr a6 1 false (List.map (eSl 1 eI64) x.2)]) (fun x:Int × (List (List Int))=>Za0 N a0_ a1_ a4 a2 a3 x.1 x.2) (fun (p:(List (List Int))) e s=>e = .exit 2∧(∃ (ac:AV) (ao:List HO),s=⟨[(4,.loc 4 0),(6,.loc 6 0),(11,.loc 11 0)],[(4,(Zc a1_)),(6,[iv 0,iv 0,iv 0,iv 0,iv 0,iv 0,iv 0,iv 0,iv 0,Zn true []]),(11,[iv a2_,iv a5,iv a3,iv a0.1,iv (w64 (84+(w64 (a0_.Size)))),iv a0.2.1,iv a0.2.2.1,iv a0.2.2.2,iv 1099511627776,ac])],ao⟩∧HP ao [.arr ac 1 false (List.map (eSl 1 eI64) p)])) ?_ N _ aj _ aw ⟨ad,ai,(by show _=_;cases a7<;>kernel_rfl),(HP.pick hH [0] rfl)⟩).mono ?_)
 ·clear h aw
  rintro ⟨a9,aq⟩ o s h hR
  obtain ⟨a6,aa,rfl,hH⟩:=hR
  replace hH:HP _ [.arr a6 1 false (List.map (eSl 1 eI64) aq)]:=hH
  have a1:=ZW (HP.get hH 0 rfl)
  replace h:Za0 N a0_ a1_ a4 a2 a3 a9 aq=some o:=h
  unfold Za0 at h
  refine sq (sq ?_)
  obtain ⟨bp,hj,h⟩:=bs h
  refine rgR (fun s=>s=⟨[(3,.loc 3 0),(4,.loc 4 0),(6,.loc 6 0),(8,iv a4),(10,Zg false a2),(11,.loc 11 0),(12,iv a9),(104,bv bp)],[(3,(ZJ a0_)),(4,(Zc a1_)),(6,[iv 0,iv 0,iv 0,iv 0,iv 0,iv 0,iv 0,iv 0,iv 0,Zn true []]),(11,[iv a2_,iv a5,iv a3,iv a0.1,iv (w64 (84+(w64 (a0_.Size)))),iv a0.2.1,iv a0.2.2.1,iv a0.2.2.2,iv 1099511627776,a6])],aa⟩) ?_ ?_
  ·clear h
   rcases Zz hj with ⟨bb,hj⟩ | ⟨b1,hj⟩
   ·refine (EP.u 1 (Zi (c:=(decide (a9<24))) (h:=bb)) ?_)
    rcases Zz hj with ⟨ba,hj⟩ | ⟨b2,hj⟩
    ·refine (EP.u 2 (Zow (c:=a0_.Two) kr ba) ?_)
     have aI:=HP.len (k:=0) (a:=a6) (sz:=1) (frz:=false) (l:=aq) (eSl 1 eI64) hH rfl
     obtain rfl:=Zb hj
     exact (EP.u (hm:=(by cases a1<;>kernel_rfl)) 4 (Zm (ys:=[a6]) (by cases a1<;>kernel_rfl) aI) (EP.f (by show _=_;cases a1<;>kernel_rfl) (h:=(by cases a1<;>kernel_rfl))))
    obtain rfl:=Zb hj
    exact (EP.u 2 (Zow (c:=a0_.Two) kr b2) (EP.f (by show _=_;cases a1<;>kernel_rfl)))
   obtain rfl:=Zb hj
   exact (EP.u 1 (Zi (c:=(decide (a9<24))) (h:=b1)) (EP.f (by show _=_;cases a1<;>kernel_rfl)))
  clear hj
  rintro s hR
  obtain rfl:=hR
  refine tq (it h (fun b0 h => ?_) (fun b0 h => ?_))
  ·refine sk (tq ?_)
   refine kq ?_
   obtain ⟨aJ,ax,h⟩:=bs h
   refine Zc6 [3,4,6,8,10,11,12] (fun s=>∃ (ae:AV) (ak:List HO),s=⟨[(3,.loc 3 0),(4,.loc 4 0),(6,.loc 6 0),(8,iv a4),(10,Zg false a2),(11,.loc 11 0),(12,iv a9)],[(3,(ZJ a0_)),(4,(Zc a1_)),(6,[iv 0,iv 0,iv 0,iv 0,iv 0,iv 0,iv 0,iv 0,iv 0,Zn true []]),(11,[iv a2_,iv a5,iv a3,iv a0.1,iv (w64 (84+(w64 (a0_.Size)))),iv a0.2.1,iv a0.2.2.1,iv a0.2.2.2,iv 1099511627776,ae])],ak⟩∧HP ak [.arr ae 1 false (List.map (eSl 1 eI64) aJ)]) ?_ ?_
   ·clear h
    have h:=ax
    refine bk (sq ?_)
    obtain ⟨ab,aV,h⟩:=bs h
    refine rgS ⟨[(3,.loc 3 0),(4,.loc 4 0),(6,.loc 6 0),(8,iv a4),(10,Zg false a2),(11,.loc 11 0),(12,iv a9),(13,ZmE 1 eI64 ab)],[(3,(ZJ a0_)),(4,(Zc a1_)),(6,[iv 0,iv 0,iv 0,iv 0,iv 0,iv 0,iv 0,iv 0,iv 0,Zn true []]),(11,[iv a2_,iv a5,iv a3,iv a0.1,iv (w64 (84+(w64 (a0_.Size)))),iv a0.2.1,iv a0.2.2.1,iv a0.2.2.2,iv 1099511627776,a6])],aa⟩ (Za.v 8 (Zw (hc:=Zif N a1_ (IntKind.u8.wrap (a4)) (IntKind.u8.wrap (a0_.Way+(IntKind.u8.wrap (a9)))) ab aV)) Za.f) (by cases a1<;>kernel_rfl) ?_
    refine tq (sq ?_)
    rcases Zz h with ⟨ag,h⟩ | ⟨ag,h⟩
    ·rw [Znx ag]
     show vc _ _ _ _ ⟨[(3,.loc 3 0),(4,.loc 4 0),(6,.loc 6 0),(8,iv a4),(10,Zg false a2),(11,.loc 11 0),(12,iv a9),(13,.nl .nilSl)],[(3,(ZJ a0_)),(4,(Zc a1_)),(6,[iv 0,iv 0,iv 0,iv 0,iv 0,iv 0,iv 0,iv 0,iv 0,Zn true []]),(11,[iv a2_,iv a5,iv a3,iv a0.1,iv (w64 (84+(w64 (a0_.Size)))),iv a0.2.1,iv a0.2.2.1,iv a0.2.2.2,iv 1099511627776,a6])],aa⟩
     refine rqS ⟨[(3,.loc 3 0),(4,.loc 4 0),(6,.loc 6 0),(8,iv a4),(10,Zg false a2),(11,.loc 11 0),(12,iv a9),(13,.nl .nilSl),(136,bv false)],[(3,(ZJ a0_)),(4,(Zc a1_)),(6,[iv 0,iv 0,iv 0,iv 0,iv 0,iv 0,iv 0,iv 0,iv 0,Zn true []]),(11,[iv a2_,iv a5,iv a3,iv a0.1,iv (w64 (84+(w64 (a0_.Size)))),iv a0.2.1,iv a0.2.2.1,iv a0.2.2.2,iv 1099511627776,a6])],aa⟩ Za.f (by cases a1<;>kernel_rfl) ?_
     refine tq (ZjN kr ?_)
     refine sk (bn ?_)
     obtain rfl:=Zb h
     exact ⟨rfl,⟨a6,aa,(by show _=_;cases a1<;>kernel_rfl),(HP.pick hH [0] rfl)⟩⟩
    rw [ZmD ag]
    show vc _ _ _ _ ⟨[(3,.loc 3 0),(4,.loc 4 0),(6,.loc 6 0),(8,iv a4),(10,Zg false a2),(11,.loc 11 0),(12,iv a9),(13,Zg false ab)],[(3,(ZJ a0_)),(4,(Zc a1_)),(6,[iv 0,iv 0,iv 0,iv 0,iv 0,iv 0,iv 0,iv 0,iv 0,Zn true []]),(11,[iv a2_,iv a5,iv a3,iv a0.1,iv (w64 (84+(w64 (a0_.Size)))),iv a0.2.1,iv a0.2.2.1,iv a0.2.2.2,iv 1099511627776,a6])],aa⟩
    obtain ⟨bm,hj,h⟩:=bs h
    refine rqR (fun s=>s=⟨[(3,.loc 3 0),(4,.loc 4 0),(6,.loc 6 0),(8,iv a4),(10,Zg false a2),(11,.loc 11 0),(12,iv a9),(13,Zg false ab),(136,bv bm)],[(3,(ZJ a0_)),(4,(Zc a1_)),(6,[iv 0,iv 0,iv 0,iv 0,iv 0,iv 0,iv 0,iv 0,iv 0,Zn true []]),(11,[iv a2_,iv a5,iv a3,iv a0.1,iv (w64 (84+(w64 (a0_.Size)))),iv a0.2.1,iv a0.2.2.1,iv a0.2.2.2,iv 1099511627776,a6])],aa⟩) ?_ ?_
    ·clear h
     refine (EP.u 1 (Zm (ys:=[Zg false ab]) (h:=Zj2 (neg:=true) ag)) (EP.u 4 (Zm (ys:=[Zg false ab]) (h:=Zr eI64)) ?_))
     obtain ⟨aB,az,hj⟩:=bs hj
     refine (EP.u 1 (Zm (ys:=[Zg false ab,iv (w64 (((List.length ab:Nat):Int) - 1))]) (h:=Zk eI64 az)) (EP.u 0 (ZN (Zu (sz:=1) (off:=0) (cs:=[.int .i64 aB]) (r:=iv aB) eI64 az)) ?_))
     obtain ⟨ap,aU,hj⟩:=bs hj
     refine (EP.u 0 (ZaK (hc:=ZcZ N a1_ aB ap aU)) ?_)
     rcases Zz hj with ⟨aZ,hj⟩ | ⟨aY,hj⟩
     ·refine (EP.u (hm:=(by cases a1<;>kernel_rfl)) 2 (Zi (c:=(ap==a3)) (by cases a1<;>kernel_rfl) aZ) ?_)
      obtain ⟨bi,aT,hj⟩:=bs hj
      obtain rfl:=Zb hj
      exact (EP.u (hm:=(by cases a1<;>kernel_rfl)) 5 (ZaK (by cases a1<;>kernel_rfl) (ZfG N a1_ a2 ab bi aT)) (EP.f (by show _=_;cases a1<;>kernel_rfl) (h:=(by cases a1<;>kernel_rfl))))
     obtain rfl:=Zb hj
     exact (EP.u (hm:=(by cases a1<;>kernel_rfl)) 2 (Zi (c:=(ap==a3)) (by cases a1<;>kernel_rfl) aY) (EP.f (by show _=_;cases a1<;>kernel_rfl) (h:=(by cases a1<;>kernel_rfl))))
    clear hj
    rintro s hR
    obtain rfl:=hR
    refine tq (it h (fun aX h => ?_) (fun aX h => ?_))
    ·obtain ⟨bl,aW,h⟩:=bs h
     obtain ⟨aD,aR,bd,hH⟩:=HP.app (k:=0) (a:=a6) (sz:=1) (frz:=false) (eSl 1 eI64) hH rfl aW
     replace hH:HP _ [.arr aD 1 false (List.map (eSl 1 eI64) bl)]:=hH
     have af:=ZW (HP.get hH 0 rfl)
     refine rgS ⟨[(3,.loc 3 0),(4,.loc 4 0),(6,.loc 6 0),(8,iv a4),(10,Zg false a2),(11,.loc 11 0),(12,iv a9)],[(3,(ZJ a0_)),(4,(Zc a1_)),(6,[iv 0,iv 0,iv 0,iv 0,iv 0,iv 0,iv 0,iv 0,iv 0,Zn true []]),(11,[iv a2_,iv a5,iv a3,iv a0.1,iv (w64 (84+(w64 (a0_.Size)))),iv a0.2.1,iv a0.2.2.1,iv a0.2.2.2,iv 1099511627776,aD])],aR⟩ (Za.h (hm:=(by cases a1<;>kernel_rfl)) 4 (Ze1 (H:=aa) (a:=a6) (b:=Zn true [ab]) (by cases a1<;>kernel_rfl) (by cases a1<;>kernel_rfl) (by cases a1<;>kernel_rfl) (by cases a1<;>kernel_rfl) bd) (Za.f (h:=(by cases a1<;>cases af<;>kernel_rfl)))) (by cases a1<;>cases af<;>kernel_rfl) ?_
     refine bn ?_
     obtain rfl:=Zb h
     exact ⟨rfl,⟨aD,aR,(by show _=_;cases af<;>kernel_rfl),(HP.pick hH [0] rfl)⟩⟩
    refine sk (bn ?_)
    obtain rfl:=Zb h
    exact ⟨rfl,⟨a6,aa,(by show _=_;cases a1<;>kernel_rfl),(HP.pick hH [0] rfl)⟩⟩
   clear ax
   rintro s hR
   obtain ⟨ae,ak,rfl,hH⟩:=hR
   replace hH:HP _ [.arr ae 1 false (List.map (eSl 1 eI64) aJ)]:=hH
   have am:=ZW (HP.get hH 0 rfl)
   refine rgS ⟨[(3,.loc 3 0),(4,.loc 4 0),(6,.loc 6 0),(8,iv a4),(10,Zg false a2),(11,.loc 11 0),(12,iv (w64 (a9+1)))],[(3,(ZJ a0_)),(4,(Zc a1_)),(6,[iv 0,iv 0,iv 0,iv 0,iv 0,iv 0,iv 0,iv 0,iv 0,Zn true []]),(11,[iv a2_,iv a5,iv a3,iv a0.1,iv (w64 (84+(w64 (a0_.Size)))),iv a0.2.1,iv a0.2.2.1,iv a0.2.2.2,iv 1099511627776,ae])],ak⟩ Za.f (by cases am<;>kernel_rfl) ?_
   obtain rfl:=Zb h
   exact ⟨_,rfl,⟨ae,ak,(by show _=_;cases am<;>kernel_rfl),(HP.pick hH [0] rfl)⟩⟩
  refine kq (xq ?_)
  refine tx ?_
  obtain rfl:=Zb h
  exact ⟨_,rfl,rfl,⟨a6,aa,(by show _=_;cases a1<;>kernel_rfl),(HP.pick hH [0] rfl)⟩⟩
 rintro e s hq
 obtain ⟨rfl,hR⟩:=hq
 obtain ⟨ac,ao,rfl,hH⟩:=hR
 replace hH:HP _ [.arr ac 1 false (List.map (eSl 1 eI64) aj)]:=hH
 have a8:=ZW (HP.get hH 0 rfl)
 refine bx (tq ?_)
 refine sq ?_
 obtain ⟨aE,ar,au,bq,hH⟩:=HP.frzd (k:=0) (a:=ac) (sz:=1) (frz:=false) (eSl 1 eI64) hH rfl
 replace hH:HP _ [.arr ac 1 true (List.map (eSl 1 eI64) aj)]:=hH
 have aG:=Zrg a8 ar
 have av:=au
 obtain ⟨al,aS,h⟩:=bs h
 refine rfS ⟨[(6,.loc 6 0),(7,bv al)],[(6,[iv a2_,iv a5,iv a3,iv a0.1,iv (w64 (84+(w64 (a0_.Size)))),iv a0.2.1,iv a0.2.2.1,iv a0.2.2.2,iv 1099511627776,ac])],aE⟩ (Zqo (H:=ao) (a:=.agg [iv a2_,iv a5,iv a3,iv a0.1,iv (w64 (84+(w64 (a0_.Size)))),iv a0.2.1,iv a0.2.2.1,iv a0.2.2.2,iv 1099511627776,ac]) kr kr (ZoQ (Zck rfl (Zck rfl (Zck rfl (Zck rfl (Zck rfl (Zck rfl (Zck rfl (Zck rfl (Zck rfl (Zck aG ZoR))))))))))) Zre) (Za.u (hm:=(by cases a8<;>kernel_rfl)) 3 (ZqV (H:=aE) (ys:=[.agg (Zc a1_),.agg [iv a2_,iv a5,iv a3,iv a0.1,iv (w64 (84+(w64 (a0_.Size)))),iv a0.2.1,iv a0.2.2.1,iv a0.2.2.2,iv 1099511627776,ac]]) (by cases a8<;>kernel_rfl) (by cases a8<;>kernel_rfl) (Zn0 (Zo2 (Zco rfl (Zco rfl (Zco rfl Zo3)))) (Zn0 (Zo2 (Zco rfl (Zco rfl (Zco rfl (Zco rfl (Zco rfl (Zco rfl (Zco rfl (Zco rfl (Zco rfl (Zco av Zo3))))))))))) Zrt)) (Zlo N a1_ (Zj.mk a2_ a5 a3 a0.1 (w64 (84+(w64 (a0_.Size)))) a0.2.1 (Zdj.mk a0.2.2.1 a0.2.2.2) 1099511627776 aj) al aS)) (Za.f (h:=(by cases a8<;>kernel_rfl)))) (by cases a8<;>kernel_rfl) ?_
 refine tq (rt ?_)
 obtain rfl:=Zb h
 exact Zd6 (H:=aE) (ys:=[.agg [iv a2_,iv a5,iv a3,iv a0.1,iv (w64 (84+(w64 (a0_.Size)))),iv a0.2.1,iv a0.2.2.1,iv a0.2.2.2,iv 1099511627776,ac],bv al]) (xs:=[.agg [iv a2_,iv a5,iv a3,iv a0.1,iv (w64 (84+(w64 (a0_.Size)))),iv a0.2.1,iv a0.2.2.1,iv a0.2.2.2,iv 1099511627776,.p (.sl 1 false (List.map (eSl 1 eI64) aj))],bv al]) (by cases a8<;>kernel_rfl) (by cases a8<;>kernel_rfl) (ZaJ (Zkt (Zbg rfl (Zbg rfl (Zbg rfl (Zbg rfl (Zbg rfl (Zbg rfl (Zbg rfl (Zbg rfl (Zbg rfl (Zbg (HP.pure (k:=0) (frz:=true) (eSl 1 eI64) hH rfl).1 Zkv))))))))))) (ZaJ rfl ZbJ)) kr
theorem Zgj (N:Nat) (a0_:(List Int)) (r:Int × Int) (h:ZdG N a0_=some r):Zac Tryz.prog 34 [Zg false a0_] (.tup [iv r.1,iv r.2]):=by
 unfold ZdG at h
 have hH:HP ([]:List HO) []:=trivial
 refine ZD chk34 rfl rfl (Zt _ _ _ ?_) rfl
 refine sq (rg Za.f ?_)
 refine tq (sq ?_)
 obtain ⟨l3,hl3,h⟩:=bs h
 obtain ⟨a1,H2,ha1,hH2,ha1b,hH⟩:=HP.make Zax hH hl3
 replace hH:HP _ [.arr a1 3 false (List.map Zax l3)]:=hH
 have hfa1:=ZW (HP.get hH 0 rfl)
 refine rgS ⟨[(0,Zg false a0_),(4,a1)],[],H2⟩ (Za.u 1 (Zm (ys:=[Zg false a0_]) (h:=Zr eI64)) (Za.h 0 (Zkf (H:=[]) (zero:=[.int .i64 0,.int .i64 0,.int .i64 0]) (bytes:=24) kr kr kr ha1 hH2 ha1b) Za.f)) (by cases hfa1<;>kernel_rfl) ?_
 refine tq (sq ?_)
 refine sq (rgS ⟨[(4,a1),(10,Zg false a0_),(11,iv ((List.length a0_:Nat):Int)),(12,iv 0)],[],H2⟩ (Za.u 1 (Zm (ys:=[Zg false a0_]) (h:=Zr eI64)) Za.f) (by cases hfa1<;>kernel_rfl) ?_)
 refine tq (bk ?_)
 obtain ⟨a5,ab,h⟩:=bs h
 refine ZS ((ZL (fun (x:Int × (List ZF)) s=>∃ (a4:AV) (H5:List HO),s=⟨[(4,a4),(10,Zg false a0_),(11,iv ((List.length a0_:Nat):Int)),(12,iv x.1)],[],H5⟩∧HP H5 [.arr a4 3 false (List.map Zax x.2)]) (fun x:Int × (List ZF)=>Zcy N a0_ x.1 x.2) (fun (p:(List ZF)) e s=>e = .exit 0∧(∃ (a2:AV) (aa:List HO),s=⟨[(4,a2)],[],aa⟩∧HP aa [.arr a2 3 false (List.map Zax p)])) ?_ N _ a5 _ ab ⟨a1,H2,(by show _=_;cases hfa1<;>kernel_rfl),(HP.pick hH [0] rfl)⟩).mono ?_)
 ·clear h ab
  rintro ⟨i6,l7⟩ o s h hR
  obtain ⟨a4,H5,rfl,hH⟩:=hR
  replace hH:HP _ [.arr a4 3 false (List.map Zax l7)]:=hH
  have hfa4:=ZW (HP.get hH 0 rfl)
  replace h:Zcy N a0_ i6 l7=some o:=h
  unfold Zcy at h
  refine sq (rgS ⟨[(4,a4),(10,Zg false a0_),(11,iv ((List.length a0_:Nat):Int)),(12,iv i6),(13,bv (decide (i6<((List.length a0_:Nat):Int))))],[],H5⟩ Za.f (by cases hfa4<;>kernel_rfl) ?_)
  refine tq (sq ?_)
  refine it h (fun aj h => ?_) (fun aj h => ?_)
  ·refine sk (tq ?_)
   refine kq (sq ?_)
   refine bk (sq ?_)
   obtain ⟨a0,ad,h⟩:=bs h
   refine rgS ⟨[(4,a4),(5,iv i6),(6,iv a0),(10,Zg false a0_),(11,iv ((List.length a0_:Nat):Int)),(12,iv i6)],[],H5⟩ (Za.u 1 (Zm (ys:=[Zg false a0_,iv i6]) (h:=Zk eI64 ad)) (Za.u 0 (Zu (sz:=1) (off:=0) (cs:=[.int .i64 a0]) (r:=iv a0) eI64 ad) Za.f)) (by cases hfa4<;>kernel_rfl) ?_
   refine tq ?_
   obtain ⟨ap,ac,h⟩:=bs h
   obtain ⟨ao,al,_,a8,af,a9,a7⟩:=HP.elem (k:=0) (a:=a4) (sz:=3) (frz:=false) Zax hH rfl ac
   obtain ⟨ag,ak,hH⟩:=HP.setRow (k:=0) (off:=0) (cs:=[iv a0,iv 0,iv 1]) (ps:=[.int .i64 a0,.int .i64 0,.int .i64 1]) (e':=(ZF.mk a0 0 1)) Zax hH rfl a9 af (a8 rfl) ac kr kr
   replace hH:HP _ [.arr a4 3 false (List.map Zax (List.set l7 (Int.toNat i6) (ZF.mk a0 0 1)))]:=hH
   refine rgS ⟨[(4,a4),(10,Zg false a0_),(11,iv ((List.length a0_:Nat):Int)),(12,iv i6)],[],ag⟩ (Za.u 4 (Zm (ys:=[a4,iv i6]) (by cases hfa4<;>kernel_rfl) (a7 .i64)) (Za.o 0 (Zaw (H:=H5) (v:=.agg [iv a0,iv 0,iv 1]) (hw:=ak)) Za.f)) (by cases hfa4<;>kernel_rfl) ?_
   refine bn (tq ?_)
   refine rgS ⟨[(4,a4),(10,Zg false a0_),(11,iv ((List.length a0_:Nat):Int)),(12,iv (w64 (i6+1)))],[],ag⟩ Za.f (by cases hfa4<;>kernel_rfl) ?_
   obtain rfl:=Zb h
   exact ⟨_,rfl,⟨a4,ag,(by show _=_;cases hfa4<;>kernel_rfl),(HP.pick hH [0] rfl)⟩⟩
  refine kq (xq ?_)
  refine tx ?_
  obtain rfl:=Zb h
  exact ⟨_,rfl,rfl,⟨a4,H5,(by show _=_;cases hfa4<;>kernel_rfl),(HP.pick hH [0] rfl)⟩⟩
 rintro e s hq
 obtain ⟨rfl,hR⟩:=hq
 obtain ⟨a2,aa,rfl,hH⟩:=hR
 replace hH:HP _ [.arr a2 3 false (List.map Zax a5)]:=hH
 have a3:=ZW (HP.get hH 0 rfl)
 refine bx (tq ?_)
 refine sq ?_
 obtain ⟨ae,ai,h⟩:=bs h
 obtain ⟨an,am,a6,hH⟩:=HP.frz (k:=0) (a:=a2) (sz:=3) (frz:=false) Zax hH rfl
 replace hH:HP _ [.arr a2 3 true (List.map Zax a5)]:=hH
 refine rgS ⟨[(2,iv ae.1),(3,iv ae.2)],[],an⟩ (Za.v 1 (Zic (H:=aa) (ys:=[a2]) (by cases a3<;>kernel_rfl) (by cases a3<;>kernel_rfl) (Zew a6 Zis) (ZjE N a5 ae ai)) Za.f) kr ?_
 replace hH:HP _ []:=HP.pick hH [] rfl
 refine tq (rt ?_)
 obtain rfl:=Zb h
 exact Zx kr
theorem Zf5 (N:Nat) (a0_:Zh) (r:Int) (h:Zd2 N a0_=some r):Zac Tryz.prog 44 [.agg (Zc a0_)] (iv r):=by
 unfold Zd2 at h
 have hH:HP ([]:List HO) []:=trivial
 refine ZD chk44 rfl rfl (Zt _ _ _ ?_) rfl
 refine sq (rg Za.f ?_)
 refine tq (sq ?_)
 refine sq (rgX ⟨[(1,.loc 1 0),(23,bv ((decide (a0_.Nodes<2))||((decide (a0_.Nodes > 12))||(((List.length a0_.Station:Nat):Int) != a0_.Nodes))))],[(1,(Zc a0_))],[]⟩ ?_ ?_)
 ·rcases Bool.eq_false_or_eq_true (decide (a0_.Nodes<2)) with hc1 | hc2
  ·exact (EP.u 2 (Zi (c:=(decide (a0_.Nodes<2))) (h:=hc1)) (EP.f (by simp only [hc1];kernel_rfl)))
  refine (EP.u 2 (Zi (c:=(decide (a0_.Nodes<2))) (h:=hc2)) ?_)
  rcases Bool.eq_false_or_eq_true (decide (a0_.Nodes > 12)) with hc3 | hc4
  ·exact (EP.u 3 (Zi (c:=(decide (a0_.Nodes > 12))) (h:=hc3)) (EP.f (by simp only [hc2,hc3];kernel_rfl)))
  exact (EP.u 3 (Zi (c:=(decide (a0_.Nodes > 12))) (h:=hc4)) (EP.u 4 (Zm (ys:=[s_eB false a0_.Station]) (h:=Zr eB)) (EP.f (by simp only [hc2,hc4];kernel_rfl))))
 refine tq (it h (fun hc5 h => ?_) (fun hc5 h => ?_))
 ·refine sq (rg Za.f ?_)
  refine tq (rt ?_)
  refine tr ?_
  obtain rfl:=Zb h
  exact Zx kr
 refine sk (tq ?_)
 refine kq (sq ?_)
 refine sq ?_
 obtain ⟨j9,hj,h⟩:=bs h
 refine rgR (fun s=>s=⟨[(1,.loc 1 0),(32,bv j9)],[(1,(Zc a0_))],[]⟩) ?_ ?_
 ·clear h
  refine (EP.u 2 (Zm (ys:=[Ze false a0_.Links]) (h:=Zr Zp)) ?_)
  rcases Zz hj with ⟨hc6,hj⟩ | ⟨hc7,hj⟩
  ·obtain rfl:=Zb hj
   exact (EP.u 0 (Zi (c:=(decide (((List.length a0_.Links:Nat):Int) > 24))) (h:=hc6)) (EP.f (by show _=_;kernel_rfl)))
  refine (EP.u 0 (Zi (c:=(decide (((List.length a0_.Links:Nat):Int) > 24))) (h:=hc7)) ?_)
  obtain ⟨r8,hr8,hj⟩:=bs hj
  obtain rfl:=Zb hj
  exact (EP.v 2 (Zw (hc:=Zmc N a0_ r8 hr8)) (EP.f (by show _=_;kernel_rfl)))
 clear hj
 rintro s hR
 obtain rfl:=hR
 refine tq (it h (fun bI h => ?_) (fun bI h => ?_))
 ·refine sq (rg Za.f ?_)
  refine tq (rt ?_)
  refine tr ?_
  obtain rfl:=Zb h
  exact Zx kr
 refine sk (tq ?_)
 refine kq (sq ?_)
 obtain ⟨bV,bG,h⟩:=bs h
 obtain ⟨bw,bL,bJ,bK,be,hH⟩:=HP.make eI64 hH bG
 replace hH:HP _ [.arr bw 1 false (List.map eI64 bV)]:=hH
 have ae:=ZW (HP.get hH 0 rfl)
 refine rgS ⟨[(1,.loc 1 0),(3,bw)],[(1,(Zc a0_))],bL⟩ (Za.h 2 (Zkf (H:=[]) (zero:=[.int .i64 0]) (bytes:=8) kr kr kr bJ bK be) Za.f) (by cases ae<;>kernel_rfl) ?_
 refine tq (sq ?_)
 refine sq (rgS ⟨[(1,.loc 1 0),(3,bw),(37,Ze false a0_.Links),(38,iv ((List.length a0_.Links:Nat):Int)),(39,iv 0)],[(1,(Zc a0_))],bL⟩ (Za.u 2 (Zm (ys:=[Ze false a0_.Links]) (h:=Zr Zp)) Za.f) (by cases ae<;>kernel_rfl) ?_)
 refine tq (bk ?_)
 obtain ⟨aj,ay,h⟩:=bs h
 refine ZS ((ZL (fun (x:Int × (List Int)) s=>∃ (a6:AV) (aG:List HO),s=⟨[(1,.loc 1 0),(3,a6),(37,Ze false a0_.Links),(38,iv ((List.length a0_.Links:Nat):Int)),(39,iv x.1)],[(1,(Zc a0_))],aG⟩∧HP aG [.arr a6 1 false (List.map eI64 x.2)]) (fun x:Int × (List Int)=>Zbn N a0_ x.1 x.2) (fun (p:(List Int)) e s=>e = .exit 0∧(∃ (a3:AV) (a4:List HO),s=⟨[(1,.loc 1 0),(3,a3)],[(1,(Zc a0_))],a4⟩∧HP a4 [.arr a3 1 false (List.map eI64 p)])) ?_ N _ aj _ ay ⟨bw,bL,(by show _=_;cases ae<;>kernel_rfl),(HP.pick hH [0] rfl)⟩).mono ?_)
 ·clear h ay
  rintro ⟨i16,bm⟩ o s h hR
  obtain ⟨a6,aG,rfl,hH⟩:=hR
  replace hH:HP _ [.arr a6 1 false (List.map eI64 bm)]:=hH
  have a1:=ZW (HP.get hH 0 rfl)
  replace h:Zbn N a0_ i16 bm=some o:=h
  unfold Zbn at h
  refine sq (rgS ⟨[(1,.loc 1 0),(3,a6),(37,Ze false a0_.Links),(38,iv ((List.length a0_.Links:Nat):Int)),(39,iv i16),(40,bv (decide (i16<((List.length a0_.Links:Nat):Int))))],[(1,(Zc a0_))],aG⟩ Za.f (by cases a1<;>kernel_rfl) ?_)
  refine tq (sq ?_)
  refine it h (fun bd h => ?_) (fun bd h => ?_)
  ·refine sk (tq ?_)
   refine kq (sq ?_)
   refine bk (sq ?_)
   obtain ⟨a2,aD,h⟩:=bs h
   refine rgS ⟨[(1,.loc 1 0),(3,a6),(5,.loc 5 0),(37,Ze false a0_.Links),(38,iv ((List.length a0_.Links:Nat):Int)),(39,iv i16)],[(1,(Zc a0_)),(5,(Zay a2))],aG⟩ (Za.u 0 (Zm (ys:=[Ze false a0_.Links,iv i16]) (h:=Zk Zp aD)) (Za.u 0 (Zu (sz:=4) (off:=0) (cs:=[.int .i64 a2.A,.int .i64 a2.B,.int .i64 a2.Per,.int .i64 a2.Delay]) (r:=.agg (Zay a2)) Zp aD) (Za.f (h:=(by cases a1<;>kernel_rfl))))) (by cases a1<;>kernel_rfl) ?_
   refine tq (sq ?_)
   obtain ⟨a7,aC,h⟩:=bs h
   obtain ⟨bU,bC,_,bt,aQ,bu,ar⟩:=HP.elem (k:=0) (a:=a6) (sz:=1) (frz:=false) eI64 hH rfl aC
   obtain ⟨bX,aB,h⟩:=bs h
   obtain ⟨bT,bB,_,ap,aM,aq,ao⟩:=HP.elem (k:=0) (a:=a6) (sz:=1) (frz:=false) eI64 hH rfl aB
   obtain ⟨aZ,bi,hH⟩:=HP.setRow (k:=0) (off:=0) (cs:=[iv (w64 (a7+1))]) (ps:=[.int .i64 (w64 (a7+1))]) (e':=(w64 (a7+1))) eI64 hH rfl aq aM (ap rfl) aB kr kr
   replace hH:HP _ [.arr a6 1 false (List.map eI64 (List.set bm (Int.toNat a2.A) (w64 (a7+1))))]:=hH
   refine rgS ⟨[(1,.loc 1 0),(3,a6),(5,.loc 5 0),(37,Ze false a0_.Links),(38,iv ((List.length a0_.Links:Nat):Int)),(39,iv i16)],[(1,(Zc a0_)),(5,(Zay a2))],aZ⟩ (Za.u 3 (Zm (ys:=[a6,iv a2.A]) (by cases a1<;>kernel_rfl) (ar .i64)) (Za.u 0 (Zc8 (H:=aG) (off:=0) (cs:=[.int .i64 a7]) (r:=iv a7) eI64 aC aQ) (Za.u 1 (Zm (ys:=[a6,iv a2.A]) (by cases a1<;>kernel_rfl) (ao .i64)) (Za.o 0 (Zaw (H:=aG) (v:=iv (w64 (a7+1))) (hw:=bi)) Za.f)))) (by cases a1<;>kernel_rfl) ?_
   refine tq ?_
   obtain ⟨a9,aA,h⟩:=bs h
   obtain ⟨bS,bA,_,bp,aL,bq,an⟩:=HP.elem (k:=0) (a:=a6) (sz:=1) (frz:=false) eI64 hH rfl aA
   obtain ⟨bW,az,h⟩:=bs h
   obtain ⟨bR,bz,_,al,aK,am,ak⟩:=HP.elem (k:=0) (a:=a6) (sz:=1) (frz:=false) eI64 hH rfl az
   obtain ⟨aY,bf,hH⟩:=HP.setRow (k:=0) (off:=0) (cs:=[iv (w64 (a9+1))]) (ps:=[.int .i64 (w64 (a9+1))]) (e':=(w64 (a9+1))) eI64 hH rfl am aK (al rfl) az kr kr
   replace hH:HP _ [.arr a6 1 false (List.map eI64 (List.set (List.set bm (Int.toNat a2.A) (w64 (a7+1))) (Int.toNat a2.B) (w64 (a9+1))))]:=hH
   refine rgS ⟨[(1,.loc 1 0),(3,a6),(37,Ze false a0_.Links),(38,iv ((List.length a0_.Links:Nat):Int)),(39,iv i16)],[(1,(Zc a0_))],aY⟩ (Za.u 3 (Zm (ys:=[a6,iv a2.B]) (by cases a1<;>kernel_rfl) (an .i64)) (Za.u 0 (Zc8 (H:=aZ) (off:=0) (cs:=[.int .i64 a9]) (r:=iv a9) eI64 aA aL) (Za.u 1 (Zm (ys:=[a6,iv a2.B]) (by cases a1<;>kernel_rfl) (ak .i64)) (Za.o 0 (Zaw (H:=aZ) (v:=iv (w64 (a9+1))) (hw:=bf)) Za.f)))) (by cases a1<;>kernel_rfl) ?_
   refine bn (tq ?_)
   refine rgS ⟨[(1,.loc 1 0),(3,a6),(37,Ze false a0_.Links),(38,iv ((List.length a0_.Links:Nat):Int)),(39,iv (w64 (i16+1)))],[(1,(Zc a0_))],aY⟩ Za.f (by cases a1<;>kernel_rfl) ?_
   obtain rfl:=Zb h
   exact ⟨_,rfl,⟨a6,aY,(by show _=_;cases a1<;>kernel_rfl),(HP.pick hH [0] rfl)⟩⟩
  refine kq (xq ?_)
  refine tx ?_
  obtain rfl:=Zb h
  exact ⟨_,rfl,rfl,⟨a6,aG,(by show _=_;cases a1<;>kernel_rfl),(HP.pick hH [0] rfl)⟩⟩
 rintro e s hq
 obtain ⟨rfl,hR⟩:=hq
 obtain ⟨a3,a4,rfl,hH⟩:=hR
 replace hH:HP _ [.arr a3 1 false (List.map eI64 aj)]:=hH
 have a0:=ZW (HP.get hH 0 rfl)
 refine bx (tq ?_)
 refine sq (sq ?_)
 refine rgS ⟨[(1,.loc 1 0),(3,a3),(59,s_eB false a0_.Station),(60,iv ((List.length a0_.Station:Nat):Int)),(61,iv 0)],[(1,(Zc a0_))],a4⟩ (Za.u 2 (Zm (ys:=[s_eB false a0_.Station]) (h:=Zr eB)) Za.f) (by cases a0<;>kernel_rfl) ?_
 refine tq (bk ?_)
 obtain ⟨ax,ab,h⟩:=bs h
 refine ZS ((ZL (fun (x:Int) s=>s=⟨[(1,.loc 1 0),(3,a3),(59,s_eB false a0_.Station),(60,iv ((List.length a0_.Station:Nat):Int)),(61,iv x)],[(1,(Zc a0_))],a4⟩) (fun x:Int=>Zcr N a0_ aj x) (fun (p:(Unit) ⊕ (Int)) e s=>match p with | (.inl p)=>e = .exit 2∧(s=⟨[(1,.loc 1 0)],[(1,(Zc a0_))],a4⟩) | (.inr p)=>e = .ret∧∃ xs,resL s i44.res=some xs∧ZaW xs=iv p) ?_ N _ ax _ ab (by show _=_;cases a0<;>kernel_rfl)).mono ?_)
 ·clear h ab
  rintro a5 o s h hR
  obtain rfl:=hR
  replace h:Zcr N a0_ aj a5=some o:=h
  unfold Zcr at h
  refine sq (rgS ⟨[(1,.loc 1 0),(3,a3),(59,s_eB false a0_.Station),(60,iv ((List.length a0_.Station:Nat):Int)),(61,iv a5),(62,bv (decide (a5<((List.length a0_.Station:Nat):Int))))],[(1,(Zc a0_))],a4⟩ Za.f (by cases a0<;>kernel_rfl) ?_)
  refine tq (sq ?_)
  refine it h (fun aX h => ?_) (fun aX h => ?_)
  ·refine sk (tq ?_)
   refine kq (sq ?_)
   refine bk (sq ?_)
   obtain ⟨a8,ai,h⟩:=bs h
   refine rgS ⟨[(1,.loc 1 0),(3,a3),(6,iv a5),(7,bv a8),(59,s_eB false a0_.Station),(60,iv ((List.length a0_.Station:Nat):Int)),(61,iv a5)],[(1,(Zc a0_))],a4⟩ (Za.u 1 (Zm (ys:=[s_eB false a0_.Station,iv a5]) (h:=Zk eB ai)) (Za.u 0 (Zu (sz:=1) (off:=0) (cs:=[.bool a8]) (r:=bv a8) eB ai) Za.f)) (by cases a0<;>kernel_rfl) ?_
   refine tq (sq ?_)
   obtain ⟨b1,hj,h⟩:=bs h
   refine rgR (fun s=>s=⟨[(1,.loc 1 0),(3,a3),(59,s_eB false a0_.Station),(60,iv ((List.length a0_.Station:Nat):Int)),(61,iv a5),(80,bv b1)],[(1,(Zc a0_))],a4⟩) ?_ ?_
   ·clear h
    rcases Zz hj with ⟨aW,hj⟩ | ⟨aT,hj⟩
    ·refine (EP.u 0 (Zi (c:=a8) (h:=aW)) ?_)
     obtain ⟨aa,ag,hj⟩:=bs hj
     obtain ⟨bE,bl,_,bb,av,bc,ad⟩:=HP.elem (k:=0) (a:=a3) (sz:=1) (frz:=false) eI64 hH rfl ag
     refine (EP.u 3 (Zm (ys:=[a3,iv a5]) (by cases a0<;>kernel_rfl) (ad .i64)) (EP.u 0 (Zc8 (H:=a4) (off:=0) (cs:=[.int .i64 aa]) (r:=iv aa) eI64 ag av) ?_))
     rcases Zz hj with ⟨aV,hj⟩ | ⟨aU,hj⟩
     ·obtain rfl:=Zb hj
      exact (EP.u 0 (Zi (c:=(decide (aa<1))) (h:=aV)) (EP.f (by show _=_;cases a0<;>kernel_rfl)))
     refine (EP.u 0 (Zi (c:=(decide (aa<1))) (h:=aU)) ?_)
     obtain ⟨aE,af,hj⟩:=bs hj
     obtain ⟨bD,bj,_,b2,au,ba,ac⟩:=HP.elem (k:=0) (a:=a3) (sz:=1) (frz:=false) eI64 hH rfl af
     obtain rfl:=Zb hj
     exact (EP.u 3 (Zm (ys:=[a3,iv a5]) (by cases a0<;>kernel_rfl) (ac .i64)) (EP.u 0 (Zc8 (H:=a4) (off:=0) (cs:=[.int .i64 aE]) (r:=iv aE) eI64 af au) (EP.f (by show _=_;cases a0<;>kernel_rfl))))
    obtain rfl:=Zb hj
    exact (EP.u 0 (Zi (c:=a8) (h:=aT)) (EP.f (by show _=_;cases a0<;>kernel_rfl)))
   clear hj
   rintro s hR
   obtain rfl:=hR
   refine tq (it h (fun aS h => ?_) (fun aS h => ?_))
   ·refine sq (rgS ⟨[(2,iv 260)],[],a4⟩ Za.f kr ?_)
    replace hH:HP _ []:=HP.pick hH [] rfl
    refine tq (rt ?_)
    refine br (tr ?_)
    obtain rfl:=Zb h
    exact ⟨_,rfl,rfl,Zx kr⟩
   refine sk (bn ?_)
   refine tq (kq ?_)
   refine rgS ⟨[(1,.loc 1 0),(3,a3),(59,s_eB false a0_.Station),(60,iv ((List.length a0_.Station:Nat):Int)),(61,iv (w64 (a5+1)))],[(1,(Zc a0_))],a4⟩ Za.f (by cases a0<;>kernel_rfl) ?_
   obtain rfl:=Zb h
   exact ⟨_,rfl,(by show _=_;cases a0<;>kernel_rfl)⟩
  refine kq ?_
  replace hH:HP _ []:=HP.pick hH [] rfl
  refine xq (tx ?_)
  obtain rfl:=Zb h
  exact ⟨_,rfl,rfl,(by show _=_;kernel_rfl)⟩
 rintro e s hq
 rcases ax with bQ | bM
 ·dsimp only at h hq
  obtain ⟨rfl,hR⟩:=hq
  obtain rfl:=hR
  replace hH:HP _ []:=HP.pick hH [] rfl
  refine bx (tq ?_)
  refine sq (sq ?_)
  obtain ⟨aw,aJ,h⟩:=bs h
  obtain ⟨b0,aI,h⟩:=bs h
  refine rg (Za.v 2 (Zw (hc:=Zme N a0_ 0 (ZbM.mk false false false false false false false false false false false false false false false false false false false false false false false false) aw aJ)) (Za.v 0 (Zw (hc:=ZeC N aw false b0 aI)) Za.f)) (tq ?_)
  refine it h (fun aR h => ?_) (fun aR h => ?_)
  ·refine sq (rg Za.f ?_)
   refine tq (rt ?_)
   refine tr ?_
   obtain rfl:=Zb h
   exact Zx kr
  refine sk (tq ?_)
  refine kq (sq ?_)
  refine rg Za.f (tq ?_)
  refine rt ?_
  obtain rfl:=Zb h
  exact Zx kr
 dsimp only at h hq
 obtain ⟨rfl,hq⟩:=hq
 refine br (tr ?_)
 obtain rfl:=Zb h
 exact hq
theorem ZgC (N:Nat) (a0_:Zs) (a1_:Int) (a2_:Int) (a3_:Int) (a4_:Int) (r:Bool) (h:ZeT N a0_ a1_ a2_ a3_ a4_=some r):Zac Tryz.prog 82 [.agg (Zd a0_),iv a1_,iv a2_,iv a3_,iv a4_] (bv r):=by
 unfold ZeT at h
 have hH:HP ([]:List HO) []:=trivial
 refine ZD chk82 rfl rfl (Zt _ _ _ ?_) rfl
 refine sq ?_
 obtain ⟨id1,H2,hid1,hH2,hH⟩:=HP.newCell hH (Zd a0_)
 replace hH:HP _ [.cel id1 (Zd a0_)]:=hH
 obtain ⟨id3,H4,hid3,hH4,hH⟩:=HP.newCell hH [iv a2_]
 replace hH:HP _ [.cel id3 [iv a2_],.cel id1 (Zd a0_)]:=hH
 obtain ⟨id5,H6,hid5,hH6,hH⟩:=HP.newCell hH [iv a4_]
 replace hH:HP _ [.cel id5 [iv a4_],.cel id3 [iv a2_],.cel id1 (Zd a0_)]:=hH
 obtain ⟨id7,H8,hid7,hH8,hH⟩:=HP.newCell hH [bv false]
 replace hH:HP _ [.cel id7 [bv false],.cel id5 [iv a4_],.cel id3 [iv a2_],.cel id1 (Zd a0_)]:=hH
 refine rgS ⟨[(1,iv a1_),(3,iv a3_),(5,.ptr id1 0),(7,.ptr id3 0),(9,.ptr id5 0),(10,.ptr id7 0)],[],H8⟩ (Za.h 0 (Zb6 (H:=[]) (v:=.agg (Zd a0_)) (hid:=hid1) (hH:=hH2)) (Za.h 0 (Zb6 (H:=H2) (v:=iv a2_) (hid:=hid3) (hH:=hH4)) (Za.h 0 (Zb6 (H:=H4) (v:=iv a4_) (hid:=hid5) (hH:=hH6)) (Za.h 0 (ZgP (H:=H6) kr hid7 hH8) Za.f)))) kr ?_
 refine tq (sq ?_)
 refine sq ?_
 have hlc9:=HP.get hH 3 rfl
 obtain ⟨a8,aA,h⟩:=bs h
 obtain ⟨a7,a6,a5,a4,ak,ao⟩:=Zmw N a0_ a1_ a3_ H8 a8 aA
 replace hH:HP _ [.cel a7 (Zd a8.1),.cel a6 [iv a8.2.1],.cel a5 [iv a8.2.2],.cel id7 [bv false],.cel id5 [iv a4_],.cel id3 [iv a2_],.cel id1 (Zd a0_)]:=HP.callee (fp:=[]) (rest:=[.cel id7 [bv false],.cel id5 [iv a4_],.cel id3 [iv a2_],.cel id1 (Zd a0_)]) hH ao
 refine rgS ⟨[(5,.ptr id1 0),(7,.ptr id3 0),(9,.ptr id5 0),(10,.ptr id7 0),(18,.fn 110 [] [.ptr a7 0,.ptr a6 0,.ptr a5 0])],[],a4⟩ (Za.u 0 (Zv (H:=H8) (id:=id1) (off:=0) (cs:=(Zd a0_)) (c:=(Zd a0_)) (r:=.agg (Zd a0_)) (hl:=hlc9)) (Za.v 2 (Zga (H:=H8) (ys:=[.agg (Zd a0_),iv a1_,iv a3_]) kr kr kr ak) Za.f)) kr ?_
 refine tq (bk ?_)
 obtain ⟨a0,ap,h⟩:=bs h
 have ab:∀ (a3:ZB) (a2:ZB) (s:(Bool) × Nat) (r:((Bool) × Nat) × Bool) (H:List HO) (its:List Z8),(fun (s:(Bool) × Nat) (its:List Z8)=>its=[.cel id7 [bv s.1],.cel id5 [iv a4_],.cel id3 [iv a2_],.cel id1 (Zd a0_)]++[.lp (List.length a4) (lcOf Tryz.prog i82.nt [19,20] Zfp Zfn) [(5,.ptr id1 0),(7,.ptr id3 0),(9,.ptr id5 0),(10,.ptr id7 0)] (stAt [.ready,.done .ret] s.2)]) s its→HP H its→(fun (s:(Bool) × Nat) (a3:ZB) (a2:ZB)=>ZgK (fun v:Bool=>ZcF N a0_ a2_ a4_ v a3 a2) s) s a3 a2=some r→∃ H' its',Zhh Tryz.prog (List.length a4) [.agg (ZZ a3),.agg (ZZ a2)] H r.2 H'∧(fun (s:(Bool) × Nat) (its:List Z8)=>its=[.cel id7 [bv s.1],.cel id5 [iv a4_],.cel id3 [iv a2_],.cel id1 (Zd a0_)]++[.lp (List.length a4) (lcOf Tryz.prog i82.nt [19,20] Zfp Zfn) [(5,.ptr id1 0),(7,.ptr id3 0),(9,.ptr id5 0),(10,.ptr id7 0)] (stAt [.ready,.done .ret] s.2)]) r.1 its'∧Fp H H' its its':=by
  clear h
  intro a3 a2 s r ag its hT hH h
  obtain ⟨h0,q,hb,rfl⟩:=Zj1 h
  clear h
  obtain ⟨vs,e⟩:=s
  obtain rfl:e=0:=h0
  obtain ⟨b18,rfl⟩:∃ v,v=vs:=⟨vs,rfl⟩
  obtain rfl:=hT
  replace h:ZcF N a0_ a2_ a4_ b18 a3 a2=some q:=hb
  clear hb
  unfold ZcF at h
  replace hH:Fp _ _ _ [.cel id7 [bv b18],.cel id5 [iv a4_],.cel id3 [iv a2_],.cel id1 (Zd a0_),.lp (List.length a4) (lcOf Tryz.prog i82.nt [19,20] Zfp Zfn) [(5,.ptr id1 0),(7,.ptr id3 0),(9,.ptr id5 0),(10,.ptr id7 0)] .ready]:=Fp.refl hH
  suffices hs:∃ H',Zhh Tryz.prog (List.length a4) [.agg (ZZ a3),.agg (ZZ a2)] ag (q.2==0) H'∧∃ its',(fun (s:(Bool) × Nat) (its:List Z8)=>its=[.cel id7 [bv s.1],.cel id5 [iv a4_],.cel id3 [iv a2_],.cel id1 (Zd a0_)]++[.lp (List.length a4) (lcOf Tryz.prog i82.nt [19,20] Zfp Zfn) [(5,.ptr id1 0),(7,.ptr id3 0),(9,.ptr id5 0),(10,.ptr id7 0)] (stAt [.ready,.done .ret] s.2)]) q its'∧Fp ag H' [.cel id7 [bv b18],.cel id5 [iv a4_],.cel id3 [iv a2_],.cel id1 (Zd a0_),.lp (List.length a4) (lcOf Tryz.prog i82.nt [19,20] Zfp Zfn) [(5,.ptr id1 0),(7,.ptr id3 0),(9,.ptr id5 0),(10,.ptr id7 0)] .ready] its' by
   obtain ⟨H',h1,its',h2,h3⟩:=hs
   exact ⟨H',its',h1,h2,h3⟩
  refine ZgL (id:=(List.length a4)) (args:=[.agg (ZZ a3),.agg (ZZ a2)]) (H:=ag) (n:=i82.nt) (ps:=[19,20]) (fr0:=[(5,.ptr id1 0),(7,.ptr id3 0),(9,.ptr id5 0),(10,.ptr id7 0)]) (ia:=Zfp) (ib:=Zfn) (q.2==0) (fun H'=>∃ its',(fun (s:(Bool) × Nat) (its:List Z8)=>its=[.cel id7 [bv s.1],.cel id5 [iv a4_],.cel id3 [iv a2_],.cel id1 (Zd a0_)]++[.lp (List.length a4) (lcOf Tryz.prog i82.nt [19,20] Zfp Zfn) [(5,.ptr id1 0),(7,.ptr id3 0),(9,.ptr id5 0),(10,.ptr id7 0)] (stAt [.ready,.done .ret] s.2)]) q its'∧Fp ag H' [.cel id7 [bv b18],.cel id5 [iv a4_],.cel id3 [iv a2_],.cel id1 (Zd a0_),.lp (List.length a4) (lcOf Tryz.prog i82.nt [19,20] Zfp Zfn) [(5,.ptr id1 0),(7,.ptr id3 0),(9,.ptr id5 0),(10,.ptr id7 0)] .ready] its') (Fp.get hH 4 rfl) rfl (by decide +kernel) rfl ?_
  show vc _ _ _ _ ⟨[(5,.ptr id1 0),(7,.ptr id3 0),(9,.ptr id5 0),(10,.ptr id7 0),(19,.agg (ZZ a3)),(20,.agg (ZZ a2))],[],ag⟩
  refine sq (rgS ⟨[(5,.ptr id1 0),(7,.ptr id3 0),(9,.ptr id5 0),(10,.ptr id7 0),(11,.loc 11 0),(20,.agg (ZZ a2))],[(11,(ZZ a3))],ag⟩ Za.f kr ?_)
  refine tq (rgS ⟨[(5,.ptr id1 0),(7,.ptr id3 0),(9,.ptr id5 0),(10,.ptr id7 0),(11,.loc 11 0),(12,.loc 12 0)],[(11,(ZZ a3)),(12,(ZZ a2))],ag⟩ Za.f kr ?_)
  refine ZkP (k:=4) hH rfl ?_
  intro a1 hH
  replace hH:Fp _ _ _ [.cel id7 [bv b18],.cel id5 [iv a4_],.cel id3 [iv a2_],.cel id1 (Zd a0_),.lp (List.length a4) (lcOf Tryz.prog i82.nt [19,20] Zfp Zfn) [(5,.ptr id1 0),(7,.ptr id3 0),(9,.ptr id5 0),(10,.ptr id7 0)] .busy]:=hH
  show vc _ _ _ _ ⟨[(5,.ptr id1 0),(7,.ptr id3 0),(9,.ptr id5 0),(10,.ptr id7 0),(11,.loc 11 0),(12,.loc 12 0)],[(11,(ZZ a3)),(12,(ZZ a2))],a1⟩
  refine bk (sq ?_)
  refine sq (rgS ⟨[(5,.ptr id1 0),(7,.ptr id3 0),(9,.ptr id5 0),(10,.ptr id7 0),(11,.loc 11 0),(12,.loc 12 0),(23,bv ((a3.Stream==a2.Stream)&&((a3.Port==a2.Port)&&((a3.From==a2.From)&&((a3.Long==a2.Long)&&true)))))],[(11,(ZZ a3)),(12,(ZZ a2))],a1⟩ Za.f kr ?_)
  refine tq (it h (fun av h => ?_) (fun av h => ?_))
  ·refine sq ?_
   obtain ⟨aC,ay,hH⟩:=Fp.setCell (k:=0) (off:=0) (cs:=[bv b18]) (vs:=[bv true]) (cs':=[bv true]) hH rfl kr
   replace hH:Fp _ _ _ [.cel id7 [bv true],.cel id5 [iv a4_],.cel id3 [iv a2_],.cel id1 (Zd a0_),.lp (List.length a4) (lcOf Tryz.prog i82.nt [19,20] Zfp Zfn) [(5,.ptr id1 0),(7,.ptr id3 0),(9,.ptr id5 0),(10,.ptr id7 0)] .busy]:=hH
   refine rgS ⟨[],[],aC⟩ (Za.o 0 (Zaw (H:=a1) (v:=bv true) (hw:=ay)) Za.f) kr ?_
   refine tq (rt ?_)
   refine tr (br ?_)
   obtain rfl:=Zb h
   exact rbd (k:=4) (.done .ret) hH rfl rfl (fun H6 hH=>⟨_,(Eq.refl _),(Fp.pick hH [0,1,2,3,4] rfl)⟩)
  refine sk (tq ?_)
  refine kq (sq ?_)
  have af:=Fp.get hH 3 rfl
  have ae:=Fp.get hH 2 rfl
  obtain ⟨aj,an,h⟩:=bs h
  have ad:=Fp.get hH 3 rfl
  have ac:=Fp.get hH 1 rfl
  obtain ⟨ai,am,h⟩:=bs h
  obtain ⟨aa,al,h⟩:=bs h
  refine rqS ⟨[(10,.ptr id7 0),(13,bv aa.1)],[],a1⟩ (Za.u 0 (ZN (Zv (H:=a1) (id:=id1) (off:=0) (cs:=(Zd a0_)) (c:=(Zd a0_)) (r:=.agg (Zd a0_)) (hl:=af))) (Za.u 1 (ZN (Zv (H:=a1) (id:=id3) (off:=0) (cs:=[iv a2_]) (c:=[iv a2_]) (r:=iv a2_) (hl:=ae))) (Za.u 0 (ZaK (hc:=ZgB N a0_ a3 a2_ aj an)) (Za.u 0 (ZN (Zv (H:=a1) (id:=id1) (off:=0) (cs:=(Zd a0_)) (c:=(Zd a0_)) (r:=.agg (Zd a0_)) (hl:=ad))) (Za.u 1 (ZN (Zv (H:=a1) (id:=id5) (off:=0) (cs:=[iv a4_]) (c:=[iv a4_]) (r:=iv a4_) (hl:=ac))) (Za.v 0 (Zw (hc:=ZgB N a0_ a2 a4_ ai am)) (Za.v 0 (Zw (hc:=ZjH N aj ai aa al)) Za.f))))))) kr ?_
  refine tq (sq ?_)
  refine rgS ⟨[(10,.ptr id7 0),(37,bv (!aa.1))],[],a1⟩ Za.f kr ?_
  refine tq (it h (fun au h => ?_) (fun au h => ?_))
  ·refine sq ?_
   obtain ⟨aB,ax,hH⟩:=Fp.setCell (k:=0) (off:=0) (cs:=[bv b18]) (vs:=[bv true]) (cs':=[bv true]) hH rfl kr
   replace hH:Fp _ _ _ [.cel id7 [bv true],.cel id5 [iv a4_],.cel id3 [iv a2_],.cel id1 (Zd a0_),.lp (List.length a4) (lcOf Tryz.prog i82.nt [19,20] Zfp Zfn) [(5,.ptr id1 0),(7,.ptr id3 0),(9,.ptr id5 0),(10,.ptr id7 0)] .busy]:=hH
   refine rgS ⟨[],[],aB⟩ (Za.o 0 (Zaw (H:=a1) (v:=bv true) (hw:=ax)) Za.f) kr ?_
   refine tq (rt ?_)
   refine br ?_
   obtain rfl:=Zb h
   exact rbd (k:=4) (.done .ret) hH rfl rfl (fun H6 hH=>⟨_,(Eq.refl _),(Fp.pick hH [0,1,2,3,4] rfl)⟩)
  refine sk (bn ?_)
  obtain rfl:=Zb h
  exact rbd (k:=4) (.ready) hH rfl rfl (fun H6 hH=>⟨_,(Eq.refl _),(Fp.pick hH [0,1,2,3,4] rfl)⟩)
 refine Zh9 (s:=⟨[(5,.ptr id1 0),(7,.ptr id3 0),(9,.ptr id5 0),(10,.ptr id7 0),(18,.fn 110 [] [.ptr a7 0,.ptr a6 0,.ptr a5 0])],[],a4⟩) [(5,.ptr id1 0),(7,.ptr id3 0),(9,.ptr id5 0),(10,.ptr id7 0)] (FrOK.cons kr kr (FrOK.cons kr kr (FrOK.cons kr kr (FrOK.cons kr kr FrOK.nil)))) kr (fun H=>rfl) (capT:=[.cel a7 (Zd a8.1),.cel a6 [iv a8.2.1],.cel a5 [iv a8.2.2]]) (cells0:=[.cel id7 [bv false],.cel id5 [iv a4_],.cel id3 [iv a2_],.cel id1 (Zd a0_)]) (rest:=[]) (HP.now (HP.pick hH [0,1,2,3,4,5,6] rfl)) (fun (s:(Bool) × Nat) (its:List Z8)=>its=[.cel id7 [bv s.1],.cel id5 [iv a4_],.cel id3 [iv a2_],.cel id1 (Zd a0_)]++[.lp (List.length a4) (lcOf Tryz.prog i82.nt [19,20] Zfp Zfn) [(5,.ptr id1 0),(7,.ptr id3 0),(9,.ptr id5 0),(10,.ptr id7 0)] (stAt [.ready,.done .ret] s.2)]) (false,0) a0 (by exact (Eq.refl _)) (fun H its hT hH=>Zkx N (fun (s:(Bool) × Nat) (a3:ZB) (a2:ZB)=>ZgK (fun v:Bool=>ZcF N a0_ a2_ a4_ v a3 a2) s) a8.1 a8.2.1 a8.2.2 (false,0) a7 a6 a5 (List.length a4) (fun (s:(Bool) × Nat) (its:List Z8)=>its=[.cel id7 [bv s.1],.cel id5 [iv a4_],.cel id3 [iv a2_],.cel id1 (Zd a0_)]++[.lp (List.length a4) (lcOf Tryz.prog i82.nt [19,20] Zfp Zfn) [(5,.ptr id1 0),(7,.ptr id3 0),(9,.ptr id5 0),(10,.ptr id7 0)] (stAt [.ready,.done .ret] s.2)]) ab H its hT hH a0 ap) ?_
 rintro its hT
 obtain rfl:=hT
 refine ⟨_,_,rfl,?_⟩
 intro a9 hF
 replace hH:HP _ [.cel a7 (Zd a8.1),.cel a6 [iv a8.2.1],.cel a5 [iv a8.2.2],.cel id7 [bv a0.1],.cel id5 [iv a4_],.cel id3 [iv a2_],.cel id1 (Zd a0_)]:=HP.after (HP.pick hH [0,1,2,3,4,5,6] rfl) hF
 rcases Zz h with ⟨ar,h⟩ | ⟨_,h⟩
 ·refine Zmz (S:=⟨[(5,.ptr id1 0),(7,.ptr id3 0),(9,.ptr id5 0),(10,.ptr id7 0),(18,.fn 110 [] [.ptr a7 0,.ptr a6 0,.ptr a5 0])],[],a9⟩) (e:=.normal) ar rfl ?_
  refine bn (tq ?_)
  refine kq ?_
  replace hH:HP _ [.cel id7 [bv a0.1]]:=HP.pick hH [3] rfl
  refine sq ?_
  obtain ⟨az,aw,hH⟩:=HP.setCell (k:=0) (off:=0) (cs:=[bv a0.1]) (vs:=[bv false]) (cs':=[bv false]) hH rfl kr
  replace hH:HP _ [.cel id7 [bv false]]:=hH
  refine rgS ⟨[(10,.ptr id7 0)],[],az⟩ (Za.o 0 (Zaw (H:=a9) (v:=bv false) (hw:=aw)) Za.f) kr ?_
  refine tq (rt ?_)
  obtain rfl:=Zb h
  exact Zd6 (H:=az) (ys:=[bv false]) (xs:=[bv false]) kr (ZoD (r:=.cell 10 1 false) (v:=bv false) (ZoC (id:=id7) (off:=0) (cs:=[bv false]) (c:=[bv false]) kr (HP.get hH 0 rfl) kr kr) ZoE) (ZaJ rfl ZbJ) kr
 rcases Zz h with ⟨aq,h⟩ | ⟨_,h⟩
 ·refine Zmz (S:=⟨[(5,.ptr id1 0),(7,.ptr id3 0),(9,.ptr id5 0),(10,.ptr id7 0),(18,.fn 110 [] [.ptr a7 0,.ptr a6 0,.ptr a5 0])],[],a9⟩) (e:=.ret) aq rfl ?_
  refine br (tr ?_)
  obtain rfl:=Zb h
  exact Zd6 (H:=a9) (ys:=[bv a0.1]) (xs:=[bv a0.1]) kr (ZoD (r:=.cell 10 1 false) (v:=bv a0.1) (ZoC (id:=id7) (off:=0) (cs:=[bv a0.1]) (c:=[bv a0.1]) kr (HP.get hH 3 rfl) kr kr) ZoE) (ZaJ rfl ZbJ) kr
 cases h
theorem ZjB (N:Nat) (a0_:Z6) (c0_:(List Int)) (c1_:(List Int)) (k0_:Nat) (k1_:Nat) (H:List HO) (hH:HP H [.cel k0_ [Zg false c0_],.cel k1_ [Zg false c1_]]) (r:Bool × Int) (h:Zda N a0_ c0_ c1_=some r):Zbe Tryz.prog 96 [.agg (Zc a0_.Topo),.ptr k0_ 0,.ptr k1_ 0] H (.tup [bv r.1,iv r.2]) H:=by
 unfold Zda at h
 refine Zbz chk96 rfl rfl rfl (Zt _ _ _ ?_)
 refine sq (rg Za.f ?_)
 refine tq (sq ?_)
 refine sq ?_
 have hlc1:=HP.get hH 0 rfl
 obtain ⟨r2,hr2,h⟩:=bs h
 refine rg (Za.u 1 (Zv (H:=H) (id:=k0_) (off:=0) (cs:=[Zg false c0_]) (c:=[Zg false c0_]) (r:=Zg false c0_) (hl:=hlc1)) (Za.v 0 (Zw (hc:=Ze4 N a0_ c0_ r2 hr2)) Za.f)) (tq ?_)
 refine it h (fun hc3 h => ?_) (fun hc3 h => ?_)
 ·refine sq (rg Za.f ?_)
  replace hH:HP _ []:=HP.pick hH [] rfl
  refine tq (rt ?_)
  refine tr ?_
  obtain rfl:=Zb h
  exact Za4 kr kr
 refine sk (tq ?_)
 refine kq (sq ?_)
 obtain ⟨a9,hj,h⟩:=bs h
 refine rgR (fun s=>s=⟨[(4,bv a9),(5,iv 0)],[],H⟩) ?_ ?_
 ·clear h
  have hlc4:=HP.get hH 1 rfl
  refine (EP.u 0 (Zv (H:=H) (id:=k1_) (off:=0) (cs:=[Zg false c1_]) (c:=[Zg false c1_]) (r:=Zg false c1_) (hl:=hlc4)) ?_)
  have hlc5:=HP.get hH 0 rfl
  refine (EP.u 0 (Zv (H:=H) (id:=k0_) (off:=0) (cs:=[Zg false c0_]) (c:=[Zg false c0_]) (r:=Zg false c0_) (hl:=hlc5)) ?_)
  obtain ⟨r6,hr6,hj⟩:=bs hj
  refine (EP.v 0 (Zw (hc:=Zkj N c1_ c0_ r6 hr6)) ?_)
  rcases Zz hj with ⟨hc7,hj⟩ | ⟨a5,hj⟩
  ·refine (EP.u 0 (Zi (c:=(!r6)) (h:=hc7)) ?_)
   have hlc8:=HP.get hH 1 rfl
   refine (EP.u 2 (Zv (H:=H) (id:=k1_) (off:=0) (cs:=[Zg false c1_]) (c:=[Zg false c1_]) (r:=Zg false c1_) (hl:=hlc8)) ?_)
   have hlc9:=HP.get hH 0 rfl
   refine (EP.u 0 (Zv (H:=H) (id:=k0_) (off:=0) (cs:=[Zg false c0_]) (c:=[Zg false c0_]) (r:=Zg false c0_) (hl:=hlc9)) ?_)
   obtain ⟨a2,a4,hj⟩:=bs hj
   refine (EP.v 0 (Zw (hc:=Ze5 N a0_ c1_ c0_ a2 a4)) ?_)
   rcases Zz hj with ⟨a7,hj⟩ | ⟨a6,hj⟩
   ·refine (EP.u 0 (Zi (c:=(!a2)) (h:=a7)) ?_)
    have a1:=HP.get hH 0 rfl
    refine (EP.u 3 (Zv (H:=H) (id:=k0_) (off:=0) (cs:=[Zg false c0_]) (c:=[Zg false c0_]) (r:=Zg false c0_) (hl:=a1)) ?_)
    have a0:=HP.get hH 1 rfl
    refine (EP.u 0 (Zv (H:=H) (id:=k1_) (off:=0) (cs:=[Zg false c1_]) (c:=[Zg false c1_]) (r:=Zg false c1_) (hl:=a0)) ?_)
    obtain ⟨a8,a3,hj⟩:=bs hj
    obtain rfl:=Zb hj
    exact (EP.v 0 (Zw (hc:=Ze5 N a0_ c0_ c1_ a8 a3)) (EP.f (by show _=_;kernel_rfl)))
   obtain rfl:=Zb hj
   exact (EP.u 0 (Zi (c:=(!a2)) (h:=a6)) (EP.f (by show _=_;kernel_rfl)))
  obtain rfl:=Zb hj
  exact (EP.u 0 (Zi (c:=(!r6)) (h:=a5)) (EP.f (by show _=_;kernel_rfl)))
 clear hj
 rintro s hR
 obtain rfl:=hR
 refine tq (rt ?_)
 obtain rfl:=Zb h
 exact Za4 kr kr
theorem ZhK (N:Nat) (a0_:Zh) (a1_:(List Int)) (r:Int) (h:ZcW N a0_ a1_=some r):Zac Tryz.prog 106 [.agg (Zc a0_),Zg false a1_] (iv r):=by
 unfold ZcW at h
 have hH:HP ([]:List HO) []:=trivial
 refine ZD chk106 rfl rfl (Zt _ _ _ ?_) rfl
 refine sq (rg Za.f ?_)
 refine tq (sq ?_)
 refine sq ?_
 obtain ⟨r1,hr1,h⟩:=bs h
 refine rg (Za.v 1 (Zw (hc:=Zf5 N a0_ r1 hr1)) Za.f) (tq ?_)
 refine sq (rg Za.f ?_)
 refine tq (it h (fun hc2 h => ?_) (fun hc2 h => ?_))
 ·refine sq (rg Za.f ?_)
  refine tq (rt ?_)
  refine tr ?_
  obtain rfl:=Zb h
  exact Zx kr
 refine sk (tq ?_)
 refine kq (sq ?_)
 refine sq ?_
 obtain ⟨r3,hr3,h⟩:=bs h
 refine rg (Za.v 3 (Zw (hc:=Ze4 N (Z6.mk a0_) a1_ r3 hr3)) Za.f) (tq ?_)
 refine it h (fun hc4 h => ?_) (fun hc4 h => ?_)
 ·refine sq (rg Za.f ?_)
  refine tq (rt ?_)
  refine tr ?_
  obtain rfl:=Zb h
  exact Zx kr
 refine sk (tq ?_)
 refine kq (sq ?_)
 refine rg Za.f (tq ?_)
 refine rt ?_
 obtain rfl:=Zb h
 exact Zx kr
theorem ZiP (N:Nat) (a0_:Zh) (a1_:(List Int)) (a2_:Z6→Option ((List Int) × Int)) (a2_f:Nat) (a2_p a2_c:List AV) (ha2_n:(noLocL a2_p&&noLocL a2_c)=true) (its:List Z8) (ha2_:∀ (H:List HO) (x0:Z6) (r:(List Int) × Int),HP H its→a2_ x0=some r→Zgs Tryz.prog (.fn a2_f a2_p a2_c) [.agg [iv x0.Topo.Nodes,s_eB false x0.Topo.Station,Ze false x0.Topo.Links]] H (.tup [Zg false r.1,iv r.2]) H) (H:List HO) (hH:HP H (its)) (r:(List Int) × Int) (h:ZcI N a0_ a1_ a2_=some r):Zbe Tryz.prog 112 [.agg (Zc a0_),Zg false a1_,.fn a2_f a2_p a2_c] H (.tup [Zg false r.1,iv r.2]) H:=by
 unfold ZcI at h
 refine Zbz chk112 rfl (by simpa [noLocL,ZX.noLocL,ZX] using ha2_n) rfl (Zt _ _ _ ?_)
 refine sq (rg Za.f ?_)
 refine tq (sq ?_)
 refine rg Za.f (tq ?_)
 refine sq (sq ?_)
 obtain ⟨r1,hr1,h⟩:=bs h
 refine rg (Za.v 2 (Zw (hc:=ZhK N a0_ a1_ r1 hr1)) Za.f) (tq ?_)
 refine sq (rg Za.f ?_)
 refine tq (it h (fun hc2 h => ?_) (fun hc2 h => ?_))
 ·refine sq (rg Za.f ?_)
  refine tq (rt ?_)
  refine tr ?_
  obtain rfl:=Zb h
  exact Za4 kr kr
 refine sk (tq ?_)
 refine kq (sq ?_)
 obtain ⟨r3,hr3,h⟩:=bs h
 have hvr3:=ha2_ _ (Z6.mk a0_) _ hH hr3
 refine rg (Za.v 3 (ZcO (H:=H) (ys:=[.agg (Zc a0_)]) (hc:=hvr3)) Za.f) (tq ?_)
 refine rt ?_
 obtain rfl:=Zb h
 exact Za4 kr kr
theorem ZjJ (N:Nat) (a0_:Zh) (a1_:(List ZaB)) (r:(List Zj)) (h:ZdO N a0_ a1_=some r):Zac Tryz.prog 6 [.agg (Zc a0_),Zaz false a1_] (ZG false r):=by
 unfold ZdO at h
 have hH:HP ([]:List HO) []:=trivial
 refine ZD chk6 rfl rfl (Zt _ _ _ ?_) rfl
 refine sq (rg Za.f ?_)
 refine tq (sq ?_)
 refine rg Za.f (tq ?_)
 refine sq (sq ?_)
 refine rg Za.f (tq ?_)
 refine bk ?_
 obtain ⟨a9,aa,h⟩:=bs h
 refine ZS ((ZL (fun (x:Int × (List Zj)) s=>∃ (a1:AV) (H2:List HO),s=⟨[(1,Zaz false a1_),(2,.loc 2 0),(5,a1),(6,iv x.1)],[(2,(Zc a0_))],H2⟩∧HP H2 [.arr a1 10 false (List.map ZY x.2)]) (fun x:Int × (List Zj)=>ZbU N a0_ a1_ x.1 x.2) (fun (p:(List Zj)) e s=>e = .exit 0∧(∃ (a8:AV) (ae:List HO),s=⟨[(5,a8)],[],ae⟩∧HP ae [.arr a8 10 false (List.map ZY p)])) ?_ N _ a9 _ aa ⟨(.p (.sl 10 true [])),[],(by show _=_;kernel_rfl),(HP.pick (HP.nilArr hH 10 false) [0] rfl)⟩).mono ?_)
 ·clear h aa
  rintro ⟨i3,l4⟩ o s h hR
  obtain ⟨a1,H2,rfl,hH⟩:=hR
  replace hH:HP _ [.arr a1 10 false (List.map ZY l4)]:=hH
  have hfa1:=ZW (HP.get hH 0 rfl)
  replace h:ZbU N a0_ a1_ i3 l4=some o:=h
  unfold ZbU at h
  refine sq (sq ?_)
  obtain ⟨au,hj,h⟩:=bs h
  refine rgR (fun s=>s=⟨[(1,Zaz false a1_),(2,.loc 2 0),(5,a1),(6,iv i3),(17,bv au)],[(2,(Zc a0_))],H2⟩) ?_ ?_
  ·clear h
   refine (EP.u 2 (Zm (ys:=[Zaz false a1_]) (h:=Zr ZdW)) ?_)
   rcases Zz hj with ⟨ar,hj⟩ | ⟨aq,hj⟩
   ·refine (EP.u 0 (Zi (c:=(decide (i3<((List.length a1_:Nat):Int)))) (h:=ar)) ?_)
    have ak:=HP.len (k:=0) (a:=a1) (sz:=10) (frz:=false) (l:=l4) ZY hH rfl
    obtain rfl:=Zb hj
    exact (EP.u 2 (Zm (ys:=[a1]) (by cases hfa1<;>kernel_rfl) ak) (EP.f (by show _=_;cases hfa1<;>kernel_rfl)))
   obtain rfl:=Zb hj
   exact (EP.u 0 (Zi (c:=(decide (i3<((List.length a1_:Nat):Int)))) (h:=aq)) (EP.f (by show _=_;cases hfa1<;>kernel_rfl)))
  clear hj
  rintro s hR
  obtain rfl:=hR
  refine tq (it h (fun ap h => ?_) (fun ap h => ?_))
  ·refine sk (tq ?_)
   refine kq ?_
   obtain ⟨ag,ab,h⟩:=bs h
   refine Zc6 [1,2,5,6] (fun s=>∃ (a3:AV) (a4:List HO),s=⟨[(1,Zaz false a1_),(2,.loc 2 0),(5,a3),(6,iv i3)],[(2,(Zc a0_))],a4⟩∧HP a4 [.arr a3 10 false (List.map ZY ag)]) ?_ ?_
   ·clear h
    have h:=ab
    refine bk (sq ?_)
    obtain ⟨a0,ac,h⟩:=bs h
    have af:=HP.len (k:=0) (a:=a1) (sz:=10) (frz:=false) (l:=l4) ZY hH rfl
    obtain ⟨a2,aj,h⟩:=bs h
    refine rqS (hs:=(by cases hfa1<;>kernel_rfl)) ⟨[(1,Zaz false a1_),(2,.loc 2 0),(5,a1),(6,iv i3),(7,.loc 7 0),(8,bv a2.2)],[(2,(Zc a0_)),(7,(Zf a2.1))],H2⟩ (Za.u 2 (Zm (ys:=[Zaz false a1_,iv i3]) (h:=Zk ZdW ac)) (Za.u 0 (ZN (Zu (sz:=8) (off:=0) (cs:=[.bool a0.Reserved,.bool a0.Two,.int .u8 a0.Node,.int .u8 a0.Way,.int .u8 a0.Size,.int .u8 a0.Period,.int .u8 a0.Burst,.int .u16 a0.Rate]) (r:=.agg (ZJ a0)) ZdW ac)) (Za.u 2 (Zm (ys:=[a1]) (by cases hfa1<;>kernel_rfl) af) (Za.u 1 (ZaK (hc:=ZgX N a0 a0_ (w64 (((List.length l4:Nat):Int)+1)) a2 aj)) (Za.f (h:=(by cases hfa1<;>kernel_rfl))))))) (by cases hfa1<;>kernel_rfl) ?_
    refine tq (sq ?_)
    refine rgS ⟨[(1,Zaz false a1_),(2,.loc 2 0),(5,a1),(6,iv i3),(7,.loc 7 0),(32,bv a2.2)],[(2,(Zc a0_)),(7,(Zf a2.1))],H2⟩ Za.f (by cases hfa1<;>kernel_rfl) ?_
    refine tq (it h (fun am h => ?_) (fun am h => ?_))
    ·obtain ⟨ao,al,h⟩:=bs h
     obtain ⟨ad,ai,an,hH⟩:=HP.app (k:=0) (a:=a1) (sz:=10) (frz:=false) ZY hH rfl al
     replace hH:HP _ [.arr ad 10 false (List.map ZY ao)]:=hH
     have a6:=ZW (HP.get hH 0 rfl)
     refine rgS ⟨[(1,Zaz false a1_),(2,.loc 2 0),(5,ad),(6,iv i3)],[(2,(Zc a0_))],ai⟩ (Za.h 3 (Ze1 (H:=H2) (a:=a1) (b:=ZG true [a2.1]) (by cases hfa1<;>kernel_rfl) (by cases hfa1<;>kernel_rfl) (by cases hfa1<;>kernel_rfl) (by cases hfa1<;>kernel_rfl) an) Za.f) (by cases hfa1<;>cases a6<;>kernel_rfl) ?_
     refine bn ?_
     obtain rfl:=Zb h
     exact ⟨rfl,⟨ad,ai,(by show _=_;cases a6<;>kernel_rfl),(HP.pick hH [0] rfl)⟩⟩
    refine sk (bn ?_)
    obtain rfl:=Zb h
    exact ⟨rfl,⟨a1,H2,(by show _=_;cases hfa1<;>kernel_rfl),(HP.pick hH [0] rfl)⟩⟩
   clear ab
   rintro s hR
   obtain ⟨a3,a4,rfl,hH⟩:=hR
   replace hH:HP _ [.arr a3 10 false (List.map ZY ag)]:=hH
   have a7:=ZW (HP.get hH 0 rfl)
   refine rgS ⟨[(1,Zaz false a1_),(2,.loc 2 0),(5,a3),(6,iv (w64 (i3+1)))],[(2,(Zc a0_))],a4⟩ Za.f (by cases a7<;>kernel_rfl) ?_
   obtain rfl:=Zb h
   exact ⟨_,rfl,⟨a3,a4,(by show _=_;cases a7<;>kernel_rfl),(HP.pick hH [0] rfl)⟩⟩
  refine kq (xq ?_)
  refine tx ?_
  obtain rfl:=Zb h
  exact ⟨_,rfl,rfl,⟨a1,H2,(by show _=_;cases hfa1<;>kernel_rfl),(HP.pick hH [0] rfl)⟩⟩
 rintro e s hq
 obtain ⟨rfl,hR⟩:=hq
 obtain ⟨a8,ae,rfl,hH⟩:=hR
 replace hH:HP _ [.arr a8 10 false (List.map ZY a9)]:=hH
 have a5:=ZW (HP.get hH 0 rfl)
 refine bx (tq ?_)
 refine sq (rgS ⟨[(4,a8)],[],ae⟩ Za.f (by cases a5<;>kernel_rfl) ?_)
 refine tq (rt ?_)
 obtain rfl:=Zb h
 exact Zd6 (H:=ae) (ys:=[a8]) (xs:=[.p (.sl 10 false (List.map ZY a9))]) (by cases a5<;>kernel_rfl) (by cases a5<;>kernel_rfl) (ZaJ (HP.pure (k:=0) (frz:=false) ZY hH rfl).2 ZbJ) kr
end Go.Sh

