/- Part of the proof. -/
import Derived.Test.YthipedbbcjemhaaGreatPlanMakesOk1
set_option linter.all false
namespace Go.Sh
open Go Go.Eng Go.Proofs
set_option maxRecDepth 100000
set_option maxHeartbeats 4000000
attribute [local irreducible] vc ev ZfZ opsD opsF ZiV upd updH updO
theorem ZeR (N:Nat)(a0_:Za7)(a1_:(List Int))(r:(List Int))(h:ZcH N a0_ a1_=some r):Zba Tryz.prog 108 [.agg (Zac a0_.Topo),Zad false a1_] (Zad false r):=by
 unfold ZcH at h
 have hH  := hp0
 refine ZaG ZyT rfl rfl (Zay _ _ _ ?_) rfl
 refine sq (rgS ⟨[(1,Zad false a1_),(2,.loc 2 0)],[(2,(Zac a0_.Topo))],[]⟩ Zab.f kr (tq (sq ?_)))
 obtain ⟨l3,hl3,h⟩:=bs h
 obtain ⟨a1,H2,ha1,hH2,ha1b,hH⟩:=HP.make eI64 hH hl3
 replace hH:HP _ [.arr a1 1 false (List.map eI64 l3)]:=hH
 have hfa1:=ZaS (HP.get hH 0 rfl)
 obtain ⟨id4,H5,hid4,hH5,hH⟩:=HP.newCell hH [Zad true []]
 replace hH:HP _ [.cel id4 [Zad true []],.arr a1 1 false (List.map eI64 l3)]:=hH
 obtain ⟨H6,hH6,hH⟩:=HP.setCell (k:=0) (off:=0) (cs:=[Zad true []]) (vs:=[a1]) (cs':=[a1]) hH rfl kr
 replace hH:HP _ [.cel id4 [a1],.arr a1 1 false (List.map eI64 l3)]:=hH
 refine rgS ⟨[(1,Zad false a1_),(2,.loc 2 0),(5,.ptr id4 0)],[(2,(Zac a0_.Topo))],H6⟩ (Zab.u 1 (Zan (ys:=[Zad false a1_]) (h:=Zax eI64)) (Zab.h 1 (ZjI (H:=[]) (zero:=[.int .i64 0]) (bytes:=8) kr kr kr ha1 hH2 ha1b) (Zab.h 0 (Zir (H:=H2) kr hid4 hH5) (Zab.o 0 (Zhr (H:=H5) (v:=a1) (cs:=[a1]) (by cases hfa1<;>kernel_rfl) (by cases hfa1<;>kernel_rfl) (by cases hfa1<;>kernel_rfl) (by cases hfa1<;>kernel_rfl) (by cases hfa1<;>kernel_rfl) hH6) Zab.f)))) kr (tq (sq (sq ?_)))
 obtain ⟨r7,hr7,h⟩:=bs h
 obtain ⟨id9,ab,H8,hvr7,hpr7⟩:=ZgV N a0_ a1_ H6 r7 hr7
 replace hH:HP _ [.cel id9 [Zad false r7.1],.cel ab (Zac r7.2.Topo),.cel id4 [a1],.arr a1 1 false (List.map eI64 l3)]:=HP.callee (fp:=[]) (rest:=[.cel id4 [a1],.arr a1 1 false (List.map eI64 l3)]) hH hpr7
 refine rgS ⟨[(5,.ptr id4 0),(14,.fn 114 [] [.ptr id9 0,.ptr ab 0])],[],H8⟩ (Zab.v 2 (ZhN (H:=H6) (ys:=[.agg (Zac a0_.Topo),Zad false a1_]) kr kr kr hvr7) Zab.f) kr (tq (bk ?_))
 obtain ⟨a9,ap,h⟩:=bs h
 have af:∀ (x13:Int) (x14:ZbU) (s:(List Int)) (r:((List Int))×Bool) (H:List HO) (its:List Za9),(λ(s:(List Int)) (its:List Za9)=>∃ (a3:AV),its=[.arr a3 1 false (List.map eI64 s),.cel id4 [a3]]++[.lp (List.length H8) (lcOf Tryz.prog i108.nt [15,16] ZdT ZdS) [(5,.ptr id4 0)] .ready]) s its->HP H its->(λ(s:(List Int)) (x13:Int) (x14:ZbU)=>Ze5 (λv:(List Int)=>ZbM N v x13 x14) s) s x13 x14=some r->∃ H' its',ZiY Tryz.prog (List.length H8) [iv x13,.agg (Zbd x14)] H r.2 H'/\(λ(s:(List Int)) (its:List Za9)=>∃ (a3:AV),its=[.arr a3 1 false (List.map eI64 s),.cel id4 [a3]]++[.lp (List.length H8) (lcOf Tryz.prog i108.nt [15,16] ZdT ZdS) [(5,.ptr id4 0)] .ready]) r.1 its'/\Fp H H' its its':=by
  clear h
  intro x13 x14 s r an its hT hH h
  obtain ⟨q,hb,rfl⟩:=ZjE h
  clear h
  obtain ⟨vs,rfl⟩:∃ v,v=s:=⟨s,rfl⟩
  obtain ⟨az,rfl⟩:∃ v,v=vs:=⟨vs,rfl⟩
  obtain ⟨a3,rfl⟩:=hT
  replace h:ZbM N az x13 x14=some q:=hb
  clear hb
  unfold ZbM at h
  replace hH:Fp _ _ _ [.arr a3 1 false (List.map eI64 az),.cel id4 [a3],.lp (List.length H8) (lcOf Tryz.prog i108.nt [15,16] ZdT ZdS) [(5,.ptr id4 0)] .ready]:=Fp.refl hH
  have a0:=ZaS (Fp.get hH 0 rfl)
  suffices hs:∃ H',ZiY Tryz.prog (List.length H8) [iv x13,.agg (Zbd x14)] an true H'/\∃ its',(λ(s:(List Int)) (its:List Za9)=>∃ (a3:AV),its=[.arr a3 1 false (List.map eI64 s),.cel id4 [a3]]++[.lp (List.length H8) (lcOf Tryz.prog i108.nt [15,16] ZdT ZdS) [(5,.ptr id4 0)] .ready]) q its'/\Fp an H' [.arr a3 1 false (List.map eI64 az),.cel id4 [a3],.lp (List.length H8) (lcOf Tryz.prog i108.nt [15,16] ZdT ZdS) [(5,.ptr id4 0)] .ready] its' by
   obtain ⟨H',h1,its',h2,h3⟩:=hs
   exact ⟨H',its',h1,h2,h3⟩
  refine Zin (id:=(List.length H8)) (args:=[iv x13,.agg (Zbd x14)]) (H:=an) (n:=i108.nt) (ps:=[15,16]) (fr0:=[(5,.ptr id4 0)]) (ia:=ZdT) (ib:=ZdS) true (λH'=>∃ its',(λ(s:(List Int)) (its:List Za9)=>∃ (a3:AV),its=[.arr a3 1 false (List.map eI64 s),.cel id4 [a3]]++[.lp (List.length H8) (lcOf Tryz.prog i108.nt [15,16] ZdT ZdS) [(5,.ptr id4 0)] .ready]) q its'/\Fp an H' [.arr a3 1 false (List.map eI64 az),.cel id4 [a3],.lp (List.length H8) (lcOf Tryz.prog i108.nt [15,16] ZdT ZdS) [(5,.ptr id4 0)] .ready] its') (Fp.get hH 2 rfl) rfl (by decide +kernel) rfl ?_
  show vc _ _ _ _ ⟨[(5,.ptr id4 0),(15,iv x13),(16,.agg (Zbd x14))],[],an⟩
  refine sq (rgS ⟨[(5,.ptr id4 0),(6,iv x13),(16,.agg (Zbd x14))],[],an⟩ Zab.f kr (tq (rgS ⟨[(5,.ptr id4 0),(6,iv x13),(7,.loc 7 0)],[(7,(Zbd x14))],an⟩ Zab.f kr (Zm0 (k:=2) hH rfl ?_))))
  intro ae hH
  replace hH:Fp _ _ _ [.arr a3 1 false (List.map eI64 az),.cel id4 [a3],.lp (List.length H8) (lcOf Tryz.prog i108.nt [15,16] ZdT ZdS) [(5,.ptr id4 0)] .busy]:=hH
  show vc _ _ _ _ ⟨[(5,.ptr id4 0),(6,iv x13),(7,.loc 7 0)],[(7,(Zbd x14))],ae⟩
  refine bk ?_
  obtain ⟨am,ad,h⟩:=bs h
  refine ZcD [5,7] (λs=>∃ (a4:AV) (aa:List HO),s=⟨[(5,.ptr id4 0),(7,.loc 7 0)],[(7,(Zbd x14))],aa⟩/\Fp an aa [.arr a3 1 false (List.map eI64 az),.cel id4 [a3],.lp (List.length H8) (lcOf Tryz.prog i108.nt [15,16] ZdT ZdS) [(5,.ptr id4 0)] .ready] [.arr a4 1 false (List.map eI64 am),.cel id4 [a4],.lp (List.length H8) (lcOf Tryz.prog i108.nt [15,16] ZdT ZdS) [(5,.ptr id4 0)] .busy]) ?_ ?_
  ·clear h
   have h:=ad
   refine sq (rgS ⟨[(5,.ptr id4 0),(7,.loc 7 0),(18,bv (x13==0))],[(7,(Zbd x14))],ae⟩ Zab.f kr (tq (it h (λau h=>?_) (λau h=>?_))))
   ·have aj:=Fp.get hH 1 rfl
    obtain ⟨al,ar,h⟩:=bs h
    obtain ⟨a8,aC,aw,hH⟩:=Fp.app (k:=0) (a:=a3) (sz:=1) (frz:=false) eI64 hH rfl ar
    replace hH:Fp _ _ _ [.arr a8 1 false (List.map eI64 al),.cel id4 [a3],.lp (List.length H8) (lcOf Tryz.prog i108.nt [15,16] ZdT ZdS) [(5,.ptr id4 0)] .busy]:=hH
    have a6:=ZaS (Fp.get hH 0 rfl)
    obtain ⟨ao,ay,hH⟩:=Fp.setCell (k:=1) (off:=0) (cs:=[a3]) (vs:=[a8]) (cs':=[a8]) hH rfl kr
    replace hH:Fp _ _ _ [.arr a8 1 false (List.map eI64 al),.cel id4 [a8],.lp (List.length H8) (lcOf Tryz.prog i108.nt [15,16] ZdT ZdS) [(5,.ptr id4 0)] .busy]:=hH
    refine rgS ⟨[(5,.ptr id4 0),(7,.loc 7 0)],[(7,(Zbd x14))],ao⟩ (Zab.u 0 (ZaD (H:=ae) (id:=id4) (off:=0) (cs:=[a3]) (c:=[a3]) (r:=a3) (by cases a0<;>kernel_rfl) (by cases a0<;>kernel_rfl) aj (by cases a0<;>kernel_rfl) (by cases a0<;>kernel_rfl) (by cases a0<;>kernel_rfl)) (Zab.h 3 (Ze9 (H:=ae) (a:=a3) (b:=Zad true [x14.from_]) (by cases a0<;>kernel_rfl) (by cases a0<;>kernel_rfl) (by cases a0<;>kernel_rfl) (by cases a0<;>kernel_rfl) aw) (Zab.o 0 (Zhr (H:=aC) (v:=a8) (cs:=[a8]) (by cases a6<;>kernel_rfl) (by cases a6<;>kernel_rfl) (by cases a6<;>kernel_rfl) (by cases a6<;>kernel_rfl) (by cases a6<;>kernel_rfl) ay) Zab.f))) kr ?_
    cases h
    exact ⟨rfl,⟨a8,ao,kr,(Fp.pick hH [0,1,2] rfl)⟩⟩
   refine sk ?_
   cases h
   exact ⟨rfl,⟨a3,ae,kr,(Fp.pick hH [0,1,2] rfl)⟩⟩
  clear ad
  rintro s hR
  obtain ⟨a4,aa,rfl,hH⟩:=hR
  replace hH:Fp _ _ _ [.arr a4 1 false (List.map eI64 am),.cel id4 [a4],.lp (List.length H8) (lcOf Tryz.prog i108.nt [15,16] ZdT ZdS) [(5,.ptr id4 0)] .busy]:=hH
  have a2:=ZaS (Fp.get hH 0 rfl)
  have ai:=Fp.get hH 1 rfl
  obtain ⟨ak,aq,h⟩:=bs h
  obtain ⟨a7,aB,av,hH⟩:=Fp.app (k:=0) (a:=a4) (sz:=1) (frz:=false) eI64 hH rfl aq
  replace hH:Fp _ _ _ [.arr a7 1 false (List.map eI64 ak),.cel id4 [a4],.lp (List.length H8) (lcOf Tryz.prog i108.nt [15,16] ZdT ZdS) [(5,.ptr id4 0)] .busy]:=hH
  have a5:=ZaS (Fp.get hH 0 rfl)
  obtain ⟨aA,ax,hH⟩:=Fp.setCell (k:=1) (off:=0) (cs:=[a4]) (vs:=[a7]) (cs':=[a7]) hH rfl kr
  replace hH:Fp _ _ _ [.arr a7 1 false (List.map eI64 ak),.cel id4 [a7],.lp (List.length H8) (lcOf Tryz.prog i108.nt [15,16] ZdT ZdS) [(5,.ptr id4 0)] .busy]:=hH
  refine rgS ⟨[],[],aA⟩ (Zab.u 0 (ZaD (H:=aa) (id:=id4) (off:=0) (cs:=[a4]) (c:=[a4]) (r:=a4) (by cases a2<;>kernel_rfl) (by cases a2<;>kernel_rfl) ai (by cases a2<;>kernel_rfl) (by cases a2<;>kernel_rfl) (by cases a2<;>kernel_rfl)) (Zab.h 3 (Ze9 (H:=aa) (a:=a4) (b:=Zad true [x14.to_]) (by cases a2<;>kernel_rfl) (by cases a2<;>kernel_rfl) (by cases a2<;>kernel_rfl) (by cases a2<;>kernel_rfl) av) (Zab.o 0 (Zhr (H:=aB) (v:=a7) (cs:=[a7]) (by cases a5<;>kernel_rfl) (by cases a5<;>kernel_rfl) (by cases a5<;>kernel_rfl) (by cases a5<;>kernel_rfl) (by cases a5<;>kernel_rfl) ax) Zab.f))) kr (bn ?_)
  cases h
  exact rbd (k:=2) (.ready) hH rfl rfl (λH6 hH=>⟨_,⟨a7,Eq.refl _⟩,(Fp.pick hH [0,1,2] rfl)⟩)
 refine ZjY (s:=⟨[(5,.ptr id4 0),(14,.fn 114 [] [.ptr id9 0,.ptr ab 0])],[],H8⟩) [(5,.ptr id4 0)] (FrOK.cons kr kr FrOK.nil) kr (λH=>rfl) (capT:=[.cel id9 [Zad false r7.1],.cel ab (Zac r7.2.Topo)]) (cells0:=[.arr a1 1 false (List.map eI64 l3),.cel id4 [a1]]) (rest:=[]) (HP.now (HP.pick hH [0,1,3,2] rfl)) (λ(s:(List Int)) (its:List Za9)=>∃ (a3:AV),its=[.arr a3 1 false (List.map eI64 s),.cel id4 [a3]]++[.lp (List.length H8) (lcOf Tryz.prog i108.nt [15,16] ZdT ZdS) [(5,.ptr id4 0)] .ready]) l3 a9 (by exact ⟨a1,Eq.refl _⟩) (λH its hT hH=>Zgd N (λ(s:(List Int)) (x13:Int) (x14:ZbU)=>Ze5 (λv:(List Int)=>ZbM N v x13 x14) s) r7.1 r7.2 l3 id9 ab (List.length H8) (λ(s:(List Int)) (its:List Za9)=>∃ (a3:AV),its=[.arr a3 1 false (List.map eI64 s),.cel id4 [a3]]++[.lp (List.length H8) (lcOf Tryz.prog i108.nt [15,16] ZdT ZdS) [(5,.ptr id4 0)] .ready]) af H its hT hH a9 ap) ?_
 rintro its hT
 obtain ⟨a3,rfl⟩:=hT
 refine ⟨_,_,rfl,?_⟩
 intro ac hF
 replace hH:HP _ [.cel id9 [Zad false r7.1],.cel ab (Zac r7.2.Topo),.arr a3 1 false (List.map eI64 a9),.cel id4 [a3]]:=HP.after (HP.pick hH [0,1,3,2] rfl) hF
 have a0:=ZaS (HP.get hH 2 rfl)
 refine ZkU (S:=⟨[(5,.ptr id4 0),(14,.fn 114 [] [.ptr id9 0,.ptr ab 0])],[],ac⟩) (bn (tq (kq ?_)))
 replace hH:HP _ [.arr a3 1 false (List.map eI64 a9),.cel id4 [a3]]:=HP.pick hH [2,3] rfl
 refine sq ?_
 have ag:=HP.get hH 1 rfl
 refine rgS ⟨[(4,a3)],[],ac⟩ (Zab.u 0 (ZaD (H:=ac) (id:=id4) (off:=0) (cs:=[a3]) (c:=[a3]) (r:=a3) (by cases a0<;>kernel_rfl) (by cases a0<;>kernel_rfl) ag (by cases a0<;>kernel_rfl) (by cases a0<;>kernel_rfl) (by cases a0<;>kernel_rfl)) Zab.f) (by cases a0<;>kernel_rfl) ?_
 replace hH:HP _ [.arr a3 1 false (List.map eI64 a9)]:=HP.pick hH [0] rfl
 refine tq (rt ?_)
 obtain rfl:=Zao h
 exact ZeB (H:=ac) (ys:=[a3]) (xs:=[.p (.sl 1 false (List.map eI64 a9))]) (by cases a0<;>kernel_rfl) (by cases a0<;>kernel_rfl) (Zbs (HP.pure (k:=0) (frz:=false) eI64 hH rfl).2 Zci) kr
theorem Zgz (N:Nat)(a0_:(List Int))(a1_:Int)(r:Bool)(h:Zb3 N a0_ a1_=some r):Zba Tryz.prog 109 [Zad false a0_,iv a1_] (bv r):=by
 unfold Zb3 at h
 have hH  := hp0
 refine ZaG ZyS rfl rfl (Zay _ _ _ ?_) rfl
 refine sq (rg Zab.f (tq (sq ?_)))
 obtain ⟨r1,hr1,h⟩:=bs h
 refine rg (Zab.v 2 (Zaz (hc:=Zht N a0_ a1_ r1 hr1)) Zab.f) (tq (rt ?_))
 cases h
 exact ZaA kr
theorem ZlJ (N:Nat)(a0_:ZaL)(a1_:ZaL)(r:Bool)(h:ZhQ N a0_ a1_=some r):Zba Tryz.prog 111 [.agg (ZdG a0_),.agg (ZdG a1_)] (bv r):=by
 unfold ZhQ at h
 have hH  := hp0
 refine ZaG ZyQ rfl rfl (Zay _ _ _ ?_) rfl
 refine sq (rg Zab.f (tq (sq (sq (rg Zab.f (tq (it h (λhc1 h=>?_) (λhc1 h=>?_))))))))
 ·refine sq (rg Zab.f (tq (rt (tr ?_))))
  cases h
  exact ZaA kr
 refine sk (tq (kq (sq ?_)))
 obtain ⟨r2,hr2,h⟩:=bs h
 refine rg (Zab.v 2 (Zaz (hc:=Zmy N a0_ a1_ r2 hr2)) Zab.f) (tq (sq ?_))
 obtain ⟨r3,hr3,h⟩:=bs h
 refine rg (Zab.v 6 (Zaz (hc:=ZnA N (w64 (a1_.From-a0_.From)) r2.2.2 r3 hr3)) Zab.f) (tq (sq (rgX ⟨[(4,bv ((decide (r2.1<=r3))&&(decide (r3<=r2.2.1))))],[],[]⟩ ?_ ?_)))
 ·rcases Bool.eq_false_or_eq_true (decide (r2.1<=r3)) with hc4|hc5
  ·exact (EP.u 2 (Zam (c:=(decide (r2.1<=r3))) (h:=hc4)) (EP.f (by simp only [hc4];kernel_rfl)))
  exact (EP.u 2 (Zam (c:=(decide (r2.1<=r3))) (h:=hc5)) (EP.f (by simp only [hc5];kernel_rfl)))
 refine tq (rt ?_)
 cases h
 exact ZaA kr
theorem ZlG (N:Nat)(a0_:Za7)(c0_:(List Int))(k0_:Nat)(H:List HO)(hH:HP H [.cel k0_ [Zad false c0_]])(r:(List Int)×Int)(h:Zfa N a0_ c0_=some r):Zcm Tryz.prog 113 [.agg (Zac a0_.Topo),.ptr k0_ 0] H (.tup [Zad false r.1,iv r.2]) H:=by
 unfold Zfa at h
 refine ZcN ZyO rfl rfl rfl (Zay _ _ _ (sq (rg Zab.f (tq (sq ?_)))))
 have hlc1:=HP.get hH 0 rfl
 obtain ⟨r2,hr2,h⟩:=bs h
 refine rg (Zab.u 1 (ZaD (H:=H) (id:=k0_) (off:=0) (cs:=[Zad false c0_]) (c:=[Zad false c0_]) (r:=Zad false c0_) (hl:=hlc1)) (Zab.v 0 (Zaz (hc:=ZeR N a0_ c0_ r2 hr2)) Zab.f)) ?_
 replace hH:HP _ []:=HP.pick hH [] rfl
 refine tq (rt ?_)
 cases h
 exact Zb8 kr kr
theorem Zc8 (N:Nat)(a0_:Zbi)(a1_:Zag)(a2_:Int)(a3_:Int)(bp1_1_:AV)(bp1_2_:AV)(H:List HO)(hH:HP H [.arr bp1_1_ 1 true (List.map eB a1_.Station),.arr bp1_2_ 4 true (List.map Zat a1_.Links)])(r:Zag)(h:Zbj N a0_ a1_ a2_ a3_=some r):∃ (or_0_1_:AV) (or_0_2_:AV) (H':List HO),Zcm Tryz.prog 15 [.agg (ZaH a0_),.agg [iv a1_.Nodes,bp1_1_,bp1_2_],iv a2_,iv a3_] H (.agg [iv r.Nodes,or_0_1_,or_0_2_]) H'/\Fp H H' [.arr bp1_1_ 1 true (List.map eB a1_.Station),.arr bp1_2_ 4 true (List.map Zat a1_.Links)] [.arr or_0_1_ 1 true (List.map eB r.Station),.arr or_0_2_ 4 true (List.map Zat r.Links)]:=by
 suffices hs:∃ r' H',Zcm Tryz.prog 15 [.agg (ZaH a0_),.agg [iv a1_.Nodes,bp1_1_,bp1_2_],iv a2_,iv a3_] H r' H'/\∃ (or_0_1_:AV) (or_0_2_:AV),r'=.agg [iv r.Nodes,or_0_1_,or_0_2_]/\Fp H H' [.arr bp1_1_ 1 true (List.map eB a1_.Station),.arr bp1_2_ 4 true (List.map Zat a1_.Links)] [.arr or_0_1_ 1 true (List.map eB r.Station),.arr or_0_2_ 4 true (List.map Zat r.Links)] by
  obtain ⟨_,H',h1,or_0_1_,or_0_2_,he,h2⟩:=hs
  exact ⟨or_0_1_,or_0_2_,H',he ▸ h1,h2⟩
 unfold Zbj at h
 replace hH:=Fp.refl hH
 have hfbp1_1_:=ZaS (Fp.get hH 0 rfl)
 have hfbp1_2_:=ZaS (Fp.get hH 1 rfl)
 refine ZjT ZLM [] (λr' H'=>∃ (or_0_1_:AV) (or_0_2_:AV),r'=.agg [iv r.Nodes,or_0_1_,or_0_2_]/\Fp H H' [.arr bp1_1_ 1 true (List.map eB a1_.Station),.arr bp1_2_ 4 true (List.map Zat a1_.Links)] [.arr or_0_1_ 1 true (List.map eB r.Station),.arr or_0_2_ 4 true (List.map Zat r.Links)]) (λr' H' q=>by obtain ⟨or_0_1_,or_0_2_,e,hp⟩:=q;subst e;have hfor_0_1_:=ZaS (Fp.get hp 0 rfl);have hfor_0_2_:=ZaS (Fp.get hp 1 rfl);show Za3 _=true;cases hfor_0_1_<;>cases hfor_0_2_<;>rfl) rfl (by cases hfbp1_1_<;>cases hfbp1_2_<;>kernel_rfl) (sq (rgS ⟨[(2,iv a2_),(3,iv a3_),(4,.loc 4 0),(5,.loc 5 0),(8,.loc 8 0)],[(4,(ZaH a0_)),(5,[iv a1_.Nodes,bp1_1_,bp1_2_]),(8,[iv 0,s_eB true [],Zae true []])],H⟩ (Zab.f (h:=(by cases hfbp1_1_<;>cases hfbp1_2_<;>kernel_rfl))) (by cases hfbp1_1_<;>cases hfbp1_2_<;>kernel_rfl) (tq (sq ?_))))
 have hln1:=Fp.len (k:=1) (a:=bp1_2_) (sz:=4) (frz:=true) (l:=a1_.Links) Zat hH rfl
 refine rgS ⟨[(2,iv a2_),(3,iv a3_),(4,.loc 4 0),(5,.loc 5 0),(8,.loc 8 0),(9,iv ((List.length a1_.Links:Nat):Int))],[(4,(ZaH a0_)),(5,[iv a1_.Nodes,bp1_1_,bp1_2_]),(8,[iv 0,s_eB true [],Zae true []])],H⟩ (Zab.u (hm:=(by cases hfbp1_1_<;>cases hfbp1_2_<;>kernel_rfl)) 2 (Zan (ys:=[bp1_2_]) (by cases hfbp1_1_<;>cases hfbp1_2_<;>kernel_rfl) hln1) (Zab.f (h:=(by cases hfbp1_1_<;>cases hfbp1_2_<;>kernel_rfl)))) (by cases hfbp1_1_<;>cases hfbp1_2_<;>kernel_rfl) (tq (sq ?_))
 obtain ⟨r2,hr2,h⟩:=bs h
 obtain ⟨r3,hr3,h⟩:=bs h
 refine rqS ⟨[(2,iv a2_),(3,iv a3_),(5,.loc 5 0),(8,.loc 8 0),(9,iv ((List.length a1_.Links:Nat):Int)),(10,.loc 10 0)],[(5,[iv a1_.Nodes,bp1_1_,bp1_2_]),(8,[iv 0,s_eB true [],Zae true []]),(10,[iv a2_,iv a3_,iv (w64 (1+(Int.tmod r2 20))),iv (Int.tmod r3 50)])],H⟩ (Zab.u 5 (Za1 (hc:=Zfd N a0_.Pers ((List.length a1_.Links:Nat):Int) r2 hr2)) (Zab.u 5 (Za1 (hc:=Zfd N a0_.Delays ((List.length a1_.Links:Nat):Int) r3 hr3)) Zab.f)) (by cases hfbp1_1_<;>cases hfbp1_2_<;>kernel_rfl) (tq (sq (sq ?_)))
 obtain ⟨au,hj,h⟩:=bs h
 refine rgR (λs=>∃ (a9:AV) (a2:AV) (a4:List HO),s=⟨[(2,iv a2_),(3,iv a3_),(5,.loc 5 0),(8,.loc 8 0),(9,iv ((List.length a1_.Links:Nat):Int)),(10,.loc 10 0),(36,bv au)],[(5,[iv a1_.Nodes,a9,a2]),(8,[iv 0,s_eB true [],Zae true []]),(10,[iv a2_,iv a3_,iv (w64 (1+(Int.tmod r2 20))),iv (Int.tmod r3 50)])],a4⟩/\Fp H a4 [.arr bp1_1_ 1 true (List.map eB a1_.Station),.arr bp1_2_ 4 true (List.map Zat a1_.Links)] [.arr a9 1 true (List.map eB a1_.Station),.arr a2 4 true (List.map Zat a1_.Links)]) ?_ ?_
 ·clear h
  rcases ZaC hj with ⟨hc4,hj⟩|⟨hc5,hj⟩
  ·obtain rfl:=Zao hj
   exact (EP.u 1 (Zam (c:=(((List.length a1_.Links:Nat):Int)==24)) (h:=hc4)) (EP.f ⟨bp1_1_,bp1_2_,H,(by show _=_;cases hfbp1_1_<;>cases hfbp1_2_<;>kernel_rfl),(Fp.pick hH [0,1] rfl)⟩))
  refine (EP.u 1 (Zam (c:=(((List.length a1_.Links:Nat):Int)==24)) (h:=hc5)) ?_)
  obtain ⟨r6,hr6,hj⟩:=bs hj
  obtain ⟨H7,hzH7,hzH7v,hH⟩:=Fp.frz (k:=0) (a:=bp1_1_) (sz:=1) (frz:=true) eB hH rfl
  replace hH:Fp _ _ _ [.arr bp1_1_ 1 true (List.map eB a1_.Station),.arr bp1_2_ 4 true (List.map Zat a1_.Links)]:=hH
  obtain ⟨H8,hzH8,hzH8v,hH⟩:=Fp.frz (k:=1) (a:=bp1_2_) (sz:=4) (frz:=true) Zat hH rfl
  replace hH:Fp _ _ _ [.arr bp1_1_ 1 true (List.map eB a1_.Station),.arr bp1_2_ 4 true (List.map Zat a1_.Links)]:=hH
  obtain rfl:=Zao hj
  exact (EP.v (hm:=(by cases hfbp1_1_<;>cases hfbp1_2_<;>kernel_rfl)) 3 (Zi0 (H:=H) (ys:=[.agg [iv a1_.Nodes,bp1_1_,bp1_2_],.agg [iv a2_,iv a3_,iv (w64 (1+(Int.tmod r2 20))),iv (Int.tmod r3 50)]]) (by cases hfbp1_1_<;>cases hfbp1_2_<;>kernel_rfl) (by cases hfbp1_1_<;>cases hfbp1_2_<;>kernel_rfl) (Zfm (ZqZ (ZdF rfl (ZdF hzH7 (ZdF hzH8 Zq0)))) (Zfm rfl Zi8)) (Zka N a1_ (ZaF.mk a2_ a3_ (w64 (1+(Int.tmod r2 20))) (Int.tmod r3 50)) r6 hr6)) (EP.f ⟨bp1_1_,bp1_2_,H8,(by show _=_;cases hfbp1_1_<;>cases hfbp1_2_<;>kernel_rfl),(Fp.pick hH [0,1] rfl)⟩ (h:=(by cases hfbp1_1_<;>cases hfbp1_2_<;>kernel_rfl))))
 clear hj
 rintro s hR
 obtain ⟨a9,a2,a4,rfl,hH⟩:=hR
 replace hH:Fp _ _ _ [.arr a9 1 true (List.map eB a1_.Station),.arr a2 4 true (List.map Zat a1_.Links)]:=hH
 have hfa9:=ZaS (Fp.get hH 0 rfl)
 have a0:=ZaS (Fp.get hH 1 rfl)
 refine tq (it h (λao h=>?_) (λao h=>?_))
 ·refine sq (rgS ⟨[(8,.loc 8 0)],[(8,[iv a1_.Nodes,a9,a2])],a4⟩ (Zab.f (h:=(by cases a0<;>cases hfa9<;>kernel_rfl))) (by cases a0<;>cases hfa9<;>kernel_rfl) (tq (rt (tr ?_))))
  cases h
  exact ⟨[.agg [iv a1_.Nodes,a9,a2]],(by cases a0<;>cases hfa9<;>kernel_rfl),a9,a2,(by cases a0<;>cases hfa9<;>kernel_rfl),Fp.pk hH [0,1] rfl⟩
 refine sk (tq (kq (sq (sq (rgS ⟨[(2,iv a2_),(3,iv a3_),(5,.loc 5 0),(8,.loc 8 0),(9,iv ((List.length a1_.Links:Nat):Int)),(10,.loc 10 0),(11,iv 0)],[(5,[iv a1_.Nodes,a9,a2]),(8,[iv 0,s_eB true [],Zae true []]),(10,[iv a2_,iv a3_,iv (w64 (1+(Int.tmod r2 20))),iv (Int.tmod r3 50)])],a4⟩ Zab.f (by cases a0<;>cases hfa9<;>kernel_rfl) (tq (bk ?_)))))))
 obtain ⟨ac,a7,h⟩:=bs h
 refine ZaT ((ZaI (λ(x:Int) s=>s=⟨[(2,iv a2_),(3,iv a3_),(5,.loc 5 0),(8,.loc 8 0),(9,iv ((List.length a1_.Links:Nat):Int)),(10,.loc 10 0),(11,iv x)],[(5,[iv a1_.Nodes,a9,a2]),(8,[iv 0,s_eB true [],Zae true []]),(10,[iv a2_,iv a3_,iv (w64 (1+(Int.tmod r2 20))),iv (Int.tmod r3 50)])],a4⟩) (λx:Int=>Zb1 N a1_ a2_ a3_ x) (λ(p:(Unit)⊕(Zag)) e s=>match p with|(.inl p)=>e=.exit 0/\(s=⟨[(5,.loc 5 0),(8,.loc 8 0),(10,.loc 10 0)],[(5,[iv a1_.Nodes,a9,a2]),(8,[iv 0,s_eB true [],Zae true []]),(10,[iv a2_,iv a3_,iv (w64 (1+(Int.tmod r2 20))),iv (Int.tmod r3 50)])],a4⟩)|(.inr p)=>e=.ret/\∃ xs,rawL (wS [] s) i15.res=some xs/\∃ (or_0_1_:AV) (or_0_2_:AV),ZbV xs=.agg [iv p.Nodes,or_0_1_,or_0_2_]/\Fp H (weakH [] s.H) [.arr bp1_1_ 1 true (List.map eB a1_.Station),.arr bp1_2_ 4 true (List.map Zat a1_.Links)] [.arr or_0_1_ 1 true (List.map eB p.Station),.arr or_0_2_ 4 true (List.map Zat p.Links)]) ?_ N _ ac _ a7 (by show _=_;cases a0<;>cases hfa9<;>kernel_rfl)).mono ?_)
 ·clear h a7
  rintro i14 o s h hR
  obtain rfl:=hR
  replace h:Zb1 N a1_ a2_ a3_ i14=some o:=h
  unfold Zb1 at h
  refine sq (sq (rgS ⟨[(2,iv a2_),(3,iv a3_),(5,.loc 5 0),(8,.loc 8 0),(9,iv ((List.length a1_.Links:Nat):Int)),(10,.loc 10 0),(11,iv i14),(40,bv (decide (i14<((List.length a1_.Links:Nat):Int))))],[(5,[iv a1_.Nodes,a9,a2]),(8,[iv 0,s_eB true [],Zae true []]),(10,[iv a2_,iv a3_,iv (w64 (1+(Int.tmod r2 20))),iv (Int.tmod r3 50)])],a4⟩ Zab.f (by cases a0<;>cases hfa9<;>kernel_rfl) (tq (it h (λag h=>?_) (λag h=>?_)))))
  ·refine sk (tq (kq (sq (bk (sq ?_)))))
   obtain ⟨a3,a8,h⟩:=bs h
   obtain ⟨ap,am,_,ak,aa,al,a6⟩:=Fp.elem (k:=1) (a:=a2) (sz:=4) (frz:=true) Zat hH rfl a8
   obtain ⟨ab,ad,h⟩:=bs h
   refine rgS ⟨[(2,iv a2_),(3,iv a3_),(5,.loc 5 0),(8,.loc 8 0),(9,iv ((List.length a1_.Links:Nat):Int)),(10,.loc 10 0),(11,iv i14),(50,bv ab)],[(5,[iv a1_.Nodes,a9,a2]),(8,[iv 0,s_eB true [],Zae true []]),(10,[iv a2_,iv a3_,iv (w64 (1+(Int.tmod r2 20))),iv (Int.tmod r3 50)])],a4⟩ (Zab.u (hm:=(by cases a0<;>cases hfa9<;>kernel_rfl)) 3 (Zan (ys:=[a2,iv i14]) (by cases a0<;>cases hfa9<;>kernel_rfl) (a6 .i64)) (Zab.u (hm:=(by cases a0<;>cases hfa9<;>kernel_rfl)) 0 (ZbH (H:=a4) (off:=0) (cs:=[.int .i64 a3.A,.int .i64 a3.B,.int .i64 a3.Per,.int .i64 a3.Delay]) (r:=.agg (Za0 a3)) Zat a8 aa (by cases a0<;>cases hfa9<;>kernel_rfl) (by cases a0<;>cases hfa9<;>kernel_rfl) (by cases a0<;>cases hfa9<;>kernel_rfl) (by cases a0<;>cases hfa9<;>kernel_rfl)) (Zab.v (hm:=(by cases a0<;>cases hfa9<;>kernel_rfl)) 2 (Zaz (by cases a0<;>cases hfa9<;>kernel_rfl) (Zjy N a3 a2_ a3_ ab ad)) Zab.f))) (by cases a0<;>cases hfa9<;>kernel_rfl) (tq (it h (λaf h=>?_) (λaf h=>?_)))
   ·refine sq (rgS ⟨[(8,.loc 8 0)],[(8,[iv a1_.Nodes,a9,a2])],a4⟩ (Zab.f (h:=(by cases a0<;>cases hfa9<;>kernel_rfl))) (by cases a0<;>cases hfa9<;>kernel_rfl) (tq (rt (br (tr ?_)))))
    cases h
    exact ⟨_,rfl,rfl,⟨[.agg [iv a1_.Nodes,a9,a2]],(by cases a0<;>cases hfa9<;>kernel_rfl),a9,a2,(by cases a0<;>cases hfa9<;>kernel_rfl),Fp.pk hH [0,1] rfl⟩⟩
   refine sk (bn (tq (kq (rgS ⟨[(2,iv a2_),(3,iv a3_),(5,.loc 5 0),(8,.loc 8 0),(9,iv ((List.length a1_.Links:Nat):Int)),(10,.loc 10 0),(11,iv (w64 (i14+1)))],[(5,[iv a1_.Nodes,a9,a2]),(8,[iv 0,s_eB true [],Zae true []]),(10,[iv a2_,iv a3_,iv (w64 (1+(Int.tmod r2 20))),iv (Int.tmod r3 50)])],a4⟩ Zab.f (by cases a0<;>cases hfa9<;>kernel_rfl) ?_))))
   cases h
   exact ⟨_,rfl,(by show _=_;cases a0<;>cases hfa9<;>kernel_rfl)⟩
  refine kq (xq (tx ?_))
  cases h
  exact ⟨_,rfl,rfl,(by show _=_;cases a0<;>cases hfa9<;>kernel_rfl)⟩
 rintro e s hq
 rcases ac with ar|aq
 ·dsimp only at h hq
  obtain ⟨rfl,hR⟩:=hq
  obtain rfl:=hR
  refine bx (tq (sq ?_))
  obtain ⟨an,ae,h⟩:=bs h
  obtain ⟨a5,aj,ai,hH⟩:=Fp.app (k:=1) (a:=a2) (sz:=4) (frz:=true) Zat hH rfl ae
  replace hH:Fp _ _ _ [.arr a9 1 true (List.map eB a1_.Station),.arr a5 4 true (List.map Zat an)]:=hH
  have a1:=ZaS (Fp.get hH 1 rfl)
  refine rgS ⟨[(5,.loc 5 0),(8,.loc 8 0)],[(5,[iv a1_.Nodes,a9,a5]),(8,[iv 0,s_eB true [],Zae true []])],aj⟩ (Zab.h (hm:=(by cases a0<;>cases hfa9<;>kernel_rfl)) 4 (Ze9 (H:=a4) (a:=a2) (b:=Zae true [(ZaF.mk a2_ a3_ (w64 (1+(Int.tmod r2 20))) (Int.tmod r3 50))]) (by cases a0<;>cases hfa9<;>kernel_rfl) (by cases a0<;>cases hfa9<;>kernel_rfl) (by cases a0<;>cases hfa9<;>kernel_rfl) (by cases a0<;>cases hfa9<;>kernel_rfl) ai) (Zab.f (h:=(by cases a0<;>cases a1<;>cases hfa9<;>kernel_rfl)))) (by cases a0<;>cases a1<;>cases hfa9<;>kernel_rfl) (tq (sq (rgS ⟨[(8,.loc 8 0)],[(8,[iv a1_.Nodes,a9,a5])],aj⟩ (Zab.f (h:=(by cases a1<;>cases hfa9<;>kernel_rfl))) (by cases a1<;>cases hfa9<;>kernel_rfl) (tq (rt ?_)))))
  cases h
  exact ⟨[.agg [iv a1_.Nodes,a9,a5]],(by cases a1<;>cases hfa9<;>kernel_rfl),a9,a5,(by cases a1<;>cases hfa9<;>kernel_rfl),Fp.pk hH [0,1] rfl⟩
 dsimp only at h hq
 obtain ⟨rfl,hq⟩:=hq
 refine br (tr ?_)
 cases h
 exact hq
theorem Zjw (N:Nat)(a0_:Zag)(r:Bool)(h:ZfA N a0_=some r):Zba Tryz.prog 22 [.agg (Zac a0_)] (bv r):=by
 unfold ZfA at h
 have hH  := hp0
 refine ZaG ZLF rfl rfl (Zay _ _ _ ?_) rfl
 refine sq (rg Zab.f (tq (sq (sq (rgX ⟨[(1,.loc 1 0),(30,bv ((decide (a0_.Nodes<2))||((decide (a0_.Nodes>12))||((((List.length a0_.Station:Nat):Int)!=a0_.Nodes)||(decide (((List.length a0_.Links:Nat):Int)>24))))))],[(1,(Zac a0_))],[]⟩ ?_ ?_)))))
 ·rcases Bool.eq_false_or_eq_true (decide (a0_.Nodes<2)) with hc1|hc2
  ·exact (EP.u 2 (Zam (c:=(decide (a0_.Nodes<2))) (h:=hc1)) (EP.f (by simp only [hc1];kernel_rfl)))
  refine (EP.u 2 (Zam (c:=(decide (a0_.Nodes<2))) (h:=hc2)) ?_)
  rcases Bool.eq_false_or_eq_true (decide (a0_.Nodes>12)) with hc3|hc4
  ·exact (EP.u 3 (Zam (c:=(decide (a0_.Nodes>12))) (h:=hc3)) (EP.f (by simp only [hc2,hc3];kernel_rfl)))
  refine (EP.u 3 (Zam (c:=(decide (a0_.Nodes>12))) (h:=hc4)) (EP.u 4 (Zan (ys:=[s_eB false a0_.Station]) (h:=Zax eB)) ?_))
  rcases Bool.eq_false_or_eq_true (((List.length a0_.Station:Nat):Int)!=a0_.Nodes) with hc5|hc6
  ·exact (EP.u 2 (Zam (c:=(((List.length a0_.Station:Nat):Int)!=a0_.Nodes)) (h:=hc5)) (EP.f (by simp only [hc2,hc4,hc5];kernel_rfl)))
  exact (EP.u 2 (Zam (c:=(((List.length a0_.Station:Nat):Int)!=a0_.Nodes)) (h:=hc6)) (EP.u 4 (Zan (ys:=[Zae false a0_.Links]) (h:=Zax Zat)) (EP.f (by simp only [hc2,hc4,hc6];kernel_rfl))))
 refine tq (it h (λhc7 h=>?_) (λhc7 h=>?_))
 ·refine sq (rg Zab.f (tq (rt (tr ?_))))
  cases h
  exact ZaA kr
 refine sk (tq (kq (sq ?_)))
 obtain ⟨c8,c0,h⟩:=bs h
 obtain ⟨a8,H9,ha8,hH9,ha8b,hH⟩:=HP.make eI64 hH c0
 replace hH:HP _ [.arr a8 1 false (List.map eI64 c8)]:=hH
 have hfa8:=ZaS (HP.get hH 0 rfl)
 refine rgS ⟨[(1,.loc 1 0),(3,a8)],[(1,(Zac a0_))],H9⟩ (Zab.h 2 (ZjI (H:=[]) (zero:=[.int .i64 0]) (bytes:=8) kr kr kr ha8 hH9 ha8b) Zab.f) (by cases hfa8<;>kernel_rfl) (tq (sq (sq (rgS ⟨[(1,.loc 1 0),(3,a8),(4,iv 0)],[(1,(Zac a0_))],H9⟩ Zab.f (by cases hfa8<;>kernel_rfl) (tq (bk ?_))))))
 obtain ⟨aW,al,h⟩:=bs h
 refine ZaT ((ZaI (λ(x:Int×(List Int)) s=>∃ (a6:AV) (ac:List HO),s=⟨[(1,.loc 1 0),(3,a6),(4,iv x.1)],[(1,(Zac a0_))],ac⟩/\HP ac [.arr a6 1 false (List.map eI64 x.2)]) (λx:Int×(List Int)=>Zca N a0_ x.1 x.2) (λ(p:((List Int))⊕(Bool)) e s=>match p with|(.inl p)=>e=.exit 0/\(∃ (a5:AV) (a7:List HO),s=⟨[(1,.loc 1 0),(3,a5)],[(1,(Zac a0_))],a7⟩/\HP a7 [.arr a5 1 false (List.map eI64 p)])|(.inr p)=>e=.ret/\∃ xs,resL s i22.res=some xs/\ZbV xs=bv p) ?_ N _ aW _ al ⟨a8,H9,(by show _=_;cases hfa8<;>kernel_rfl),(HP.pick hH [0] rfl)⟩).mono ?_)
 ·clear h al
  rintro ⟨i13,bT⟩ o s h hR
  obtain ⟨a6,ac,rfl,hH⟩:=hR
  replace hH:HP _ [.arr a6 1 false (List.map eI64 bT)]:=hH
  have a0:=ZaS (HP.get hH 0 rfl)
  replace h:Zca N a0_ i13 bT=some o:=h
  unfold Zca at h
  refine sq (sq (rgS ⟨[(1,.loc 1 0),(3,a6),(4,iv i13),(38,bv (decide (i13<((List.length a0_.Links:Nat):Int))))],[(1,(Zac a0_))],ac⟩ (Zab.u 3 (Zan (ys:=[Zae false a0_.Links]) (h:=Zax Zat)) Zab.f) (by cases a0<;>kernel_rfl) (tq (it h (λbJ h=>?_) (λbJ h=>?_)))))
  ·refine sk (tq (kq (sq (bk (sq ?_)))))
   obtain ⟨a1,aY,h⟩:=bs h
   refine rgS ⟨[(1,.loc 1 0),(3,a6),(4,iv i13),(5,.loc 5 0)],[(1,(Zac a0_)),(5,(Za0 a1))],ac⟩ (Zab.u 3 (Zan (ys:=[Zae false a0_.Links,iv i13]) (h:=Zal Zat aY)) (Zab.u 0 (Zav (sz:=4) (off:=0) (cs:=[.int .i64 a1.A,.int .i64 a1.B,.int .i64 a1.Per,.int .i64 a1.Delay]) (r:=.agg (Za0 a1)) Zat aY) (Zab.f (h:=(by cases a0<;>kernel_rfl))))) (by cases a0<;>kernel_rfl) (tq (sq (sq ?_)))
   obtain ⟨bq,bu,h⟩:=bs h
   refine rgS ⟨[(1,.loc 1 0),(3,a6),(4,iv i13),(5,.loc 5 0),(49,bv (!bq))],[(1,(Zac a0_)),(5,(Za0 a1))],ac⟩ (Zab.v 2 (Zaz (hc:=Zka N a0_ a1 bq bu)) Zab.f) (by cases a0<;>kernel_rfl) (tq (it h (λbI h=>?_) (λbI h=>?_)))
   ·refine sq (rgS ⟨[(2,bv false)],[],ac⟩ Zab.f kr ?_)
    replace hH:HP _ []:=HP.pick hH [] rfl
    refine tq (rt (tr (br (tr ?_))))
    cases h
    exact ⟨_,rfl,rfl,ZaA kr⟩
   refine sk (tq (kq (sq (sq (rgS ⟨[(1,.loc 1 0),(3,a6),(4,iv i13),(5,.loc 5 0),(6,iv 0)],[(1,(Zac a0_)),(5,(Za0 a1))],ac⟩ Zab.f (by cases a0<;>kernel_rfl) (tq (bk ?_)))))))
   obtain ⟨aX,am,h⟩:=bs h
   refine ZaT ((ZaI (λ(x:Int) s=>s=⟨[(1,.loc 1 0),(3,a6),(4,iv i13),(5,.loc 5 0),(6,iv x)],[(1,(Zac a0_)),(5,(Za0 a1))],ac⟩) (λx:Int=>Zdv N a0_ i13 a1 x) (λ(p:(Unit)⊕(Bool)) e s=>match p with|(.inl p)=>e=.exit 2/\(s=⟨[(1,.loc 1 0),(3,a6),(4,iv i13),(5,.loc 5 0)],[(1,(Zac a0_)),(5,(Za0 a1))],ac⟩)|(.inr p)=>e=.ret/\∃ xs,resL s i22.res=some xs/\ZbV xs=bv p) ?_ N _ aX _ am (by show _=_;cases a0<;>kernel_rfl)).mono ?_)
   ·clear h am
    rintro ai o s h hR
    obtain rfl:=hR
    replace h:Zdv N a0_ i13 a1 ai=some o:=h
    unfold Zdv at h
    refine sq (sq (rgS ⟨[(1,.loc 1 0),(3,a6),(4,iv i13),(5,.loc 5 0),(6,iv ai),(52,bv (decide (ai<i13)))],[(1,(Zac a0_)),(5,(Za0 a1))],ac⟩ Zab.f (by cases a0<;>kernel_rfl) (tq (it h (λbl h=>?_) (λbl h=>?_)))))
    ·refine sk (tq (kq (sq (bk (sq ?_)))))
     obtain ⟨ab,aI,h⟩:=bs h
     obtain ⟨aU,b1,h⟩:=bs h
     refine rqS ⟨[(1,.loc 1 0),(3,a6),(4,iv i13),(5,.loc 5 0),(6,iv ai),(64,bv aU)],[(1,(Zac a0_)),(5,(Za0 a1))],ac⟩ (Zab.u 3 (Zan (ys:=[Zae false a0_.Links,iv ai]) (h:=Zal Zat aI)) (Zab.u 0 (ZaK (Zav (sz:=4) (off:=0) (cs:=[.int .i64 ab.A,.int .i64 ab.B,.int .i64 ab.Per,.int .i64 ab.Delay]) (r:=.agg (Za0 ab)) Zat aI)) (Zab.v 4 (Zaz (hc:=Zjy N ab a1.A a1.B aU b1)) Zab.f))) (by cases a0<;>kernel_rfl) (tq (it h (λbj h=>?_) (λbj h=>?_)))
     ·refine sq (rgS ⟨[(2,bv false)],[],ac⟩ Zab.f kr ?_)
      replace hH:HP _ []:=HP.pick hH [] rfl
      refine tq (rt (br (tr ?_)))
      cases h
      exact ⟨_,rfl,rfl,ZaA kr⟩
     refine sk (bn (tq (kq (rgS ⟨[(1,.loc 1 0),(3,a6),(4,iv i13),(5,.loc 5 0),(6,iv (w64 (ai+1)))],[(1,(Zac a0_)),(5,(Za0 a1))],ac⟩ Zab.f (by cases a0<;>kernel_rfl) ?_))))
     cases h
     exact ⟨_,rfl,(by show _=_;cases a0<;>kernel_rfl)⟩
    refine kq (xq (tx ?_))
    cases h
    exact ⟨_,rfl,rfl,(by show _=_;cases a0<;>kernel_rfl)⟩
   rintro e s hq
   rcases aX with c5|c4
   ·dsimp only at h hq
    obtain ⟨rfl,hR⟩:=hq
    obtain rfl:=hR
    refine bx (tq (sq ?_))
    obtain ⟨a9,aG,h⟩:=bs h
    obtain ⟨bZ,bS,_,bE,aT,bG,ay⟩:=HP.elem (k:=0) (a:=a6) (sz:=1) (frz:=false) eI64 hH rfl aG
    obtain ⟨c7,aE,h⟩:=bs h
    obtain ⟨bY,bR,_,aw,aS,ax,av⟩:=HP.elem (k:=0) (a:=a6) (sz:=1) (frz:=false) eI64 hH rfl aE
    obtain ⟨aK,bp,hH⟩:=HP.setRow (k:=0) (off:=0) (cs:=[iv (w64 (a9+1))]) (ps:=[.int .i64 (w64 (a9+1))]) (e':=(w64 (a9+1))) eI64 hH rfl ax aS (aw rfl) aE kr kr
    replace hH:HP _ [.arr a6 1 false (List.map eI64 (List.set bT (Int.toNat a1.A) (w64 (a9+1))))]:=hH
    refine rqS ⟨[(1,.loc 1 0),(3,a6),(4,iv i13),(5,.loc 5 0)],[(1,(Zac a0_)),(5,(Za0 a1))],aK⟩ (Zab.u 6 (Zan (ys:=[a6,iv a1.A]) (by cases a0<;>kernel_rfl) (ay .i64)) (Zab.u 0 (ZaK (ZbH (H:=ac) (off:=0) (cs:=[.int .i64 a9]) (r:=iv a9) eI64 aG aT)) (Zab.u 1 (Zan (ys:=[a6,iv a1.A]) (by cases a0<;>kernel_rfl) (av .i64)) (Zab.o 0 (Zmn (Zbe (H:=ac) (v:=iv (w64 (a9+1))) (hw:=bp)) kr) Zab.f)))) (by cases a0<;>kernel_rfl) (tq ?_)
    obtain ⟨aa,aD,h⟩:=bs h
    obtain ⟨bX,bQ,_,bC,aR,bD,au⟩:=HP.elem (k:=0) (a:=a6) (sz:=1) (frz:=false) eI64 hH rfl aD
    obtain ⟨c6,aC,h⟩:=bs h
    obtain ⟨bW,bM,_,aq,aQ,ar,ap⟩:=HP.elem (k:=0) (a:=a6) (sz:=1) (frz:=false) eI64 hH rfl aC
    obtain ⟨aJ,bm,hH⟩:=HP.setRow (k:=0) (off:=0) (cs:=[iv (w64 (aa+1))]) (ps:=[.int .i64 (w64 (aa+1))]) (e':=(w64 (aa+1))) eI64 hH rfl ar aQ (aq rfl) aC kr kr
    replace hH:HP _ [.arr a6 1 false (List.map eI64 (List.set (List.set bT (Int.toNat a1.A) (w64 (a9+1))) (Int.toNat a1.B) (w64 (aa+1))))]:=hH
    refine rqS ⟨[(1,.loc 1 0),(3,a6),(4,iv i13)],[(1,(Zac a0_))],aJ⟩ (Zab.u 6 (Zan (ys:=[a6,iv a1.B]) (by cases a0<;>kernel_rfl) (au .i64)) (Zab.u 0 (ZaK (ZbH (H:=aK) (off:=0) (cs:=[.int .i64 aa]) (r:=iv aa) eI64 aD aR)) (Zab.u 1 (Zan (ys:=[a6,iv a1.B]) (by cases a0<;>kernel_rfl) (ap .i64)) (Zab.o 0 (Zmn (Zbe (H:=aK) (v:=iv (w64 (aa+1))) (hw:=bm)) kr) Zab.f)))) (by cases a0<;>kernel_rfl) (bn (tq (kq (rgS ⟨[(1,.loc 1 0),(3,a6),(4,iv (w64 (i13+1)))],[(1,(Zac a0_))],aJ⟩ Zab.f (by cases a0<;>kernel_rfl) ?_))))
    cases h
    exact ⟨_,rfl,⟨a6,aJ,(by show _=_;cases a0<;>kernel_rfl),(HP.pick hH [0] rfl)⟩⟩
   dsimp only at h hq
   obtain ⟨rfl,hq⟩:=hq
   refine br (tr (br (tr ?_)))
   cases h
   exact ⟨_,rfl,rfl,hq⟩
  refine kq (xq (tx ?_))
  cases h
  exact ⟨_,rfl,rfl,⟨a6,ac,(by show _=_;cases a0<;>kernel_rfl),(HP.pick hH [0] rfl)⟩⟩
 rintro e s hq
 rcases aW with aj|c1
 ·dsimp only at h hq
  obtain ⟨rfl,hR⟩:=hq
  obtain ⟨a5,a7,rfl,hH⟩:=hR
  replace hH:HP _ [.arr a5 1 false (List.map eI64 aj)]:=hH
  have a2:=ZaS (HP.get hH 0 rfl)
  refine bx (tq (sq ?_))
  obtain ⟨a3,b0,h⟩:=bs h
  refine rgS ⟨[(1,.loc 1 0),(3,a5),(7,s_eB false a3)],[(1,(Zac a0_))],a7⟩ (Zab.v 1 (Zaz (hc:=ZnG N a0_ 0 ([]) a3 b0)) Zab.f) (by cases a2<;>kernel_rfl) (tq (sq (sq (rgS ⟨[(1,.loc 1 0),(3,a5),(7,s_eB false a3),(8,iv 0)],[(1,(Zac a0_))],a7⟩ Zab.f (by cases a2<;>kernel_rfl) (tq (bk ?_))))))
  obtain ⟨aV,ak,h⟩:=bs h
  refine ZaT ((ZaI (λ(x:Int) s=>s=⟨[(1,.loc 1 0),(3,a5),(7,s_eB false a3),(8,iv x)],[(1,(Zac a0_))],a7⟩) (λx:Int=>Zdu N a0_ aj a3 x) (λ(p:(Unit)⊕(Bool)) e s=>match p with|(.inl p)=>e=.exit 4/\(s=⟨[],[],a7⟩)|(.inr p)=>e=.ret/\∃ xs,resL s i22.res=some xs/\ZbV xs=bv p) ?_ N _ aV _ ak (by show _=_;cases a2<;>kernel_rfl)).mono ?_)
  ·clear h ak
   rintro a4 o s h hR
   obtain rfl:=hR
   replace h:Zdu N a0_ aj a3 a4=some o:=h
   unfold Zdu at h
   refine sq (sq (rgS ⟨[(1,.loc 1 0),(3,a5),(7,s_eB false a3),(8,iv a4),(90,bv (decide (a4<a0_.Nodes)))],[(1,(Zac a0_))],a7⟩ Zab.f (by cases a2<;>kernel_rfl) (tq (it h (λbi h=>?_) (λbi h=>?_)))))
   ·refine sk (tq (kq (sq (bk (sq ?_)))))
    obtain ⟨bt,hj,h⟩:=bs h
    refine rgR (λs=>s=⟨[(1,.loc 1 0),(3,a5),(7,s_eB false a3),(8,iv a4),(118,bv bt)],[(1,(Zac a0_))],a7⟩) ?_ ?_
    ·clear h
     obtain ⟨ag,aB,hj⟩:=bs hj
     refine (EP.u 2 (Zan (ys:=[s_eB false a3,iv a4]) (h:=Zal eB aB)) (EP.u 0 (Zav (sz:=1) (off:=0) (cs:=[.bool ag]) (r:=bv ag) eB aB) ?_))
     rcases ZaC hj with ⟨bf,hj⟩|⟨be,hj⟩
     ·obtain rfl:=Zao hj
      exact (EP.u 0 (Zam (c:=(!ag)) (h:=bf)) (EP.f (by show _=_;cases a2<;>kernel_rfl)))
     refine (EP.u 0 (Zam (c:=(!ag)) (h:=be)) ?_)
     obtain ⟨af,ad,hj⟩:=bs hj
     refine (EP.u 4 (Zan (ys:=[s_eB false a0_.Station,iv a4]) (h:=Zal eB ad)) ?_)
     rcases ZaC hj with ⟨bd,hj⟩|⟨ba,hj⟩
     ·refine (EP.u 0 (ZaM.bool (Zav (sz:=1) (off:=0) (cs:=[.bool af]) (r:=bv af) eB ad) bd) ?_)
      obtain ⟨ae,aA,hj⟩:=bs hj
      obtain ⟨bV,bL,_,bA,aM,bB,ao⟩:=HP.elem (k:=0) (a:=a5) (sz:=1) (frz:=false) eI64 hH rfl aA
      refine (EP.u 3 (Zan (ys:=[a5,iv a4]) (by cases a2<;>kernel_rfl) (ao .i64)) (EP.u 0 (ZbH (H:=a7) (off:=0) (cs:=[.int .i64 ae]) (r:=iv ae) eI64 aA aM) ?_))
      rcases ZaC hj with ⟨bc,hj⟩|⟨bb,hj⟩
      ·obtain rfl:=Zao hj
       exact (EP.u 0 (Zam (c:=(decide (ae<1))) (h:=bc)) (EP.f (by show _=_;cases a2<;>kernel_rfl)))
      refine (EP.u 0 (Zam (c:=(decide (ae<1))) (h:=bb)) ?_)
      obtain ⟨aZ,az,hj⟩:=bs hj
      obtain ⟨bU,bK,_,bw,aL,bz,an⟩:=HP.elem (k:=0) (a:=a5) (sz:=1) (frz:=false) eI64 hH rfl az
      obtain rfl:=Zao hj
      exact (EP.u 3 (Zan (ys:=[a5,iv a4]) (by cases a2<;>kernel_rfl) (an .i64)) (EP.u 0 (ZbH (H:=a7) (off:=0) (cs:=[.int .i64 aZ]) (r:=iv aZ) eI64 az aL) (EP.f (by show _=_;cases a2<;>kernel_rfl))))
     obtain rfl:=Zao hj
     exact (EP.u 0 (ZaM.bool (Zav (sz:=1) (off:=0) (cs:=[.bool af]) (r:=bv af) eB ad) ba) (EP.f (by show _=_;cases a2<;>kernel_rfl)))
    clear hj
    rintro s hR
    obtain rfl:=hR
    refine tq (it h (λb2 h=>?_) (λb2 h=>?_))
    ·refine sq (rgS ⟨[(2,bv false)],[],a7⟩ Zab.f kr ?_)
     replace hH:HP _ []:=HP.pick hH [] rfl
     refine tq (rt (br (tr ?_)))
     cases h
     exact ⟨_,rfl,rfl,ZaA kr⟩
    refine sk (bn (tq (kq (rgS ⟨[(1,.loc 1 0),(3,a5),(7,s_eB false a3),(8,iv (w64 (a4+1)))],[(1,(Zac a0_))],a7⟩ Zab.f (by cases a2<;>kernel_rfl) ?_))))
    cases h
    exact ⟨_,rfl,(by show _=_;cases a2<;>kernel_rfl)⟩
   refine kq ?_
   replace hH:HP _ []:=HP.pick hH [] rfl
   refine xq (tx ?_)
   cases h
   exact ⟨_,rfl,rfl,kr⟩
  rintro e s hq
  rcases aV with c3|c2
  ·dsimp only at h hq
   obtain ⟨rfl,hR⟩:=hq
   obtain rfl:=hR
   replace hH:HP _ []:=HP.pick hH [] rfl
   refine bx (tq (sq (rg Zab.f (tq (rt ?_)))))
   cases h
   exact ZaA kr
  dsimp only at h hq
  obtain ⟨rfl,hq⟩:=hq
  refine br (tr ?_)
  cases h
  exact hq
 dsimp only at h hq
 obtain ⟨rfl,hq⟩:=hq
 refine br (tr ?_)
 cases h
 exact hq
theorem Zpq (N:Nat)(a0_:ZaE)(a1_:Int)(a2_:Int)(a3_:ZaQ)(r:ZaB)(h:Ziz N a0_ a1_ a2_ a3_=some r):Zba Tryz.prog 26 [.agg (Zak a0_),iv a1_,iv a2_,.agg (Zcn a3_)] (.agg [iv r.Stream,iv r.Port,iv r.From,iv r.Long]):=by
 unfold Ziz at h
 have hH  := hp0
 refine ZaG ZLB rfl rfl (Zay _ _ _ ?_) rfl
 refine sq (rg Zab.f (tq (sq ?_)))
 obtain ⟨r1,hr1,h⟩:=bs h
 refine rg (Zab.v 4 (Zaz (hc:=Zjr N a3_.Early a0_.Grid r1 hr1)) Zab.f) (tq (sq ?_))
 obtain ⟨r2,hr2,h⟩:=bs h
 refine rg (Zab.v 8 (Zaz (hc:=Zjr N (w64 (0-(w64 (a3_.Open+a3_.Long)))) a0_.Grid r2 hr2)) Zab.f) (tq (sq ?_))
 obtain ⟨r3,hr3,h⟩:=bs h
 refine rq (Zab.u 5 (Za1 (hc:=Zlg N r1 a2_ r3 hr3)) Zab.f) (tq (rt ?_))
 cases h
 exact ZaA kr
theorem Zj5 (N:Nat)(a0_:Zag)(a1_:Int)(a2_:Int)(r:(List Int))(h:Zgq N a0_ a1_ a2_=some r):Zba Tryz.prog 39 [.agg (Zac a0_),.p (.int .u8 a1_),.p (.int .u8 a2_)] (ZoL 1 eI64 r):=by
 unfold Zgq at h
 have hH  := hp0
 refine ZaG ZLo rfl rfl (Zay _ _ _ ?_) Zrr
 refine sq (rg Zab.f (tq (sq (sq (rg Zab.f (tq (bk ?_)))))))
 obtain ⟨ad,a4,h⟩:=bs h
 refine ZaT ((ZaI (λ(x:Int) s=>s=⟨[(1,.p (.int .u8 a1_)),(2,.p (.int .u8 a2_)),(3,.loc 3 0),(7,iv x)],[(3,(Zac a0_))],[]⟩) (λx:Int=>Zet N a0_ a1_ a2_ x) (λ(p:(Unit)⊕((List Int))) e s=>match p with|(.inl p)=>e=.exit 0/\(s=⟨[],[],[]⟩)|(.inr p)=>e=.ret/\∃ xs,resL s i39.res=some xs/\ZbV xs=ZoL 1 eI64 p) ?_ N _ ad _ a4 kr).mono ?_)
 ·clear h a4
  rintro i1 o s h hR
  obtain rfl:=hR
  replace h:Zet N a0_ a1_ a2_ i1=some o:=h
  unfold Zet at h
  refine sq (sq (rg Zab.f (tq (it h (λap h=>?_) (λap h=>?_)))))
  ·refine sk (tq (kq (sq (bk (sq ?_)))))
   obtain ⟨a0,ag,h⟩:=bs h
   refine rg (Zab.v 6 (Zaz (hc:=ZoA N a0_ a1_ (IntKind.u8.wrap (a2_+(IntKind.u8.wrap (i1)))) a0 ag)) Zab.f) (tq (sq ?_))
   obtain ⟨ar,hj,h⟩:=bs h
   refine rqR (λs=>s=⟨[(1,.p (.int .u8 a1_)),(2,.p (.int .u8 a2_)),(3,.loc 3 0),(7,iv i1),(8,Zad false a0),(52,bv ar)],[(3,(Zac a0_))],[]⟩) ?_ ?_
   ·clear h
    refine (EP.u 1 (Zan (ys:=[Zad false a0]) (h:=Zax eI64)) ?_)
    rcases ZaC hj with ⟨ao,hj⟩|⟨aj,hj⟩
    ·refine (EP.u 0 (Zam (c:=(decide (((List.length a0:Nat):Int)>0))) (h:=ao)) ?_)
     obtain ⟨ac,a3,hj⟩:=bs hj
     rcases ZaC hj with ⟨an,hj⟩|⟨ak,hj⟩
     ·refine (EP.u 3 (Zph kr (ZfP N a0_ a0 ac a3) an) ?_)
      obtain ⟨a9,a7,hj⟩:=bs hj
      refine (EP.u 6 (Zan (ys:=[Zad false a0,iv 0]) (h:=Zal eI64 a7)) (EP.u 0 (ZaK (Zav (sz:=1) (off:=0) (cs:=[.int .i64 a9]) (r:=iv a9) eI64 a7)) ?_))
      obtain ⟨ab,af,hj⟩:=bs hj
      refine (EP.u 0 (Za1 (hc:=ZdR N a0_ a9 ab af)) ?_)
      obtain ⟨a2,a1,hj⟩:=bs hj
      refine (EP.u 0 (Zan (ys:=[s_eB false a0_.Station,iv ab]) (h:=Zal eB a1)) ?_)
      rcases ZaC hj with ⟨am,hj⟩|⟨al,hj⟩
      ·refine (EP.u 0 (ZaM.bool (ZaK (Zav (sz:=1) (off:=0) (cs:=[.bool a2]) (r:=bv a2) eB a1)) am) (EP.u 7 (Zan (ys:=[Zad false a0]) (h:=Zax eI64)) ?_))
       obtain ⟨a8,a6,hj⟩:=bs hj
       refine (EP.u 1 (Zan (ys:=[Zad false a0,iv (w64 (((List.length a0:Nat):Int)-1))]) (h:=Zal eI64 a6)) (EP.u 0 (ZaK (Zav (sz:=1) (off:=0) (cs:=[.int .i64 a8]) (r:=iv a8) eI64 a6)) ?_))
       obtain ⟨aa,ae,hj⟩:=bs hj
       refine (EP.u 0 (Za1 (hc:=Zej N a0_ a8 aa ae)) ?_)
       obtain ⟨aq,a5,hj⟩:=bs hj
       obtain rfl:=Zao hj
       exact (EP.u 0 (Zan (ys:=[s_eB false a0_.Station,iv aa]) (h:=Zal eB a5)) (EP.u 0 (ZaK (Zav (sz:=1) (off:=0) (cs:=[.bool aq]) (r:=bv aq) eB a5)) (EP.f kr)))
      obtain rfl:=Zao hj
      exact (EP.u 0 (ZaM.bool (ZaK (Zav (sz:=1) (off:=0) (cs:=[.bool a2]) (r:=bv a2) eB a1)) al) (EP.f kr))
     obtain rfl:=Zao hj
     exact (EP.u 3 (Zph kr (ZfP N a0_ a0 ac a3) ak) (EP.f kr))
    obtain rfl:=Zao hj
    exact (EP.u 0 (Zam (c:=(decide (((List.length a0:Nat):Int)>0))) (h:=aj)) (EP.f kr))
   clear hj
   rintro s hR
   obtain rfl:=hR
   refine tq (it h (λai h=>?_) (λai h=>?_))
   ·refine sq (rg Zab.f (tq (rt (br (tr ?_)))))
    obtain ⟨_,hu_,h⟩:=bind_some h
    cases h
    exact ⟨_,rfl,rfl,ZaA (by rw [ZoK (Zs6 hu_)];kernel_rfl)⟩
   refine sk (bn (tq (kq (rg Zab.f ?_))))
   cases h
   exact ⟨_,rfl,kr⟩
  refine kq (xq (tx ?_))
  cases h
  exact ⟨_,rfl,rfl,kr⟩
 rintro e s hq
 rcases ad with av|au
 ·dsimp only at h hq
  obtain ⟨rfl,hR⟩:=hq
  obtain rfl:=hR
  refine bx (tq (sq (rg Zab.f (tq (rt ?_)))))
  cases h
  exact ZaA kr
 dsimp only at h hq
 obtain ⟨rfl,hq⟩:=hq
 refine br (tr ?_)
 cases h
 exact hq
theorem Zhh (N:Nat)(a0_:Zag)(a1_:(List Int))(a2_:(List Int))(r:Bool)(h:ZdQ N a0_ a1_ a2_=some r):Zba Tryz.prog 42 [.agg (Zac a0_),Zad false a1_,Zad false a2_] (bv r):=by
 unfold ZdQ at h
 have hH  := hp0
 refine ZaG ZLl rfl rfl (Zay _ _ _ ?_) rfl
 refine sq (rg Zab.f (tq (sq (sq (rg Zab.f (tq (bk ?_)))))))
 obtain ⟨a9,a1,h⟩:=bs h
 refine ZaT ((ZaI (λ(x:Int) s=>s=⟨[(1,Zad false a1_),(2,Zad false a2_),(3,.loc 3 0),(7,iv x)],[(3,(Zac a0_))],[]⟩) (λx:Int=>Zdt N a1_ a2_ x) (λ(p:(Unit)⊕(Bool)) e s=>match p with|(.inl p)=>e=.exit 0/\(s=⟨[(1,Zad false a1_),(2,Zad false a2_),(3,.loc 3 0)],[(3,(Zac a0_))],[]⟩)|(.inr p)=>e=.ret/\∃ xs,resL s i42.res=some xs/\ZbV xs=bv p) ?_ N _ a9 _ a1 kr).mono ?_)
 ·clear h a1
  rintro i1 o s h hR
  obtain rfl:=hR
  replace h:Zdt N a1_ a2_ i1=some o:=h
  unfold Zdt at h
  refine sq (sq (rg (Zab.u 2 (Zan (ys:=[Zad false a1_]) (h:=Zax eI64)) Zab.f) (tq (it h (λar h=>?_) (λar h=>?_)))))
  ·refine sk (tq (kq (sq (bk (sq (rg Zab.f (tq (bk ?_))))))))
   obtain ⟨aa,a2,h⟩:=bs h
   refine ZaT ((ZaI (λ(x:Int) s=>s=⟨[(1,Zad false a1_),(2,Zad false a2_),(3,.loc 3 0),(7,iv i1),(8,iv x)],[(3,(Zac a0_))],[]⟩) (λx:Int=>Zds N a1_ a2_ i1 x) (λ(p:(Unit)⊕(Bool)) e s=>match p with|(.inl p)=>e=.exit 2/\(s=⟨[(1,Zad false a1_),(2,Zad false a2_),(3,.loc 3 0),(7,iv i1)],[(3,(Zac a0_))],[]⟩)|(.inr p)=>e=.ret/\∃ xs,resL s i42.res=some xs/\ZbV xs=bv p) ?_ N _ aa _ a2 kr).mono ?_)
   ·clear h a2
    rintro aq o s h hR
    obtain rfl:=hR
    replace h:Zds N a1_ a2_ i1 aq=some o:=h
    unfold Zds at h
    refine sq (sq (rg (Zab.u 2 (Zan (ys:=[Zad false a2_]) (h:=Zax eI64)) Zab.f) (tq (it h (λan h=>?_) (λan h=>?_)))))
    ·refine sk (tq (kq (sq (bk (sq ?_)))))
     obtain ⟨ac,a4,h⟩:=bs h
     obtain ⟨ab,a3,h⟩:=bs h
     refine rq (Zab.u 2 (Zan (ys:=[Zad false a1_,iv i1]) (h:=Zal eI64 a4)) (Zab.u 0 (ZaK (Zav (sz:=1) (off:=0) (cs:=[.int .i64 ac]) (r:=iv ac) eI64 a4)) (Zab.u 3 (Zan (ys:=[Zad false a2_,iv aq]) (h:=Zal eI64 a3)) (Zab.u 0 (ZaK (Zav (sz:=1) (off:=0) (cs:=[.int .i64 ab]) (r:=iv ab) eI64 a3)) Zab.f)))) (tq (it h (λam h=>?_) (λam h=>?_)))
     ·refine sq (rg Zab.f (tq (rt (br (tr ?_)))))
      cases h
      exact ⟨_,rfl,rfl,ZaA kr⟩
     refine sk (bn (tq (kq (rg Zab.f ?_))))
     cases h
     exact ⟨_,rfl,kr⟩
    refine kq (xq (tx ?_))
    cases h
    exact ⟨_,rfl,rfl,kr⟩
   rintro e s hq
   rcases aa with ax|aw
   ·dsimp only at h hq
    obtain ⟨rfl,hR⟩:=hq
    obtain rfl:=hR
    refine bx (bn (tq (rg Zab.f ?_)))
    cases h
    exact ⟨_,rfl,kr⟩
   dsimp only at h hq
   obtain ⟨rfl,hq⟩:=hq
   refine br (br (tr ?_))
   cases h
   exact ⟨_,rfl,rfl,hq⟩
  refine kq (xq (tx ?_))
  cases h
  exact ⟨_,rfl,rfl,kr⟩
 rintro e s hq
 rcases a9 with av|au
 ·dsimp only at h hq
  obtain ⟨rfl,hR⟩:=hq
  obtain rfl:=hR
  refine bx (tq (sq ?_))
  obtain ⟨ap,hj,h⟩:=bs h
  refine rqR (λs=>s=⟨[(6,bv ap)],[],[]⟩) ?_ ?_
  ·clear h
   obtain ⟨a8,aj,hj⟩:=bs hj
   refine (EP.u 2 (Za1 (hc:=ZeH N a0_ a1_ a8 aj)) ?_)
   obtain ⟨a7,ai,hj⟩:=bs hj
   refine (EP.v 2 (Zaz (hc:=ZeH N a0_ a2_ a7 ai)) ?_)
   obtain ⟨a0,ag,hj⟩:=bs hj
   refine (EP.v 0 (Zaz (hc:=Zic N a8 a7 a0 ag)) ?_)
   rcases ZaC hj with ⟨al,hj⟩|⟨ak,hj⟩
   ·refine (EP.u 0 (Zam (c:=(!a0)) (h:=al)) ?_)
    obtain ⟨a6,af,hj⟩:=bs hj
    refine (EP.u 3 (Za1 (hc:=ZeH N a0_ a2_ a6 af)) ?_)
    obtain ⟨a5,ae,hj⟩:=bs hj
    refine (EP.u 2 (Za1 (hc:=ZeH N a0_ a1_ a5 ae)) ?_)
    obtain ⟨ao,ad,hj⟩:=bs hj
    obtain rfl:=Zao hj
    exact (EP.u 0 (Za1 (hc:=Zic N a6 a5 ao ad)) (EP.f kr))
   obtain rfl:=Zao hj
   exact (EP.u 0 (Zam (c:=(!a0)) (h:=ak)) (EP.f kr))
  clear hj
  rintro s hR
  obtain rfl:=hR
  refine tq (rt ?_)
  cases h
  exact ZaA kr
 dsimp only at h hq
 obtain ⟨rfl,hq⟩:=hq
 refine br (tr ?_)
 cases h
 exact hq
theorem Zjt (N:Nat)(a0_:Zag)(a1_:Zah)(r:Bool)(h:Zfz N a0_ a1_=some r):Zba Tryz.prog 43 [.agg (Zac a0_),.agg (Zai a1_)] (bv r):=by
 unfold Zfz at h
 have hH  := hp0
 refine ZaG ZLk rfl rfl (Zay _ _ _ ?_) rfl
 refine sq (rg Zab.f (tq (sq (sq ?_))))
 obtain ⟨c4,hj,h⟩:=bs h
 refine rgR (λs=>s=⟨[(2,.loc 2 0),(3,.loc 3 0),(43,bv c4)],[(2,(Zac a0_)),(3,(Zai a1_))],[]⟩) ?_ ?_
 ·clear h
  obtain ⟨r1,hr1,hj⟩:=bs hj
  refine (EP.v 2 (Zaz (hc:=Zb0 N a1_.Id 1 4095 r1 hr1)) ?_)
  rcases ZaC hj with ⟨hc2,hj⟩|⟨hc3,hj⟩
  ·obtain rfl:=Zao hj
   exact (EP.u 0 (Zam (c:=(!r1)) (h:=hc2)) (EP.f kr))
  refine (EP.u 0 (Zam (c:=(!r1)) (h:=hc3)) ?_)
  obtain ⟨r4,hr4,hj⟩:=bs hj
  refine (EP.v 4 (Zaz (hc:=Zib N a0_ a1_.Talker r4 hr4)) ?_)
  rcases ZaC hj with ⟨hc5,hj⟩|⟨hc6,hj⟩
  ·obtain rfl:=Zao hj
   exact (EP.u 0 (Zam (c:=(!r4)) (h:=hc5)) (EP.f kr))
  refine (EP.u 0 (Zam (c:=(!r4)) (h:=hc6)) ?_)
  obtain ⟨r7,hr7,hj⟩:=bs hj
  refine (EP.v 5 (Zaz (hc:=Zib N a0_ a1_.Listener r7 hr7)) ?_)
  rcases ZaC hj with ⟨hc8,hj⟩|⟨hc9,hj⟩
  ·obtain rfl:=Zao hj
   exact (EP.u 0 (Zam (c:=(!r7)) (h:=hc8)) (EP.f kr))
  refine (EP.u 0 (Zam (c:=(!r7)) (h:=hc9)) ?_)
  rcases ZaC hj with ⟨bX,hj⟩|⟨bW,hj⟩
  ·obtain rfl:=Zao hj
   exact (EP.u 6 (Zam (c:=(a1_.Talker==a1_.Listener)) (h:=bX)) (EP.f kr))
  refine (EP.u 6 (Zam (c:=(a1_.Talker==a1_.Listener)) (h:=bW)) ?_)
  obtain ⟨bC,bK,hj⟩:=bs hj
  refine (EP.v 4 (Zaz (hc:=Zb0 N a1_.Size 84 1542 bC bK)) ?_)
  rcases ZaC hj with ⟨bV,hj⟩|⟨bU,hj⟩
  ·obtain rfl:=Zao hj
   exact (EP.u 0 (Zam (c:=(!bC)) (h:=bV)) (EP.f kr))
  refine (EP.u 0 (Zam (c:=(!bC)) (h:=bU)) ?_)
  obtain ⟨c0,bJ,hj⟩:=bs hj
  obtain rfl:=Zao hj
  exact (EP.v 4 (Zaz (hc:=Zb0 N a1_.Deadline 1 1099511627776 c0 bJ)) (EP.f kr))
 clear hj
 rintro s hR
 obtain rfl:=hR
 refine tq (it h (λbT h=>?_) (λbT h=>?_))
 ·refine sq (rg Zab.f (tq (rt (tr ?_))))
  cases h
  exact ZaA kr
 refine sk (tq (kq (sq (sq (rg Zab.f (tq (bk (sq (rg Zab.f (tq (it h (λbS h=>?_) (λbS h=>?_))))))))))))
 ·refine sq ?_
  obtain ⟨c3,hj,h⟩:=bs h
  refine rgR (λs=>s=⟨[(2,.loc 2 0),(3,.loc 3 0),(57,bv c3)],[(2,(Zac a0_)),(3,(Zai a1_))],[]⟩) ?_ ?_
  ·clear h
   obtain ⟨bB,bI,hj⟩:=bs hj
   refine (EP.v 2 (Zaz (hc:=Zb0 N a1_.Period 1 240 bB bI)) ?_)
   rcases ZaC hj with ⟨bR,hj⟩|⟨bQ,hj⟩
   ·obtain rfl:=Zao hj
    exact (EP.u 0 (Zam (c:=(!bB)) (h:=bR)) (EP.f kr))
   obtain rfl:=Zao hj
   exact (EP.u 0 (Zam (c:=(!bB)) (h:=bQ)) (EP.f kr))
  clear hj
  rintro s hR
  obtain rfl:=hR
  refine tq (it h (λbM h=>?_) (λbM h=>?_))
  ·refine sq (rg Zab.f (tq (rt (br (tr ?_)))))
   cases h
   exact ZaA kr
  refine sk (bn (tq (kq (sq (sq (rgX ⟨[(2,.loc 2 0),(3,.loc 3 0),(88,bv ((decide (((List.length a1_.Routes:Nat):Int)<1))||(decide (((List.length a1_.Routes:Nat):Int)>2))))],[(2,(Zac a0_)),(3,(Zai a1_))],[]⟩ ?_ ?_))))))
  ·refine (EP.u 2 (Zan (ys:=[Zaq false a1_.Routes]) (h:=Zax (eSl 1 eI64))) ?_)
   rcases Bool.eq_false_or_eq_true (decide (((List.length a1_.Routes:Nat):Int)<1)) with bu|bt
   ·exact (EP.u 0 (Zam (c:=(decide (((List.length a1_.Routes:Nat):Int)<1))) (h:=bu)) (EP.f (by simp only [bu];kernel_rfl)))
   exact (EP.u 0 (Zam (c:=(decide (((List.length a1_.Routes:Nat):Int)<1))) (h:=bt)) (EP.u 3 (Zan (ys:=[Zaq false a1_.Routes]) (h:=Zax (eSl 1 eI64))) (EP.f (by simp only [bt];kernel_rfl))))
  refine tq (it h (λbL h=>?_) (λbL h=>?_))
  ·refine sq (rg Zab.f (tq (rt (tr ?_))))
   cases h
   exact ZaA kr
  refine sk (tq (kq (sq (sq (rg Zab.f (tq (bk ?_)))))))
  obtain ⟨aR,af,h⟩:=bs h
  refine ZaT ((ZaI (λ(x:Int) s=>s=⟨[(2,.loc 2 0),(3,.loc 3 0),(5,iv x)],[(2,(Zac a0_)),(3,(Zai a1_))],[]⟩) (λx:Int=>ZcX N a0_ a1_ x) (λ(p:(Unit)⊕(Bool)) e s=>match p with|(.inl p)=>e=.exit 1/\(s=⟨[(2,.loc 2 0),(3,.loc 3 0)],[(2,(Zac a0_)),(3,(Zai a1_))],[]⟩)|(.inr p)=>e=.ret/\∃ xs,resL s i43.res=some xs/\ZbV xs=bv p) ?_ N _ aR _ af kr).mono ?_)
  ·clear h af
   rintro i27 o s h hR
   obtain rfl:=hR
   replace h:ZcX N a0_ a1_ i27=some o:=h
   unfold ZcX at h
   refine sq (sq (rg (Zab.u 3 (Zan (ys:=[Zaq false a1_.Routes]) (h:=Zax (eSl 1 eI64))) Zab.f) (tq (it h (λbq h=>?_) (λbq h=>?_)))))
   ·refine sk (tq (kq (sq (bk (sq ?_)))))
    obtain ⟨a1,al,h⟩:=bs h
    refine rg (Zab.u 3 (Zan (ys:=[Zaq false a1_.Routes,iv i27]) (h:=Zal (eSl 1 eI64) al)) (Zab.u 0 (Zav (sz:=1) (off:=0) (cs:=[.sl 1 false (List.map eI64 a1)]) (r:=Zad false a1) (eSl 1 eI64) al) Zab.f)) (tq (sq ?_))
    obtain ⟨bG,hj,h⟩:=bs h
    refine rqR (λs=>s=⟨[(2,.loc 2 0),(3,.loc 3 0),(5,iv i27),(127,bv bG)],[(2,(Zac a0_)),(3,(Zai a1_))],[]⟩) ?_ ?_
    ·clear h
     obtain ⟨aq,aZ,hj⟩:=bs hj
     refine (EP.v 2 (Zaz (hc:=ZfP N a0_ a1 aq aZ)) ?_)
     rcases ZaC hj with ⟨bp,hj⟩|⟨bm,hj⟩
     ·obtain rfl:=Zao hj
      exact (EP.u 0 (Zam (c:=(!aq)) (h:=bp)) (EP.f kr))
     refine (EP.u 0 (Zam (c:=(!aq)) (h:=bm)) ?_)
     obtain ⟨aL,ak,hj⟩:=bs hj
     refine (EP.u 3 (Zan (ys:=[Zad false a1,iv 0]) (h:=Zal eI64 ak)) (EP.u 0 (ZaK (Zav (sz:=1) (off:=0) (cs:=[.int .i64 aL]) (r:=iv aL) eI64 ak)) ?_))
     obtain ⟨ap,aY,hj⟩:=bs hj
     refine (EP.u 0 (Za1 (hc:=ZdR N a0_ aL ap aY)) ?_)
     rcases ZaC hj with ⟨bl,hj⟩|⟨bj,hj⟩
     ·obtain rfl:=Zao hj
      exact (EP.u 2 (Zam (c:=(ap != a1_.Talker)) (h:=bl)) (EP.f kr))
     refine (EP.u 2 (Zam (c:=(ap != a1_.Talker)) (h:=bj)) (EP.u 5 (Zan (ys:=[Zad false a1]) (h:=Zax eI64)) ?_))
     obtain ⟨aK,aj,hj⟩:=bs hj
     refine (EP.u 1 (Zan (ys:=[Zad false a1,iv (w64 (((List.length a1:Nat):Int)-1))]) (h:=Zal eI64 aj)) (EP.u 0 (ZaK (Zav (sz:=1) (off:=0) (cs:=[.int .i64 aK]) (r:=iv aK) eI64 aj)) ?_))
     obtain ⟨bA,aX,hj⟩:=bs hj
     obtain rfl:=Zao hj
     exact (EP.u 0 (Za1 (hc:=Zej N a0_ aK bA aX)) (EP.f kr))
    clear hj
    rintro s hR
    obtain rfl:=hR
    refine tq (it h (λbi h=>?_) (λbi h=>?_))
    ·refine sq (rg Zab.f (tq (rt (br (tr ?_)))))
     cases h
     exact ⟨_,rfl,rfl,ZaA kr⟩
    refine sk (bn (tq (kq (rg Zab.f ?_))))
    cases h
    exact ⟨_,rfl,kr⟩
   refine kq (xq (tx ?_))
   cases h
   exact ⟨_,rfl,rfl,kr⟩
  rintro e s hq
  rcases aR with c2|c1
  ·dsimp only at h hq
   obtain ⟨rfl,hR⟩:=hq
   obtain rfl:=hR
   refine bx (tq (sq ?_))
   obtain ⟨bE,hj,h⟩:=bs h
   refine rqR (λs=>s=⟨[(4,bv bE)],[],[]⟩) ?_ ?_
   ·clear h
    refine (EP.u 2 (Zan (ys:=[Zaq false a1_.Routes]) (h:=Zax (eSl 1 eI64))) ?_)
    rcases ZaC hj with ⟨bf,hj⟩|⟨be,hj⟩
    ·obtain rfl:=Zao hj
     exact (EP.u 0 (Zam (c:=(((List.length a1_.Routes:Nat):Int)==1)) (h:=bf)) (EP.f kr))
    refine (EP.u 0 (Zam (c:=(((List.length a1_.Routes:Nat):Int)==1)) (h:=be)) ?_)
    obtain ⟨aJ,ai,hj⟩:=bs hj
    refine (EP.u 4 (Zan (ys:=[Zaq false a1_.Routes,iv 0]) (h:=Zal (eSl 1 eI64) ai)) (EP.u 0 (ZaK (Zav (sz:=1) (off:=0) (cs:=[.sl 1 false (List.map eI64 aJ)]) (r:=Zad false aJ) (eSl 1 eI64) ai)) ?_))
    obtain ⟨aI,ag,hj⟩:=bs hj
    refine (EP.u 2 (Zan (ys:=[Zaq false a1_.Routes,iv 1]) (h:=Zal (eSl 1 eI64) ag)) (EP.u 0 (ZaK (Zav (sz:=1) (off:=0) (cs:=[.sl 1 false (List.map eI64 aI)]) (r:=Zad false aI) (eSl 1 eI64) ag)) ?_))
    obtain ⟨bz,aW,hj⟩:=bs hj
    obtain rfl:=Zao hj
    exact (EP.u 0 (Za1 (hc:=Zhh N a0_ aJ aI bz aW)) (EP.f kr))
   clear hj
   rintro s hR
   obtain rfl:=hR
   refine tq (rt ?_)
   cases h
   exact ZaA kr
  dsimp only at h hq
  obtain ⟨rfl,hq⟩:=hq
  refine br (tr ?_)
  cases h
  exact hq
 refine sq (rg Zab.f (tq (it h (λbd h=>?_) (λbd h=>?_))))
 ·refine sq ?_
  obtain ⟨bD,hj,h⟩:=bs h
  refine rgR (λs=>s=⟨[(2,.loc 2 0),(3,.loc 3 0),(78,bv bD)],[(2,(Zac a0_)),(3,(Zai a1_))],[]⟩) ?_ ?_
  ·clear h
   rcases ZaC hj with ⟨bc,hj⟩|⟨bb,hj⟩
   ·obtain rfl:=Zao hj
    exact (EP.u 2 (Zam (c:=(a1_.Period != 0)) (h:=bc)) (EP.f kr))
   refine (EP.u 2 (Zam (c:=(a1_.Period != 0)) (h:=bb)) ?_)
   obtain ⟨ao,aV,hj⟩:=bs hj
   refine (EP.v 6 (Zaz (hc:=Zb0 N a1_.Bucket.Burst a1_.Size 1048576 ao aV)) ?_)
   rcases ZaC hj with ⟨ba,hj⟩|⟨b2,hj⟩
   ·obtain rfl:=Zao hj
    exact (EP.u 0 (Zam (c:=(!ao)) (h:=ba)) (EP.f kr))
   refine (EP.u 0 (Zam (c:=(!ao)) (h:=b2)) ?_)
   obtain ⟨bw,aU,hj⟩:=bs hj
   obtain rfl:=Zao hj
   exact (EP.v 5 (Zaz (hc:=Zb0 N a1_.Bucket.Rate 1 2097152 bw aU)) (EP.f kr))
  clear hj
  rintro s hR
  obtain rfl:=hR
  refine tq (it h (λb1 h=>?_) (λb1 h=>?_))
  ·refine sq (rg Zab.f (tq (rt (br (tr ?_)))))
   cases h
   exact ZaA kr
  refine sk (bn (tq (kq (sq (sq (rgX ⟨[(2,.loc 2 0),(3,.loc 3 0),(88,bv ((decide (((List.length a1_.Routes:Nat):Int)<1))||(decide (((List.length a1_.Routes:Nat):Int)>2))))],[(2,(Zac a0_)),(3,(Zai a1_))],[]⟩ ?_ ?_))))))
  ·refine (EP.u 2 (Zan (ys:=[Zaq false a1_.Routes]) (h:=Zax (eSl 1 eI64))) ?_)
   rcases Bool.eq_false_or_eq_true (decide (((List.length a1_.Routes:Nat):Int)<1)) with an|am
   ·exact (EP.u 0 (Zam (c:=(decide (((List.length a1_.Routes:Nat):Int)<1))) (h:=an)) (EP.f (by simp only [an];kernel_rfl)))
   exact (EP.u 0 (Zam (c:=(decide (((List.length a1_.Routes:Nat):Int)<1))) (h:=am)) (EP.u 3 (Zan (ys:=[Zaq false a1_.Routes]) (h:=Zax (eSl 1 eI64))) (EP.f (by simp only [am];kernel_rfl))))
  refine tq (it h (λb0 h=>?_) (λb0 h=>?_))
  ·refine sq (rg Zab.f (tq (rt (tr ?_))))
   cases h
   exact ZaA kr
  refine sk (tq (kq (sq (sq (rg Zab.f (tq (bk ?_)))))))
  obtain ⟨ae,a4,h⟩:=bs h
  refine ZaT ((ZaI (λ(x:Int) s=>s=⟨[(2,.loc 2 0),(3,.loc 3 0),(5,iv x)],[(2,(Zac a0_)),(3,(Zai a1_))],[]⟩) (λx:Int=>ZeF N a0_ a1_ x) (λ(p:(Unit)⊕(Bool)) e s=>match p with|(.inl p)=>e=.exit 1/\(s=⟨[(2,.loc 2 0),(3,.loc 3 0)],[(2,(Zac a0_)),(3,(Zai a1_))],[]⟩)|(.inr p)=>e=.ret/\∃ xs,resL s i43.res=some xs/\ZbV xs=bv p) ?_ N _ ae _ a4 kr).mono ?_)
  ·clear h a4
   rintro ar o s h hR
   obtain rfl:=hR
   replace h:ZeF N a0_ a1_ ar=some o:=h
   unfold ZeF at h
   refine sq (sq (rg (Zab.u 3 (Zan (ys:=[Zaq false a1_.Routes]) (h:=Zax (eSl 1 eI64))) Zab.f) (tq (it h (λaG h=>?_) (λaG h=>?_)))))
   ·refine sk (tq (kq (sq (bk (sq ?_)))))
    obtain ⟨a0,a9,h⟩:=bs h
    refine rg (Zab.u 3 (Zan (ys:=[Zaq false a1_.Routes,iv ar]) (h:=Zal (eSl 1 eI64) a9)) (Zab.u 0 (Zav (sz:=1) (off:=0) (cs:=[.sl 1 false (List.map eI64 a0)]) (r:=Zad false a0) (eSl 1 eI64) a9) Zab.f)) (tq (sq ?_))
    obtain ⟨aT,hj,h⟩:=bs h
    refine rqR (λs=>s=⟨[(2,.loc 2 0),(3,.loc 3 0),(5,iv ar),(127,bv aT)],[(2,(Zac a0_)),(3,(Zai a1_))],[]⟩) ?_ ?_
    ·clear h
     obtain ⟨a3,ax,hj⟩:=bs hj
     refine (EP.v 2 (Zaz (hc:=ZfP N a0_ a0 a3 ax)) ?_)
     rcases ZaC hj with ⟨aE,hj⟩|⟨aD,hj⟩
     ·obtain rfl:=Zao hj
      exact (EP.u 0 (Zam (c:=(!a3)) (h:=aE)) (EP.f kr))
     refine (EP.u 0 (Zam (c:=(!a3)) (h:=aD)) ?_)
     obtain ⟨ad,a8,hj⟩:=bs hj
     refine (EP.u 3 (Zan (ys:=[Zad false a0,iv 0]) (h:=Zal eI64 a8)) (EP.u 0 (ZaK (Zav (sz:=1) (off:=0) (cs:=[.int .i64 ad]) (r:=iv ad) eI64 a8)) ?_))
     obtain ⟨a2,aw,hj⟩:=bs hj
     refine (EP.u 0 (Za1 (hc:=ZdR N a0_ ad a2 aw)) ?_)
     rcases ZaC hj with ⟨aC,hj⟩|⟨aB,hj⟩
     ·obtain rfl:=Zao hj
      exact (EP.u 2 (Zam (c:=(a2 != a1_.Talker)) (h:=aC)) (EP.f kr))
     refine (EP.u 2 (Zam (c:=(a2 != a1_.Talker)) (h:=aB)) (EP.u 5 (Zan (ys:=[Zad false a0]) (h:=Zax eI64)) ?_))
     obtain ⟨ac,a7,hj⟩:=bs hj
     refine (EP.u 1 (Zan (ys:=[Zad false a0,iv (w64 (((List.length a0:Nat):Int)-1))]) (h:=Zal eI64 a7)) (EP.u 0 (ZaK (Zav (sz:=1) (off:=0) (cs:=[.int .i64 ac]) (r:=iv ac) eI64 a7)) ?_))
     obtain ⟨aQ,av,hj⟩:=bs hj
     obtain rfl:=Zao hj
     exact (EP.u 0 (Za1 (hc:=Zej N a0_ ac aQ av)) (EP.f kr))
    clear hj
    rintro s hR
    obtain rfl:=hR
    refine tq (it h (λaA h=>?_) (λaA h=>?_))
    ·refine sq (rg Zab.f (tq (rt (br (tr ?_)))))
     cases h
     exact ⟨_,rfl,rfl,ZaA kr⟩
    refine sk (bn (tq (kq (rg Zab.f ?_))))
    cases h
    exact ⟨_,rfl,kr⟩
   refine kq (xq (tx ?_))
   cases h
   exact ⟨_,rfl,rfl,kr⟩
  rintro e s hq
  rcases ae with bZ|bY
  ·dsimp only at h hq
   obtain ⟨rfl,hR⟩:=hq
   obtain rfl:=hR
   refine bx (tq (sq ?_))
   obtain ⟨aS,hj,h⟩:=bs h
   refine rqR (λs=>s=⟨[(4,bv aS)],[],[]⟩) ?_ ?_
   ·clear h
    refine (EP.u 2 (Zan (ys:=[Zaq false a1_.Routes]) (h:=Zax (eSl 1 eI64))) ?_)
    rcases ZaC hj with ⟨az,hj⟩|⟨ay,hj⟩
    ·obtain rfl:=Zao hj
     exact (EP.u 0 (Zam (c:=(((List.length a1_.Routes:Nat):Int)==1)) (h:=az)) (EP.f kr))
    refine (EP.u 0 (Zam (c:=(((List.length a1_.Routes:Nat):Int)==1)) (h:=ay)) ?_)
    obtain ⟨ab,a6,hj⟩:=bs hj
    refine (EP.u 4 (Zan (ys:=[Zaq false a1_.Routes,iv 0]) (h:=Zal (eSl 1 eI64) a6)) (EP.u 0 (ZaK (Zav (sz:=1) (off:=0) (cs:=[.sl 1 false (List.map eI64 ab)]) (r:=Zad false ab) (eSl 1 eI64) a6)) ?_))
    obtain ⟨aa,a5,hj⟩:=bs hj
    refine (EP.u 2 (Zan (ys:=[Zaq false a1_.Routes,iv 1]) (h:=Zal (eSl 1 eI64) a5)) (EP.u 0 (ZaK (Zav (sz:=1) (off:=0) (cs:=[.sl 1 false (List.map eI64 aa)]) (r:=Zad false aa) (eSl 1 eI64) a5)) ?_))
    obtain ⟨aM,au,hj⟩:=bs hj
    obtain rfl:=Zao hj
    exact (EP.u 0 (Za1 (hc:=Zhh N a0_ ab aa aM au)) (EP.f kr))
   clear hj
   rintro s hR
   obtain rfl:=hR
   refine tq (rt ?_)
   cases h
   exact ZaA kr
  dsimp only at h hq
  obtain ⟨rfl,hq⟩:=hq
  refine br (tr ?_)
  cases h
  exact hq
 refine sq (rg Zab.f (tq (rt (br (tr ?_)))))
 cases h
 exact ZaA kr
theorem ZlK (N:Nat)(a0_:(List ZaL))(r:Int×Int)(h:Zfb N a0_=some r):Zba Tryz.prog 57 [ZbE false a0_] (.tup [iv r.1,iv r.2]):=by
 unfold Zfb at h
 have hH  := hp0
 refine ZaG ZK6 rfl rfl (Zay _ _ _ ?_) rfl
 refine sq (rg Zab.f (tq (sq (sq ?_))))
 obtain ⟨r1,hr1,h⟩:=bs h
 refine rg (Zab.v 1 (Zaz (hc:=ZjK N a0_ r1 hr1)) Zab.f) (tq (sq (rg Zab.f (tq (it h (λhc2 h=>?_) (λhc2 h=>?_))))))
 ·refine sq (rg Zab.f (tq (rt (tr ?_))))
  cases h
  exact ZaA kr
 refine sk (tq (kq (sq ?_)))
 obtain ⟨l5,hl5,h⟩:=bs h
 obtain ⟨a3,H4,ha3,hH4,ha3b,hH⟩:=HP.make eI64 hH hl5
 replace hH:HP _ [.arr a3 1 false (List.map eI64 l5)]:=hH
 have hfa3:=ZaS (HP.get hH 0 rfl)
 refine rgS ⟨[(0,ZbE false a0_),(5,a3)],[],H4⟩ (Zab.u 1 (Zan (ys:=[ZbE false a0_]) (h:=Zax ZbJ)) (Zab.h 0 (ZjI (H:=[]) (zero:=[.int .i64 0]) (bytes:=8) kr kr kr ha3 hH4 ha3b) Zab.f)) (by cases hfa3<;>kernel_rfl) (tq (sq (sq (rgS ⟨[(5,a3),(17,ZbE false a0_),(18,iv ((List.length a0_:Nat):Int)),(19,iv 0)],[],H4⟩ (Zab.u 1 (Zan (ys:=[ZbE false a0_]) (h:=Zax ZbJ)) Zab.f) (by cases hfa3<;>kernel_rfl) (tq (bk ?_))))))
 obtain ⟨a4,ab,h⟩:=bs h
 refine ZaT ((ZaI (λ(x:Int×(List Int)) s=>∃ (a6:AV) (H7:List HO),s=⟨[(5,a6),(17,ZbE false a0_),(18,iv ((List.length a0_:Nat):Int)),(19,iv x.1)],[],H7⟩/\HP H7 [.arr a6 1 false (List.map eI64 x.2)]) (λx:Int×(List Int)=>ZcI N a0_ x.1 x.2) (λ(p:(List Int)) e s=>e=.exit 0/\(∃ (a1:AV) (aa:List HO),s=⟨[(5,a1)],[],aa⟩/\HP aa [.arr a1 1 false (List.map eI64 p)])) ?_ N _ a4 _ ab ⟨a3,H4,(by show _=_;cases hfa3<;>kernel_rfl),(HP.pick hH [0] rfl)⟩).mono ?_)
 ·clear h ab
  rintro ⟨i8,l9⟩ o s h hR
  obtain ⟨a6,H7,rfl,hH⟩:=hR
  replace hH:HP _ [.arr a6 1 false (List.map eI64 l9)]:=hH
  have hfa6:=ZaS (HP.get hH 0 rfl)
  replace h:ZcI N a0_ i8 l9=some o:=h
  unfold ZcI at h
  refine sq (rgS ⟨[(5,a6),(17,ZbE false a0_),(18,iv ((List.length a0_:Nat):Int)),(19,iv i8),(20,bv (decide (i8<((List.length a0_:Nat):Int))))],[],H7⟩ Zab.f (by cases hfa6<;>kernel_rfl) (tq (sq (it h (λak h=>?_) (λak h=>?_)))))
  ·refine sk (tq (kq (sq (bk (sq ?_)))))
   obtain ⟨a0,ad,h⟩:=bs h
   refine rgS ⟨[(5,a6),(6,iv i8),(7,.loc 7 0),(17,ZbE false a0_),(18,iv ((List.length a0_:Nat):Int)),(19,iv i8)],[(7,(ZdG a0))],H7⟩ (Zab.u 1 (Zan (ys:=[ZbE false a0_,iv i8]) (h:=Zal ZbJ ad)) (Zab.u 0 (Zav (sz:=3) (off:=0) (cs:=[.int .i64 a0.Period,.int .i64 a0.From,.int .i64 a0.Long]) (r:=.agg (ZdG a0)) ZbJ ad) (Zab.f (h:=(by cases hfa6<;>kernel_rfl))))) (by cases hfa6<;>kernel_rfl) (tq ?_)
   obtain ⟨aq,ac,h⟩:=bs h
   obtain ⟨ap,am,_,a8,ae,a9,a7⟩:=HP.elem (k:=0) (a:=a6) (sz:=1) (frz:=false) eI64 hH rfl ac
   obtain ⟨af,al,hH⟩:=HP.setRow (k:=0) (off:=0) (cs:=[iv a0.Period]) (ps:=[.int .i64 a0.Period]) (e':=a0.Period) eI64 hH rfl a9 ae (a8 rfl) ac kr kr
   replace hH:HP _ [.arr a6 1 false (List.map eI64 (List.set l9 (Int.toNat i8) a0.Period))]:=hH
   refine rgS ⟨[(5,a6),(17,ZbE false a0_),(18,iv ((List.length a0_:Nat):Int)),(19,iv i8)],[],af⟩ (Zab.u 4 (Zan (ys:=[a6,iv i8]) (by cases hfa6<;>kernel_rfl) (a7 .i64)) (Zab.o 0 (Zbe (H:=H7) (v:=iv a0.Period) (hw:=al)) Zab.f)) (by cases hfa6<;>kernel_rfl) (bn (tq (rgS ⟨[(5,a6),(17,ZbE false a0_),(18,iv ((List.length a0_:Nat):Int)),(19,iv (w64 (i8+1)))],[],af⟩ Zab.f (by cases hfa6<;>kernel_rfl) ?_)))
   cases h
   exact ⟨_,rfl,⟨a6,af,(by show _=_;cases hfa6<;>kernel_rfl),(HP.pick hH [0] rfl)⟩⟩
  refine kq (xq (tx ?_))
  cases h
  exact ⟨_,rfl,rfl,⟨a6,H7,(by show _=_;cases hfa6<;>kernel_rfl),(HP.pick hH [0] rfl)⟩⟩
 rintro e s hq
 obtain ⟨rfl,hR⟩:=hq
 obtain ⟨a1,aa,rfl,hH⟩:=hR
 replace hH:HP _ [.arr a1 1 false (List.map eI64 a4)]:=hH
 have a2:=ZaS (HP.get hH 0 rfl)
 refine bx (tq (sq ?_))
 obtain ⟨ag,ai,h⟩:=bs h
 obtain ⟨ao,an,a5,hH⟩:=HP.frz (k:=0) (a:=a1) (sz:=1) (frz:=false) eI64 hH rfl
 replace hH:HP _ [.arr a1 1 true (List.map eI64 a4)]:=hH
 refine rgS ⟨[(8,iv ag)],[],ao⟩ (Zab.v 1 (Zi0 (H:=aa) (ys:=[iv 960,a1]) (by cases a2<;>kernel_rfl) (by cases a2<;>kernel_rfl) (Zfm rfl (Zfm a5 Zi8)) (Zmz N 960 a4 ag ai)) Zab.f) kr ?_
 replace hH:HP _ []:=HP.pick hH [] rfl
 refine tq (sq (sq (rg Zab.f (tq (it h (λaj h=>?_) (λaj h=>?_))))))
 ·refine sq (rg Zab.f (tq (rt (tr ?_))))
  cases h
  exact ZaA kr
 refine sk (tq (kq (sq (rg Zab.f (tq (rt ?_))))))
 cases h
 exact ZaA kr
theorem Zon (N:Nat)(a0_:Zag)(r:Bool)(h:Zho N a0_=some r):Zba Tryz.prog 65 [.agg (Zac a0_)] (bv r):=by
 unfold Zho at h
 have hH  := hp0
 refine ZaG ZKY rfl rfl (Zay _ _ _ ?_) rfl
 refine sq ?_
 obtain ⟨id1,H2,hid1,hH2,hH⟩:=HP.newCell hH (Zac a0_)
 replace hH:HP _ [.cel id1 (Zac a0_)]:=hH
 refine rg (Zab.h 0 (Zdn (H:=[]) (v:=.agg (Zac a0_)) (hid:=hid1) (hH:=hH2)) Zab.f) (tq (sq (rg Zab.f (tq (sq (sq ?_))))))
 have hlc3:=HP.get hH 0 rfl
 refine rg (Zab.u 1 (ZaD (H:=H2) (id:=id1) (off:=2) (cs:=(Zac a0_)) (c:=[Zae false a0_.Links]) (r:=Zae false a0_.Links) (hl:=hlc3)) (Zab.u 0 (Zan (ys:=[Zae false a0_.Links]) (h:=Zax Zat)) Zab.f)) (tq (bk ?_))
 obtain ⟨a5,a0,h⟩:=bs h
 refine ZaT ((ZaI (λ(x:Int) s=>s=⟨[(3,.loc 3 0),(14,iv ((List.length a0_.Links:Nat):Int)),(15,iv x)],[(3,[.fn 87 [] [.ptr id1 0],.fn 89 [] [.ptr id1 0],.fn 90 [] [.ptr id1 0],.fn 91 [] [.ptr id1 0]])],H2⟩) (λx:Int=>ZdL N a0_ x) (λ(p:(Unit)⊕(Bool)) e s=>match p with|(.inl p)=>e=.exit 0/\(s=⟨[],[],H2⟩)|(.inr p)=>e=.ret/\∃ xs,resL s i65.res=some xs/\ZbV xs=bv p) ?_ N _ a5 _ a0 kr).mono ?_)
 ·clear h a0
  rintro i4 o s h hR
  obtain rfl:=hR
  replace h:ZdL N a0_ i4=some o:=h
  unfold ZdL at h
  refine sq (rg Zab.f (tq (sq (it h (λae h=>?_) (λae h=>?_)))))
  ·refine sk (tq (kq (sq (bk (sq (rg Zab.f (tq (sq (rg Zab.f (tq (bk (Ze6 18 (Zbl (sq (rg Zab.f (tq (sq (Zco kr (sk (tq (kq (sq (bk (sq (rg Zab.f (tq (sq ?_)))))))))))))))))))))))))))
   obtain ⟨aj,a9,h⟩:=bs h
   have a4:=(Zmd N i4 a0_ id1 H2 (HP.now (HP.pick hH [0] rfl)) aj a9)
   refine rg (Zab.v 2 (Zd9 (H:=H2) (fv:=.fn 87 [] [.ptr id1 0]) (ys:=[iv i4]) (hc:=Zh7.of kr a4)) Zab.f) (tq (it h (λad h=>?_) (λad h=>?_)))
   ·refine sq (rg Zab.f ?_)
    replace hH:HP _ []:=HP.pick hH [] rfl
    refine tq (rt (br (tr (tr (br (br (tr ?_)))))))
    cases h
    exact ⟨_,rfl,rfl,ZaA kr⟩
   refine sk (bn (tq (kq (rg Zab.f (tq (Zbl (sq (rg Zab.f (tq (sq (Zco kr (sk (tq (kq (sq (bk (sq (rg Zab.f (tq (sq ?_))))))))))))))))))))
   obtain ⟨ai,a8,h⟩:=bs h
   have a3:=(Zmc N i4 a0_ id1 H2 (HP.now (HP.pick hH [0] rfl)) ai a8)
   refine rg (Zab.v 2 (Zd9 (H:=H2) (fv:=.fn 89 [] [.ptr id1 0]) (ys:=[iv i4]) (hc:=Zh7.of kr a3)) Zab.f) (tq (it h (λac h=>?_) (λac h=>?_)))
   ·refine sq (rg Zab.f ?_)
    replace hH:HP _ []:=HP.pick hH [] rfl
    refine tq (rt (br (tr (tr (br (br (tr ?_)))))))
    cases h
    exact ⟨_,rfl,rfl,ZaA kr⟩
   refine sk (bn (tq (kq (rg Zab.f (tq (Zbl (sq (rg Zab.f (tq (sq (Zco kr (sk (tq (kq (sq (bk (sq (rg Zab.f (tq (sq ?_))))))))))))))))))))
   obtain ⟨ag,a7,h⟩:=bs h
   have a2:=(Zmb N i4 a0_ id1 H2 (HP.now (HP.pick hH [0] rfl)) ag a7)
   refine rg (Zab.v 2 (Zd9 (H:=H2) (fv:=.fn 90 [] [.ptr id1 0]) (ys:=[iv i4]) (hc:=Zh7.of kr a2)) Zab.f) (tq (it h (λab h=>?_) (λab h=>?_)))
   ·refine sq (rg Zab.f ?_)
    replace hH:HP _ []:=HP.pick hH [] rfl
    refine tq (rt (br (tr (tr (br (br (tr ?_)))))))
    cases h
    exact ⟨_,rfl,rfl,ZaA kr⟩
   refine sk (bn (tq (kq (rg Zab.f (tq (Zbl (sq (rg Zab.f (tq (sq (Zco kr (sk (tq (kq (sq (bk (sq (rg Zab.f (tq (sq ?_))))))))))))))))))))
   obtain ⟨af,a6,h⟩:=bs h
   have a1:=(Zma N i4 a0_ id1 H2 (HP.now (HP.pick hH [0] rfl)) af a6)
   refine rg (Zab.v 2 (Zd9 (H:=H2) (fv:=.fn 91 [] [.ptr id1 0]) (ys:=[iv i4]) (hc:=Zh7.of kr a1)) Zab.f) (tq (it h (λaa h=>?_) (λaa h=>?_)))
   ·refine sq (rg Zab.f ?_)
    replace hH:HP _ []:=HP.pick hH [] rfl
    refine tq (rt (br (tr (tr (br (br (tr ?_)))))))
    cases h
    exact ⟨_,rfl,rfl,ZaA kr⟩
   refine sk (bn (tq (kq (rg Zab.f (tq (Zbl (sq (rg Zab.f (tq (sq (Ze7 kr (kq (xq (tx (tx (bx (bn (tq (rg Zab.f ?_)))))))))))))))))))
   cases h
   exact ⟨_,rfl,kr⟩
  refine kq ?_
  replace hH:HP _ []:=HP.pick hH [] rfl
  refine xq (tx ?_)
  cases h
  exact ⟨_,rfl,rfl,kr⟩
 rintro e s hq
 rcases a5 with al|ak
 ·dsimp only at h hq
  obtain ⟨rfl,hR⟩:=hq
  obtain rfl:=hR
  replace hH:HP _ []:=HP.pick hH [] rfl
  refine bx (tq (sq (rg Zab.f (tq (rt ?_)))))
  cases h
  exact ZaA kr
 dsimp only at h hq
 obtain ⟨rfl,hq⟩:=hq
 refine br (tr ?_)
 cases h
 exact hq
theorem ZkC (N:Nat)(c0_:Zah)(k0_:Nat)(H:List HO)(hH:HP H [.cel k0_ (Zai c0_)])(r:Bool)(h:ZeE N c0_=some r):Zcm Tryz.prog 73 [.ptr k0_ 0] H (bv r) H:=by
 unfold ZeE at h
 refine ZcN ZKQ rfl rfl rfl (Zay _ _ _ (sq (rg Zab.f (tq (sq (sq ?_))))))
 have hlc1:=HP.get hH 0 rfl
 refine rg (Zab.u 1 (ZaD (H:=H) (id:=k0_) (off:=3) (cs:=(Zai c0_)) (c:=[iv c0_.Class]) (r:=iv c0_.Class) (hl:=hlc1)) Zab.f) (tq (bk (sq (rg Zab.f (tq (it h (λhc2 h=>?_) (λhc2 h=>?_)))))))
 ·refine sq ?_
  obtain ⟨j8,hj,h⟩:=bs h
  refine rgR (λs=>s=⟨[(1,bv j8)],[],H⟩) ?_ ?_
  ·clear h
   have hlc3:=HP.get hH 0 rfl
   refine (EP.u 1 (ZaD (H:=H) (id:=k0_) (off:=5) (cs:=(Zai c0_)) (c:=[iv c0_.Period]) (r:=iv c0_.Period) (hl:=hlc3)) ?_)
   obtain ⟨r4,hr4,hj⟩:=bs hj
   rcases ZaC hj with ⟨hc5,hj⟩|⟨hc7,hj⟩
   ·refine (EP.h 0 (ZbB kr (Zbf N c0_.Period 1 240 r4 hr4) hc5) ?_)
    have hlc6:=HP.get hH 0 rfl
    obtain rfl:=Zao hj
    exact (EP.u 2 (ZaD (H:=H) (id:=k0_) (off:=6) (cs:=(Zai c0_)) (c:=(Zf1 c0_.Bucket)) (r:=.agg (Zf1 c0_.Bucket)) (hl:=hlc6)) (EP.f kr))
   obtain rfl:=Zao hj
   exact (EP.h 0 (ZbB kr (Zbf N c0_.Period 1 240 r4 hr4) hc7) (EP.f kr))
  clear hj
  rintro s hR
  obtain rfl:=hR
  refine tq (rt (br (tr ?_)))
  cases h
  exact Zb8 kr kr
 refine sq (rg Zab.f (tq (it h (λhc9 h=>?_) (λhc9 h=>?_))))
 ·refine sq ?_
  obtain ⟨aa,hj,h⟩:=bs h
  refine rgR (λs=>s=⟨[(1,bv aa)],[],H⟩) ?_ ?_
  ·clear h
   have a3:=HP.get hH 0 rfl
   refine (EP.u 1 (ZaD (H:=H) (id:=k0_) (off:=5) (cs:=(Zai c0_)) (c:=[iv c0_.Period]) (r:=iv c0_.Period) (hl:=a3)) ?_)
   rcases ZaC hj with ⟨a9,hj⟩|⟨a6,hj⟩
   ·refine (EP.u 0 (Zam (c:=(c0_.Period==0)) (h:=a9)) ?_)
    have a2:=HP.get hH 0 rfl
    refine (EP.u 2 (ZaD (H:=H) (id:=k0_) (off:=6) (cs:=(Zai c0_)) (c:=(Zf1 c0_.Bucket)) (r:=.agg (Zf1 c0_.Bucket)) (hl:=a2)) ?_)
    obtain ⟨a4,a5,hj⟩:=bs hj
    refine (EP.v 0 (Zaz (hc:=Znh N c0_.Bucket a4 a5)) ?_)
    rcases ZaC hj with ⟨a8,hj⟩|⟨a7,hj⟩
    ·refine (EP.u 0 (Zam (c:=(a4==0)) (h:=a8)) ?_)
     have a1:=HP.get hH 0 rfl
     refine (EP.u 4 (ZaD (H:=H) (id:=k0_) (off:=6) (cs:=(Zai c0_)) (c:=[iv c0_.Bucket.Burst]) (r:=iv c0_.Bucket.Burst) (hl:=a1)) ?_)
     have a0:=HP.get hH 0 rfl
     obtain rfl:=Zao hj
     exact (EP.u 1 (ZaD (H:=H) (id:=k0_) (off:=4) (cs:=(Zai c0_)) (c:=[iv c0_.Size]) (r:=iv c0_.Size) (hl:=a0)) (EP.f kr))
    obtain rfl:=Zao hj
    exact (EP.u 0 (Zam (c:=(a4==0)) (h:=a7)) (EP.f kr))
   obtain rfl:=Zao hj
   exact (EP.u 0 (Zam (c:=(c0_.Period==0)) (h:=a6)) (EP.f kr))
  clear hj
  rintro s hR
  obtain rfl:=hR
  refine tq (rt (br (tr ?_)))
  cases h
  exact Zb8 kr kr
 refine sk (bn (tq (kq ?_)))
 replace hH:HP _ []:=HP.pick hH [] rfl
 refine sq (rg Zab.f (tq (rt ?_)))
 cases h
 exact Zb8 kr kr
theorem ZgC (N:Nat)(a0_:Za7)(a1_:(List Int))(a2_:(List Int))(r:Bool)(h:Zdb N a0_ a1_ a2_=some r):Zba Tryz.prog 99 [.agg (Zac a0_.Topo),Zad false a1_,Zad false a2_] (bv r):=by
 unfold Zdb at h
 have hH  := hp0
 refine ZaG ZKq rfl rfl (Zay _ _ _ ?_) rfl
 refine sq (rg Zab.f (tq (sq ?_)))
 obtain ⟨r1,hr1,h⟩:=bs h
 refine rg (Zab.v 2 (Zaz (hc:=ZeR N a0_ a1_ r1 hr1)) Zab.f) (tq (sq (rg (Zab.u 1 (Zan (ys:=[Zad false r1]) (h:=Zax eI64)) Zab.f) (tq (sq ?_)))))
 obtain ⟨r2,hr2,h⟩:=bs h
 refine rg (Zab.v 2 (Zaz (hc:=ZeR N a0_ a2_ r2 hr2)) Zab.f) (tq (sq (sq ?_)))
 obtain ⟨l3,hl3,h⟩:=bs h
 refine rg (Zab.u 3 (Zan (ys:=[Zad false r1,iv 1,iv (w64 (((List.length r1:Nat):Int)-1)),iv (w64 (((List.length r1:Nat):Int)-1))]) (h:=Zo7 eI64 hl3)) (Zab.u 0 (Zan (ys:=[Zad true l3]) (h:=Zax eI64)) Zab.f)) (tq (bk ?_))
 obtain ⟨a3,a0,h⟩:=bs h
 refine ZaT ((ZaI (λ(x:Int) s=>s=⟨[(9,Zad false r2),(24,Zad true l3),(25,iv ((List.length l3:Nat):Int)),(26,iv x)],[],[]⟩) (λx:Int=>ZbY N r2 l3 x) (λ(p:(Unit)⊕(Bool)) e s=>match p with|(.inl p)=>e=.exit 0/\(s=⟨[],[],[]⟩)|(.inr p)=>e=.ret/\∃ xs,resL s i99.res=some xs/\ZbV xs=bv p) ?_ N _ a3 _ a0 kr).mono ?_)
 ·clear h a0
  rintro i4 o s h hR
  obtain rfl:=hR
  replace h:ZbY N r2 l3 i4=some o:=h
  unfold ZbY at h
  refine sq (rg Zab.f (tq (sq (it h (λa6 h=>?_) (λa6 h=>?_)))))
  ·refine sk (tq (kq (sq (bk (sq ?_)))))
   obtain ⟨a2,a1,h⟩:=bs h
   refine rg (Zab.u 0 (Zan (ys:=[Zad true l3,iv i4]) (h:=Zal eI64 a1)) (Zab.u 0 (Zav (sz:=1) (off:=0) (cs:=[.int .i64 a2]) (r:=iv a2) eI64 a1) Zab.f)) (tq (sq ?_))
   obtain ⟨a7,a4,h⟩:=bs h
   refine rg (Zab.v 2 (Zaz (hc:=Zgz N r2 a2 a7 a4)) Zab.f) (tq (it h (λa5 h=>?_) (λa5 h=>?_)))
   ·refine sq (rg Zab.f (tq (rt (br (tr ?_)))))
    cases h
    exact ⟨_,rfl,rfl,ZaA kr⟩
   refine sk (bn (tq (kq (rg Zab.f ?_))))
   cases h
   exact ⟨_,rfl,kr⟩
  refine kq (xq (tx ?_))
  cases h
  exact ⟨_,rfl,rfl,kr⟩
 rintro e s hq
 rcases a3 with a9|a8
 ·dsimp only at h hq
  obtain ⟨rfl,hR⟩:=hq
  obtain rfl:=hR
  refine bx (tq (sq (rg Zab.f (tq (rt ?_)))))
  cases h
  exact ZaA kr
 dsimp only at h hq
 obtain ⟨rfl,hq⟩:=hq
 refine br (tr ?_)
 cases h
 exact hq
theorem ZlN (N:Nat)(a0_:ZaL)(a1_:ZaL)(r:Bool×Int)(h:ZhR N a0_ a1_=some r):Zba Tryz.prog 101 [.agg (ZdG a0_),.agg (ZdG a1_)] (.tup [bv r.1,iv r.2]):=by
 unfold ZhR at h
 have hH  := hp0
 refine ZaG Zy0 rfl rfl (Zay _ _ _ ?_) rfl
 refine sq (rg Zab.f (tq (sq (sq ?_))))
 obtain ⟨r1,hr1,h⟩:=bs h
 refine rg (Zab.v 1 (Zaz (hc:=Zf8 N a0_ r1 hr1)) Zab.f) (tq (sq (rg Zab.f (tq (it h (λhc2 h=>?_) (λhc2 h=>?_))))))
 ·refine sq (rg Zab.f (tq (rt (tr ?_))))
  cases h
  exact ZaA kr
 refine sk (tq (kq (sq (sq ?_))))
 obtain ⟨r3,hr3,h⟩:=bs h
 refine rg (Zab.v 1 (Zaz (hc:=Zf8 N a1_ r3 hr3)) Zab.f) (tq (sq (rg Zab.f (tq (it h (λhc4 h=>?_) (λhc4 h=>?_))))))
 ·refine sq (rg Zab.f (tq (rt (tr ?_))))
  cases h
  exact ZaA kr
 refine sk (tq (kq (sq ?_)))
 obtain ⟨r5,hr5,h⟩:=bs h
 refine rg (Zab.v 2 (Zaz (hc:=ZlJ N a0_ a1_ r5 hr5)) Zab.f) (tq (rt ?_))
 cases h
 exact ZaA kr
theorem ZjM (N:Nat)(a0_:Zbi)(r:Zag)(h:Zde N a0_=some r):Zba Tryz.prog 5 [.agg (ZaH a0_)] (.agg [iv r.Nodes,s_eB false r.Station,Zae false r.Links]):=by
 unfold Zde at h
 have hH  := hp0
 refine ZaG chk5 rfl rfl (Zay _ _ _ ?_) rfl
 refine sq (rg Zab.f (tq (sq (rg Zab.f (tq (sq (rg Zab.f (tq (sq (rg Zab.f (tq (sq (sq (rg Zab.f (tq (bk ?_))))))))))))))))
 obtain ⟨dm,cZ,h⟩:=bs h
 refine ZaT ((ZaI (λ(x:Int×(List Bool)) s=>∃ (a1:AV) (H2:List HO),s=⟨[(1,.loc 1 0),(2,.loc 2 0),(3,iv (w64 (1+(w64 ((Int.tmod a0_.Bridges 6)))))),(4,iv (w64 (2+(w64 ((Int.tmod a0_.Stations 5)))))),(5,.loc 5 0),(6,iv x.1)],[(1,(ZaH a0_)),(2,[iv 0,s_eB true [],Zae true []]),(5,[iv (w64 ((w64 (1+(w64 ((Int.tmod a0_.Bridges 6)))))+(w64 (2+(w64 ((Int.tmod a0_.Stations 5))))))),a1,Zae true []])],H2⟩/\HP H2 [.arr a1 1 false (List.map eB x.2)]) (λx:Int×(List Bool)=>Zbp N a0_ x.1 x.2) (λ(p:(List Bool)) e s=>e=.exit 0/\(∃ (bY:AV) (cr:List HO),s=⟨[(1,.loc 1 0),(2,.loc 2 0),(3,iv (w64 (1+(w64 ((Int.tmod a0_.Bridges 6)))))),(4,iv (w64 (2+(w64 ((Int.tmod a0_.Stations 5)))))),(5,.loc 5 0)],[(1,(ZaH a0_)),(2,[iv 0,s_eB true [],Zae true []]),(5,[iv (w64 ((w64 (1+(w64 ((Int.tmod a0_.Bridges 6)))))+(w64 (2+(w64 ((Int.tmod a0_.Stations 5))))))),bY,Zae true []])],cr⟩/\HP cr [.arr bY 1 false (List.map eB p)])) ?_ N _ dm _ cZ ⟨(.p (.sl 1 true [])),[],kr,(HP.pick (HP.nilArr hH 1 false) [0] rfl)⟩).mono ?_)
 ·clear h cZ
  rintro ⟨i3,l4⟩ o s h hR
  obtain ⟨a1,H2,rfl,hH⟩:=hR
  replace hH:HP _ [.arr a1 1 false (List.map eB l4)]:=hH
  have hfa1:=ZaS (HP.get hH 0 rfl)
  replace h:Zbp N a0_ i3 l4=some o:=h
  unfold Zbp at h
  refine sq (sq (rgS ⟨[(1,.loc 1 0),(2,.loc 2 0),(3,iv (w64 (1+(w64 ((Int.tmod a0_.Bridges 6)))))),(4,iv (w64 (2+(w64 ((Int.tmod a0_.Stations 5)))))),(5,.loc 5 0),(6,iv i3),(28,bv (decide (i3<(w64 ((w64 (1+(w64 ((Int.tmod a0_.Bridges 6)))))+(w64 (2+(w64 ((Int.tmod a0_.Stations 5))))))))))],[(1,(ZaH a0_)),(2,[iv 0,s_eB true [],Zae true []]),(5,[iv (w64 ((w64 (1+(w64 ((Int.tmod a0_.Bridges 6)))))+(w64 (2+(w64 ((Int.tmod a0_.Stations 5))))))),a1,Zae true []])],H2⟩ (Zab.f (h:=(by cases hfa1<;>kernel_rfl))) (by cases hfa1<;>kernel_rfl) (tq (it h (λdp h=>?_) (λdp h=>?_)))))
  ·refine sk (tq (kq (sq (bk ?_))))
   obtain ⟨dr,dn,h⟩:=bs h
   obtain ⟨cR,dl,dq,hH⟩:=HP.app (k:=0) (a:=a1) (sz:=1) (frz:=false) eB hH rfl dn
   replace hH:HP _ [.arr cR 1 false (List.map eB dr)]:=hH
   have aV:=ZaS (HP.get hH 0 rfl)
   refine rgS ⟨[(1,.loc 1 0),(2,.loc 2 0),(3,iv (w64 (1+(w64 ((Int.tmod a0_.Bridges 6)))))),(4,iv (w64 (2+(w64 ((Int.tmod a0_.Stations 5)))))),(5,.loc 5 0),(6,iv i3)],[(1,(ZaH a0_)),(2,[iv 0,s_eB true [],Zae true []]),(5,[iv (w64 ((w64 (1+(w64 ((Int.tmod a0_.Bridges 6)))))+(w64 (2+(w64 ((Int.tmod a0_.Stations 5))))))),cR,Zae true []])],dl⟩ (Zab.h (hm:=(by cases hfa1<;>kernel_rfl)) 6 (Ze9 (H:=H2) (a:=a1) (b:=s_eB true [(decide (i3≥(w64 (1+(w64 ((Int.tmod a0_.Bridges 6)))))))]) (by cases hfa1<;>kernel_rfl) (by cases hfa1<;>kernel_rfl) (by cases hfa1<;>kernel_rfl) (by cases hfa1<;>kernel_rfl) dq) (Zab.f (h:=(by cases hfa1<;>cases aV<;>kernel_rfl)))) (by cases hfa1<;>cases aV<;>kernel_rfl) (bn (tq (rgS ⟨[(1,.loc 1 0),(2,.loc 2 0),(3,iv (w64 (1+(w64 ((Int.tmod a0_.Bridges 6)))))),(4,iv (w64 (2+(w64 ((Int.tmod a0_.Stations 5)))))),(5,.loc 5 0),(6,iv (w64 (i3+1)))],[(1,(ZaH a0_)),(2,[iv 0,s_eB true [],Zae true []]),(5,[iv (w64 ((w64 (1+(w64 ((Int.tmod a0_.Bridges 6)))))+(w64 (2+(w64 ((Int.tmod a0_.Stations 5))))))),cR,Zae true []])],dl⟩ Zab.f (by cases aV<;>kernel_rfl) ?_)))
   cases h
   exact ⟨_,rfl,⟨cR,dl,(by show _=_;cases aV<;>kernel_rfl),(HP.pick hH [0] rfl)⟩⟩
  refine kq (xq (tx ?_))
  cases h
  exact ⟨_,rfl,rfl,⟨a1,H2,(by show _=_;cases hfa1<;>kernel_rfl),(HP.pick hH [0] rfl)⟩⟩
 rintro e s hq
 obtain ⟨rfl,hR⟩:=hq
 obtain ⟨bY,cr,rfl,hH⟩:=hR
 replace hH:HP _ [.arr bY 1 false (List.map eB dm)]:=hH
 have cd:=ZaS (HP.get hH 0 rfl)
 refine bx (tq (sq (sq (rgS ⟨[(1,.loc 1 0),(2,.loc 2 0),(3,iv (w64 (1+(w64 ((Int.tmod a0_.Bridges 6)))))),(4,iv (w64 (2+(w64 ((Int.tmod a0_.Stations 5)))))),(5,.loc 5 0),(7,iv 1)],[(1,(ZaH a0_)),(2,[iv 0,s_eB true [],Zae true []]),(5,[iv (w64 ((w64 (1+(w64 ((Int.tmod a0_.Bridges 6)))))+(w64 (2+(w64 ((Int.tmod a0_.Stations 5))))))),bY,Zae true []])],cr⟩ Zab.f (by cases cd<;>kernel_rfl) (tq (bk ?_))))))
 obtain ⟨bt,c2,h⟩:=bs h
 refine ZaT ((ZaI (λ(x:Int×Int×(List Bool)×(List ZaF)) s=>∃ (b1:AV) (b0:AV) (bl:List HO),s=⟨[(1,.loc 1 0),(2,.loc 2 0),(3,iv (w64 (1+(w64 ((Int.tmod a0_.Bridges 6)))))),(4,iv (w64 (2+(w64 ((Int.tmod a0_.Stations 5)))))),(5,.loc 5 0),(7,iv x.1)],[(1,(ZaH a0_)),(2,[iv 0,s_eB true [],Zae true []]),(5,[iv x.2.1,b1,b0])],bl⟩/\HP bl [.arr b1 1 true (List.map eB x.2.2.1),.arr b0 4 true (List.map Zat x.2.2.2)]) (λx:Int×Int×(List Bool)×(List ZaF)=>Zbo N a0_ x.1 x.2.1 x.2.2.1 x.2.2.2) (λ(p:Int×(List Bool)×(List ZaF)) e s=>e=.exit 2/\(∃ (aT:AV) (aS:AV) (bj:List HO),s=⟨[(1,.loc 1 0),(2,.loc 2 0),(3,iv (w64 (1+(w64 ((Int.tmod a0_.Bridges 6)))))),(4,iv (w64 (2+(w64 ((Int.tmod a0_.Stations 5)))))),(5,.loc 5 0)],[(1,(ZaH a0_)),(2,[iv 0,s_eB true [],Zae true []]),(5,[iv p.1,aT,aS])],bj⟩/\HP bj [.arr aT 1 true (List.map eB p.2.1),.arr aS 4 true (List.map Zat p.2.2)])) ?_ N _ bt _ c2 ⟨bY,(.p (.sl 4 true [])),cr,(by show _=_;cases cd<;>kernel_rfl),(HP.frzUp (k:=0) (HP.pick (HP.nilArr hH 4 true) [1,0] rfl) rfl)⟩).mono ?_)
 ·clear h c2
  rintro ⟨aU,cz,cy,cw⟩ o s h hR
  obtain ⟨b1,b0,bl,rfl,hH⟩:=hR
  replace hH:HP _ [.arr b1 1 true (List.map eB cy),.arr b0 4 true (List.map Zat cw)]:=hH
  have af:=ZaS (HP.get hH 0 rfl)
  have ae:=ZaS (HP.get hH 1 rfl)
  replace h:Zbo N a0_ aU cz cy cw=some o:=h
  unfold Zbo at h
  refine sq (sq (rgS ⟨[(1,.loc 1 0),(2,.loc 2 0),(3,iv (w64 (1+(w64 ((Int.tmod a0_.Bridges 6)))))),(4,iv (w64 (2+(w64 ((Int.tmod a0_.Stations 5)))))),(5,.loc 5 0),(7,iv aU),(41,bv (decide (aU<(w64 (1+(w64 ((Int.tmod a0_.Bridges 6))))))))],[(1,(ZaH a0_)),(2,[iv 0,s_eB true [],Zae true []]),(5,[iv cz,b1,b0])],bl⟩ Zab.f (by cases af<;>cases ae<;>kernel_rfl) (tq (it h (λdk h=>?_) (λdk h=>?_)))))
  ·refine sk (tq (kq (sq (bk ?_))))
   obtain ⟨bb,d9,h⟩:=bs h
   have cQ:=HP.get hH 0 rfl
   have cM:=HP.get hH 1 rfl
   obtain ⟨bX,bW,cv,cE,cL⟩:=Zc8 N a0_ (Zag.mk cz cy cw) (w64 (aU-1)) aU   b1 b0 bl (HP.now (HP.pick hH [0,1] rfl)) bb d9
   replace hH:HP _ [.arr bX 1 true (List.map eB bb.Station),.arr bW 4 true (List.map Zat bb.Links)]:=HP.callee (fp:=[.arr b1 1 true (List.map eB cy),.arr b0 4 true (List.map Zat cw)]) (rest:=[]) (HP.pick hH [0,1] rfl) cL
   have az:=ZaS (HP.get hH 0 rfl)
   have ay:=ZaS (HP.get hH 1 rfl)
   refine rgS ⟨[(1,.loc 1 0),(2,.loc 2 0),(3,iv (w64 (1+(w64 ((Int.tmod a0_.Bridges 6)))))),(4,iv (w64 (2+(w64 ((Int.tmod a0_.Stations 5)))))),(5,.loc 5 0),(7,iv aU)],[(1,(ZaH a0_)),(2,[iv 0,s_eB true [],Zae true []]),(5,[iv bb.Nodes,bX,bW])],cv⟩ (Zab.v (hm:=(by cases af<;>cases ae<;>kernel_rfl)) 5 (ZhM (H:=bl) (ys:=[.agg (ZaH a0_),.agg [iv cz,b1,b0],iv (w64 (aU-1)),iv aU]) (by cases af<;>cases ae<;>kernel_rfl) (by cases af<;>cases ae<;>kernel_rfl) [[],[false,true,true],[],[]] (Zbk (Zb7 rfl) (Zbk (ZiH (Zct (ZiI rfl) (Zct (ZeJ (ZeK cQ)) (Zct (ZeJ (ZeK cM)) passC_nil')))) (Zbk (Zb7 rfl) (Zbk (Zb7 rfl) passL_nil')))) cE) (Zab.f (h:=(by cases az<;>cases ay<;>cases af<;>cases ae<;>kernel_rfl)))) (by cases az<;>cases ay<;>cases af<;>cases ae<;>kernel_rfl) (bn (tq (rgS ⟨[(1,.loc 1 0),(2,.loc 2 0),(3,iv (w64 (1+(w64 ((Int.tmod a0_.Bridges 6)))))),(4,iv (w64 (2+(w64 ((Int.tmod a0_.Stations 5)))))),(5,.loc 5 0),(7,iv (w64 (aU+1)))],[(1,(ZaH a0_)),(2,[iv 0,s_eB true [],Zae true []]),(5,[iv bb.Nodes,bX,bW])],cv⟩ Zab.f (by cases az<;>cases ay<;>kernel_rfl) ?_)))
   cases h
   exact ⟨_,rfl,⟨bX,bW,cv,(by show _=_;cases az<;>cases ay<;>kernel_rfl),(HP.pick hH [0,1] rfl)⟩⟩
  refine kq (xq (tx ?_))
  cases h
  exact ⟨_,rfl,rfl,⟨b1,b0,bl,(by show _=_;cases af<;>cases ae<;>kernel_rfl),(HP.pick hH [0,1] rfl)⟩⟩
 rintro e s hq
 obtain ⟨rfl,hR⟩:=hq
 obtain ⟨aT,aS,bj,rfl,hH⟩:=hR
 replace hH:HP _ [.arr aT 1 true (List.map eB bt.2.1),.arr aS 4 true (List.map Zat bt.2.2)]:=hH
 have bR:=ZaS (HP.get hH 0 rfl)
 have bQ:=ZaS (HP.get hH 1 rfl)
 refine bx (tq (sq (sq (rgS ⟨[(1,.loc 1 0),(2,.loc 2 0),(3,iv (w64 (1+(w64 ((Int.tmod a0_.Bridges 6)))))),(4,iv (w64 (2+(w64 ((Int.tmod a0_.Stations 5)))))),(5,.loc 5 0),(8,iv 0)],[(1,(ZaH a0_)),(2,[iv 0,s_eB true [],Zae true []]),(5,[iv bt.1,aT,aS])],bj⟩ Zab.f (by cases bR<;>cases bQ<;>kernel_rfl) (tq (bk ?_))))))
 obtain ⟨ad,c1,h⟩:=bs h
 refine ZaT ((ZaI (λ(x:Int×Int×(List Bool)×(List ZaF)) s=>∃ (am:AV) (al:AV) (aC:List HO),s=⟨[(1,.loc 1 0),(2,.loc 2 0),(3,iv (w64 (1+(w64 ((Int.tmod a0_.Bridges 6)))))),(4,iv (w64 (2+(w64 ((Int.tmod a0_.Stations 5)))))),(5,.loc 5 0),(8,iv x.1)],[(1,(ZaH a0_)),(2,[iv 0,s_eB true [],Zae true []]),(5,[iv x.2.1,am,al])],aC⟩/\HP aC [.arr am 1 true (List.map eB x.2.2.1),.arr al 4 true (List.map Zat x.2.2.2)]) (λx:Int×Int×(List Bool)×(List ZaF)=>Zbn N a0_ x.1 x.2.1 x.2.2.1 x.2.2.2) (λ(p:Int×(List Bool)×(List ZaF)) e s=>e=.exit 4/\(∃ (ak:AV) (aj:AV) (aB:List HO),s=⟨[(1,.loc 1 0),(2,.loc 2 0),(3,iv (w64 (1+(w64 ((Int.tmod a0_.Bridges 6)))))),(4,iv (w64 (2+(w64 ((Int.tmod a0_.Stations 5)))))),(5,.loc 5 0)],[(1,(ZaH a0_)),(2,[iv 0,s_eB true [],Zae true []]),(5,[iv p.1,ak,aj])],aB⟩/\HP aB [.arr ak 1 true (List.map eB p.2.1),.arr aj 4 true (List.map Zat p.2.2)])) ?_ N _ ad _ c1 ⟨aT,aS,bj,(by show _=_;cases bR<;>cases bQ<;>kernel_rfl),(HP.pick hH [0,1] rfl)⟩).mono ?_)
 ·clear h c1
  rintro ⟨ap,bE,bC,bB⟩ o s h hR
  obtain ⟨am,al,aC,rfl,hH⟩:=hR
  replace hH:HP _ [.arr am 1 true (List.map eB bC),.arr al 4 true (List.map Zat bB)]:=hH
  have a6:=ZaS (HP.get hH 0 rfl)
  have a5:=ZaS (HP.get hH 1 rfl)
  replace h:Zbn N a0_ ap bE bC bB=some o:=h
  unfold Zbn at h
  refine sq (sq (rgS ⟨[(1,.loc 1 0),(2,.loc 2 0),(3,iv (w64 (1+(w64 ((Int.tmod a0_.Bridges 6)))))),(4,iv (w64 (2+(w64 ((Int.tmod a0_.Stations 5)))))),(5,.loc 5 0),(8,iv ap),(52,bv (decide (ap<(w64 (2+(w64 ((Int.tmod a0_.Stations 5))))))))],[(1,(ZaH a0_)),(2,[iv 0,s_eB true [],Zae true []]),(5,[iv bE,am,al])],aC⟩ Zab.f (by cases a6<;>cases a5<;>kernel_rfl) (tq (it h (λdj h=>?_) (λdj h=>?_)))))
  ·refine sk (tq (kq (sq (bk ?_))))
   obtain ⟨cU,d8,h⟩:=bs h
   obtain ⟨cY,dd,h⟩:=bs h
   obtain ⟨ba,d7,h⟩:=bs h
   have ca:=HP.get hH 0 rfl
   have c9:=HP.get hH 1 rfl
   obtain ⟨bV,bU,cu,cD,cK⟩:=Zc8 N a0_ (Zag.mk bE bC bB) (w64 ((w64 (1+(w64 ((Int.tmod a0_.Bridges 6)))))+ap)) cY   am al aC (HP.now (HP.pick hH [0,1] rfl)) ba d7
   replace hH:HP _ [.arr bV 1 true (List.map eB ba.Station),.arr bU 4 true (List.map Zat ba.Links)]:=HP.callee (fp:=[.arr am 1 true (List.map eB bC),.arr al 4 true (List.map Zat bB)]) (rest:=[]) (HP.pick hH [0,1] rfl) cK
   have ax:=ZaS (HP.get hH 0 rfl)
   have aw:=ZaS (HP.get hH 1 rfl)
   refine rqS ⟨[(1,.loc 1 0),(2,.loc 2 0),(3,iv (w64 (1+(w64 ((Int.tmod a0_.Bridges 6)))))),(4,iv (w64 (2+(w64 ((Int.tmod a0_.Stations 5)))))),(5,.loc 5 0),(8,iv ap)],[(1,(ZaH a0_)),(2,[iv 0,s_eB true [],Zae true []]),(5,[iv ba.Nodes,bV,bU])],cu⟩ (Zab.u (hm:=(by cases a6<;>cases a5<;>kernel_rfl)) 9 (Za1 (by cases a6<;>cases a5<;>kernel_rfl) (Zfd N a0_.Homes (w64 (2*ap)) cU d8)) (Zab.u (hm:=(by cases a6<;>cases a5<;>kernel_rfl)) 1 (Zan (ys:=[iv cU,iv (w64 (1+(w64 ((Int.tmod a0_.Bridges 6)))))]) (by cases a6<;>cases a5<;>kernel_rfl) (Zc4 dd)) (Zab.v (hm:=(by cases a6<;>cases a5<;>kernel_rfl)) 0 (ZhM (H:=aC) (ys:=[.agg (ZaH a0_),.agg [iv bE,am,al],iv (w64 ((w64 (1+(w64 ((Int.tmod a0_.Bridges 6)))))+ap)),iv cY]) (by cases a6<;>cases a5<;>kernel_rfl) (by cases a6<;>cases a5<;>kernel_rfl) [[],[false,true,true],[],[]] (Zbk (Zb7 rfl) (Zbk (ZiH (Zct (ZiI rfl) (Zct (ZeJ (ZeK ca)) (Zct (ZeJ (ZeK c9)) passC_nil')))) (Zbk (Zb7 rfl) (Zbk (Zb7 rfl) passL_nil')))) cD) (Zab.f (h:=(by cases a6<;>cases a5<;>cases ax<;>cases aw<;>kernel_rfl)))))) (by cases a6<;>cases a5<;>cases ax<;>cases aw<;>kernel_rfl) (bn (tq (rgS ⟨[(1,.loc 1 0),(2,.loc 2 0),(3,iv (w64 (1+(w64 ((Int.tmod a0_.Bridges 6)))))),(4,iv (w64 (2+(w64 ((Int.tmod a0_.Stations 5)))))),(5,.loc 5 0),(8,iv (w64 (ap+1)))],[(1,(ZaH a0_)),(2,[iv 0,s_eB true [],Zae true []]),(5,[iv ba.Nodes,bV,bU])],cu⟩ Zab.f (by cases ax<;>cases aw<;>kernel_rfl) ?_)))
   cases h
   exact ⟨_,rfl,⟨bV,bU,cu,(by show _=_;cases ax<;>cases aw<;>kernel_rfl),(HP.pick hH [0,1] rfl)⟩⟩
  refine kq (xq (tx ?_))
  cases h
  exact ⟨_,rfl,rfl,⟨am,al,aC,(by show _=_;cases a6<;>cases a5<;>kernel_rfl),(HP.pick hH [0,1] rfl)⟩⟩
 rintro e s hq
 obtain ⟨rfl,hR⟩:=hq
 obtain ⟨ak,aj,aB,rfl,hH⟩:=hR
 replace hH:HP _ [.arr ak 1 true (List.map eB ad.2.1),.arr aj 4 true (List.map Zat ad.2.2)]:=hH
 have a8:=ZaS (HP.get hH 0 rfl)
 have a7:=ZaS (HP.get hH 1 rfl)
 refine bx (tq ?_)
 obtain ⟨aE,cc,h⟩:=bs h
 refine ZcD [1,2,3,4,5] (λs=>∃ (aR:AV) (aQ:AV) (bi:List HO),s=⟨[(1,.loc 1 0),(2,.loc 2 0),(3,iv (w64 (1+(w64 ((Int.tmod a0_.Bridges 6)))))),(4,iv (w64 (2+(w64 ((Int.tmod a0_.Stations 5)))))),(5,.loc 5 0)],[(1,(ZaH a0_)),(2,[iv 0,s_eB true [],Zae true []]),(5,[iv aE.1,aR,aQ])],bi⟩/\HP bi [.arr aR 1 true (List.map eB aE.2.1),.arr aQ 4 true (List.map Zat aE.2.2)]) ?_ ?_
 ·clear h
  have h:=cc
  refine sq (rgX ⟨[(1,.loc 1 0),(2,.loc 2 0),(3,iv (w64 (1+(w64 ((Int.tmod a0_.Bridges 6)))))),(4,iv (w64 (2+(w64 ((Int.tmod a0_.Stations 5)))))),(5,.loc 5 0),(75,bv ((decide ((w64 (1+(w64 ((Int.tmod a0_.Bridges 6)))))>2))&&((Int.tmod a0_.Bridges 2)==0)))],[(1,(ZaH a0_)),(2,[iv 0,s_eB true [],Zae true []]),(5,[iv ad.1,ak,aj])],aB⟩ ?_ ?_)
  ·rcases Bool.eq_false_or_eq_true (decide ((w64 (1+(w64 ((Int.tmod a0_.Bridges 6)))))>2)) with ck|cj
   ·exact (EP.u 1 (Zam (c:=(decide ((w64 (1+(w64 ((Int.tmod a0_.Bridges 6)))))>2))) (h:=ck)) (EP.f (by simp only [ck];cases a8<;>cases a7<;>kernel_rfl)))
   exact (EP.u 1 (Zam (c:=(decide ((w64 (1+(w64 ((Int.tmod a0_.Bridges 6)))))>2))) (h:=cj)) (EP.f (by simp only [cj];cases a8<;>cases a7<;>kernel_rfl)))
  refine tq (it h (λdi h=>?_) (λdi h=>?_))
  ·obtain ⟨bp,d6,h⟩:=bs h
   have c8:=HP.get hH 0 rfl
   have c7:=HP.get hH 1 rfl
   obtain ⟨cq,cp,d1,cC,cJ⟩:=Zc8 N a0_ (Zag.mk ad.1 ad.2.1 ad.2.2) (w64 ((w64 (1+(w64 ((Int.tmod a0_.Bridges 6)))))-1)) 0   ak aj aB (HP.now (HP.pick hH [0,1] rfl)) bp d6
   replace hH:HP _ [.arr cq 1 true (List.map eB bp.Station),.arr cp 4 true (List.map Zat bp.Links)]:=HP.callee (fp:=[.arr ak 1 true (List.map eB ad.2.1),.arr aj 4 true (List.map Zat ad.2.2)]) (rest:=[]) (HP.pick hH [0,1] rfl) cJ
   have aZ:=ZaS (HP.get hH 0 rfl)
   have aY:=ZaS (HP.get hH 1 rfl)
   refine rgS ⟨[(1,.loc 1 0),(2,.loc 2 0),(3,iv (w64 (1+(w64 ((Int.tmod a0_.Bridges 6)))))),(4,iv (w64 (2+(w64 ((Int.tmod a0_.Stations 5)))))),(5,.loc 5 0)],[(1,(ZaH a0_)),(2,[iv 0,s_eB true [],Zae true []]),(5,[iv bp.Nodes,cq,cp])],d1⟩ (Zab.v (hm:=(by cases a8<;>cases a7<;>kernel_rfl)) 4 (ZhM (H:=aB) (ys:=[.agg (ZaH a0_),.agg [iv ad.1,ak,aj],iv (w64 ((w64 (1+(w64 ((Int.tmod a0_.Bridges 6)))))-1)),iv 0]) (by cases a8<;>cases a7<;>kernel_rfl) (by cases a8<;>cases a7<;>kernel_rfl) [[],[false,true,true],[],[]] (Zbk (Zb7 rfl) (Zbk (ZiH (Zct (ZiI rfl) (Zct (ZeJ (ZeK c8)) (Zct (ZeJ (ZeK c7)) passC_nil')))) (Zbk (Zb7 rfl) (Zbk (Zb7 rfl) passL_nil')))) cC) (Zab.f (h:=(by cases a8<;>cases a7<;>cases aZ<;>cases aY<;>kernel_rfl)))) (by cases a8<;>cases a7<;>cases aZ<;>cases aY<;>kernel_rfl) ?_
   cases h
   exact ⟨rfl,⟨cq,cp,d1,(by show _=_;cases aZ<;>cases aY<;>kernel_rfl),(HP.pick hH [0,1] rfl)⟩⟩
  refine sk ?_
  cases h
  exact ⟨rfl,⟨ak,aj,aB,(by show _=_;cases a8<;>cases a7<;>kernel_rfl),(HP.pick hH [0,1] rfl)⟩⟩
 clear cc
 rintro s hR
 obtain ⟨aR,aQ,bi,rfl,hH⟩:=hR
 replace hH:HP _ [.arr aR 1 true (List.map eB aE.2.1),.arr aQ 4 true (List.map Zat aE.2.2)]:=hH
 have bM:=ZaS (HP.get hH 0 rfl)
 have bL:=ZaS (HP.get hH 1 rfl)
 refine sq (sq (rgS ⟨[(1,.loc 1 0),(2,.loc 2 0),(3,iv (w64 (1+(w64 ((Int.tmod a0_.Bridges 6)))))),(4,iv (w64 (2+(w64 ((Int.tmod a0_.Stations 5)))))),(5,.loc 5 0),(9,iv 0)],[(1,(ZaH a0_)),(2,[iv 0,s_eB true [],Zae true []]),(5,[iv aE.1,aR,aQ])],bi⟩ Zab.f (by cases bM<;>cases bL<;>kernel_rfl) (tq (bk ?_))))
 obtain ⟨bq,c0,h⟩:=bs h
 refine ZaT ((ZaI (λ(x:Int×Int×(List Bool)×(List ZaF)) s=>∃ (ac:AV) (ab:AV) (an:List HO),s=⟨[(1,.loc 1 0),(2,.loc 2 0),(3,iv (w64 (1+(w64 ((Int.tmod a0_.Bridges 6)))))),(4,iv (w64 (2+(w64 ((Int.tmod a0_.Stations 5)))))),(5,.loc 5 0),(9,iv x.1)],[(1,(ZaH a0_)),(2,[iv 0,s_eB true [],Zae true []]),(5,[iv x.2.1,ac,ab])],an⟩/\HP an [.arr ac 1 true (List.map eB x.2.2.1),.arr ab 4 true (List.map Zat x.2.2.2)]) (λx:Int×Int×(List Bool)×(List ZaF)=>Zbc N a0_ x.1 x.2.1 x.2.2.1 x.2.2.2) (λ(p:Int×(List Bool)×(List ZaF)) e s=>e=.exit 6/\(∃ (aM:AV) (aL:AV) (bf:List HO),s=⟨[(1,.loc 1 0),(2,.loc 2 0),(3,iv (w64 (1+(w64 ((Int.tmod a0_.Bridges 6)))))),(5,.loc 5 0)],[(1,(ZaH a0_)),(2,[iv 0,s_eB true [],Zae true []]),(5,[iv p.1,aM,aL])],bf⟩/\HP bf [.arr aM 1 true (List.map eB p.2.1),.arr aL 4 true (List.map Zat p.2.2)])) ?_ N _ bq _ c0 ⟨aR,aQ,bi,(by show _=_;cases bM<;>cases bL<;>kernel_rfl),(HP.pick hH [0,1] rfl)⟩).mono ?_)
 ·clear h c0
  rintro ⟨aa,bc,bA,bz⟩ o s h hR
  obtain ⟨ac,ab,an,rfl,hH⟩:=hR
  replace hH:HP _ [.arr ac 1 true (List.map eB bA),.arr ab 4 true (List.map Zat bz)]:=hH
  have a4:=ZaS (HP.get hH 0 rfl)
  have a3:=ZaS (HP.get hH 1 rfl)
  replace h:Zbc N a0_ aa bc bA bz=some o:=h
  unfold Zbc at h
  refine sq (sq (rgS ⟨[(1,.loc 1 0),(2,.loc 2 0),(3,iv (w64 (1+(w64 ((Int.tmod a0_.Bridges 6)))))),(4,iv (w64 (2+(w64 ((Int.tmod a0_.Stations 5)))))),(5,.loc 5 0),(9,iv aa),(83,bv (decide (aa<(w64 (2+(w64 ((Int.tmod a0_.Stations 5))))))))],[(1,(ZaH a0_)),(2,[iv 0,s_eB true [],Zae true []]),(5,[iv bc,ac,ab])],an⟩ Zab.f (by cases a4<;>cases a3<;>kernel_rfl) (tq (it h (λdg h=>?_) (λdg h=>?_)))))
  ·refine sk (tq (kq ?_))
   obtain ⟨aD,cb,h⟩:=bs h
   refine ZcD [1,2,3,4,5,9] (λs=>∃ (aK:AV) (aJ:AV) (be:List HO),s=⟨[(1,.loc 1 0),(2,.loc 2 0),(3,iv (w64 (1+(w64 ((Int.tmod a0_.Bridges 6)))))),(4,iv (w64 (2+(w64 ((Int.tmod a0_.Stations 5)))))),(5,.loc 5 0),(9,iv aa)],[(1,(ZaH a0_)),(2,[iv 0,s_eB true [],Zae true []]),(5,[iv aD.1,aK,aJ])],be⟩/\HP be [.arr aK 1 true (List.map eB aD.2.1),.arr aJ 4 true (List.map Zat aD.2.2)]) ?_ ?_
   ·clear h
    have h:=cb
    refine bk (sq ?_)
    obtain ⟨cT,d5,h⟩:=bs h
    refine rgS ⟨[(1,.loc 1 0),(2,.loc 2 0),(3,iv (w64 (1+(w64 ((Int.tmod a0_.Bridges 6)))))),(4,iv (w64 (2+(w64 ((Int.tmod a0_.Stations 5)))))),(5,.loc 5 0),(9,iv aa),(93,bv (decide ((Int.tmod cT 3)>0)))],[(1,(ZaH a0_)),(2,[iv 0,s_eB true [],Zae true []]),(5,[iv bc,ac,ab])],an⟩ (Zab.v 5 (Zaz (hc:=Zfd N a0_.Homes (w64 ((w64 (2*aa))+1)) cT d5)) Zab.f) (by cases a4<;>cases a3<;>kernel_rfl) (tq (it h (λdf h=>?_) (λdf h=>?_)))
    ·obtain ⟨cS,d4,h⟩:=bs h
     obtain ⟨cX,dc,h⟩:=bs h
     obtain ⟨bm,d3,h⟩:=bs h
     have c6:=HP.get hH 0 rfl
     have c5:=HP.get hH 1 rfl
     obtain ⟨co,cn,d0,cB,cI⟩:=Zc8 N a0_ (Zag.mk bc bA bz) (w64 ((w64 (1+(w64 ((Int.tmod a0_.Bridges 6)))))+aa)) cX   ac ab an (HP.now (HP.pick hH [0,1] rfl)) bm d3
     replace hH:HP _ [.arr co 1 true (List.map eB bm.Station),.arr cn 4 true (List.map Zat bm.Links)]:=HP.callee (fp:=[.arr ac 1 true (List.map eB bA),.arr ab 4 true (List.map Zat bz)]) (rest:=[]) (HP.pick hH [0,1] rfl) cI
     have aX:=ZaS (HP.get hH 0 rfl)
     have aW:=ZaS (HP.get hH 1 rfl)
     refine rqS ⟨[(1,.loc 1 0),(2,.loc 2 0),(3,iv (w64 (1+(w64 ((Int.tmod a0_.Bridges 6)))))),(4,iv (w64 (2+(w64 ((Int.tmod a0_.Stations 5)))))),(5,.loc 5 0),(9,iv aa)],[(1,(ZaH a0_)),(2,[iv 0,s_eB true [],Zae true []]),(5,[iv bm.Nodes,co,cn])],d0⟩ (Zab.u (hm:=(by cases a4<;>cases a3<;>kernel_rfl)) 10 (Za1 (by cases a4<;>cases a3<;>kernel_rfl) (Zfd N a0_.Homes (w64 ((w64 (2*aa))+1)) cS d4)) (Zab.u (hm:=(by cases a4<;>cases a3<;>kernel_rfl)) 1 (Zan (ys:=[iv cS,iv (w64 (1+(w64 ((Int.tmod a0_.Bridges 6)))))]) (by cases a4<;>cases a3<;>kernel_rfl) (Zc4 dc)) (Zab.v (hm:=(by cases a4<;>cases a3<;>kernel_rfl)) 0 (ZhM (H:=an) (ys:=[.agg (ZaH a0_),.agg [iv bc,ac,ab],iv (w64 ((w64 (1+(w64 ((Int.tmod a0_.Bridges 6)))))+aa)),iv cX]) (by cases a4<;>cases a3<;>kernel_rfl) (by cases a4<;>cases a3<;>kernel_rfl) [[],[false,true,true],[],[]] (Zbk (Zb7 rfl) (Zbk (ZiH (Zct (ZiI rfl) (Zct (ZeJ (ZeK c6)) (Zct (ZeJ (ZeK c5)) passC_nil')))) (Zbk (Zb7 rfl) (Zbk (Zb7 rfl) passL_nil')))) cB) (Zab.f (h:=(by cases a4<;>cases a3<;>cases aX<;>cases aW<;>kernel_rfl)))))) (by cases a4<;>cases a3<;>cases aX<;>cases aW<;>kernel_rfl) (bn ?_)
     cases h
     exact ⟨rfl,⟨co,cn,d0,(by show _=_;cases aX<;>cases aW<;>kernel_rfl),(HP.pick hH [0,1] rfl)⟩⟩
    refine sk (bn ?_)
    cases h
    exact ⟨rfl,⟨ac,ab,an,(by show _=_;cases a4<;>cases a3<;>kernel_rfl),(HP.pick hH [0,1] rfl)⟩⟩
   clear cb
   rintro s hR
   obtain ⟨aK,aJ,be,rfl,hH⟩:=hR
   replace hH:HP _ [.arr aK 1 true (List.map eB aD.2.1),.arr aJ 4 true (List.map Zat aD.2.2)]:=hH
   have bI:=ZaS (HP.get hH 0 rfl)
   have bG:=ZaS (HP.get hH 1 rfl)
   refine rgS ⟨[(1,.loc 1 0),(2,.loc 2 0),(3,iv (w64 (1+(w64 ((Int.tmod a0_.Bridges 6)))))),(4,iv (w64 (2+(w64 ((Int.tmod a0_.Stations 5)))))),(5,.loc 5 0),(9,iv (w64 (aa+1)))],[(1,(ZaH a0_)),(2,[iv 0,s_eB true [],Zae true []]),(5,[iv aD.1,aK,aJ])],be⟩ Zab.f (by cases bI<;>cases bG<;>kernel_rfl) ?_
   cases h
   exact ⟨_,rfl,⟨aK,aJ,be,(by show _=_;cases bI<;>cases bG<;>kernel_rfl),(HP.pick hH [0,1] rfl)⟩⟩
  refine kq (xq (tx ?_))
  cases h
  exact ⟨_,rfl,rfl,⟨ac,ab,an,(by show _=_;cases a4<;>cases a3<;>kernel_rfl),(HP.pick hH [0,1] rfl)⟩⟩
 rintro e s hq
 obtain ⟨rfl,hR⟩:=hq
 obtain ⟨aM,aL,bf,rfl,hH⟩:=hR
 replace hH:HP _ [.arr aM 1 true (List.map eB bq.2.1),.arr aL 4 true (List.map Zat bq.2.2)]:=hH
 have bK:=ZaS (HP.get hH 0 rfl)
 have bJ:=ZaS (HP.get hH 1 rfl)
 refine bx (tq (sq (sq (rgS ⟨[(1,.loc 1 0),(2,.loc 2 0),(3,iv (w64 (1+(w64 ((Int.tmod a0_.Bridges 6)))))),(5,.loc 5 0),(10,iv 0)],[(1,(ZaH a0_)),(2,[iv 0,s_eB true [],Zae true []]),(5,[iv bq.1,aM,aL])],bf⟩ Zab.f (by cases bK<;>cases bJ<;>kernel_rfl) (tq (bk ?_))))))
 obtain ⟨ao,bZ,h⟩:=bs h
 refine ZaT ((ZaI (λ(x:Int×Int×(List Bool)×(List ZaF)) s=>∃ (ai:AV) (ag:AV) (aA:List HO),s=⟨[(1,.loc 1 0),(2,.loc 2 0),(3,iv (w64 (1+(w64 ((Int.tmod a0_.Bridges 6)))))),(5,.loc 5 0),(10,iv x.1)],[(1,(ZaH a0_)),(2,[iv 0,s_eB true [],Zae true []]),(5,[iv x.2.1,ai,ag])],aA⟩/\HP aA [.arr ai 1 true (List.map eB x.2.2.1),.arr ag 4 true (List.map Zat x.2.2.2)]) (λx:Int×Int×(List Bool)×(List ZaF)=>ZbA N a0_ x.1 x.2.1 x.2.2.1 x.2.2.2) (λ(p:Int×(List Bool)×(List ZaF)) e s=>e=.exit 8/\(∃ (aI:AV) (aG:AV) (bd:List HO),s=⟨[(2,.loc 2 0),(5,.loc 5 0)],[(2,[iv 0,s_eB true [],Zae true []]),(5,[iv p.1,aI,aG])],bd⟩/\HP bd [.arr aI 1 true (List.map eB p.2.1),.arr aG 4 true (List.map Zat p.2.2)])) ?_ N _ ao _ bZ ⟨aM,aL,bf,(by show _=_;cases bK<;>cases bJ<;>kernel_rfl),(HP.pick hH [0,1] rfl)⟩).mono ?_)
 ·clear h bZ
  rintro ⟨a9,bD,bw,bu⟩ o s h hR
  obtain ⟨ai,ag,aA,rfl,hH⟩:=hR
  replace hH:HP _ [.arr ai 1 true (List.map eB bw),.arr ag 4 true (List.map Zat bu)]:=hH
  have a2:=ZaS (HP.get hH 0 rfl)
  have a0:=ZaS (HP.get hH 1 rfl)
  replace h:ZbA N a0_ a9 bD bw bu=some o:=h
  unfold ZbA at h
  refine sq (sq (rgX ⟨[(1,.loc 1 0),(2,.loc 2 0),(3,iv (w64 (1+(w64 ((Int.tmod a0_.Bridges 6)))))),(5,.loc 5 0),(10,iv a9),(117,bv ((decide ((w64 (a9+1))<((List.length a0_.Chords:Nat):Int)))&&(decide (a9<12))))],[(1,(ZaH a0_)),(2,[iv 0,s_eB true [],Zae true []]),(5,[iv bD,ai,ag])],aA⟩ ?_ ?_))
  ·refine (EP.u 4 (Zan (ys:=[Zhd false a0_.Chords]) (h:=Zax (eI .u8))) ?_)
   rcases Bool.eq_false_or_eq_true (decide ((w64 (a9+1))<((List.length a0_.Chords:Nat):Int))) with ci|cg
   ·exact (EP.u 0 (Zam (c:=(decide ((w64 (a9+1))<((List.length a0_.Chords:Nat):Int)))) (h:=ci)) (EP.f (by simp only [ci];cases a2<;>cases a0<;>kernel_rfl)))
   exact (EP.u 0 (Zam (c:=(decide ((w64 (a9+1))<((List.length a0_.Chords:Nat):Int)))) (h:=cg)) (EP.f (by simp only [cg];cases a2<;>cases a0<;>kernel_rfl)))
  refine tq (it h (λde h=>?_) (λde h=>?_))
  ·refine sk (tq (kq (sq (bk ?_))))
   obtain ⟨cm,cf,h⟩:=bs h
   obtain ⟨cW,db,h⟩:=bs h
   obtain ⟨cl,ce,h⟩:=bs h
   obtain ⟨cV,da,h⟩:=bs h
   obtain ⟨b2,d2,h⟩:=bs h
   have c4:=HP.get hH 0 rfl
   have c3:=HP.get hH 1 rfl
   obtain ⟨bT,bS,ct,cA,cG⟩:=Zc8 N a0_ (Zag.mk bD bw bu) cW cV   ai ag aA (HP.now (HP.pick hH [0,1] rfl)) b2 d2
   replace hH:HP _ [.arr bT 1 true (List.map eB b2.Station),.arr bS 4 true (List.map Zat b2.Links)]:=HP.callee (fp:=[.arr ai 1 true (List.map eB bw),.arr ag 4 true (List.map Zat bu)]) (rest:=[]) (HP.pick hH [0,1] rfl) cG
   have ar:=ZaS (HP.get hH 0 rfl)
   have aq:=ZaS (HP.get hH 1 rfl)
   refine rqS ⟨[(1,.loc 1 0),(2,.loc 2 0),(3,iv (w64 (1+(w64 ((Int.tmod a0_.Bridges 6)))))),(5,.loc 5 0),(10,iv a9)],[(1,(ZaH a0_)),(2,[iv 0,s_eB true [],Zae true []]),(5,[iv b2.Nodes,bT,bS])],ct⟩ (Zab.u (hm:=(by cases a2<;>cases a0<;>kernel_rfl)) 5 (Zan (ys:=[Zhd false a0_.Chords,iv a9]) (by cases a2<;>cases a0<;>kernel_rfl) (Zal (eI .u8) cf)) (Zab.u (hm:=(by cases a2<;>cases a0<;>kernel_rfl)) 0 (ZaK (Zav (sz:=1) (off:=0) (cs:=[.int .u8 cm]) (r:=.p (.int .u8 cm)) (eI .u8) cf (by cases a2<;>cases a0<;>kernel_rfl) (by cases a2<;>cases a0<;>kernel_rfl) (by cases a2<;>cases a0<;>kernel_rfl)) (by cases a2<;>cases a0<;>kernel_rfl)) (Zab.u (hm:=(by cases a2<;>cases a0<;>kernel_rfl)) 2 (Zan (ys:=[iv (w64 (cm)),iv (w64 (1+(w64 ((Int.tmod a0_.Bridges 6)))))]) (by cases a2<;>cases a0<;>kernel_rfl) (Zc4 db)) (Zab.u (hm:=(by cases a2<;>cases a0<;>kernel_rfl)) 4 (Zan (ys:=[Zhd false a0_.Chords,iv (w64 (a9+1))]) (by cases a2<;>cases a0<;>kernel_rfl) (Zal (eI .u8) ce)) (Zab.u (hm:=(by cases a2<;>cases a0<;>kernel_rfl)) 0 (ZaK (Zav (sz:=1) (off:=0) (cs:=[.int .u8 cl]) (r:=.p (.int .u8 cl)) (eI .u8) ce (by cases a2<;>cases a0<;>kernel_rfl) (by cases a2<;>cases a0<;>kernel_rfl) (by cases a2<;>cases a0<;>kernel_rfl)) (by cases a2<;>cases a0<;>kernel_rfl)) (Zab.u (hm:=(by cases a2<;>cases a0<;>kernel_rfl)) 2 (Zan (ys:=[iv (w64 (cl)),iv (w64 (1+(w64 ((Int.tmod a0_.Bridges 6)))))]) (by cases a2<;>cases a0<;>kernel_rfl) (Zc4 da)) (Zab.v (hm:=(by cases a2<;>cases a0<;>kernel_rfl)) 0 (ZhM (H:=aA) (ys:=[.agg (ZaH a0_),.agg [iv bD,ai,ag],iv cW,iv cV]) (by cases a2<;>cases a0<;>kernel_rfl) (by cases a2<;>cases a0<;>kernel_rfl) [[],[false,true,true],[],[]] (Zbk (Zb7 rfl) (Zbk (ZiH (Zct (ZiI rfl) (Zct (ZeJ (ZeK c4)) (Zct (ZeJ (ZeK c3)) passC_nil')))) (Zbk (Zb7 rfl) (Zbk (Zb7 rfl) passL_nil')))) cA) (Zab.f (h:=(by cases a2<;>cases a0<;>cases ar<;>cases aq<;>kernel_rfl)))))))))) (by cases a2<;>cases a0<;>cases ar<;>cases aq<;>kernel_rfl) (bn (tq (rgS ⟨[(1,.loc 1 0),(2,.loc 2 0),(3,iv (w64 (1+(w64 ((Int.tmod a0_.Bridges 6)))))),(5,.loc 5 0),(10,iv (w64 (a9+2)))],[(1,(ZaH a0_)),(2,[iv 0,s_eB true [],Zae true []]),(5,[iv b2.Nodes,bT,bS])],ct⟩ Zab.f (by cases ar<;>cases aq<;>kernel_rfl) ?_)))
   cases h
   exact ⟨_,rfl,⟨bT,bS,ct,(by show _=_;cases ar<;>cases aq<;>kernel_rfl),(HP.pick hH [0,1] rfl)⟩⟩
  refine kq (xq (tx ?_))
  cases h
  exact ⟨_,rfl,rfl,⟨ai,ag,aA,(by show _=_;cases a2<;>cases a0<;>kernel_rfl),(HP.pick hH [0,1] rfl)⟩⟩
 rintro e s hq
 obtain ⟨rfl,hR⟩:=hq
 obtain ⟨aI,aG,bd,rfl,hH⟩:=hR
 replace hH:HP _ [.arr aI 1 true (List.map eB ao.2.1),.arr aG 4 true (List.map Zat ao.2.2)]:=hH
 have av:=ZaS (HP.get hH 0 rfl)
 have au:=ZaS (HP.get hH 1 rfl)
 refine bx (tq (sq (rgS ⟨[(2,.loc 2 0)],[(2,[iv ao.1,aI,aG])],bd⟩ (Zab.f (h:=(by cases av<;>cases au<;>kernel_rfl))) (by cases av<;>cases au<;>kernel_rfl) (tq (rt ?_)))))
 obtain rfl:=Zao h
 exact ZeB (H:=bd) (ys:=[.agg [iv ao.1,aI,aG]]) (xs:=[.agg [iv ao.1,.p (.sl 1 false (List.map eB ao.2.1)),.p (.sl 4 false (List.map Zat ao.2.2))]]) (by cases av<;>cases au<;>kernel_rfl) (by cases av<;>cases au<;>kernel_rfl) (Zbs (Zkc (Zb6 rfl (Zb6 (HP.pure (k:=0) (frz:=true) eB hH rfl).1 (Zb6 (HP.pure (k:=1) (frz:=true) Zat hH rfl).1 Zkd)))) Zci) kr
theorem ZiD (N:Nat)(a0_:ZbN)(a1_:Zag)(a2_:Int)(r:Zah×Bool)(h:Zdj N a0_ a1_ a2_=some r):Zba Tryz.prog 17 [.agg (ZaP a0_),.agg (Zac a1_),iv a2_] (.tup [.agg [iv r.1.Id,iv r.1.Talker,iv r.1.Listener,iv r.1.Class,iv r.1.Size,iv r.1.Period,iv r.1.Bucket.Burst,iv r.1.Bucket.Rate,iv r.1.Deadline,Zaq false r.1.Routes],bv r.2]):=by
 unfold Zdj at h
 have hH  := hp0
 refine ZaG ZLK rfl rfl (Zay _ _ _ ?_) rfl
 refine sq (rgS ⟨[(2,iv a2_),(3,.loc 3 0),(4,.loc 4 0),(6,.loc 6 0)],[(3,(ZaP a0_)),(4,(Zac a1_)),(6,[iv 0,iv 0,iv 0,iv 0,iv 0,iv 0,iv 0,iv 0,iv 0,Zaq true []])],[]⟩ Zab.f kr (tq (sq ?_)))
 obtain ⟨m1,hm1,h⟩:=bs h
 refine rgS ⟨[(2,iv a2_),(3,.loc 3 0),(4,.loc 4 0),(6,.loc 6 0),(8,iv m1)],[(3,(ZaP a0_)),(4,(Zac a1_)),(6,[iv 0,iv 0,iv 0,iv 0,iv 0,iv 0,iv 0,iv 0,iv 0,Zaq true []])],[]⟩ (Zab.u 5 (Zan (ys:=[iv (w64 (a0_.Node)),iv a1_.Nodes]) (h:=Zc4 hm1)) Zab.f) kr (tq (sq (sq (rgS ⟨[(2,iv a2_),(3,.loc 3 0),(4,.loc 4 0),(6,.loc 6 0),(8,iv m1),(9,iv 0)],[(3,(ZaP a0_)),(4,(Zac a1_)),(6,[iv 0,iv 0,iv 0,iv 0,iv 0,iv 0,iv 0,iv 0,iv 0,Zaq true []])],[]⟩ Zab.f kr (tq (bk ?_))))))
 obtain ⟨a4,aK,h⟩:=bs h
 refine ZaT ((ZaI (λ(x:Int×Int) s=>s=⟨[(2,iv a2_),(3,.loc 3 0),(4,.loc 4 0),(6,.loc 6 0),(8,iv x.1),(9,iv x.2)],[(3,(ZaP a0_)),(4,(Zac a1_)),(6,[iv 0,iv 0,iv 0,iv 0,iv 0,iv 0,iv 0,iv 0,iv 0,Zaq true []])],[]⟩) (λx:Int×Int=>Zb5 N a1_ x.1 x.2) (λ(p:Int) e s=>e=.exit 0/\(s=⟨[(2,iv a2_),(3,.loc 3 0),(4,.loc 4 0),(6,.loc 6 0),(8,iv p)],[(3,(ZaP a0_)),(4,(Zac a1_)),(6,[iv 0,iv 0,iv 0,iv 0,iv 0,iv 0,iv 0,iv 0,iv 0,Zaq true []])],[]⟩)) ?_ N _ a4 _ aK kr).mono ?_)
 ·clear h aK
  rintro ⟨i2,i3⟩ o s h hR
  obtain rfl:=hR
  replace h:Zb5 N a1_ i2 i3=some o:=h
  unfold Zb5 at h
  refine sq (sq ?_)
  obtain ⟨bI,hj,h⟩:=bs h
  refine rgR (λs=>s=⟨[(2,iv a2_),(3,.loc 3 0),(4,.loc 4 0),(6,.loc 6 0),(8,iv i2),(9,iv i3),(31,bv bI)],[(3,(ZaP a0_)),(4,(Zac a1_)),(6,[iv 0,iv 0,iv 0,iv 0,iv 0,iv 0,iv 0,iv 0,iv 0,Zaq true []])],[]⟩) ?_ ?_
  ·clear h
   rcases ZaC hj with ⟨bC,hj⟩|⟨bB,hj⟩
   ·refine (EP.u 3 (Zam (c:=(decide (i3<a1_.Nodes))) (h:=bC)) ?_)
    obtain ⟨bG,aQ,hj⟩:=bs hj
    obtain rfl:=Zao hj
    exact (EP.u 4 (Zan (ys:=[s_eB false a1_.Station,iv i2]) (h:=Zal eB aQ)) (EP.u 0 (Zav (sz:=1) (off:=0) (cs:=[.bool bG]) (r:=bv bG) eB aQ) (EP.f kr)))
   obtain rfl:=Zao hj
   exact (EP.u 3 (Zam (c:=(decide (i3<a1_.Nodes))) (h:=bB)) (EP.f kr))
  clear hj
  rintro s hR
  obtain rfl:=hR
  refine tq (it h (λbA h=>?_) (λbA h=>?_))
  ·refine sk (tq (kq (sq (bk ?_))))
   obtain ⟨bj,bz,h⟩:=bs h
   refine rgS ⟨[(2,iv a2_),(3,.loc 3 0),(4,.loc 4 0),(6,.loc 6 0),(8,iv bj),(9,iv i3)],[(3,(ZaP a0_)),(4,(Zac a1_)),(6,[iv 0,iv 0,iv 0,iv 0,iv 0,iv 0,iv 0,iv 0,iv 0,Zaq true []])],[]⟩ (Zab.u 4 (Zan (ys:=[iv (w64 (i2+1)),iv a1_.Nodes]) (h:=Zc4 bz)) Zab.f) kr (bn (tq (rgS ⟨[(2,iv a2_),(3,.loc 3 0),(4,.loc 4 0),(6,.loc 6 0),(8,iv bj),(9,iv (w64 (i3+1)))],[(3,(ZaP a0_)),(4,(Zac a1_)),(6,[iv 0,iv 0,iv 0,iv 0,iv 0,iv 0,iv 0,iv 0,iv 0,Zaq true []])],[]⟩ Zab.f kr ?_)))
   cases h
   exact ⟨_,rfl,kr⟩
  refine kq (xq (tx ?_))
  cases h
  exact ⟨_,rfl,rfl,kr⟩
 rintro e s hq
 obtain ⟨rfl,hR⟩:=hq
 obtain rfl:=hR
 refine bx (tq (sq ?_))
 obtain ⟨a2,bw,h⟩:=bs h
 refine rgS ⟨[(2,iv a2_),(3,.loc 3 0),(4,.loc 4 0),(6,.loc 6 0),(8,iv a4),(10,ZoL 1 eI64 a2)],[(3,(ZaP a0_)),(4,(Zac a1_)),(6,[iv 0,iv 0,iv 0,iv 0,iv 0,iv 0,iv 0,iv 0,iv 0,Zaq true []])],[]⟩ (Zab.v 5 (Zaz (hc:=Zj5 N a1_ (IntKind.u8.wrap (a4)) a0_.Way a2 bw)) Zab.f) kr (tq (sq (sq ?_)))
 rcases ZaC h with ⟨an,h⟩|⟨an,h⟩
 ·rw [ZpH an]
  show vc _ _ _ _ ⟨[(2,iv a2_),(3,.loc 3 0),(4,.loc 4 0),(6,.loc 6 0),(8,iv a4),(10,.nl .nilSl)],[(3,(ZaP a0_)),(4,(Zac a1_)),(6,[iv 0,iv 0,iv 0,iv 0,iv 0,iv 0,iv 0,iv 0,iv 0,Zaq true []])],[]⟩
  refine rgS ⟨[(2,iv a2_),(3,.loc 3 0),(4,.loc 4 0),(6,.loc 6 0),(8,iv a4),(10,.nl .nilSl),(46,bv true)],[(3,(ZaP a0_)),(4,(Zac a1_)),(6,[iv 0,iv 0,iv 0,iv 0,iv 0,iv 0,iv 0,iv 0,iv 0,Zaq true []])],[]⟩ Zab.f kr (tq (Zco kr (sq (rgS ⟨[(6,.loc 6 0),(7,bv false)],[(6,[iv 0,iv 0,iv 0,iv 0,iv 0,iv 0,iv 0,iv 0,iv 0,Zaq true []])],[]⟩ Zab.f kr (tq (rt (tr ?_)))))))
  cases h
  exact ZaA kr
 rw [ZoK an]
 show vc _ _ _ _ ⟨[(2,iv a2_),(3,.loc 3 0),(4,.loc 4 0),(6,.loc 6 0),(8,iv a4),(10,Zad false a2)],[(3,(ZaP a0_)),(4,(Zac a1_)),(6,[iv 0,iv 0,iv 0,iv 0,iv 0,iv 0,iv 0,iv 0,iv 0,Zaq true []])],[]⟩
 refine rgS ⟨[(2,iv a2_),(3,.loc 3 0),(4,.loc 4 0),(6,.loc 6 0),(8,iv a4),(10,Zad false a2),(46,bv false)],[(3,(ZaP a0_)),(4,(Zac a1_)),(6,[iv 0,iv 0,iv 0,iv 0,iv 0,iv 0,iv 0,iv 0,iv 0,Zaq true []])],[]⟩ (Zab.u 1 (Zan (ys:=[Zad false a2]) (h:=Zl8 (neg:=false) an)) Zab.f) kr (tq (Ze7 kr (sk (tq (kq (sq ?_))))))
 obtain ⟨bf,aM,h⟩:=bs h
 obtain ⟨a5,bu,h⟩:=bs h
 obtain ⟨be,aL,h⟩:=bs h
 obtain ⟨a3,bt,h⟩:=bs h
 obtain ⟨ad,ai,bD,bE,hH⟩:=HP.lit 1 [a2] (eSl 1 eI64) hH
 replace hH:HP _ [.arr ad 1 false (List.map (eSl 1 eI64) [a2])]:=hH
 have a7:=ZaS (HP.get hH 0 rfl)
 refine rqS ⟨[(3,.loc 3 0),(4,.loc 4 0),(6,.loc 6 0),(8,iv a4),(10,Zad false a2),(11,.loc 11 0)],[(3,(ZaP a0_)),(4,(Zac a1_)),(6,[iv 0,iv 0,iv 0,iv 0,iv 0,iv 0,iv 0,iv 0,iv 0,Zaq true []]),(11,[iv a2_,iv a5,iv a3,iv 0,iv (w64 (84+(w64 (a0_.Size)))),iv 0,iv 0,iv 0,iv 1099511627776,ad])],ai⟩ (Zab.u 3 (Zan (ys:=[Zad false a2,iv 0]) (h:=Zal eI64 aM)) (Zab.u 0 (ZaK (Zav (sz:=1) (off:=0) (cs:=[.int .i64 bf]) (r:=iv bf) eI64 aM)) (Zab.u 0 (Za1 (hc:=ZdR N a1_ bf a5 bu)) (Zab.u 3 (Zan (ys:=[Zad false a2]) (h:=Zax eI64)) (Zab.u 1 (Zan (ys:=[Zad false a2,iv (w64 (((List.length a2:Nat):Int)-1))]) (h:=Zal eI64 aL)) (Zab.u 0 (ZaK (Zav (sz:=1) (off:=0) (cs:=[.int .i64 be]) (r:=iv be) eI64 aL)) (Zab.u 0 (Za1 (hc:=Zej N a1_ be a3 bt)) (Zab.h 5 (ZlU (H:=[]) (ys:=[Zad false a2]) (rows:=(List.map (eSl 1 eI64) [a2])) kr kr kr bD bE) (Zab.f (h:=(by cases a7<;>kernel_rfl))))))))))) (by cases a7<;>kernel_rfl) (tq ?_)
 obtain ⟨a0,ay,h⟩:=bs h
 refine ZcD [3,4,6,8,10,11] (λs=>s=⟨[(3,.loc 3 0),(4,.loc 4 0),(6,.loc 6 0),(8,iv a4),(10,Zad false a2),(11,.loc 11 0)],[(3,(ZaP a0_)),(4,(Zac a1_)),(6,[iv 0,iv 0,iv 0,iv 0,iv 0,iv 0,iv 0,iv 0,iv 0,Zaq true []]),(11,[iv a2_,iv a5,iv a3,iv a0.1,iv (w64 (84+(w64 (a0_.Size)))),iv a0.2.1,iv a0.2.2.1,iv a0.2.2.2,iv 1099511627776,ad])],ai⟩) ?_ ?_
 ·clear h
  have h:=ay
  refine sq (rgS ⟨[(3,.loc 3 0),(4,.loc 4 0),(6,.loc 6 0),(8,iv a4),(10,Zad false a2),(11,.loc 11 0),(70,bv a0_.Reserved)],[(3,(ZaP a0_)),(4,(Zac a1_)),(6,[iv 0,iv 0,iv 0,iv 0,iv 0,iv 0,iv 0,iv 0,iv 0,Zaq true []]),(11,[iv a2_,iv a5,iv a3,iv 0,iv (w64 (84+(w64 (a0_.Size)))),iv 0,iv 0,iv 0,iv 1099511627776,ad])],ai⟩ Zab.f (by cases a7<;>kernel_rfl) (tq (it h (λbc h=>?_) (λbc h=>?_))))
  ·refine sq (rgS ⟨[(3,.loc 3 0),(4,.loc 4 0),(6,.loc 6 0),(8,iv a4),(10,Zad false a2),(11,.loc 11 0)],[(3,(ZaP a0_)),(4,(Zac a1_)),(6,[iv 0,iv 0,iv 0,iv 0,iv 0,iv 0,iv 0,iv 0,iv 0,Zaq true []]),(11,[iv a2_,iv a5,iv a3,iv 6,iv (w64 (84+(w64 (a0_.Size)))),iv 0,iv 0,iv 0,iv 1099511627776,ad])],ai⟩ Zab.f (by cases a7<;>kernel_rfl) (tq (rgS ⟨[(3,.loc 3 0),(4,.loc 4 0),(6,.loc 6 0),(8,iv a4),(10,Zad false a2),(11,.loc 11 0)],[(3,(ZaP a0_)),(4,(Zac a1_)),(6,[iv 0,iv 0,iv 0,iv 0,iv 0,iv 0,iv 0,iv 0,iv 0,Zaq true []]),(11,[iv a2_,iv a5,iv a3,iv 6,iv (w64 (84+(w64 (a0_.Size)))),iv 0,iv (w64 ((w64 (84+(w64 (a0_.Size))))+(w64 (4*(w64 (a0_.Burst)))))),iv (w64 (1+(w64 (a0_.Rate)))),iv 1099511627776,ad])],ai⟩ (Zab.f (h:=(by cases a7<;>kernel_rfl))) (by cases a7<;>kernel_rfl) ?_)))
   cases h
   exact ⟨rfl,(by show _=_;cases a7<;>kernel_rfl)⟩
  refine sq (rgS ⟨[(3,.loc 3 0),(4,.loc 4 0),(6,.loc 6 0),(8,iv a4),(10,Zad false a2),(11,.loc 11 0)],[(3,(ZaP a0_)),(4,(Zac a1_)),(6,[iv 0,iv 0,iv 0,iv 0,iv 0,iv 0,iv 0,iv 0,iv 0,Zaq true []]),(11,[iv a2_,iv a5,iv a3,iv 7,iv (w64 (84+(w64 (a0_.Size)))),iv 0,iv 0,iv 0,iv 1099511627776,ad])],ai⟩ Zab.f (by cases a7<;>kernel_rfl) (tq ?_))
  obtain ⟨aC,aA,h⟩:=bs h
  refine rgS ⟨[(3,.loc 3 0),(4,.loc 4 0),(6,.loc 6 0),(8,iv a4),(10,Zad false a2),(11,.loc 11 0)],[(3,(ZaP a0_)),(4,(Zac a1_)),(6,[iv 0,iv 0,iv 0,iv 0,iv 0,iv 0,iv 0,iv 0,iv 0,Zaq true []]),(11,[iv a2_,iv a5,iv a3,iv 7,iv (w64 (84+(w64 (a0_.Size)))),iv aC,iv 0,iv 0,iv 1099511627776,ad])],ai⟩ (Zab.u 4 (Zan (ys:=[Zad true [4,6,8,12,16,24,48,10,5,240],.p (.int .u8 (Int.tmod a0_.Period 10))]) (h:=Zal eI64 aA)) (Zab.u 0 (Zav (sz:=1) (off:=0) (cs:=[.int .i64 aC]) (r:=iv aC) eI64 aA) Zab.f)) (by cases a7<;>kernel_rfl) ?_
  cases h
  exact ⟨rfl,(by show _=_;cases a7<;>kernel_rfl)⟩
 clear ay
 rintro s hR
 obtain rfl:=hR
 refine sq (sq (rgS ⟨[(3,.loc 3 0),(4,.loc 4 0),(6,.loc 6 0),(8,iv a4),(10,Zad false a2),(11,.loc 11 0),(12,iv 0)],[(3,(ZaP a0_)),(4,(Zac a1_)),(6,[iv 0,iv 0,iv 0,iv 0,iv 0,iv 0,iv 0,iv 0,iv 0,Zaq true []]),(11,[iv a2_,iv a5,iv a3,iv a0.1,iv (w64 (84+(w64 (a0_.Size)))),iv a0.2.1,iv a0.2.2.1,iv a0.2.2.2,iv 1099511627776,ad])],ai⟩ Zab.f (by cases a7<;>kernel_rfl) (tq (bk ?_))))
 obtain ⟨aj,aw,h⟩:=bs h
 refine ZaT ((ZaI (λ(x:Int×(List (List Int))) s=>∃ (a6:AV) (aa:List HO),s=⟨[(3,.loc 3 0),(4,.loc 4 0),(6,.loc 6 0),(8,iv a4),(10,Zad false a2),(11,.loc 11 0),(12,iv x.1)],[(3,(ZaP a0_)),(4,(Zac a1_)),(6,[iv 0,iv 0,iv 0,iv 0,iv 0,iv 0,iv 0,iv 0,iv 0,Zaq true []]),(11,[iv a2_,iv a5,iv a3,iv a0.1,iv (w64 (84+(w64 (a0_.Size)))),iv a0.2.1,iv a0.2.2.1,iv a0.2.2.2,iv 1099511627776,a6])],aa⟩/\HP aa [.arr a6 1 false (List.map (eSl 1 eI64) x.2)]) (λx:Int×(List (List Int))=>Zb4 N a0_ a1_ a4 a2 a3 x.1 x.2) (λ(p:(List (List Int))) e s=>e=.exit 2/\(∃ (ac:AV) (ao:List HO),s=⟨[(4,.loc 4 0),(6,.loc 6 0),(11,.loc 11 0)],[(4,(Zac a1_)),(6,[iv 0,iv 0,iv 0,iv 0,iv 0,iv 0,iv 0,iv 0,iv 0,Zaq true []]),(11,[iv a2_,iv a5,iv a3,iv a0.1,iv (w64 (84+(w64 (a0_.Size)))),iv a0.2.1,iv a0.2.2.1,iv a0.2.2.2,iv 1099511627776,ac])],ao⟩/\HP ao [.arr ac 1 false (List.map (eSl 1 eI64) p)])) ?_ N _ aj _ aw ⟨ad,ai,(by show _=_;cases a7<;>kernel_rfl),(HP.pick hH [0] rfl)⟩).mono ?_)
 ·clear h aw
  rintro ⟨a9,aq⟩ o s h hR
  obtain ⟨a6,aa,rfl,hH⟩:=hR
  replace hH:HP _ [.arr a6 1 false (List.map (eSl 1 eI64) aq)]:=hH
  have a1:=ZaS (HP.get hH 0 rfl)
  replace h:Zb4 N a0_ a1_ a4 a2 a3 a9 aq=some o:=h
  unfold Zb4 at h
  refine sq (sq ?_)
  obtain ⟨bp,hj,h⟩:=bs h
  refine rgR (λs=>s=⟨[(3,.loc 3 0),(4,.loc 4 0),(6,.loc 6 0),(8,iv a4),(10,Zad false a2),(11,.loc 11 0),(12,iv a9),(104,bv bp)],[(3,(ZaP a0_)),(4,(Zac a1_)),(6,[iv 0,iv 0,iv 0,iv 0,iv 0,iv 0,iv 0,iv 0,iv 0,Zaq true []]),(11,[iv a2_,iv a5,iv a3,iv a0.1,iv (w64 (84+(w64 (a0_.Size)))),iv a0.2.1,iv a0.2.2.1,iv a0.2.2.2,iv 1099511627776,a6])],aa⟩) ?_ ?_
  ·clear h
   rcases ZaC hj with ⟨bb,hj⟩|⟨b1,hj⟩
   ·refine (EP.u 1 (Zam (c:=(decide (a9<24))) (h:=bb)) ?_)
    rcases ZaC hj with ⟨ba,hj⟩|⟨b2,hj⟩
    ·refine (EP.u 2 (ZqE (c:=a0_.Two) kr ba) ?_)
     have aI:=HP.len (k:=0) (a:=a6) (sz:=1) (frz:=false) (l:=aq) (eSl 1 eI64) hH rfl
     obtain rfl:=Zao hj
     exact (EP.u (hm:=(by cases a1<;>kernel_rfl)) 4 (Zan (ys:=[a6]) (by cases a1<;>kernel_rfl) aI) (EP.f (by show _=_;cases a1<;>kernel_rfl) (h:=(by cases a1<;>kernel_rfl))))
    obtain rfl:=Zao hj
    exact (EP.u 2 (ZqE (c:=a0_.Two) kr b2) (EP.f (by show _=_;cases a1<;>kernel_rfl)))
   obtain rfl:=Zao hj
   exact (EP.u 1 (Zam (c:=(decide (a9<24))) (h:=b1)) (EP.f (by show _=_;cases a1<;>kernel_rfl)))
  clear hj
  rintro s hR
  obtain rfl:=hR
  refine tq (it h (λb0 h=>?_) (λb0 h=>?_))
  ·refine sk (tq (kq ?_))
   obtain ⟨aJ,ax,h⟩:=bs h
   refine ZcD [3,4,6,8,10,11,12] (λs=>∃ (ae:AV) (ak:List HO),s=⟨[(3,.loc 3 0),(4,.loc 4 0),(6,.loc 6 0),(8,iv a4),(10,Zad false a2),(11,.loc 11 0),(12,iv a9)],[(3,(ZaP a0_)),(4,(Zac a1_)),(6,[iv 0,iv 0,iv 0,iv 0,iv 0,iv 0,iv 0,iv 0,iv 0,Zaq true []]),(11,[iv a2_,iv a5,iv a3,iv a0.1,iv (w64 (84+(w64 (a0_.Size)))),iv a0.2.1,iv a0.2.2.1,iv a0.2.2.2,iv 1099511627776,ae])],ak⟩/\HP ak [.arr ae 1 false (List.map (eSl 1 eI64) aJ)]) ?_ ?_
   ·clear h
    have h:=ax
    refine bk (sq ?_)
    obtain ⟨ab,aV,h⟩:=bs h
    refine rgS ⟨[(3,.loc 3 0),(4,.loc 4 0),(6,.loc 6 0),(8,iv a4),(10,Zad false a2),(11,.loc 11 0),(12,iv a9),(13,ZoL 1 eI64 ab)],[(3,(ZaP a0_)),(4,(Zac a1_)),(6,[iv 0,iv 0,iv 0,iv 0,iv 0,iv 0,iv 0,iv 0,iv 0,Zaq true []]),(11,[iv a2_,iv a5,iv a3,iv a0.1,iv (w64 (84+(w64 (a0_.Size)))),iv a0.2.1,iv a0.2.2.1,iv a0.2.2.2,iv 1099511627776,a6])],aa⟩ (Zab.v 8 (Zaz (hc:=Zj5 N a1_ (IntKind.u8.wrap (a4)) (IntKind.u8.wrap (a0_.Way+(IntKind.u8.wrap (a9)))) ab aV)) Zab.f) (by cases a1<;>kernel_rfl) (tq (sq ?_))
    rcases ZaC h with ⟨ag,h⟩|⟨ag,h⟩
    ·rw [ZpH ag]
     show vc _ _ _ _ ⟨[(3,.loc 3 0),(4,.loc 4 0),(6,.loc 6 0),(8,iv a4),(10,Zad false a2),(11,.loc 11 0),(12,iv a9),(13,.nl .nilSl)],[(3,(ZaP a0_)),(4,(Zac a1_)),(6,[iv 0,iv 0,iv 0,iv 0,iv 0,iv 0,iv 0,iv 0,iv 0,Zaq true []]),(11,[iv a2_,iv a5,iv a3,iv a0.1,iv (w64 (84+(w64 (a0_.Size)))),iv a0.2.1,iv a0.2.2.1,iv a0.2.2.2,iv 1099511627776,a6])],aa⟩
     refine rqS ⟨[(3,.loc 3 0),(4,.loc 4 0),(6,.loc 6 0),(8,iv a4),(10,Zad false a2),(11,.loc 11 0),(12,iv a9),(13,.nl .nilSl),(136,bv false)],[(3,(ZaP a0_)),(4,(Zac a1_)),(6,[iv 0,iv 0,iv 0,iv 0,iv 0,iv 0,iv 0,iv 0,iv 0,Zaq true []]),(11,[iv a2_,iv a5,iv a3,iv a0.1,iv (w64 (84+(w64 (a0_.Size)))),iv a0.2.1,iv a0.2.2.1,iv a0.2.2.2,iv 1099511627776,a6])],aa⟩ Zab.f (by cases a1<;>kernel_rfl) (tq (Ze7 kr (sk (bn ?_))))
     cases h
     exact ⟨rfl,⟨a6,aa,(by show _=_;cases a1<;>kernel_rfl),(HP.pick hH [0] rfl)⟩⟩
    rw [ZoK ag]
    show vc _ _ _ _ ⟨[(3,.loc 3 0),(4,.loc 4 0),(6,.loc 6 0),(8,iv a4),(10,Zad false a2),(11,.loc 11 0),(12,iv a9),(13,Zad false ab)],[(3,(ZaP a0_)),(4,(Zac a1_)),(6,[iv 0,iv 0,iv 0,iv 0,iv 0,iv 0,iv 0,iv 0,iv 0,Zaq true []]),(11,[iv a2_,iv a5,iv a3,iv a0.1,iv (w64 (84+(w64 (a0_.Size)))),iv a0.2.1,iv a0.2.2.1,iv a0.2.2.2,iv 1099511627776,a6])],aa⟩
    obtain ⟨bm,hj,h⟩:=bs h
    refine rqR (λs=>s=⟨[(3,.loc 3 0),(4,.loc 4 0),(6,.loc 6 0),(8,iv a4),(10,Zad false a2),(11,.loc 11 0),(12,iv a9),(13,Zad false ab),(136,bv bm)],[(3,(ZaP a0_)),(4,(Zac a1_)),(6,[iv 0,iv 0,iv 0,iv 0,iv 0,iv 0,iv 0,iv 0,iv 0,Zaq true []]),(11,[iv a2_,iv a5,iv a3,iv a0.1,iv (w64 (84+(w64 (a0_.Size)))),iv a0.2.1,iv a0.2.2.1,iv a0.2.2.2,iv 1099511627776,a6])],aa⟩) ?_ ?_
    ·clear h
     refine (EP.u 1 (Zan (ys:=[Zad false ab]) (h:=Zl8 (neg:=true) ag)) (EP.u 4 (Zan (ys:=[Zad false ab]) (h:=Zax eI64)) ?_))
     obtain ⟨aB,az,hj⟩:=bs hj
     refine (EP.u 1 (Zan (ys:=[Zad false ab,iv (w64 (((List.length ab:Nat):Int)-1))]) (h:=Zal eI64 az)) (EP.u 0 (ZaK (Zav (sz:=1) (off:=0) (cs:=[.int .i64 aB]) (r:=iv aB) eI64 az)) ?_))
     obtain ⟨ap,aU,hj⟩:=bs hj
     refine (EP.u 0 (Za1 (hc:=Zej N a1_ aB ap aU)) ?_)
     rcases ZaC hj with ⟨aZ,hj⟩|⟨aY,hj⟩
     ·refine (EP.u (hm:=(by cases a1<;>kernel_rfl)) 2 (Zam (c:=(ap==a3)) (by cases a1<;>kernel_rfl) aZ) ?_)
      obtain ⟨bi,aT,hj⟩:=bs hj
      obtain rfl:=Zao hj
      exact (EP.u (hm:=(by cases a1<;>kernel_rfl)) 5 (Za1 (by cases a1<;>kernel_rfl) (Zhh N a1_ a2 ab bi aT)) (EP.f (by show _=_;cases a1<;>kernel_rfl) (h:=(by cases a1<;>kernel_rfl))))
     obtain rfl:=Zao hj
     exact (EP.u (hm:=(by cases a1<;>kernel_rfl)) 2 (Zam (c:=(ap==a3)) (by cases a1<;>kernel_rfl) aY) (EP.f (by show _=_;cases a1<;>kernel_rfl) (h:=(by cases a1<;>kernel_rfl))))
    clear hj
    rintro s hR
    obtain rfl:=hR
    refine tq (it h (λaX h=>?_) (λaX h=>?_))
    ·obtain ⟨bl,aW,h⟩:=bs h
     obtain ⟨aD,aR,bd,hH⟩:=HP.app (k:=0) (a:=a6) (sz:=1) (frz:=false) (eSl 1 eI64) hH rfl aW
     replace hH:HP _ [.arr aD 1 false (List.map (eSl 1 eI64) bl)]:=hH
     have af:=ZaS (HP.get hH 0 rfl)
     refine rgS ⟨[(3,.loc 3 0),(4,.loc 4 0),(6,.loc 6 0),(8,iv a4),(10,Zad false a2),(11,.loc 11 0),(12,iv a9)],[(3,(ZaP a0_)),(4,(Zac a1_)),(6,[iv 0,iv 0,iv 0,iv 0,iv 0,iv 0,iv 0,iv 0,iv 0,Zaq true []]),(11,[iv a2_,iv a5,iv a3,iv a0.1,iv (w64 (84+(w64 (a0_.Size)))),iv a0.2.1,iv a0.2.2.1,iv a0.2.2.2,iv 1099511627776,aD])],aR⟩ (Zab.h (hm:=(by cases a1<;>kernel_rfl)) 4 (Ze9 (H:=aa) (a:=a6) (b:=Zaq true [ab]) (by cases a1<;>kernel_rfl) (by cases a1<;>kernel_rfl) (by cases a1<;>kernel_rfl) (by cases a1<;>kernel_rfl) bd) (Zab.f (h:=(by cases a1<;>cases af<;>kernel_rfl)))) (by cases a1<;>cases af<;>kernel_rfl) (bn ?_)
     cases h
     exact ⟨rfl,⟨aD,aR,(by show _=_;cases af<;>kernel_rfl),(HP.pick hH [0] rfl)⟩⟩
    refine sk (bn ?_)
    cases h
    exact ⟨rfl,⟨a6,aa,(by show _=_;cases a1<;>kernel_rfl),(HP.pick hH [0] rfl)⟩⟩
   clear ax
   rintro s hR
   obtain ⟨ae,ak,rfl,hH⟩:=hR
   replace hH:HP _ [.arr ae 1 false (List.map (eSl 1 eI64) aJ)]:=hH
   have am:=ZaS (HP.get hH 0 rfl)
   refine rgS ⟨[(3,.loc 3 0),(4,.loc 4 0),(6,.loc 6 0),(8,iv a4),(10,Zad false a2),(11,.loc 11 0),(12,iv (w64 (a9+1)))],[(3,(ZaP a0_)),(4,(Zac a1_)),(6,[iv 0,iv 0,iv 0,iv 0,iv 0,iv 0,iv 0,iv 0,iv 0,Zaq true []]),(11,[iv a2_,iv a5,iv a3,iv a0.1,iv (w64 (84+(w64 (a0_.Size)))),iv a0.2.1,iv a0.2.2.1,iv a0.2.2.2,iv 1099511627776,ae])],ak⟩ Zab.f (by cases am<;>kernel_rfl) ?_
   cases h
   exact ⟨_,rfl,⟨ae,ak,(by show _=_;cases am<;>kernel_rfl),(HP.pick hH [0] rfl)⟩⟩
  refine kq (xq (tx ?_))
  cases h
  exact ⟨_,rfl,rfl,⟨a6,aa,(by show _=_;cases a1<;>kernel_rfl),(HP.pick hH [0] rfl)⟩⟩
 rintro e s hq
 obtain ⟨rfl,hR⟩:=hq
 obtain ⟨ac,ao,rfl,hH⟩:=hR
 replace hH:HP _ [.arr ac 1 false (List.map (eSl 1 eI64) aj)]:=hH
 have a8:=ZaS (HP.get hH 0 rfl)
 refine bx (tq (sq ?_))
 obtain ⟨aE,ar,au,bq,hH⟩:=HP.frzd (k:=0) (a:=ac) (sz:=1) (frz:=false) (eSl 1 eI64) hH rfl
 replace hH:HP _ [.arr ac 1 true (List.map (eSl 1 eI64) aj)]:=hH
 have aG:=Zti a8 ar
 have av:=au
 obtain ⟨al,aS,h⟩:=bs h
 refine rfS ⟨[(6,.loc 6 0),(7,bv al)],[(6,[iv a2_,iv a5,iv a3,iv a0.1,iv (w64 (84+(w64 (a0_.Size)))),iv a0.2.1,iv a0.2.2.1,iv a0.2.2.2,iv 1099511627776,ac])],aE⟩ (Zsv (H:=ao) (a:=.agg [iv a2_,iv a5,iv a3,iv a0.1,iv (w64 (84+(w64 (a0_.Size)))),iv a0.2.1,iv a0.2.2.1,iv a0.2.2.2,iv 1099511627776,ac]) kr kr (ZqZ (ZdF rfl (ZdF rfl (ZdF rfl (ZdF rfl (ZdF rfl (ZdF rfl (ZdF rfl (ZdF rfl (ZdF rfl (ZdF aG Zq0))))))))))) Ztg) (Zab.u (hm:=(by cases a8<;>kernel_rfl)) 3 (ZsW (H:=aE) (ys:=[.agg (Zac a1_),.agg [iv a2_,iv a5,iv a3,iv a0.1,iv (w64 (84+(w64 (a0_.Size)))),iv a0.2.1,iv a0.2.2.1,iv a0.2.2.2,iv 1099511627776,ac]]) (by cases a8<;>kernel_rfl) (by cases a8<;>kernel_rfl) (Zp8 (Zrc (ZdI rfl (ZdI rfl (ZdI rfl Zrd)))) (Zp8 (Zrc (ZdI rfl (ZdI rfl (ZdI rfl (ZdI rfl (ZdI rfl (ZdI rfl (ZdI rfl (ZdI rfl (ZdI rfl (ZdI av Zrd))))))))))) Ztr)) (Zjt N a1_ (Zah.mk a2_ a5 a3 a0.1 (w64 (84+(w64 (a0_.Size)))) a0.2.1 (Zez.mk a0.2.2.1 a0.2.2.2) 1099511627776 aj) al aS)) (Zab.f (h:=(by cases a8<;>kernel_rfl)))) (by cases a8<;>kernel_rfl) (tq (rt ?_))
 obtain rfl:=Zao h
 exact ZeB (H:=aE) (ys:=[.agg [iv a2_,iv a5,iv a3,iv a0.1,iv (w64 (84+(w64 (a0_.Size)))),iv a0.2.1,iv a0.2.2.1,iv a0.2.2.2,iv 1099511627776,ac],bv al]) (xs:=[.agg [iv a2_,iv a5,iv a3,iv a0.1,iv (w64 (84+(w64 (a0_.Size)))),iv a0.2.1,iv a0.2.2.1,iv a0.2.2.2,iv 1099511627776,.p (.sl 1 false (List.map (eSl 1 eI64) aj))],bv al]) (by cases a8<;>kernel_rfl) (by cases a8<;>kernel_rfl) (Zbs (Zkc (Zb6 rfl (Zb6 rfl (Zb6 rfl (Zb6 rfl (Zb6 rfl (Zb6 rfl (Zb6 rfl (Zb6 rfl (Zb6 rfl (Zb6 (HP.pure (k:=0) (frz:=true) (eSl 1 eI64) hH rfl).1 Zkd))))))))))) (Zbs rfl Zci)) kr
theorem ZkN (N:Nat)(a0_:Zag)(a1_:(List Zah))(r:Int)(h:ZeG N a0_ a1_=some r):Zba Tryz.prog 24 [.agg (Zac a0_),Zaf false a1_] (iv r):=by
 unfold ZeG at h
 have hH  := hp0
 refine ZaG ZLD rfl rfl (Zay _ _ _ ?_) rfl
 refine sq (rg Zab.f (tq (sq (sq ?_))))
 obtain ⟨r1,hr1,h⟩:=bs h
 refine rg (Zab.v 1 (Zaz (hc:=Zjw N a0_ r1 hr1)) Zab.f) (tq (it h (λhc2 h=>?_) (λhc2 h=>?_)))
 ·refine sq (rg Zab.f (tq (rt (tr ?_))))
  cases h
  exact ZaA kr
 refine sk (tq (kq (sq (sq (rg (Zab.u 1 (Zan (ys:=[Zaf false a1_]) (h:=Zax Zar)) Zab.f) (tq (it h (λhc3 h=>?_) (λhc3 h=>?_))))))))
 ·refine sq (rg Zab.f (tq (rt (tr ?_))))
  cases h
  exact ZaA kr
 refine sk (tq (kq (sq (sq (rg Zab.f (tq (bk ?_)))))))
 obtain ⟨ag,a9,h⟩:=bs h
 refine ZaT ((ZaI (λ(x:Int) s=>s=⟨[(1,Zaf false a1_),(2,.loc 2 0),(5,iv x)],[(2,(Zac a0_))],[]⟩) (λx:Int=>Zcq N a0_ a1_ x) (λ(p:(Unit)⊕(Int)) e s=>match p with|(.inl p)=>e=.exit 0/\(s=⟨[(1,Zaf false a1_)],[],[]⟩)|(.inr p)=>e=.ret/\∃ xs,resL s i24.res=some xs/\ZbV xs=iv p) ?_ N _ ag _ a9 kr).mono ?_)
 ·clear h a9
  rintro i4 o s h hR
  obtain rfl:=hR
  replace h:Zcq N a0_ a1_ i4=some o:=h
  unfold Zcq at h
  refine sq (sq (rg (Zab.u 2 (Zan (ys:=[Zaf false a1_]) (h:=Zax Zar)) Zab.f) (tq (it h (λak h=>?_) (λak h=>?_)))))
  ·refine sk (tq (kq (sq (bk (sq ?_)))))
   obtain ⟨a0,aa,h⟩:=bs h
   obtain ⟨al,ai,h⟩:=bs h
   refine rq (Zab.u 3 (Zan (ys:=[Zaf false a1_,iv i4]) (h:=Zal Zar aa)) (Zab.u 0 (ZaK (Zav (sz:=10) (off:=0) (cs:=[.int .i64 a0.Id,.int .i64 a0.Talker,.int .i64 a0.Listener,.int .i64 a0.Class,.int .i64 a0.Size,.int .i64 a0.Period,.int .i64 a0.Bucket.Burst,.int .i64 a0.Bucket.Rate,.int .i64 a0.Deadline,.sl 1 false (List.map (eSl 1 eI64) a0.Routes)]) (r:=.agg (Zai a0)) Zar aa)) (Zab.v 0 (Zaz (hc:=Zjt N a0_ a0 al ai)) Zab.f))) (tq (it h (λaj h=>?_) (λaj h=>?_)))
   ·refine sq (rg Zab.f (tq (rt (br (tr ?_)))))
    cases h
    exact ⟨_,rfl,rfl,ZaA kr⟩
   refine sk (bn (tq (kq (rg Zab.f ?_))))
   cases h
   exact ⟨_,rfl,kr⟩
  refine kq (xq (tx ?_))
  cases h
  exact ⟨_,rfl,rfl,kr⟩
 rintro e s hq
 rcases ag with ar|am
 ·dsimp only at h hq
  obtain ⟨rfl,hR⟩:=hq
  obtain rfl:=hR
  refine bx (tq (sq (sq (rg Zab.f (tq (bk ?_))))))
  obtain ⟨a6,a2,h⟩:=bs h
  refine ZaT ((ZaI (λ(x:Int) s=>s=⟨[(1,Zaf false a1_),(6,iv x)],[],[]⟩) (λx:Int=>ZbS N a1_ x) (λ(p:(Unit)⊕(Int)) e s=>match p with|(.inl p)=>e=.exit 2/\(s=⟨[],[],[]⟩)|(.inr p)=>e=.ret/\∃ xs,resL s i24.res=some xs/\ZbV xs=iv p) ?_ N _ a6 _ a2 kr).mono ?_)
  ·clear h a2
   rintro a1 o s h hR
   obtain rfl:=hR
   replace h:ZbS N a1_ a1=some o:=h
   unfold ZbS at h
   refine sq (sq (rg (Zab.u 2 (Zan (ys:=[Zaf false a1_]) (h:=Zax Zar)) Zab.f) (tq (it h (λaf h=>?_) (λaf h=>?_)))))
   ·refine sk (tq (kq (sq (bk (sq (rg Zab.f (tq (bk ?_))))))))
    obtain ⟨a7,a3,h⟩:=bs h
    refine ZaT ((ZaI (λ(x:Int) s=>s=⟨[(1,Zaf false a1_),(6,iv a1),(7,iv x)],[],[]⟩) (λx:Int=>ZbR N a1_ a1 x) (λ(p:(Unit)⊕(Int)) e s=>match p with|(.inl p)=>e=.exit 4/\(s=⟨[(1,Zaf false a1_),(6,iv a1)],[],[]⟩)|(.inr p)=>e=.ret/\∃ xs,resL s i24.res=some xs/\ZbV xs=iv p) ?_ N _ a7 _ a3 kr).mono ?_)
    ·clear h a3
     rintro a8 o s h hR
     obtain rfl:=hR
     replace h:ZbR N a1_ a1 a8=some o:=h
     unfold ZbR at h
     refine sq (sq (rg Zab.f (tq (it h (λae h=>?_) (λae h=>?_)))))
     ·refine sk (tq (kq (sq (bk (sq ?_)))))
      obtain ⟨ac,a5,h⟩:=bs h
      obtain ⟨ab,a4,h⟩:=bs h
      refine rq (Zab.u 2 (Zan (ys:=[Zaf false a1_,iv a8]) (h:=Zal Zar a5)) (Zab.u 1 (ZaK (Zav (sz:=10) (off:=0) (cs:=[.int .i64 ac.Id]) (r:=iv ac.Id) Zar a5)) (Zab.u 2 (Zan (ys:=[Zaf false a1_,iv a1]) (h:=Zal Zar a4)) (Zab.u 1 (ZaK (Zav (sz:=10) (off:=0) (cs:=[.int .i64 ab.Id]) (r:=iv ab.Id) Zar a4)) Zab.f)))) (tq (it h (λad h=>?_) (λad h=>?_)))
      ·refine sq (rg Zab.f (tq (rt (br (tr ?_)))))
       cases h
       exact ⟨_,rfl,rfl,ZaA kr⟩
      refine sk (bn (tq (kq (rg Zab.f ?_))))
      cases h
      exact ⟨_,rfl,kr⟩
     refine kq (xq (tx ?_))
     cases h
     exact ⟨_,rfl,rfl,kr⟩
    rintro e s hq
    rcases a7 with aq|ap
    ·dsimp only at h hq
     obtain ⟨rfl,hR⟩:=hq
     obtain rfl:=hR
     refine bx (bn (tq (rg Zab.f ?_)))
     cases h
     exact ⟨_,rfl,kr⟩
    dsimp only at h hq
    obtain ⟨rfl,hq⟩:=hq
    refine br (br (tr ?_))
    cases h
    exact ⟨_,rfl,rfl,hq⟩
   refine kq (xq (tx ?_))
   cases h
   exact ⟨_,rfl,rfl,kr⟩
  rintro e s hq
  rcases a6 with ao|an
  ·dsimp only at h hq
   obtain ⟨rfl,hR⟩:=hq
   obtain rfl:=hR
   refine bx (tq (sq (rg Zab.f (tq (rt ?_)))))
   cases h
   exact ZaA kr
  dsimp only at h hq
  obtain ⟨rfl,hq⟩:=hq
  refine br (tr ?_)
  cases h
  exact hq
 dsimp only at h hq
 obtain ⟨rfl,hq⟩:=hq
 refine br (tr ?_)
 cases h
 exact hq
theorem ZhY (N:Nat)(a0_:(List Int))(r:Int×Int)(h:Ze2 N a0_=some r):Zba Tryz.prog 34 [Zad false a0_] (.tup [iv r.1,iv r.2]):=by
 unfold Ze2 at h
 have hH  := hp0
 refine ZaG ZLt rfl rfl (Zay _ _ _ ?_) rfl
 refine sq (rg Zab.f (tq (sq ?_)))
 obtain ⟨l3,hl3,h⟩:=bs h
 obtain ⟨a1,H2,ha1,hH2,ha1b,hH⟩:=HP.make ZbJ hH hl3
 replace hH:HP _ [.arr a1 3 false (List.map ZbJ l3)]:=hH
 have hfa1:=ZaS (HP.get hH 0 rfl)
 refine rgS ⟨[(0,Zad false a0_),(4,a1)],[],H2⟩ (Zab.u 1 (Zan (ys:=[Zad false a0_]) (h:=Zax eI64)) (Zab.h 0 (ZjI (H:=[]) (zero:=[.int .i64 0,.int .i64 0,.int .i64 0]) (bytes:=24) kr kr kr ha1 hH2 ha1b) Zab.f)) (by cases hfa1<;>kernel_rfl) (tq (sq (sq (rgS ⟨[(4,a1),(10,Zad false a0_),(11,iv ((List.length a0_:Nat):Int)),(12,iv 0)],[],H2⟩ (Zab.u 1 (Zan (ys:=[Zad false a0_]) (h:=Zax eI64)) Zab.f) (by cases hfa1<;>kernel_rfl) (tq (bk ?_))))))
 obtain ⟨a5,ab,h⟩:=bs h
 refine ZaT ((ZaI (λ(x:Int×(List ZaL)) s=>∃ (a4:AV) (H5:List HO),s=⟨[(4,a4),(10,Zad false a0_),(11,iv ((List.length a0_:Nat):Int)),(12,iv x.1)],[],H5⟩/\HP H5 [.arr a4 3 false (List.map ZbJ x.2)]) (λx:Int×(List ZaL)=>ZdU N a0_ x.1 x.2) (λ(p:(List ZaL)) e s=>e=.exit 0/\(∃ (a2:AV) (aa:List HO),s=⟨[(4,a2)],[],aa⟩/\HP aa [.arr a2 3 false (List.map ZbJ p)])) ?_ N _ a5 _ ab ⟨a1,H2,(by show _=_;cases hfa1<;>kernel_rfl),(HP.pick hH [0] rfl)⟩).mono ?_)
 ·clear h ab
  rintro ⟨i6,l7⟩ o s h hR
  obtain ⟨a4,H5,rfl,hH⟩:=hR
  replace hH:HP _ [.arr a4 3 false (List.map ZbJ l7)]:=hH
  have hfa4:=ZaS (HP.get hH 0 rfl)
  replace h:ZdU N a0_ i6 l7=some o:=h
  unfold ZdU at h
  refine sq (rgS ⟨[(4,a4),(10,Zad false a0_),(11,iv ((List.length a0_:Nat):Int)),(12,iv i6),(13,bv (decide (i6<((List.length a0_:Nat):Int))))],[],H5⟩ Zab.f (by cases hfa4<;>kernel_rfl) (tq (sq (it h (λaj h=>?_) (λaj h=>?_)))))
  ·refine sk (tq (kq (sq (bk (sq ?_)))))
   obtain ⟨a0,ad,h⟩:=bs h
   refine rgS ⟨[(4,a4),(5,iv i6),(6,iv a0),(10,Zad false a0_),(11,iv ((List.length a0_:Nat):Int)),(12,iv i6)],[],H5⟩ (Zab.u 1 (Zan (ys:=[Zad false a0_,iv i6]) (h:=Zal eI64 ad)) (Zab.u 0 (Zav (sz:=1) (off:=0) (cs:=[.int .i64 a0]) (r:=iv a0) eI64 ad) Zab.f)) (by cases hfa4<;>kernel_rfl) (tq ?_)
   obtain ⟨ap,ac,h⟩:=bs h
   obtain ⟨ao,al,_,a8,af,a9,a7⟩:=HP.elem (k:=0) (a:=a4) (sz:=3) (frz:=false) ZbJ hH rfl ac
   obtain ⟨ag,ak,hH⟩:=HP.setRow (k:=0) (off:=0) (cs:=[iv a0,iv 0,iv 1]) (ps:=[.int .i64 a0,.int .i64 0,.int .i64 1]) (e':=(ZaL.mk a0 0 1)) ZbJ hH rfl a9 af (a8 rfl) ac kr kr
   replace hH:HP _ [.arr a4 3 false (List.map ZbJ (List.set l7 (Int.toNat i6) (ZaL.mk a0 0 1)))]:=hH
   refine rgS ⟨[(4,a4),(10,Zad false a0_),(11,iv ((List.length a0_:Nat):Int)),(12,iv i6)],[],ag⟩ (Zab.u 4 (Zan (ys:=[a4,iv i6]) (by cases hfa4<;>kernel_rfl) (a7 .i64)) (Zab.o 0 (Zbe (H:=H5) (v:=.agg [iv a0,iv 0,iv 1]) (hw:=ak)) Zab.f)) (by cases hfa4<;>kernel_rfl) (bn (tq (rgS ⟨[(4,a4),(10,Zad false a0_),(11,iv ((List.length a0_:Nat):Int)),(12,iv (w64 (i6+1)))],[],ag⟩ Zab.f (by cases hfa4<;>kernel_rfl) ?_)))
   cases h
   exact ⟨_,rfl,⟨a4,ag,(by show _=_;cases hfa4<;>kernel_rfl),(HP.pick hH [0] rfl)⟩⟩
  refine kq (xq (tx ?_))
  cases h
  exact ⟨_,rfl,rfl,⟨a4,H5,(by show _=_;cases hfa4<;>kernel_rfl),(HP.pick hH [0] rfl)⟩⟩
 rintro e s hq
 obtain ⟨rfl,hR⟩:=hq
 obtain ⟨a2,aa,rfl,hH⟩:=hR
 replace hH:HP _ [.arr a2 3 false (List.map ZbJ a5)]:=hH
 have a3:=ZaS (HP.get hH 0 rfl)
 refine bx (tq (sq ?_))
 obtain ⟨ae,ai,h⟩:=bs h
 obtain ⟨an,am,a6,hH⟩:=HP.frz (k:=0) (a:=a2) (sz:=3) (frz:=false) ZbJ hH rfl
 replace hH:HP _ [.arr a2 3 true (List.map ZbJ a5)]:=hH
 refine rgS ⟨[(2,iv ae.1),(3,iv ae.2)],[],an⟩ (Zab.v 1 (Zi0 (H:=aa) (ys:=[a2]) (by cases a3<;>kernel_rfl) (by cases a3<;>kernel_rfl) (Zfm a6 Zi8) (ZlK N a5 ae ai)) Zab.f) kr ?_
 replace hH:HP _ []:=HP.pick hH [] rfl
 refine tq (rt ?_)
 cases h
 exact ZaA kr
theorem ZhI (N:Nat)(a0_:Zag)(r:Int)(h:Zfs N a0_=some r):Zba Tryz.prog 44 [.agg (Zac a0_)] (iv r):=by
 unfold Zfs at h
 have hH  := hp0
 refine ZaG ZLj rfl rfl (Zay _ _ _ ?_) rfl
 refine sq (rg Zab.f (tq (sq (sq (rgX ⟨[(1,.loc 1 0),(23,bv ((decide (a0_.Nodes<2))||((decide (a0_.Nodes>12))||(((List.length a0_.Station:Nat):Int)!=a0_.Nodes))))],[(1,(Zac a0_))],[]⟩ ?_ ?_)))))
 ·rcases Bool.eq_false_or_eq_true (decide (a0_.Nodes<2)) with hc1|hc2
  ·exact (EP.u 2 (Zam (c:=(decide (a0_.Nodes<2))) (h:=hc1)) (EP.f (by simp only [hc1];kernel_rfl)))
  refine (EP.u 2 (Zam (c:=(decide (a0_.Nodes<2))) (h:=hc2)) ?_)
  rcases Bool.eq_false_or_eq_true (decide (a0_.Nodes>12)) with hc3|hc4
  ·exact (EP.u 3 (Zam (c:=(decide (a0_.Nodes>12))) (h:=hc3)) (EP.f (by simp only [hc2,hc3];kernel_rfl)))
  exact (EP.u 3 (Zam (c:=(decide (a0_.Nodes>12))) (h:=hc4)) (EP.u 4 (Zan (ys:=[s_eB false a0_.Station]) (h:=Zax eB)) (EP.f (by simp only [hc2,hc4];kernel_rfl))))
 refine tq (it h (λhc5 h=>?_) (λhc5 h=>?_))
 ·refine sq (rg Zab.f (tq (rt (tr ?_))))
  cases h
  exact ZaA kr
 refine sk (tq (kq (sq (sq ?_))))
 obtain ⟨j9,hj,h⟩:=bs h
 refine rgR (λs=>s=⟨[(1,.loc 1 0),(32,bv j9)],[(1,(Zac a0_))],[]⟩) ?_ ?_
 ·clear h
  refine (EP.u 2 (Zan (ys:=[Zae false a0_.Links]) (h:=Zax Zat)) ?_)
  rcases ZaC hj with ⟨hc6,hj⟩|⟨hc7,hj⟩
  ·obtain rfl:=Zao hj
   exact (EP.u 0 (Zam (c:=(decide (((List.length a0_.Links:Nat):Int)>24))) (h:=hc6)) (EP.f kr))
  refine (EP.u 0 (Zam (c:=(decide (((List.length a0_.Links:Nat):Int)>24))) (h:=hc7)) ?_)
  obtain ⟨r8,hr8,hj⟩:=bs hj
  obtain rfl:=Zao hj
  exact (EP.v 2 (Zaz (hc:=Zon N a0_ r8 hr8)) (EP.f kr))
 clear hj
 rintro s hR
 obtain rfl:=hR
 refine tq (it h (λbI h=>?_) (λbI h=>?_))
 ·refine sq (rg Zab.f (tq (rt (tr ?_))))
  cases h
  exact ZaA kr
 refine sk (tq (kq (sq ?_)))
 obtain ⟨bV,bG,h⟩:=bs h
 obtain ⟨bw,bL,bJ,bK,be,hH⟩:=HP.make eI64 hH bG
 replace hH:HP _ [.arr bw 1 false (List.map eI64 bV)]:=hH
 have ae:=ZaS (HP.get hH 0 rfl)
 refine rgS ⟨[(1,.loc 1 0),(3,bw)],[(1,(Zac a0_))],bL⟩ (Zab.h 2 (ZjI (H:=[]) (zero:=[.int .i64 0]) (bytes:=8) kr kr kr bJ bK be) Zab.f) (by cases ae<;>kernel_rfl) (tq (sq (sq (rgS ⟨[(1,.loc 1 0),(3,bw),(37,Zae false a0_.Links),(38,iv ((List.length a0_.Links:Nat):Int)),(39,iv 0)],[(1,(Zac a0_))],bL⟩ (Zab.u 2 (Zan (ys:=[Zae false a0_.Links]) (h:=Zax Zat)) Zab.f) (by cases ae<;>kernel_rfl) (tq (bk ?_))))))
 obtain ⟨aj,ay,h⟩:=bs h
 refine ZaT ((ZaI (λ(x:Int×(List Int)) s=>∃ (a6:AV) (aG:List HO),s=⟨[(1,.loc 1 0),(3,a6),(37,Zae false a0_.Links),(38,iv ((List.length a0_.Links:Nat):Int)),(39,iv x.1)],[(1,(Zac a0_))],aG⟩/\HP aG [.arr a6 1 false (List.map eI64 x.2)]) (λx:Int×(List Int)=>Zcw N a0_ x.1 x.2) (λ(p:(List Int)) e s=>e=.exit 0/\(∃ (a3:AV) (a4:List HO),s=⟨[(1,.loc 1 0),(3,a3)],[(1,(Zac a0_))],a4⟩/\HP a4 [.arr a3 1 false (List.map eI64 p)])) ?_ N _ aj _ ay ⟨bw,bL,(by show _=_;cases ae<;>kernel_rfl),(HP.pick hH [0] rfl)⟩).mono ?_)
 ·clear h ay
  rintro ⟨i16,bm⟩ o s h hR
  obtain ⟨a6,aG,rfl,hH⟩:=hR
  replace hH:HP _ [.arr a6 1 false (List.map eI64 bm)]:=hH
  have a1:=ZaS (HP.get hH 0 rfl)
  replace h:Zcw N a0_ i16 bm=some o:=h
  unfold Zcw at h
  refine sq (rgS ⟨[(1,.loc 1 0),(3,a6),(37,Zae false a0_.Links),(38,iv ((List.length a0_.Links:Nat):Int)),(39,iv i16),(40,bv (decide (i16<((List.length a0_.Links:Nat):Int))))],[(1,(Zac a0_))],aG⟩ Zab.f (by cases a1<;>kernel_rfl) (tq (sq (it h (λbd h=>?_) (λbd h=>?_)))))
  ·refine sk (tq (kq (sq (bk (sq ?_)))))
   obtain ⟨a2,aD,h⟩:=bs h
   refine rgS ⟨[(1,.loc 1 0),(3,a6),(5,.loc 5 0),(37,Zae false a0_.Links),(38,iv ((List.length a0_.Links:Nat):Int)),(39,iv i16)],[(1,(Zac a0_)),(5,(Za0 a2))],aG⟩ (Zab.u 0 (Zan (ys:=[Zae false a0_.Links,iv i16]) (h:=Zal Zat aD)) (Zab.u 0 (Zav (sz:=4) (off:=0) (cs:=[.int .i64 a2.A,.int .i64 a2.B,.int .i64 a2.Per,.int .i64 a2.Delay]) (r:=.agg (Za0 a2)) Zat aD) (Zab.f (h:=(by cases a1<;>kernel_rfl))))) (by cases a1<;>kernel_rfl) (tq (sq ?_))
   obtain ⟨a7,aC,h⟩:=bs h
   obtain ⟨bU,bC,_,bt,aQ,bu,ar⟩:=HP.elem (k:=0) (a:=a6) (sz:=1) (frz:=false) eI64 hH rfl aC
   obtain ⟨bX,aB,h⟩:=bs h
   obtain ⟨bT,bB,_,ap,aM,aq,ao⟩:=HP.elem (k:=0) (a:=a6) (sz:=1) (frz:=false) eI64 hH rfl aB
   obtain ⟨aZ,bi,hH⟩:=HP.setRow (k:=0) (off:=0) (cs:=[iv (w64 (a7+1))]) (ps:=[.int .i64 (w64 (a7+1))]) (e':=(w64 (a7+1))) eI64 hH rfl aq aM (ap rfl) aB kr kr
   replace hH:HP _ [.arr a6 1 false (List.map eI64 (List.set bm (Int.toNat a2.A) (w64 (a7+1))))]:=hH
   refine rgS ⟨[(1,.loc 1 0),(3,a6),(5,.loc 5 0),(37,Zae false a0_.Links),(38,iv ((List.length a0_.Links:Nat):Int)),(39,iv i16)],[(1,(Zac a0_)),(5,(Za0 a2))],aZ⟩ (Zab.u 3 (Zan (ys:=[a6,iv a2.A]) (by cases a1<;>kernel_rfl) (ar .i64)) (Zab.u 0 (ZbH (H:=aG) (off:=0) (cs:=[.int .i64 a7]) (r:=iv a7) eI64 aC aQ) (Zab.u 1 (Zan (ys:=[a6,iv a2.A]) (by cases a1<;>kernel_rfl) (ao .i64)) (Zab.o 0 (Zbe (H:=aG) (v:=iv (w64 (a7+1))) (hw:=bi)) Zab.f)))) (by cases a1<;>kernel_rfl) (tq ?_)
   obtain ⟨a9,aA,h⟩:=bs h
   obtain ⟨bS,bA,_,bp,aL,bq,an⟩:=HP.elem (k:=0) (a:=a6) (sz:=1) (frz:=false) eI64 hH rfl aA
   obtain ⟨bW,az,h⟩:=bs h
   obtain ⟨bR,bz,_,al,aK,am,ak⟩:=HP.elem (k:=0) (a:=a6) (sz:=1) (frz:=false) eI64 hH rfl az
   obtain ⟨aY,bf,hH⟩:=HP.setRow (k:=0) (off:=0) (cs:=[iv (w64 (a9+1))]) (ps:=[.int .i64 (w64 (a9+1))]) (e':=(w64 (a9+1))) eI64 hH rfl am aK (al rfl) az kr kr
   replace hH:HP _ [.arr a6 1 false (List.map eI64 (List.set (List.set bm (Int.toNat a2.A) (w64 (a7+1))) (Int.toNat a2.B) (w64 (a9+1))))]:=hH
   refine rgS ⟨[(1,.loc 1 0),(3,a6),(37,Zae false a0_.Links),(38,iv ((List.length a0_.Links:Nat):Int)),(39,iv i16)],[(1,(Zac a0_))],aY⟩ (Zab.u 3 (Zan (ys:=[a6,iv a2.B]) (by cases a1<;>kernel_rfl) (an .i64)) (Zab.u 0 (ZbH (H:=aZ) (off:=0) (cs:=[.int .i64 a9]) (r:=iv a9) eI64 aA aL) (Zab.u 1 (Zan (ys:=[a6,iv a2.B]) (by cases a1<;>kernel_rfl) (ak .i64)) (Zab.o 0 (Zbe (H:=aZ) (v:=iv (w64 (a9+1))) (hw:=bf)) Zab.f)))) (by cases a1<;>kernel_rfl) (bn (tq (rgS ⟨[(1,.loc 1 0),(3,a6),(37,Zae false a0_.Links),(38,iv ((List.length a0_.Links:Nat):Int)),(39,iv (w64 (i16+1)))],[(1,(Zac a0_))],aY⟩ Zab.f (by cases a1<;>kernel_rfl) ?_)))
   cases h
   exact ⟨_,rfl,⟨a6,aY,(by show _=_;cases a1<;>kernel_rfl),(HP.pick hH [0] rfl)⟩⟩
  refine kq (xq (tx ?_))
  cases h
  exact ⟨_,rfl,rfl,⟨a6,aG,(by show _=_;cases a1<;>kernel_rfl),(HP.pick hH [0] rfl)⟩⟩
 rintro e s hq
 obtain ⟨rfl,hR⟩:=hq
 obtain ⟨a3,a4,rfl,hH⟩:=hR
 replace hH:HP _ [.arr a3 1 false (List.map eI64 aj)]:=hH
 have a0:=ZaS (HP.get hH 0 rfl)
 refine bx (tq (sq (sq (rgS ⟨[(1,.loc 1 0),(3,a3),(59,s_eB false a0_.Station),(60,iv ((List.length a0_.Station:Nat):Int)),(61,iv 0)],[(1,(Zac a0_))],a4⟩ (Zab.u 2 (Zan (ys:=[s_eB false a0_.Station]) (h:=Zax eB)) Zab.f) (by cases a0<;>kernel_rfl) (tq (bk ?_))))))
 obtain ⟨ax,ab,h⟩:=bs h
 refine ZaT ((ZaI (λ(x:Int) s=>s=⟨[(1,.loc 1 0),(3,a3),(59,s_eB false a0_.Station),(60,iv ((List.length a0_.Station:Nat):Int)),(61,iv x)],[(1,(Zac a0_))],a4⟩) (λx:Int=>ZdM N a0_ aj x) (λ(p:(Unit)⊕(Int)) e s=>match p with|(.inl p)=>e=.exit 2/\(s=⟨[(1,.loc 1 0)],[(1,(Zac a0_))],a4⟩)|(.inr p)=>e=.ret/\∃ xs,resL s i44.res=some xs/\ZbV xs=iv p) ?_ N _ ax _ ab (by show _=_;cases a0<;>kernel_rfl)).mono ?_)
 ·clear h ab
  rintro a5 o s h hR
  obtain rfl:=hR
  replace h:ZdM N a0_ aj a5=some o:=h
  unfold ZdM at h
  refine sq (rgS ⟨[(1,.loc 1 0),(3,a3),(59,s_eB false a0_.Station),(60,iv ((List.length a0_.Station:Nat):Int)),(61,iv a5),(62,bv (decide (a5<((List.length a0_.Station:Nat):Int))))],[(1,(Zac a0_))],a4⟩ Zab.f (by cases a0<;>kernel_rfl) (tq (sq (it h (λaX h=>?_) (λaX h=>?_)))))
  ·refine sk (tq (kq (sq (bk (sq ?_)))))
   obtain ⟨a8,ai,h⟩:=bs h
   refine rgS ⟨[(1,.loc 1 0),(3,a3),(6,iv a5),(7,bv a8),(59,s_eB false a0_.Station),(60,iv ((List.length a0_.Station:Nat):Int)),(61,iv a5)],[(1,(Zac a0_))],a4⟩ (Zab.u 1 (Zan (ys:=[s_eB false a0_.Station,iv a5]) (h:=Zal eB ai)) (Zab.u 0 (Zav (sz:=1) (off:=0) (cs:=[.bool a8]) (r:=bv a8) eB ai) Zab.f)) (by cases a0<;>kernel_rfl) (tq (sq ?_))
   obtain ⟨b1,hj,h⟩:=bs h
   refine rgR (λs=>s=⟨[(1,.loc 1 0),(3,a3),(59,s_eB false a0_.Station),(60,iv ((List.length a0_.Station:Nat):Int)),(61,iv a5),(80,bv b1)],[(1,(Zac a0_))],a4⟩) ?_ ?_
   ·clear h
    rcases ZaC hj with ⟨aW,hj⟩|⟨aT,hj⟩
    ·refine (EP.u 0 (Zam (c:=a8) (h:=aW)) ?_)
     obtain ⟨aa,ag,hj⟩:=bs hj
     obtain ⟨bE,bl,_,bb,av,bc,ad⟩:=HP.elem (k:=0) (a:=a3) (sz:=1) (frz:=false) eI64 hH rfl ag
     refine (EP.u 3 (Zan (ys:=[a3,iv a5]) (by cases a0<;>kernel_rfl) (ad .i64)) (EP.u 0 (ZbH (H:=a4) (off:=0) (cs:=[.int .i64 aa]) (r:=iv aa) eI64 ag av) ?_))
     rcases ZaC hj with ⟨aV,hj⟩|⟨aU,hj⟩
     ·obtain rfl:=Zao hj
      exact (EP.u 0 (Zam (c:=(decide (aa<1))) (h:=aV)) (EP.f (by show _=_;cases a0<;>kernel_rfl)))
     refine (EP.u 0 (Zam (c:=(decide (aa<1))) (h:=aU)) ?_)
     obtain ⟨aE,af,hj⟩:=bs hj
     obtain ⟨bD,bj,_,b2,au,ba,ac⟩:=HP.elem (k:=0) (a:=a3) (sz:=1) (frz:=false) eI64 hH rfl af
     obtain rfl:=Zao hj
     exact (EP.u 3 (Zan (ys:=[a3,iv a5]) (by cases a0<;>kernel_rfl) (ac .i64)) (EP.u 0 (ZbH (H:=a4) (off:=0) (cs:=[.int .i64 aE]) (r:=iv aE) eI64 af au) (EP.f (by show _=_;cases a0<;>kernel_rfl))))
    obtain rfl:=Zao hj
    exact (EP.u 0 (Zam (c:=a8) (h:=aT)) (EP.f (by show _=_;cases a0<;>kernel_rfl)))
   clear hj
   rintro s hR
   obtain rfl:=hR
   refine tq (it h (λaS h=>?_) (λaS h=>?_))
   ·refine sq (rgS ⟨[(2,iv 260)],[],a4⟩ Zab.f kr ?_)
    replace hH:HP _ []:=HP.pick hH [] rfl
    refine tq (rt (br (tr ?_)))
    cases h
    exact ⟨_,rfl,rfl,ZaA kr⟩
   refine sk (bn (tq (kq (rgS ⟨[(1,.loc 1 0),(3,a3),(59,s_eB false a0_.Station),(60,iv ((List.length a0_.Station:Nat):Int)),(61,iv (w64 (a5+1)))],[(1,(Zac a0_))],a4⟩ Zab.f (by cases a0<;>kernel_rfl) ?_))))
   cases h
   exact ⟨_,rfl,(by show _=_;cases a0<;>kernel_rfl)⟩
  refine kq ?_
  replace hH:HP _ []:=HP.pick hH [] rfl
  refine xq (tx ?_)
  cases h
  exact ⟨_,rfl,rfl,kr⟩
 rintro e s hq
 rcases ax with bQ|bM
 ·dsimp only at h hq
  obtain ⟨rfl,hR⟩:=hq
  obtain rfl:=hR
  replace hH:HP _ []:=HP.pick hH [] rfl
  refine bx (tq (sq (sq ?_)))
  obtain ⟨aw,aJ,h⟩:=bs h
  obtain ⟨b0,aI,h⟩:=bs h
  refine rg (Zab.v 2 (Zaz (hc:=Zop N a0_ 0 (Zc3.mk false false false false false false false false false false false false false false false false false false false false false false false false) aw aJ)) (Zab.v 0 (Zaz (hc:=Zf6 N aw false b0 aI)) Zab.f)) (tq (it h (λaR h=>?_) (λaR h=>?_)))
  ·refine sq (rg Zab.f (tq (rt (tr ?_))))
   cases h
   exact ZaA kr
  refine sk (tq (kq (sq (rg Zab.f (tq (rt ?_))))))
  cases h
  exact ZaA kr
 dsimp only at h hq
 obtain ⟨rfl,hq⟩:=hq
 refine br (tr ?_)
 cases h
 exact hq
theorem Zif (N:Nat)(a0_:Zaw)(a1_:Int)(a2_:Int)(a3_:Int)(a4_:Int)(r:Bool)(h:Zgk N a0_ a1_ a2_ a3_ a4_=some r):Zba Tryz.prog 82 [.agg (Zaj a0_),iv a1_,iv a2_,iv a3_,iv a4_] (bv r):=by
 unfold Zgk at h
 have hH  := hp0
 refine ZaG ZKH rfl rfl (Zay _ _ _ ?_) rfl
 refine sq ?_
 obtain ⟨id1,H2,hid1,hH2,hH⟩:=HP.newCell hH (Zaj a0_)
 replace hH:HP _ [.cel id1 (Zaj a0_)]:=hH
 obtain ⟨id3,H4,hid3,hH4,hH⟩:=HP.newCell hH [iv a2_]
 replace hH:HP _ [.cel id3 [iv a2_],.cel id1 (Zaj a0_)]:=hH
 obtain ⟨id5,H6,hid5,hH6,hH⟩:=HP.newCell hH [iv a4_]
 replace hH:HP _ [.cel id5 [iv a4_],.cel id3 [iv a2_],.cel id1 (Zaj a0_)]:=hH
 obtain ⟨id7,H8,hid7,hH8,hH⟩:=HP.newCell hH [bv false]
 replace hH:HP _ [.cel id7 [bv false],.cel id5 [iv a4_],.cel id3 [iv a2_],.cel id1 (Zaj a0_)]:=hH
 refine rgS ⟨[(1,iv a1_),(3,iv a3_),(5,.ptr id1 0),(7,.ptr id3 0),(9,.ptr id5 0),(10,.ptr id7 0)],[],H8⟩ (Zab.h 0 (Zdn (H:=[]) (v:=.agg (Zaj a0_)) (hid:=hid1) (hH:=hH2)) (Zab.h 0 (Zdn (H:=H2) (v:=iv a2_) (hid:=hid3) (hH:=hH4)) (Zab.h 0 (Zdn (H:=H4) (v:=iv a4_) (hid:=hid5) (hH:=hH6)) (Zab.h 0 (Zir (H:=H6) kr hid7 hH8) Zab.f)))) kr (tq (sq (sq ?_)))
 have hlc9:=HP.get hH 3 rfl
 obtain ⟨a6,ay,h⟩:=bs h
 obtain ⟨a5,a4,a3,a2,ai,am⟩:=ZoE N a0_ a1_ a3_ H8 a6 ay
 replace hH:HP _ [.cel a5 (Zaj a6.1),.cel a4 [iv a6.2.1],.cel a3 [iv a6.2.2],.cel id7 [bv false],.cel id5 [iv a4_],.cel id3 [iv a2_],.cel id1 (Zaj a0_)]:=HP.callee (fp:=[]) (rest:=[.cel id7 [bv false],.cel id5 [iv a4_],.cel id3 [iv a2_],.cel id1 (Zaj a0_)]) hH am
 refine rgS ⟨[(5,.ptr id1 0),(7,.ptr id3 0),(9,.ptr id5 0),(10,.ptr id7 0),(18,.fn 110 [] [.ptr a5 0,.ptr a4 0,.ptr a3 0])],[],a2⟩ (Zab.u 0 (ZaD (H:=H8) (id:=id1) (off:=0) (cs:=(Zaj a0_)) (c:=(Zaj a0_)) (r:=.agg (Zaj a0_)) (hl:=hlc9)) (Zab.v 2 (ZhN (H:=H8) (ys:=[.agg (Zaj a0_),iv a1_,iv a3_]) kr kr kr ai) Zab.f)) kr (tq (bk ?_))
 obtain ⟨a0,an,h⟩:=bs h
 have a9:∀ (x16:ZaB) (x17:ZaB) (s:(Bool)×Nat) (r:((Bool)×Nat)×Bool) (H:List HO) (its:List Za9),(λ(s:(Bool)×Nat) (its:List Za9)=>its=[.cel id7 [bv s.1],.cel id5 [iv a4_],.cel id3 [iv a2_],.cel id1 (Zaj a0_)]++[.lp (List.length a2) (lcOf Tryz.prog i82.nt [19,20] ZgZ ZgX) [(5,.ptr id1 0),(7,.ptr id3 0),(9,.ptr id5 0),(10,.ptr id7 0)] (stAt [.ready,.done .ret] s.2)]) s its->HP H its->(λ(s:(Bool)×Nat) (x16:ZaB) (x17:ZaB)=>Zim (λv:Bool=>ZdZ N a0_ a2_ a4_ v x16 x17) s) s x16 x17=some r->∃ H' its',ZiY Tryz.prog (List.length a2) [.agg (Zbb x16),.agg (Zbb x17)] H r.2 H'/\(λ(s:(Bool)×Nat) (its:List Za9)=>its=[.cel id7 [bv s.1],.cel id5 [iv a4_],.cel id3 [iv a2_],.cel id1 (Zaj a0_)]++[.lp (List.length a2) (lcOf Tryz.prog i82.nt [19,20] ZgZ ZgX) [(5,.ptr id1 0),(7,.ptr id3 0),(9,.ptr id5 0),(10,.ptr id7 0)] (stAt [.ready,.done .ret] s.2)]) r.1 its'/\Fp H H' its its':=by
  clear h
  intro x16 x17 s r ae its hT hH h
  obtain ⟨h0,q,hb,rfl⟩:=Zl7 h
  clear h
  obtain ⟨vs,e⟩:=s
  obtain rfl:e=0:=h0
  obtain ⟨b18,rfl⟩:∃ v,v=vs:=⟨vs,rfl⟩
  obtain rfl:=hT
  replace h:ZdZ N a0_ a2_ a4_ b18 x16 x17=some q:=hb
  clear hb
  unfold ZdZ at h
  replace hH:Fp _ _ _ [.cel id7 [bv b18],.cel id5 [iv a4_],.cel id3 [iv a2_],.cel id1 (Zaj a0_),.lp (List.length a2) (lcOf Tryz.prog i82.nt [19,20] ZgZ ZgX) [(5,.ptr id1 0),(7,.ptr id3 0),(9,.ptr id5 0),(10,.ptr id7 0)] .ready]:=Fp.refl hH
  suffices hs:∃ H',ZiY Tryz.prog (List.length a2) [.agg (Zbb x16),.agg (Zbb x17)] ae (q.2==0) H'/\∃ its',(λ(s:(Bool)×Nat) (its:List Za9)=>its=[.cel id7 [bv s.1],.cel id5 [iv a4_],.cel id3 [iv a2_],.cel id1 (Zaj a0_)]++[.lp (List.length a2) (lcOf Tryz.prog i82.nt [19,20] ZgZ ZgX) [(5,.ptr id1 0),(7,.ptr id3 0),(9,.ptr id5 0),(10,.ptr id7 0)] (stAt [.ready,.done .ret] s.2)]) q its'/\Fp ae H' [.cel id7 [bv b18],.cel id5 [iv a4_],.cel id3 [iv a2_],.cel id1 (Zaj a0_),.lp (List.length a2) (lcOf Tryz.prog i82.nt [19,20] ZgZ ZgX) [(5,.ptr id1 0),(7,.ptr id3 0),(9,.ptr id5 0),(10,.ptr id7 0)] .ready] its' by
   obtain ⟨H',h1,its',h2,h3⟩:=hs
   exact ⟨H',its',h1,h2,h3⟩
  refine Zin (id:=(List.length a2)) (args:=[.agg (Zbb x16),.agg (Zbb x17)]) (H:=ae) (n:=i82.nt) (ps:=[19,20]) (fr0:=[(5,.ptr id1 0),(7,.ptr id3 0),(9,.ptr id5 0),(10,.ptr id7 0)]) (ia:=ZgZ) (ib:=ZgX) (q.2==0) (λH'=>∃ its',(λ(s:(Bool)×Nat) (its:List Za9)=>its=[.cel id7 [bv s.1],.cel id5 [iv a4_],.cel id3 [iv a2_],.cel id1 (Zaj a0_)]++[.lp (List.length a2) (lcOf Tryz.prog i82.nt [19,20] ZgZ ZgX) [(5,.ptr id1 0),(7,.ptr id3 0),(9,.ptr id5 0),(10,.ptr id7 0)] (stAt [.ready,.done .ret] s.2)]) q its'/\Fp ae H' [.cel id7 [bv b18],.cel id5 [iv a4_],.cel id3 [iv a2_],.cel id1 (Zaj a0_),.lp (List.length a2) (lcOf Tryz.prog i82.nt [19,20] ZgZ ZgX) [(5,.ptr id1 0),(7,.ptr id3 0),(9,.ptr id5 0),(10,.ptr id7 0)] .ready] its') (Fp.get hH 4 rfl) rfl (by decide +kernel) rfl ?_
  show vc _ _ _ _ ⟨[(5,.ptr id1 0),(7,.ptr id3 0),(9,.ptr id5 0),(10,.ptr id7 0),(19,.agg (Zbb x16)),(20,.agg (Zbb x17))],[],ae⟩
  refine sq (rgS ⟨[(5,.ptr id1 0),(7,.ptr id3 0),(9,.ptr id5 0),(10,.ptr id7 0),(11,.loc 11 0),(20,.agg (Zbb x17))],[(11,(Zbb x16))],ae⟩ Zab.f kr (tq (rgS ⟨[(5,.ptr id1 0),(7,.ptr id3 0),(9,.ptr id5 0),(10,.ptr id7 0),(11,.loc 11 0),(12,.loc 12 0)],[(11,(Zbb x16)),(12,(Zbb x17))],ae⟩ Zab.f kr (Zm0 (k:=4) hH rfl ?_))))
  intro a1 hH
  replace hH:Fp _ _ _ [.cel id7 [bv b18],.cel id5 [iv a4_],.cel id3 [iv a2_],.cel id1 (Zaj a0_),.lp (List.length a2) (lcOf Tryz.prog i82.nt [19,20] ZgZ ZgX) [(5,.ptr id1 0),(7,.ptr id3 0),(9,.ptr id5 0),(10,.ptr id7 0)] .busy]:=hH
  show vc _ _ _ _ ⟨[(5,.ptr id1 0),(7,.ptr id3 0),(9,.ptr id5 0),(10,.ptr id7 0),(11,.loc 11 0),(12,.loc 12 0)],[(11,(Zbb x16)),(12,(Zbb x17))],a1⟩
  refine bk (sq (sq (rgS ⟨[(5,.ptr id1 0),(7,.ptr id3 0),(9,.ptr id5 0),(10,.ptr id7 0),(11,.loc 11 0),(12,.loc 12 0),(23,bv ((x16.Stream==x17.Stream)&&((x16.Port==x17.Port)&&((x16.From==x17.From)&&((x16.Long==x17.Long)&&true)))))],[(11,(Zbb x16)),(12,(Zbb x17))],a1⟩ Zab.f kr (tq (it h (λar h=>?_) (λar h=>?_))))))
  ·refine sq ?_
   obtain ⟨aA,aw,hH⟩:=Fp.setCell (k:=0) (off:=0) (cs:=[bv b18]) (vs:=[bv true]) (cs':=[bv true]) hH rfl kr
   replace hH:Fp _ _ _ [.cel id7 [bv true],.cel id5 [iv a4_],.cel id3 [iv a2_],.cel id1 (Zaj a0_),.lp (List.length a2) (lcOf Tryz.prog i82.nt [19,20] ZgZ ZgX) [(5,.ptr id1 0),(7,.ptr id3 0),(9,.ptr id5 0),(10,.ptr id7 0)] .busy]:=hH
   refine rgS ⟨[],[],aA⟩ (Zab.o 0 (Zbe (H:=a1) (v:=bv true) (hw:=aw)) Zab.f) kr (tq (rt (tr (br ?_))))
   cases h
   exact rbd (k:=4) (.done .ret) hH rfl rfl (λH6 hH=>⟨_,(Eq.refl _),(Fp.pick hH [0,1,2,3,4] rfl)⟩)
  refine sk (tq (kq (sq ?_)))
  have ad:=Fp.get hH 3 rfl
  have ac:=Fp.get hH 2 rfl
  obtain ⟨ag,al,h⟩:=bs h
  have ab:=Fp.get hH 3 rfl
  have aa:=Fp.get hH 1 rfl
  obtain ⟨af,ak,h⟩:=bs h
  obtain ⟨a8,aj,h⟩:=bs h
  refine rqS ⟨[(10,.ptr id7 0),(13,bv a8.1)],[],a1⟩ (Zab.u 0 (ZaK (ZaD (H:=a1) (id:=id1) (off:=0) (cs:=(Zaj a0_)) (c:=(Zaj a0_)) (r:=.agg (Zaj a0_)) (hl:=ad))) (Zab.u 1 (ZaK (ZaD (H:=a1) (id:=id3) (off:=0) (cs:=[iv a2_]) (c:=[iv a2_]) (r:=iv a2_) (hl:=ac))) (Zab.u 0 (Za1 (hc:=Zie N a0_ x16 a2_ ag al)) (Zab.u 0 (ZaK (ZaD (H:=a1) (id:=id1) (off:=0) (cs:=(Zaj a0_)) (c:=(Zaj a0_)) (r:=.agg (Zaj a0_)) (hl:=ab))) (Zab.u 1 (ZaK (ZaD (H:=a1) (id:=id5) (off:=0) (cs:=[iv a4_]) (c:=[iv a4_]) (r:=iv a4_) (hl:=aa))) (Zab.v 0 (Zaz (hc:=Zie N a0_ x17 a4_ af ak)) (Zab.v 0 (Zaz (hc:=ZlN N ag af a8 aj)) Zab.f))))))) kr (tq (sq (rgS ⟨[(10,.ptr id7 0),(37,bv (!a8.1))],[],a1⟩ Zab.f kr (tq (it h (λaq h=>?_) (λaq h=>?_))))))
  ·refine sq ?_
   obtain ⟨az,av,hH⟩:=Fp.setCell (k:=0) (off:=0) (cs:=[bv b18]) (vs:=[bv true]) (cs':=[bv true]) hH rfl kr
   replace hH:Fp _ _ _ [.cel id7 [bv true],.cel id5 [iv a4_],.cel id3 [iv a2_],.cel id1 (Zaj a0_),.lp (List.length a2) (lcOf Tryz.prog i82.nt [19,20] ZgZ ZgX) [(5,.ptr id1 0),(7,.ptr id3 0),(9,.ptr id5 0),(10,.ptr id7 0)] .busy]:=hH
   refine rgS ⟨[],[],az⟩ (Zab.o 0 (Zbe (H:=a1) (v:=bv true) (hw:=av)) Zab.f) kr (tq (rt (br ?_)))
   cases h
   exact rbd (k:=4) (.done .ret) hH rfl rfl (λH6 hH=>⟨_,(Eq.refl _),(Fp.pick hH [0,1,2,3,4] rfl)⟩)
  refine sk (bn ?_)
  cases h
  exact rbd (k:=4) (.ready) hH rfl rfl (λH6 hH=>⟨_,(Eq.refl _),(Fp.pick hH [0,1,2,3,4] rfl)⟩)
 refine ZjY (s:=⟨[(5,.ptr id1 0),(7,.ptr id3 0),(9,.ptr id5 0),(10,.ptr id7 0),(18,.fn 110 [] [.ptr a5 0,.ptr a4 0,.ptr a3 0])],[],a2⟩) [(5,.ptr id1 0),(7,.ptr id3 0),(9,.ptr id5 0),(10,.ptr id7 0)] (FrOK.cons kr kr (FrOK.cons kr kr (FrOK.cons kr kr (FrOK.cons kr kr FrOK.nil)))) kr (λH=>rfl) (capT:=[.cel a5 (Zaj a6.1),.cel a4 [iv a6.2.1],.cel a3 [iv a6.2.2]]) (cells0:=[.cel id7 [bv false],.cel id5 [iv a4_],.cel id3 [iv a2_],.cel id1 (Zaj a0_)]) (rest:=[]) (HP.now (HP.pick hH [0,1,2,3,4,5,6] rfl)) (λ(s:(Bool)×Nat) (its:List Za9)=>its=[.cel id7 [bv s.1],.cel id5 [iv a4_],.cel id3 [iv a2_],.cel id1 (Zaj a0_)]++[.lp (List.length a2) (lcOf Tryz.prog i82.nt [19,20] ZgZ ZgX) [(5,.ptr id1 0),(7,.ptr id3 0),(9,.ptr id5 0),(10,.ptr id7 0)] (stAt [.ready,.done .ret] s.2)]) (false,0) a0 (by exact (Eq.refl _)) (λH its hT hH=>ZmF N (λ(s:(Bool)×Nat) (x16:ZaB) (x17:ZaB)=>Zim (λv:Bool=>ZdZ N a0_ a2_ a4_ v x16 x17) s) a6.1 a6.2.1 a6.2.2 (false,0) a5 a4 a3 (List.length a2) (λ(s:(Bool)×Nat) (its:List Za9)=>its=[.cel id7 [bv s.1],.cel id5 [iv a4_],.cel id3 [iv a2_],.cel id1 (Zaj a0_)]++[.lp (List.length a2) (lcOf Tryz.prog i82.nt [19,20] ZgZ ZgX) [(5,.ptr id1 0),(7,.ptr id3 0),(9,.ptr id5 0),(10,.ptr id7 0)] (stAt [.ready,.done .ret] s.2)]) a9 H its hT hH a0 an) ?_
 rintro its hT
 obtain rfl:=hT
 refine ⟨_,_,rfl,?_⟩
 intro a7 hF
 replace hH:HP _ [.cel a5 (Zaj a6.1),.cel a4 [iv a6.2.1],.cel a3 [iv a6.2.2],.cel id7 [bv a0.1],.cel id5 [iv a4_],.cel id3 [iv a2_],.cel id1 (Zaj a0_)]:=HP.after (HP.pick hH [0,1,2,3,4,5,6] rfl) hF
 rcases ZaC h with ⟨ap,h⟩|⟨_,h⟩
 ·refine ZoG (S:=⟨[(5,.ptr id1 0),(7,.ptr id3 0),(9,.ptr id5 0),(10,.ptr id7 0),(18,.fn 110 [] [.ptr a5 0,.ptr a4 0,.ptr a3 0])],[],a7⟩) (e:=.normal) ap rfl (bn (tq (kq ?_)))
  replace hH:HP _ [.cel id7 [bv a0.1]]:=HP.pick hH [3] rfl
  refine sq ?_
  obtain ⟨ax,au,hH⟩:=HP.setCell (k:=0) (off:=0) (cs:=[bv a0.1]) (vs:=[bv false]) (cs':=[bv false]) hH rfl kr
  replace hH:HP _ [.cel id7 [bv false]]:=hH
  refine rgS ⟨[(10,.ptr id7 0)],[],ax⟩ (Zab.o 0 (Zbe (H:=a7) (v:=bv false) (hw:=au)) Zab.f) kr (tq (rt ?_))
  obtain rfl:=Zao h
  exact ZeB (H:=ax) (ys:=[bv false]) (xs:=[bv false]) kr (ZqL (r:=.cell 10 1 false) (v:=bv false) (ZqK (id:=id7) (off:=0) (cs:=[bv false]) (c:=[bv false]) kr (HP.get hH 0 rfl) kr kr) ZqM) (Zbs rfl Zci) kr
 rcases ZaC h with ⟨ao,h⟩|⟨_,h⟩
 ·refine ZoG (S:=⟨[(5,.ptr id1 0),(7,.ptr id3 0),(9,.ptr id5 0),(10,.ptr id7 0),(18,.fn 110 [] [.ptr a5 0,.ptr a4 0,.ptr a3 0])],[],a7⟩) (e:=.ret) ao rfl (br (tr ?_))
  obtain rfl:=Zao h
  exact ZeB (H:=a7) (ys:=[bv a0.1]) (xs:=[bv a0.1]) kr (ZqL (r:=.cell 10 1 false) (v:=bv a0.1) (ZqK (id:=id7) (off:=0) (cs:=[bv a0.1]) (c:=[bv a0.1]) kr (HP.get hH 3 rfl) kr kr) ZqM) (Zbs rfl Zci) kr
 cases h
theorem ZlH (N:Nat)(a0_:Za7)(c0_:(List Int))(c1_:(List Int))(k0_:Nat)(k1_:Nat)(H:List HO)(hH:HP H [.cel k0_ [Zad false c0_],.cel k1_ [Zad false c1_]])(r:Bool×Int)(h:Zeq N a0_ c0_ c1_=some r):Zcm Tryz.prog 96 [.agg (Zac a0_.Topo),.ptr k0_ 0,.ptr k1_ 0] H (.tup [bv r.1,iv r.2]) H:=by
 unfold Zeq at h
 refine ZcN ZKt rfl rfl rfl (Zay _ _ _ (sq (rg Zab.f (tq (sq (sq ?_))))))
 have hlc1:=HP.get hH 0 rfl
 obtain ⟨r2,hr2,h⟩:=bs h
 refine rg (Zab.u 1 (ZaD (H:=H) (id:=k0_) (off:=0) (cs:=[Zad false c0_]) (c:=[Zad false c0_]) (r:=Zad false c0_) (hl:=hlc1)) (Zab.v 0 (Zaz (hc:=ZgB N a0_ c0_ r2 hr2)) Zab.f)) (tq (it h (λhc3 h=>?_) (λhc3 h=>?_)))
 ·refine sq (rg Zab.f ?_)
  replace hH:HP _ []:=HP.pick hH [] rfl
  refine tq (rt (tr ?_))
  cases h
  exact Zb8 kr kr
 refine sk (tq (kq (sq ?_)))
 obtain ⟨a9,hj,h⟩:=bs h
 refine rgR (λs=>s=⟨[(4,bv a9),(5,iv 0)],[],H⟩) ?_ ?_
 ·clear h
  have hlc4:=HP.get hH 1 rfl
  refine (EP.u 0 (ZaD (H:=H) (id:=k1_) (off:=0) (cs:=[Zad false c1_]) (c:=[Zad false c1_]) (r:=Zad false c1_) (hl:=hlc4)) ?_)
  have hlc5:=HP.get hH 0 rfl
  refine (EP.u 0 (ZaD (H:=H) (id:=k0_) (off:=0) (cs:=[Zad false c0_]) (c:=[Zad false c0_]) (r:=Zad false c0_) (hl:=hlc5)) ?_)
  obtain ⟨r6,hr6,hj⟩:=bs hj
  refine (EP.v 0 (Zaz (hc:=Zms N c1_ c0_ r6 hr6)) ?_)
  rcases ZaC hj with ⟨hc7,hj⟩|⟨a5,hj⟩
  ·refine (EP.u 0 (Zam (c:=(!r6)) (h:=hc7)) ?_)
   have hlc8:=HP.get hH 1 rfl
   refine (EP.u 2 (ZaD (H:=H) (id:=k1_) (off:=0) (cs:=[Zad false c1_]) (c:=[Zad false c1_]) (r:=Zad false c1_) (hl:=hlc8)) ?_)
   have hlc9:=HP.get hH 0 rfl
   refine (EP.u 0 (ZaD (H:=H) (id:=k0_) (off:=0) (cs:=[Zad false c0_]) (c:=[Zad false c0_]) (r:=Zad false c0_) (hl:=hlc9)) ?_)
   obtain ⟨a2,a4,hj⟩:=bs hj
   refine (EP.v 0 (Zaz (hc:=ZgC N a0_ c1_ c0_ a2 a4)) ?_)
   rcases ZaC hj with ⟨a7,hj⟩|⟨a6,hj⟩
   ·refine (EP.u 0 (Zam (c:=(!a2)) (h:=a7)) ?_)
    have a1:=HP.get hH 0 rfl
    refine (EP.u 3 (ZaD (H:=H) (id:=k0_) (off:=0) (cs:=[Zad false c0_]) (c:=[Zad false c0_]) (r:=Zad false c0_) (hl:=a1)) ?_)
    have a0:=HP.get hH 1 rfl
    refine (EP.u 0 (ZaD (H:=H) (id:=k1_) (off:=0) (cs:=[Zad false c1_]) (c:=[Zad false c1_]) (r:=Zad false c1_) (hl:=a0)) ?_)
    obtain ⟨a8,a3,hj⟩:=bs hj
    obtain rfl:=Zao hj
    exact (EP.v 0 (Zaz (hc:=ZgC N a0_ c0_ c1_ a8 a3)) (EP.f kr))
   obtain rfl:=Zao hj
   exact (EP.u 0 (Zam (c:=(!a2)) (h:=a6)) (EP.f kr))
  obtain rfl:=Zao hj
  exact (EP.u 0 (Zam (c:=(!r6)) (h:=a5)) (EP.f kr))
 clear hj
 rintro s hR
 obtain rfl:=hR
 refine tq (rt ?_)
 cases h
 exact Zb8 kr kr
theorem Zjp (N:Nat)(a0_:Zag)(a1_:(List Int))(r:Int)(h:Zef N a0_ a1_=some r):Zba Tryz.prog 106 [.agg (Zac a0_),Zad false a1_] (iv r):=by
 unfold Zef at h
 have hH  := hp0
 refine ZaG ZyV rfl rfl (Zay _ _ _ ?_) rfl
 refine sq (rg Zab.f (tq (sq (sq ?_))))
 obtain ⟨r1,hr1,h⟩:=bs h
 refine rg (Zab.v 1 (Zaz (hc:=ZhI N a0_ r1 hr1)) Zab.f) (tq (sq (rg Zab.f (tq (it h (λhc2 h=>?_) (λhc2 h=>?_))))))
 ·refine sq (rg Zab.f (tq (rt (tr ?_))))
  cases h
  exact ZaA kr
 refine sk (tq (kq (sq (sq ?_))))
 obtain ⟨r3,hr3,h⟩:=bs h
 refine rg (Zab.v 3 (Zaz (hc:=ZgB N (Za7.mk a0_) a1_ r3 hr3)) Zab.f) (tq (it h (λhc4 h=>?_) (λhc4 h=>?_)))
 ·refine sq (rg Zab.f (tq (rt (tr ?_))))
  cases h
  exact ZaA kr
 refine sk (tq (kq (sq (rg Zab.f (tq (rt ?_))))))
 cases h
 exact ZaA kr
theorem ZkK (N:Nat)(a0_:Zag)(a1_:(List Int))(a2_:Za7->Option ((List Int)×Int))(a2_f:Nat)(a2_p a2_c:List AV)(ha2_n:(noLocL a2_p&&noLocL a2_c)=true)(its:List Za9)(ha2_:∀ (H:List HO) (x0:Za7) (r:(List Int)×Int),HP H its->a2_ x0=some r->Zh7 Tryz.prog (.fn a2_f a2_p a2_c) [.agg [iv x0.Topo.Nodes,s_eB false x0.Topo.Station,Zae false x0.Topo.Links]] H (.tup [Zad false r.1,iv r.2]) H)(H:List HO)(hH:HP H (its))(r:(List Int)×Int)(h:Zd4 N a0_ a1_ a2_=some r):Zcm Tryz.prog 112 [.agg (Zac a0_),Zad false a1_,.fn a2_f a2_p a2_c] H (.tup [Zad false r.1,iv r.2]) H:=by
 unfold Zd4 at h
 refine ZcN ZyP rfl (by simpa [noLocL,Za3.noLocL,Za3] using ha2_n) rfl (Zay _ _ _ (sq (rg Zab.f (tq (sq (rg Zab.f (tq (sq (sq ?_)))))))))
 obtain ⟨r1,hr1,h⟩:=bs h
 refine rg (Zab.v 2 (Zaz (hc:=Zjp N a0_ a1_ r1 hr1)) Zab.f) (tq (sq (rg Zab.f (tq (it h (λhc2 h=>?_) (λhc2 h=>?_))))))
 ·refine sq (rg Zab.f (tq (rt (tr ?_))))
  cases h
  exact Zb8 kr kr
 refine sk (tq (kq (sq ?_)))
 obtain ⟨r3,hr3,h⟩:=bs h
 have hvr3:=ha2_ _ (Za7.mk a0_) _ hH hr3
 refine rg (Zab.v 3 (Zd9 (H:=H) (ys:=[.agg (Zac a0_)]) (hc:=hvr3)) Zab.f) (tq (rt ?_))
 cases h
 exact Zb8 kr kr
theorem ZlQ (N:Nat)(a0_:Zag)(a1_:(List ZbN))(r:(List Zah))(h:Zfc N a0_ a1_=some r):Zba Tryz.prog 6 [.agg (Zac a0_),ZbL false a1_] (Zaf false r):=by
 unfold Zfc at h
 have hH  := hp0
 refine ZaG chk6 rfl rfl (Zay _ _ _ ?_) rfl
 refine sq (rg Zab.f (tq (sq (rg Zab.f (tq (sq (sq (rg Zab.f (tq (bk ?_))))))))))
 obtain ⟨a9,aa,h⟩:=bs h
 refine ZaT ((ZaI (λ(x:Int×(List Zah)) s=>∃ (a1:AV) (H2:List HO),s=⟨[(1,ZbL false a1_),(2,.loc 2 0),(5,a1),(6,iv x.1)],[(2,(Zac a0_))],H2⟩/\HP H2 [.arr a1 10 false (List.map Zar x.2)]) (λx:Int×(List Zah)=>Zdc N a0_ a1_ x.1 x.2) (λ(p:(List Zah)) e s=>e=.exit 0/\(∃ (a8:AV) (ae:List HO),s=⟨[(5,a8)],[],ae⟩/\HP ae [.arr a8 10 false (List.map Zar p)])) ?_ N _ a9 _ aa ⟨(.p (.sl 10 true [])),[],kr,(HP.pick (HP.nilArr hH 10 false) [0] rfl)⟩).mono ?_)
 ·clear h aa
  rintro ⟨i3,l4⟩ o s h hR
  obtain ⟨a1,H2,rfl,hH⟩:=hR
  replace hH:HP _ [.arr a1 10 false (List.map Zar l4)]:=hH
  have hfa1:=ZaS (HP.get hH 0 rfl)
  replace h:Zdc N a0_ a1_ i3 l4=some o:=h
  unfold Zdc at h
  refine sq (sq ?_)
  obtain ⟨au,hj,h⟩:=bs h
  refine rgR (λs=>s=⟨[(1,ZbL false a1_),(2,.loc 2 0),(5,a1),(6,iv i3),(17,bv au)],[(2,(Zac a0_))],H2⟩) ?_ ?_
  ·clear h
   refine (EP.u 2 (Zan (ys:=[ZbL false a1_]) (h:=Zax Zfn)) ?_)
   rcases ZaC hj with ⟨ar,hj⟩|⟨aq,hj⟩
   ·refine (EP.u 0 (Zam (c:=(decide (i3<((List.length a1_:Nat):Int)))) (h:=ar)) ?_)
    have ak:=HP.len (k:=0) (a:=a1) (sz:=10) (frz:=false) (l:=l4) Zar hH rfl
    obtain rfl:=Zao hj
    exact (EP.u 2 (Zan (ys:=[a1]) (by cases hfa1<;>kernel_rfl) ak) (EP.f (by show _=_;cases hfa1<;>kernel_rfl)))
   obtain rfl:=Zao hj
   exact (EP.u 0 (Zam (c:=(decide (i3<((List.length a1_:Nat):Int)))) (h:=aq)) (EP.f (by show _=_;cases hfa1<;>kernel_rfl)))
  clear hj
  rintro s hR
  obtain rfl:=hR
  refine tq (it h (λap h=>?_) (λap h=>?_))
  ·refine sk (tq (kq ?_))
   obtain ⟨ag,ab,h⟩:=bs h
   refine ZcD [1,2,5,6] (λs=>∃ (a3:AV) (a4:List HO),s=⟨[(1,ZbL false a1_),(2,.loc 2 0),(5,a3),(6,iv i3)],[(2,(Zac a0_))],a4⟩/\HP a4 [.arr a3 10 false (List.map Zar ag)]) ?_ ?_
   ·clear h
    have h:=ab
    refine bk (sq ?_)
    obtain ⟨a0,ac,h⟩:=bs h
    have af:=HP.len (k:=0) (a:=a1) (sz:=10) (frz:=false) (l:=l4) Zar hH rfl
    obtain ⟨a2,aj,h⟩:=bs h
    refine rqS (hs:=(by cases hfa1<;>kernel_rfl)) ⟨[(1,ZbL false a1_),(2,.loc 2 0),(5,a1),(6,iv i3),(7,.loc 7 0),(8,bv a2.2)],[(2,(Zac a0_)),(7,(Zai a2.1))],H2⟩ (Zab.u 2 (Zan (ys:=[ZbL false a1_,iv i3]) (h:=Zal Zfn ac)) (Zab.u 0 (ZaK (Zav (sz:=8) (off:=0) (cs:=[.bool a0.Reserved,.bool a0.Two,.int .u8 a0.Node,.int .u8 a0.Way,.int .u8 a0.Size,.int .u8 a0.Period,.int .u8 a0.Burst,.int .u16 a0.Rate]) (r:=.agg (ZaP a0)) Zfn ac)) (Zab.u 2 (Zan (ys:=[a1]) (by cases hfa1<;>kernel_rfl) af) (Zab.u 1 (Za1 (hc:=ZiD N a0 a0_ (w64 (((List.length l4:Nat):Int)+1)) a2 aj)) (Zab.f (h:=(by cases hfa1<;>kernel_rfl))))))) (by cases hfa1<;>kernel_rfl) (tq (sq (rgS ⟨[(1,ZbL false a1_),(2,.loc 2 0),(5,a1),(6,iv i3),(7,.loc 7 0),(32,bv a2.2)],[(2,(Zac a0_)),(7,(Zai a2.1))],H2⟩ Zab.f (by cases hfa1<;>kernel_rfl) (tq (it h (λam h=>?_) (λam h=>?_))))))
    ·obtain ⟨ao,al,h⟩:=bs h
     obtain ⟨ad,ai,an,hH⟩:=HP.app (k:=0) (a:=a1) (sz:=10) (frz:=false) Zar hH rfl al
     replace hH:HP _ [.arr ad 10 false (List.map Zar ao)]:=hH
     have a6:=ZaS (HP.get hH 0 rfl)
     refine rgS ⟨[(1,ZbL false a1_),(2,.loc 2 0),(5,ad),(6,iv i3)],[(2,(Zac a0_))],ai⟩ (Zab.h 3 (Ze9 (H:=H2) (a:=a1) (b:=Zaf true [a2.1]) (by cases hfa1<;>kernel_rfl) (by cases hfa1<;>kernel_rfl) (by cases hfa1<;>kernel_rfl) (by cases hfa1<;>kernel_rfl) an) Zab.f) (by cases hfa1<;>cases a6<;>kernel_rfl) (bn ?_)
     cases h
     exact ⟨rfl,⟨ad,ai,(by show _=_;cases a6<;>kernel_rfl),(HP.pick hH [0] rfl)⟩⟩
    refine sk (bn ?_)
    cases h
    exact ⟨rfl,⟨a1,H2,(by show _=_;cases hfa1<;>kernel_rfl),(HP.pick hH [0] rfl)⟩⟩
   clear ab
   rintro s hR
   obtain ⟨a3,a4,rfl,hH⟩:=hR
   replace hH:HP _ [.arr a3 10 false (List.map Zar ag)]:=hH
   have a7:=ZaS (HP.get hH 0 rfl)
   refine rgS ⟨[(1,ZbL false a1_),(2,.loc 2 0),(5,a3),(6,iv (w64 (i3+1)))],[(2,(Zac a0_))],a4⟩ Zab.f (by cases a7<;>kernel_rfl) ?_
   cases h
   exact ⟨_,rfl,⟨a3,a4,(by show _=_;cases a7<;>kernel_rfl),(HP.pick hH [0] rfl)⟩⟩
  refine kq (xq (tx ?_))
  cases h
  exact ⟨_,rfl,rfl,⟨a1,H2,(by show _=_;cases hfa1<;>kernel_rfl),(HP.pick hH [0] rfl)⟩⟩
 rintro e s hq
 obtain ⟨rfl,hR⟩:=hq
 obtain ⟨a8,ae,rfl,hH⟩:=hR
 replace hH:HP _ [.arr a8 10 false (List.map Zar a9)]:=hH
 have a5:=ZaS (HP.get hH 0 rfl)
 refine bx (tq (sq (rgS ⟨[(4,a8)],[],ae⟩ Zab.f (by cases a5<;>kernel_rfl) (tq (rt ?_)))))
 obtain rfl:=Zao h
 exact ZeB (H:=ae) (ys:=[a8]) (xs:=[.p (.sl 10 false (List.map Zar a9))]) (by cases a5<;>kernel_rfl) (by cases a5<;>kernel_rfl) (Zbs (HP.pure (k:=0) (frz:=false) Zar hH rfl).2 Zci) kr
end Go.Sh

