/- Part of the proof; written by a program out of the texts in wip/. -/
import Derived.Test.YthipedbbcjemhaaPlanMovesOk1
namespace Go.Sh
open Go Go.Eng Go.Proofs
set_option linter.unusedVariables false
set_option linter.unusedSimpArgs false
set_option maxRecDepth 100000
set_option maxHeartbeats 4000000
attribute [local irreducible] vc ev ZcT opsD opsF ZeZ upd updH updO
theorem Zb0 (N:Nat) (a0_:ZM) (a1_:(List Int)) (r:(List Int)) (h:Zbh N a0_ a1_=some r):Zab Try.prog 99 [.agg (Zc a0_.Topo),Zg false a1_] (Zg false r):=by
 unfold Zbh at h
 have hH:HP ([]:List HO) []:=trivial
 refine ZF chk99 rfl rfl (Zr _ _ _ ?_) rfl
 refine sq (rgS ⟨[(1,Zg false a1_),(2,.loc 2 0)],[(2,(Zc a0_.Topo))],[]⟩ Za.f (by kernel_rfl) ?_)
 refine tq (sq ?_)
 obtain ⟨l3,hl3,h⟩:=bs h
 obtain ⟨a1,H2,ha1,hH2,ha1b,hH⟩:=HP.make eI64 hH hl3
 replace hH:HP H2 [.arr a1 1 false (List.map eI64 l3)]:=hH
 have hfa1:=ZA (HP.get hH 0 rfl)
 obtain ⟨id4,H5,hid4,hH5,hH⟩:=HP.newCell hH [Zg true []]
 replace hH:HP H5 [.cel id4 [Zg true []],.arr a1 1 false (List.map eI64 l3)]:=hH
 obtain ⟨H6,hH6,hH⟩:=HP.setCell (k:=0) (off:=0) (cs:=[Zg true []]) (vs:=[a1]) (cs':=[a1]) hH rfl (by kernel_rfl)
 replace hH:HP H6 [.cel id4 [a1],.arr a1 1 false (List.map eI64 l3)]:=hH
 refine rgS ⟨[(1,Zg false a1_),(2,.loc 2 0),(5,.ptr id4 0)],[(2,(Zc a0_.Topo))],H6⟩ (Za.u 1 (Zo (ys:=[Zg false a1_]) (h:=Zt eI64)) (Za.h 1 (ZhG (H:=[]) (zero:=[.int .i64 0]) (bytes:=8) (by kernel_rfl) (by kernel_rfl) (by kernel_rfl) ha1 hH2 ha1b) (Za.h 0 (ZeG (H:=H2) (by kernel_rfl) hid4 hH5) (Za.o 0 (ZdS (H:=H5) (v:=a1) (cs:=[a1]) (by rcases hfa1 with ha1e | ⟨_,_,ha1e⟩<;>subst ha1e<;>kernel_rfl) (by rcases hfa1 with ha1e | ⟨_,_,ha1e⟩<;>subst ha1e<;>kernel_rfl) (by rcases hfa1 with ha1e | ⟨_,_,ha1e⟩<;>subst ha1e<;>kernel_rfl) (by rcases hfa1 with ha1e | ⟨_,_,ha1e⟩<;>subst ha1e<;>kernel_rfl) (by rcases hfa1 with ha1e | ⟨_,_,ha1e⟩<;>subst ha1e<;>kernel_rfl) hH6) Za.f)))) (by kernel_rfl) ?_
 refine tq (sq ?_)
 refine sq ?_
 obtain ⟨r7,hr7,h⟩:=bs h
 obtain ⟨id9,id10,H8,hvr7,hpr7⟩:=Zdu N a0_ a1_ H6 r7 hr7
 replace hH:HP H8 [.cel id9 [Zg false r7.1],.cel id10 (Zc r7.2.Topo),.cel id4 [a1],.arr a1 1 false (List.map eI64 l3)]:=HP.callee (fp:=[]) (rest:=[.cel id4 [a1],.arr a1 1 false (List.map eI64 l3)]) hH hpr7
 refine rgS ⟨[(5,.ptr id4 0),(14,.fn 103 [] [.ptr id9 0,.ptr id10 0])],[],H8⟩ (Za.v 2 (Zea (H:=H6) (ys:=[.agg (Zc a0_.Topo),Zg false a1_]) (by kernel_rfl) (by kernel_rfl) (by kernel_rfl) hvr7) Za.f) (by kernel_rfl) ?_
 refine tq (bk ?_)
 obtain ⟨o1030,ho1030,h⟩:=bs h
 have hyo1030:∀ (x13:Int) (x14:Zau) (s:(List Int)) (r:((List Int)) × Bool) (H:List HO) (its:List ZR),(fun (s:(List Int)) (its:List ZR)=>∃ (a11:AV),its=[.arr a11 1 false (List.map eI64 s),.cel id4 [a11]]++[.lp (List.length H8) (lcOf Try.prog i99.nt [15,16] Za6 Za5) [(5,.ptr id4 0)] .ready]) s its→HP H its→(fun (s:(List Int)) (x13:Int) (x14:Zau)=>Zey (fun v:(List Int)=>ZaK N v x13 x14) s) s x13 x14=some r→∃ H' its',Ze3 Try.prog (List.length H8) [iv x13,.agg (ZT x14)] H r.2 H'∧(fun (s:(List Int)) (its:List ZR)=>∃ (a11:AV),its=[.arr a11 1 false (List.map eI64 s),.cel id4 [a11]]++[.lp (List.length H8) (lcOf Try.prog i99.nt [15,16] Za6 Za5) [(5,.ptr id4 0)] .ready]) r.1 its'∧Fp H H' its its':=by
  clear h
  intro x13 x14 s r H12 its hT hH h
  obtain ⟨q,hb,rfl⟩:=Zfy h
  clear h
  obtain ⟨vs,rfl⟩:∃ v,v=s:=⟨s,rfl⟩
  obtain ⟨l15,rfl⟩:∃ v,v=vs:=⟨vs,rfl⟩
  obtain ⟨a11,rfl⟩:=hT
  replace h:ZaK N l15 x13 x14=some q:=hb
  clear hb
  unfold ZaK at h
  replace hH:Fp H12 H12 [.arr a11 1 false (List.map eI64 l15),.cel id4 [a11],.lp (List.length H8) (lcOf Try.prog i99.nt [15,16] Za6 Za5) [(5,.ptr id4 0)] .ready] [.arr a11 1 false (List.map eI64 l15),.cel id4 [a11],.lp (List.length H8) (lcOf Try.prog i99.nt [15,16] Za6 Za5) [(5,.ptr id4 0)] .ready]:=Fp.refl hH
  have hfa11:=ZA (Fp.get hH 0 rfl)
  suffices hs:∃ H',Ze3 Try.prog (List.length H8) [iv x13,.agg (ZT x14)] H12 true H'∧∃ its',(fun (s:(List Int)) (its:List ZR)=>∃ (a11:AV),its=[.arr a11 1 false (List.map eI64 s),.cel id4 [a11]]++[.lp (List.length H8) (lcOf Try.prog i99.nt [15,16] Za6 Za5) [(5,.ptr id4 0)] .ready]) q its'∧Fp H12 H' [.arr a11 1 false (List.map eI64 l15),.cel id4 [a11],.lp (List.length H8) (lcOf Try.prog i99.nt [15,16] Za6 Za5) [(5,.ptr id4 0)] .ready] its' by
   obtain ⟨H',h1,its',h2,h3⟩:=hs
   exact ⟨H',its',h1,h2,h3⟩
  refine Zez (id:=(List.length H8)) (args:=[iv x13,.agg (ZT x14)]) (H:=H12) (n:=i99.nt) (ps:=[15,16]) (fr0:=[(5,.ptr id4 0)]) (ia:=Za6) (ib:=Za5) true (fun H'=>∃ its',(fun (s:(List Int)) (its:List ZR)=>∃ (a11:AV),its=[.arr a11 1 false (List.map eI64 s),.cel id4 [a11]]++[.lp (List.length H8) (lcOf Try.prog i99.nt [15,16] Za6 Za5) [(5,.ptr id4 0)] .ready]) q its'∧Fp H12 H' [.arr a11 1 false (List.map eI64 l15),.cel id4 [a11],.lp (List.length H8) (lcOf Try.prog i99.nt [15,16] Za6 Za5) [(5,.ptr id4 0)] .ready] its') (Fp.get hH 2 rfl) rfl (by decide +kernel) rfl ?_
  show vc _ _ _ _ ⟨[(5,.ptr id4 0),(15,iv x13),(16,.agg (ZT x14))],[],H12⟩
  refine sq (rgS ⟨[(5,.ptr id4 0),(6,iv x13),(16,.agg (ZT x14))],[],H12⟩ Za.f (by kernel_rfl) ?_)
  refine tq (rgS ⟨[(5,.ptr id4 0),(6,iv x13),(7,.loc 7 0)],[(7,(ZT x14))],H12⟩ Za.f (by kernel_rfl) ?_)
  refine Zib (k:=2) hH rfl ?_
  intro H515 hH
  replace hH:Fp H12 H515 [.arr a11 1 false (List.map eI64 l15),.cel id4 [a11],.lp (List.length H8) (lcOf Try.prog i99.nt [15,16] Za6 Za5) [(5,.ptr id4 0)] .ready] [.arr a11 1 false (List.map eI64 l15),.cel id4 [a11],.lp (List.length H8) (lcOf Try.prog i99.nt [15,16] Za6 Za5) [(5,.ptr id4 0)] .busy]:=hH
  show vc _ _ _ _ ⟨[(5,.ptr id4 0),(6,iv x13),(7,.loc 7 0)],[(7,(ZT x14))],H515⟩
  refine bk ?_
  obtain ⟨j1018,hj1018,h⟩:=bs h
  refine Zd5 [5,7] (fun s=>∃ (a1016:AV) (H1017:List HO),s=⟨[(5,.ptr id4 0),(7,.loc 7 0)],[(7,(ZT x14))],H1017⟩∧Fp H12 H1017 [.arr a11 1 false (List.map eI64 l15),.cel id4 [a11],.lp (List.length H8) (lcOf Try.prog i99.nt [15,16] Za6 Za5) [(5,.ptr id4 0)] .ready] [.arr a1016 1 false (List.map eI64 j1018),.cel id4 [a1016],.lp (List.length H8) (lcOf Try.prog i99.nt [15,16] Za6 Za5) [(5,.ptr id4 0)] .busy]) ?_ ?_
  ·clear h
   have h:=hj1018
   refine sq (rgS ⟨[(5,.ptr id4 0),(7,.loc 7 0),(18,bv (x13==0))],[(7,(ZT x14))],H515⟩ Za.f (by kernel_rfl) ?_)
   refine tq (it h (fun hc1019 h => ?_) (fun hc1019 h => ?_))
   ·have hlc1020:=Fp.get hH 1 rfl
    obtain ⟨l1023,hl1023,h⟩:=bs h
    obtain ⟨a1021,H1022,ha1021,hH⟩:=Fp.app (k:=0) (a:=a11) (sz:=1) (frz:=false) eI64 hH rfl hl1023
    replace hH:Fp H12 H1022 [.arr a11 1 false (List.map eI64 l15),.cel id4 [a11],.lp (List.length H8) (lcOf Try.prog i99.nt [15,16] Za6 Za5) [(5,.ptr id4 0)] .ready] [.arr a1021 1 false (List.map eI64 l1023),.cel id4 [a11],.lp (List.length H8) (lcOf Try.prog i99.nt [15,16] Za6 Za5) [(5,.ptr id4 0)] .busy]:=hH
    have hfa1021:=ZA (Fp.get hH 0 rfl)
    obtain ⟨H1024,hH1024,hH⟩:=Fp.setCell (k:=1) (off:=0) (cs:=[a11]) (vs:=[a1021]) (cs':=[a1021]) hH rfl (by kernel_rfl)
    replace hH:Fp H12 H1024 [.arr a11 1 false (List.map eI64 l15),.cel id4 [a11],.lp (List.length H8) (lcOf Try.prog i99.nt [15,16] Za6 Za5) [(5,.ptr id4 0)] .ready] [.arr a1021 1 false (List.map eI64 l1023),.cel id4 [a1021],.lp (List.length H8) (lcOf Try.prog i99.nt [15,16] Za6 Za5) [(5,.ptr id4 0)] .busy]:=hH
    refine rgS ⟨[(5,.ptr id4 0),(7,.loc 7 0)],[(7,(ZT x14))],H1024⟩ (Za.u 0 (Zn (H:=H515) (id:=id4) (off:=0) (cs:=[a11]) (c:=[a11]) (r:=a11) (by rcases hfa11 with ha11e | ⟨_,_,ha11e⟩<;>subst ha11e<;>kernel_rfl) (by rcases hfa11 with ha11e | ⟨_,_,ha11e⟩<;>subst ha11e<;>kernel_rfl) hlc1020 (by rcases hfa11 with ha11e | ⟨_,_,ha11e⟩<;>subst ha11e<;>kernel_rfl) (by rcases hfa11 with ha11e | ⟨_,_,ha11e⟩<;>subst ha11e<;>kernel_rfl) (by rcases hfa11 with ha11e | ⟨_,_,ha11e⟩<;>subst ha11e<;>kernel_rfl)) (Za.h 3 (Zfq (H:=H515) (a:=a11) (b:=Zg true [x14.from_]) (by rcases hfa11 with ha11e | ⟨_,_,ha11e⟩<;>subst ha11e<;>kernel_rfl) (by rcases hfa11 with ha11e | ⟨_,_,ha11e⟩<;>subst ha11e<;>kernel_rfl) (by rcases hfa11 with ha11e | ⟨_,_,ha11e⟩<;>subst ha11e<;>kernel_rfl) (by rcases hfa11 with ha11e | ⟨_,_,ha11e⟩<;>subst ha11e<;>kernel_rfl) ha1021) (Za.o 0 (ZdS (H:=H1022) (v:=a1021) (cs:=[a1021]) (by rcases hfa1021 with ha1021e | ⟨_,_,ha1021e⟩<;>subst ha1021e<;>kernel_rfl) (by rcases hfa1021 with ha1021e | ⟨_,_,ha1021e⟩<;>subst ha1021e<;>kernel_rfl) (by rcases hfa1021 with ha1021e | ⟨_,_,ha1021e⟩<;>subst ha1021e<;>kernel_rfl) (by rcases hfa1021 with ha1021e | ⟨_,_,ha1021e⟩<;>subst ha1021e<;>kernel_rfl) (by rcases hfa1021 with ha1021e | ⟨_,_,ha1021e⟩<;>subst ha1021e<;>kernel_rfl) hH1024) Za.f))) (by kernel_rfl) ?_
    obtain rfl:=Zb h
    exact ⟨rfl,⟨a1021,H1024,(by show _=_;kernel_rfl),(Fp.pick hH [0,1,2] rfl)⟩⟩
   refine sk ?_
   obtain rfl:=Zb h
   exact ⟨rfl,⟨a11,H515,(by show _=_;kernel_rfl),(Fp.pick hH [0,1,2] rfl)⟩⟩
  clear hj1018
  rintro s hR
  obtain ⟨a1016,H1017,rfl,hH⟩:=hR
  replace hH:Fp H12 H1017 [.arr a11 1 false (List.map eI64 l15),.cel id4 [a11],.lp (List.length H8) (lcOf Try.prog i99.nt [15,16] Za6 Za5) [(5,.ptr id4 0)] .ready] [.arr a1016 1 false (List.map eI64 j1018),.cel id4 [a1016],.lp (List.length H8) (lcOf Try.prog i99.nt [15,16] Za6 Za5) [(5,.ptr id4 0)] .busy]:=hH
  have hfa1016:=ZA (Fp.get hH 0 rfl)
  have hlc1025:=Fp.get hH 1 rfl
  obtain ⟨l1028,hl1028,h⟩:=bs h
  obtain ⟨a1026,H1027,ha1026,hH⟩:=Fp.app (k:=0) (a:=a1016) (sz:=1) (frz:=false) eI64 hH rfl hl1028
  replace hH:Fp H12 H1027 [.arr a11 1 false (List.map eI64 l15),.cel id4 [a11],.lp (List.length H8) (lcOf Try.prog i99.nt [15,16] Za6 Za5) [(5,.ptr id4 0)] .ready] [.arr a1026 1 false (List.map eI64 l1028),.cel id4 [a1016],.lp (List.length H8) (lcOf Try.prog i99.nt [15,16] Za6 Za5) [(5,.ptr id4 0)] .busy]:=hH
  have hfa1026:=ZA (Fp.get hH 0 rfl)
  obtain ⟨H1029,hH1029,hH⟩:=Fp.setCell (k:=1) (off:=0) (cs:=[a1016]) (vs:=[a1026]) (cs':=[a1026]) hH rfl (by kernel_rfl)
  replace hH:Fp H12 H1029 [.arr a11 1 false (List.map eI64 l15),.cel id4 [a11],.lp (List.length H8) (lcOf Try.prog i99.nt [15,16] Za6 Za5) [(5,.ptr id4 0)] .ready] [.arr a1026 1 false (List.map eI64 l1028),.cel id4 [a1026],.lp (List.length H8) (lcOf Try.prog i99.nt [15,16] Za6 Za5) [(5,.ptr id4 0)] .busy]:=hH
  refine rgS ⟨[],[],H1029⟩ (Za.u 0 (Zn (H:=H1017) (id:=id4) (off:=0) (cs:=[a1016]) (c:=[a1016]) (r:=a1016) (by rcases hfa1016 with ha1016e | ⟨_,_,ha1016e⟩<;>subst ha1016e<;>kernel_rfl) (by rcases hfa1016 with ha1016e | ⟨_,_,ha1016e⟩<;>subst ha1016e<;>kernel_rfl) hlc1025 (by rcases hfa1016 with ha1016e | ⟨_,_,ha1016e⟩<;>subst ha1016e<;>kernel_rfl) (by rcases hfa1016 with ha1016e | ⟨_,_,ha1016e⟩<;>subst ha1016e<;>kernel_rfl) (by rcases hfa1016 with ha1016e | ⟨_,_,ha1016e⟩<;>subst ha1016e<;>kernel_rfl)) (Za.h 3 (Zfq (H:=H1017) (a:=a1016) (b:=Zg true [x14.to_]) (by rcases hfa1016 with ha1016e | ⟨_,_,ha1016e⟩<;>subst ha1016e<;>kernel_rfl) (by rcases hfa1016 with ha1016e | ⟨_,_,ha1016e⟩<;>subst ha1016e<;>kernel_rfl) (by rcases hfa1016 with ha1016e | ⟨_,_,ha1016e⟩<;>subst ha1016e<;>kernel_rfl) (by rcases hfa1016 with ha1016e | ⟨_,_,ha1016e⟩<;>subst ha1016e<;>kernel_rfl) ha1026) (Za.o 0 (ZdS (H:=H1027) (v:=a1026) (cs:=[a1026]) (by rcases hfa1026 with ha1026e | ⟨_,_,ha1026e⟩<;>subst ha1026e<;>kernel_rfl) (by rcases hfa1026 with ha1026e | ⟨_,_,ha1026e⟩<;>subst ha1026e<;>kernel_rfl) (by rcases hfa1026 with ha1026e | ⟨_,_,ha1026e⟩<;>subst ha1026e<;>kernel_rfl) (by rcases hfa1026 with ha1026e | ⟨_,_,ha1026e⟩<;>subst ha1026e<;>kernel_rfl) (by rcases hfa1026 with ha1026e | ⟨_,_,ha1026e⟩<;>subst ha1026e<;>kernel_rfl) hH1029) Za.f))) (by kernel_rfl) ?_
  refine bn ?_
  obtain rfl:=Zb h
  exact rbd (k:=2) (.ready) hH rfl rfl (fun H6 hH=>⟨_,⟨a1026,Eq.refl _⟩,(Fp.pick hH [0,1,2] rfl)⟩)
 refine ZfS (s:=⟨[(5,.ptr id4 0),(14,.fn 103 [] [.ptr id9 0,.ptr id10 0])],[],H8⟩) [(5,.ptr id4 0)] (FrOK.cons (by kernel_rfl) (by kernel_rfl) FrOK.nil) (by kernel_rfl) (fun H=>rfl) (capT:=[.cel id9 [Zg false r7.1],.cel id10 (Zc r7.2.Topo)]) (cells0:=[.arr a1 1 false (List.map eI64 l3),.cel id4 [a1]]) (rest:=[]) (HP.now (HP.pick hH [0,1,3,2] rfl)) (fun (s:(List Int)) (its:List ZR)=>∃ (a11:AV),its=[.arr a11 1 false (List.map eI64 s),.cel id4 [a11]]++[.lp (List.length H8) (lcOf Try.prog i99.nt [15,16] Za6 Za5) [(5,.ptr id4 0)] .ready]) l3 o1030 (by exact ⟨a1,Eq.refl _⟩) (fun H its hT hH=>ZcX N (fun (s:(List Int)) (x13:Int) (x14:Zau)=>Zey (fun v:(List Int)=>ZaK N v x13 x14) s) r7.1 r7.2 l3 id9 id10 (List.length H8) (fun (s:(List Int)) (its:List ZR)=>∃ (a11:AV),its=[.arr a11 1 false (List.map eI64 s),.cel id4 [a11]]++[.lp (List.length H8) (lcOf Try.prog i99.nt [15,16] Za6 Za5) [(5,.ptr id4 0)] .ready]) hyo1030 H its hT hH o1030 ho1030) ?_
 rintro its hT
 obtain ⟨a11,rfl⟩:=hT
 refine ⟨_,_,rfl,?_⟩
 intro H1031 hF
 replace hH:HP H1031 [.cel id9 [Zg false r7.1],.cel id10 (Zc r7.2.Topo),.arr a11 1 false (List.map eI64 o1030),.cel id4 [a11]]:=HP.after (HP.pick hH [0,1,3,2] rfl) hF
 have hfa11:=ZA (HP.get hH 2 rfl)
 refine Zgx (S:=⟨[(5,.ptr id4 0),(14,.fn 103 [] [.ptr id9 0,.ptr id10 0])],[],H1031⟩) ?_
 refine bn (tq ?_)
 refine kq ?_
 replace hH:HP H1031 [.arr a11 1 false (List.map eI64 o1030),.cel id4 [a11]]:=HP.pick hH [2,3] rfl
 refine sq ?_
 have hlc1032:=HP.get hH 1 rfl
 refine rgS ⟨[(4,a11)],[],H1031⟩ (Za.u 0 (Zn (H:=H1031) (id:=id4) (off:=0) (cs:=[a11]) (c:=[a11]) (r:=a11) (by rcases hfa11 with ha11e | ⟨_,_,ha11e⟩<;>subst ha11e<;>kernel_rfl) (by rcases hfa11 with ha11e | ⟨_,_,ha11e⟩<;>subst ha11e<;>kernel_rfl) hlc1032 (by rcases hfa11 with ha11e | ⟨_,_,ha11e⟩<;>subst ha11e<;>kernel_rfl) (by rcases hfa11 with ha11e | ⟨_,_,ha11e⟩<;>subst ha11e<;>kernel_rfl) (by rcases hfa11 with ha11e | ⟨_,_,ha11e⟩<;>subst ha11e<;>kernel_rfl)) Za.f) (by rcases hfa11 with ha11e | ⟨_,_,ha11e⟩<;>subst ha11e<;>kernel_rfl) ?_
 replace hH:HP H1031 [.arr a11 1 false (List.map eI64 o1030)]:=HP.pick hH [0] rfl
 refine tq (rt ?_)
 obtain rfl:=Zb h
 exact ZeM (H:=H1031) (ys:=[a11]) (xs:=[.p (.sl 1 false (List.map eI64 o1030))]) (by rcases hfa11 with ha11e | ⟨_,_,ha11e⟩<;>subst ha11e<;>kernel_rfl) (by rcases hfa11 with ha11e | ⟨_,_,ha11e⟩<;>subst ha11e<;>kernel_rfl) (ZaS (HP.pure (k:=0) (frz:=false) eI64 hH rfl).2 Zb2) (by kernel_rfl)
theorem Zdh (N:Nat) (a0_:(List Int)) (a1_:Int) (r:Bool) (h:ZaY N a0_ a1_=some r):Zab Try.prog 100 [Zg false a0_,iv a1_] (bv r):=by
 unfold ZaY at h
 have hH:HP ([]:List HO) []:=trivial
 refine ZF chk100 rfl rfl (Zr _ _ _ ?_) rfl
 refine sq (rg Za.f ?_)
 refine tq (sq ?_)
 obtain ⟨r1,hr1,h⟩:=bs h
 refine rg (Za.v 2 (Zu (hc:=ZdU N a0_ a1_ r1 hr1)) Za.f) (tq ?_)
 refine rt ?_
 obtain rfl:=Zb h
 exact Zx (by kernel_rfl)
theorem Zg9 (N:Nat) (a0_:ZM) (c0_:(List Int)) (k0_:Nat) (H:List HO) (hH:HP H [.cel k0_ [Zg false c0_]]) (r:(List Int) × Int) (h:Zc8 N a0_ c0_=some r):Zas Try.prog 102 [.agg (Zc a0_.Topo),.ptr k0_ 0] H (.tup [Zg false r.1,iv r.2]) H:=by
 unfold Zc8 at h
 refine ZaF chk102 rfl rfl rfl (Zr _ _ _ ?_)
 refine sq (rg Za.f ?_)
 refine tq (sq ?_)
 have hlc1:=HP.get hH 0 rfl
 obtain ⟨r2,hr2,h⟩:=bs h
 refine rg (Za.u 1 (Zn (H:=H) (id:=k0_) (off:=0) (cs:=[Zg false c0_]) (c:=[Zg false c0_]) (r:=Zg false c0_) (hl:=hlc1)) (Za.v 0 (Zu (hc:=Zb0 N a0_ c0_ r2 hr2)) Za.f)) ?_
 replace hH:HP H []:=HP.pick hH [] rfl
 refine tq (rt ?_)
 obtain rfl:=Zb h
 exact Zai (by kernel_rfl) (by kernel_rfl)
theorem Zhe (N:Nat) (a0_:(List Zs)) (r:Int × Int) (h:Zce N a0_=some r):Zab Try.prog 48 [Z7 false a0_] (.tup [iv r.1,iv r.2]):=by
 unfold Zce at h
 have hH:HP ([]:List HO) []:=trivial
 refine ZF chk48 rfl rfl (Zr _ _ _ ?_) rfl
 refine sq (rg Za.f ?_)
 refine tq (sq ?_)
 refine sq ?_
 obtain ⟨r1,hr1,h⟩:=bs h
 refine rg (Za.v 1 (Zu (hc:=ZfG N a0_ r1 hr1)) Za.f) (tq ?_)
 refine sq (rg Za.f ?_)
 refine tq (it h (fun hc2 h => ?_) (fun hc2 h => ?_))
 ·refine sq (rg Za.f ?_)
  refine tq (rt ?_)
  refine tr ?_
  obtain rfl:=Zb h
  exact Zx (by kernel_rfl)
 refine sk (tq ?_)
 refine kq (sq ?_)
 obtain ⟨l5,hl5,h⟩:=bs h
 obtain ⟨a3,H4,ha3,hH4,ha3b,hH⟩:=HP.make eI64 hH hl5
 replace hH:HP H4 [.arr a3 1 false (List.map eI64 l5)]:=hH
 have hfa3:=ZA (HP.get hH 0 rfl)
 refine rgS ⟨[(0,Z7 false a0_),(5,a3)],[],H4⟩ (Za.u 1 (Zo (ys:=[Z7 false a0_]) (h:=Zt Zaa)) (Za.h 0 (ZhG (H:=[]) (zero:=[.int .i64 0]) (bytes:=8) (by kernel_rfl) (by kernel_rfl) (by kernel_rfl) ha3 hH4 ha3b) Za.f)) (by rcases hfa3 with ha3e | ⟨_,_,ha3e⟩<;>subst ha3e<;>kernel_rfl) ?_
 refine tq (sq ?_)
 refine sq (rgS ⟨[(5,a3),(17,Z7 false a0_),(18,iv ((List.length a0_:Nat):Int)),(19,iv 0)],[],H4⟩ (Za.u 1 (Zo (ys:=[Z7 false a0_]) (h:=Zt Zaa)) Za.f) (by rcases hfa3 with ha3e | ⟨_,_,ha3e⟩<;>subst ha3e<;>kernel_rfl) ?_)
 refine tq (bk ?_)
 obtain ⟨o518,ho518,h⟩:=bs h
 refine ZX ((ZO (fun (x:Int × (List Int)) s=>∃ (a6:AV) (H7:List HO),s=⟨[(5,a6),(17,Z7 false a0_),(18,iv ((List.length a0_:Nat):Int)),(19,iv x.1)],[],H7⟩∧HP H7 [.arr a6 1 false (List.map eI64 x.2)]) (fun x:Int × (List Int)=>ZaB N a0_ x.1 x.2) (fun (p:(List Int)) e s=>e = .exit 0∧(∃ (a510:AV) (H511:List HO),s=⟨[(5,a510)],[],H511⟩∧HP H511 [.arr a510 1 false (List.map eI64 p)])) ?_ N _ o518 _ ho518 ⟨a3,H4,(by show _=_;rcases hfa3 with ha3e | ⟨_,_,ha3e⟩<;>subst ha3e<;>kernel_rfl),(HP.pick hH [0] rfl)⟩).mono ?_)
 ·clear h ho518
  rintro ⟨i8,l9⟩ o s h hR
  obtain ⟨a6,H7,rfl,hH⟩:=hR
  replace hH:HP H7 [.arr a6 1 false (List.map eI64 l9)]:=hH
  have hfa6:=ZA (HP.get hH 0 rfl)
  replace h:ZaB N a0_ i8 l9=some o:=h
  unfold ZaB at h
  refine sq (rgS ⟨[(5,a6),(17,Z7 false a0_),(18,iv ((List.length a0_:Nat):Int)),(19,iv i8),(20,bv (decide (i8<((List.length a0_:Nat):Int))))],[],H7⟩ Za.f (by rcases hfa6 with ha6e | ⟨_,_,ha6e⟩<;>subst ha6e<;>kernel_rfl) ?_)
  refine tq (sq ?_)
  refine it h (fun hc512 h => ?_) (fun hc512 h => ?_)
  ·refine sk (tq ?_)
   refine kq (sq ?_)
   refine bk (sq ?_)
   obtain ⟨e513,he513,h⟩:=bs h
   refine rgS ⟨[(5,a6),(6,iv i8),(7,.loc 7 0),(17,Z7 false a0_),(18,iv ((List.length a0_:Nat):Int)),(19,iv i8)],[(7,(Za2 e513))],H7⟩ (Za.u 1 (Zo (ys:=[Z7 false a0_,iv i8]) (h:=Zm Zaa he513)) (Za.u 0 (ZD (sz:=3) (off:=0) (cs:=[.int .i64 e513.Period,.int .i64 e513.From,.int .i64 e513.Long]) (r:=.agg (Za2 e513)) Zaa he513) (Za.f (h:=(by rcases hfa6 with ha6e | ⟨_,_,ha6e⟩<;>subst ha6e<;>kernel_rfl))))) (by rcases hfa6 with ha6e | ⟨_,_,ha6e⟩<;>subst ha6e<;>kernel_rfl) ?_
   refine tq ?_
   obtain ⟨e514,he514,h⟩:=bs h
   obtain ⟨id515,ver516,_,hid515f,hid515,hid515a,hid515v⟩:=HP.elem (k:=0) (a:=a6) (sz:=1) (frz:=false) eI64 hH rfl he514
   obtain ⟨H517,hH517,hH⟩:=HP.setRow (k:=0) (off:=0) (cs:=[iv e513.Period]) (ps:=[.int .i64 e513.Period]) (e':=e513.Period) eI64 hH rfl hid515a hid515 (hid515f rfl) he514 (by kernel_rfl) (by kernel_rfl)
   replace hH:HP H517 [.arr a6 1 false (List.map eI64 (List.set l9 (Int.toNat i8) e513.Period))]:=hH
   refine rgS ⟨[(5,a6),(17,Z7 false a0_),(18,iv ((List.length a0_:Nat):Int)),(19,iv i8)],[],H517⟩ (Za.u 4 (Zo (ys:=[a6,iv i8]) (by rcases hfa6 with ha6e | ⟨_,_,ha6e⟩<;>subst ha6e<;>kernel_rfl) (hid515v .i64)) (Za.o 0 (Z9 (H:=H7) (v:=iv e513.Period) (hw:=hH517)) Za.f)) (by rcases hfa6 with ha6e | ⟨_,_,ha6e⟩<;>subst ha6e<;>kernel_rfl) ?_
   refine bn (tq ?_)
   refine rgS ⟨[(5,a6),(17,Z7 false a0_),(18,iv ((List.length a0_:Nat):Int)),(19,iv (w64 (i8+1)))],[],H517⟩ Za.f (by rcases hfa6 with ha6e | ⟨_,_,ha6e⟩<;>subst ha6e<;>kernel_rfl) ?_
   obtain rfl:=Zb h
   exact ⟨_,rfl,⟨a6,H517,(by show _=_;rcases hfa6 with ha6e | ⟨_,_,ha6e⟩<;>subst ha6e<;>kernel_rfl),(HP.pick hH [0] rfl)⟩⟩
  refine kq (xq ?_)
  refine tx ?_
  obtain rfl:=Zb h
  exact ⟨_,rfl,rfl,⟨a6,H7,(by show _=_;rcases hfa6 with ha6e | ⟨_,_,ha6e⟩<;>subst ha6e<;>kernel_rfl),(HP.pick hH [0] rfl)⟩⟩
 rintro e s hq
 obtain ⟨rfl,hR⟩:=hq
 obtain ⟨a510,H511,rfl,hH⟩:=hR
 replace hH:HP H511 [.arr a510 1 false (List.map eI64 o518)]:=hH
 have hfa510:=ZA (HP.get hH 0 rfl)
 refine bx (tq ?_)
 refine sq ?_
 obtain ⟨r519,hr519,h⟩:=bs h
 obtain ⟨H520,hzH520,hzH520v,hH⟩:=HP.frz (k:=0) (a:=a510) (sz:=1) (frz:=false) eI64 hH rfl
 replace hH:HP H520 [.arr a510 1 true (List.map eI64 o518)]:=hH
 refine rgS ⟨[(8,iv r519)],[],H520⟩ (Za.v 1 (Zhk (H:=H511) (ys:=[iv 960,a510]) (by rcases hfa510 with ha510e | ⟨_,_,ha510e⟩<;>subst ha510e<;>kernel_rfl) (by rcases hfa510 with ha510e | ⟨_,_,ha510e⟩<;>subst ha510e<;>kernel_rfl) (Zd1 rfl (Zd1 hzH520v Zhq)) (ZhO N 960 o518 r519 hr519)) Za.f) (by kernel_rfl) ?_
 replace hH:HP H520 []:=HP.pick hH [] rfl
 refine tq (sq ?_)
 refine sq (rg Za.f ?_)
 refine tq (it h (fun hc521 h => ?_) (fun hc521 h => ?_))
 ·refine sq (rg Za.f ?_)
  refine tq (rt ?_)
  refine tr ?_
  obtain rfl:=Zb h
  exact Zx (by kernel_rfl)
 refine sk (tq ?_)
 refine kq (sq ?_)
 refine rg Za.f (tq ?_)
 refine rt ?_
 obtain rfl:=Zb h
 exact Zx (by kernel_rfl)
theorem Zhc (N:Nat) (a0_:Zs) (a1_:Zs) (r:Bool) (h:Zcd N a0_ a1_=some r):Zab Try.prog 57 [.agg (Za2 a0_),.agg (Za2 a1_)] (bv r):=by
 unfold Zcd at h
 have hH:HP ([]:List HO) []:=trivial
 refine ZF chk57 rfl rfl (Zr _ _ _ ?_) rfl
 refine sq (rg Za.f ?_)
 refine tq (sq ?_)
 refine sq (rg Za.f ?_)
 refine tq (it h (fun hc1 h => ?_) (fun hc1 h => ?_))
 ·refine sq (rg Za.f ?_)
  refine tq (rt ?_)
  refine tr ?_
  obtain rfl:=Zb h
  exact Zx (by kernel_rfl)
 refine sk (tq ?_)
 refine kq (sq ?_)
 obtain ⟨r2,hr2,h⟩:=bs h
 refine rg (Za.v 2 (Zu (hc:=ZhM N a0_ a1_ r2 hr2)) Za.f) (tq ?_)
 refine sq ?_
 obtain ⟨r3,hr3,h⟩:=bs h
 refine rg (Za.v 6 (Zu (hc:=Ziy N (w64 (a1_.From - a0_.From)) r2.2.2 r3 hr3)) Za.f) (tq ?_)
 refine sq (rgX ⟨[(4,bv ((decide (r2.1≤r3))&&(decide (r3≤r2.2.1))))],[],[]⟩ ?_ ?_)
 ·rcases Bool.eq_false_or_eq_true (decide (r2.1≤r3)) with hc4 | hc5
  ·exact (EP.u 2 (Zj (c:=(decide (r2.1≤r3))) (h:=hc4)) (EP.f (by simp only [hc4];kernel_rfl)))
  exact (EP.u 2 (Zj (c:=(decide (r2.1≤r3))) (h:=hc5)) (EP.f (by simp only [hc5];kernel_rfl)))
 refine tq (rt ?_)
 obtain rfl:=Zb h
 exact Zx (by kernel_rfl)
theorem Zi4 (N:Nat) (a0_:Zv) (r:Bool) (h:Zgd N a0_=some r):Zab Try.prog 62 [.agg (Zc a0_)] (bv r):=by
 unfold Zgd at h
 have hH:HP ([]:List HO) []:=trivial
 refine ZF chk62 rfl rfl (Zr _ _ _ ?_) rfl
 refine sq ?_
 obtain ⟨id1,H2,hid1,hH2,hH⟩:=HP.newCell hH (Zc a0_)
 replace hH:HP H2 [.cel id1 (Zc a0_)]:=hH
 refine rg (Za.h 0 (ZaQ (H:=[]) (v:=.agg (Zc a0_)) (hid:=hid1) (hH:=hH2)) Za.f) (tq ?_)
 refine sq (rg Za.f ?_)
 refine tq (sq ?_)
 refine sq ?_
 have hlc3:=HP.get hH 0 rfl
 refine rg (Za.u 1 (Zn (H:=H2) (id:=id1) (off:=2) (cs:=(Zc a0_)) (c:=[Zk false a0_.Links]) (r:=Zk false a0_.Links) (hl:=hlc3)) (Za.u 0 (Zo (ys:=[Zk false a0_.Links]) (h:=Zt ZN)) Za.f)) (tq ?_)
 refine bk ?_
 obtain ⟨o514,ho514,h⟩:=bs h
 refine ZX ((ZO (fun (x:Int) s=>s=⟨[(3,.loc 3 0),(14,iv ((List.length a0_.Links:Nat):Int)),(15,iv x)],[(3,[.fn 82 [] [.ptr id1 0],.fn 84 [] [.ptr id1 0],.fn 85 [] [.ptr id1 0],.fn 86 [] [.ptr id1 0]])],H2⟩) (fun x:Int=>Zc2 N a0_ x) (fun (p:(Unit) ⊕ (Bool)) e s=>match p with | (.inl p)=>e = .exit 0∧(s=⟨[],[],H2⟩) | (.inr p)=>e = .ret∧∃ xs,resL s i62.res=some xs∧ZaD xs=bv p) ?_ N _ o514 _ ho514 (by show _=_;kernel_rfl)).mono ?_)
 ·clear h ho514
  rintro i4 o s h hR
  obtain rfl:=hR
  replace h:Zc2 N a0_ i4=some o:=h
  unfold Zc2 at h
  refine sq (rg Za.f ?_)
  refine tq (sq ?_)
  refine it h (fun hc505 h => ?_) (fun hc505 h => ?_)
  ·refine sk (tq ?_)
   refine kq (sq ?_)
   refine bk (sq ?_)
   refine rg Za.f (tq ?_)
   refine sq (rg Za.f ?_)
   refine tq (bk ?_)
   refine ZjH 18 ?_
   refine Zbn ?_
   refine sq (rg Za.f ?_)
   refine tq (sq ?_)
   refine ZcL (by kernel_rfl) ?_
   refine sk (tq ?_)
   refine kq (sq ?_)
   refine bk (sq ?_)
   refine rg Za.f (tq ?_)
   refine sq ?_
   obtain ⟨r506,hr506,h⟩:=bs h
   have hvr506:=(ZhB N i4 a0_ id1 H2 (HP.now (HP.pick hH [0] rfl)) r506 hr506)
   refine rg (Za.v 2 (Zbq (H:=H2) (fv:=.fn 82 [] [.ptr id1 0]) (ys:=[iv i4]) (hc:=Zek.of (by kernel_rfl) hvr506)) Za.f) (tq ?_)
   refine it h (fun hc507 h => ?_) (fun hc507 h => ?_)
   ·refine sq (rg Za.f ?_)
    replace hH:HP H2 []:=HP.pick hH [] rfl
    refine tq (rt ?_)
    refine br (tr ?_)
    refine tr (br ?_)
    refine br (tr ?_)
    obtain rfl:=Zb h
    exact ⟨_,rfl,rfl,Zx (by kernel_rfl)⟩
   refine sk (bn ?_)
   refine tq (kq ?_)
   refine rg Za.f (tq ?_)
   refine Zbn ?_
   refine sq (rg Za.f ?_)
   refine tq (sq ?_)
   refine ZcL (by kernel_rfl) ?_
   refine sk (tq ?_)
   refine kq (sq ?_)
   refine bk (sq ?_)
   refine rg Za.f (tq ?_)
   refine sq ?_
   obtain ⟨r508,hr508,h⟩:=bs h
   have hvr508:=(ZhA N i4 a0_ id1 H2 (HP.now (HP.pick hH [0] rfl)) r508 hr508)
   refine rg (Za.v 2 (Zbq (H:=H2) (fv:=.fn 84 [] [.ptr id1 0]) (ys:=[iv i4]) (hc:=Zek.of (by kernel_rfl) hvr508)) Za.f) (tq ?_)
   refine it h (fun hc509 h => ?_) (fun hc509 h => ?_)
   ·refine sq (rg Za.f ?_)
    replace hH:HP H2 []:=HP.pick hH [] rfl
    refine tq (rt ?_)
    refine br (tr ?_)
    refine tr (br ?_)
    refine br (tr ?_)
    obtain rfl:=Zb h
    exact ⟨_,rfl,rfl,Zx (by kernel_rfl)⟩
   refine sk (bn ?_)
   refine tq (kq ?_)
   refine rg Za.f (tq ?_)
   refine Zbn ?_
   refine sq (rg Za.f ?_)
   refine tq (sq ?_)
   refine ZcL (by kernel_rfl) ?_
   refine sk (tq ?_)
   refine kq (sq ?_)
   refine bk (sq ?_)
   refine rg Za.f (tq ?_)
   refine sq ?_
   obtain ⟨r510,hr510,h⟩:=bs h
   have hvr510:=(Zhz N i4 a0_ id1 H2 (HP.now (HP.pick hH [0] rfl)) r510 hr510)
   refine rg (Za.v 2 (Zbq (H:=H2) (fv:=.fn 85 [] [.ptr id1 0]) (ys:=[iv i4]) (hc:=Zek.of (by kernel_rfl) hvr510)) Za.f) (tq ?_)
   refine it h (fun hc511 h => ?_) (fun hc511 h => ?_)
   ·refine sq (rg Za.f ?_)
    replace hH:HP H2 []:=HP.pick hH [] rfl
    refine tq (rt ?_)
    refine br (tr ?_)
    refine tr (br ?_)
    refine br (tr ?_)
    obtain rfl:=Zb h
    exact ⟨_,rfl,rfl,Zx (by kernel_rfl)⟩
   refine sk (bn ?_)
   refine tq (kq ?_)
   refine rg Za.f (tq ?_)
   refine Zbn ?_
   refine sq (rg Za.f ?_)
   refine tq (sq ?_)
   refine ZcL (by kernel_rfl) ?_
   refine sk (tq ?_)
   refine kq (sq ?_)
   refine bk (sq ?_)
   refine rg Za.f (tq ?_)
   refine sq ?_
   obtain ⟨r512,hr512,h⟩:=bs h
   have hvr512:=(Zhy N i4 a0_ id1 H2 (HP.now (HP.pick hH [0] rfl)) r512 hr512)
   refine rg (Za.v 2 (Zbq (H:=H2) (fv:=.fn 86 [] [.ptr id1 0]) (ys:=[iv i4]) (hc:=Zek.of (by kernel_rfl) hvr512)) Za.f) (tq ?_)
   refine it h (fun hc513 h => ?_) (fun hc513 h => ?_)
   ·refine sq (rg Za.f ?_)
    replace hH:HP H2 []:=HP.pick hH [] rfl
    refine tq (rt ?_)
    refine br (tr ?_)
    refine tr (br ?_)
    refine br (tr ?_)
    obtain rfl:=Zb h
    exact ⟨_,rfl,rfl,Zx (by kernel_rfl)⟩
   refine sk (bn ?_)
   refine tq (kq ?_)
   refine rg Za.f (tq ?_)
   refine Zbn ?_
   refine sq (rg Za.f ?_)
   refine tq (sq ?_)
   refine Zk0 (by kernel_rfl) ?_
   refine kq (xq ?_)
   refine tx (tx ?_)
   refine bx (bn ?_)
   refine tq (rg Za.f ?_)
   obtain rfl:=Zb h
   exact ⟨_,rfl,(by show _=_;kernel_rfl)⟩
  refine kq ?_
  replace hH:HP H2 []:=HP.pick hH [] rfl
  refine xq (tx ?_)
  obtain rfl:=Zb h
  exact ⟨_,rfl,rfl,(by show _=_;kernel_rfl)⟩
 rintro e s hq
 rcases o514 with p515 | p516
 ·dsimp only at h hq
  obtain ⟨rfl,hR⟩:=hq
  obtain rfl:=hR
  replace hH:HP H2 []:=HP.pick hH [] rfl
  refine bx (tq ?_)
  refine sq (rg Za.f ?_)
  refine tq (rt ?_)
  obtain rfl:=Zb h
  exact Zx (by kernel_rfl)
 dsimp only at h hq
 obtain ⟨rfl,hq⟩:=hq
 refine br (tr ?_)
 obtain rfl:=Zb h
 exact hq
theorem Zgi (N:Nat) (c0_:Zw) (k0_:Nat) (H:List HO) (hH:HP H [.cel k0_ (Zf c0_)]) (r:Bool) (h:ZdG N c0_=some r):Zas Try.prog 70 [.ptr k0_ 0] H (bv r) H:=by
 unfold ZdG at h
 refine ZaF chk70 rfl rfl rfl (Zr _ _ _ ?_)
 refine sq (rg Za.f ?_)
 refine tq (sq ?_)
 refine sq ?_
 have hlc1:=HP.get hH 0 rfl
 refine rg (Za.u 1 (Zn (H:=H) (id:=k0_) (off:=3) (cs:=(Zf c0_)) (c:=[iv c0_.Class]) (r:=iv c0_.Class) (hl:=hlc1)) Za.f) (tq ?_)
 refine bk (sq ?_)
 refine rg Za.f (tq ?_)
 refine it h (fun hc2 h => ?_) (fun hc2 h => ?_)
 ·refine sq ?_
  obtain ⟨j8,hj,h⟩:=bs h
  refine rgR (fun s=>s=⟨[(1,bv j8)],[],H⟩) ?_ ?_
  ·clear h
   have hlc3:=HP.get hH 0 rfl
   refine (EP.u 1 (Zn (H:=H) (id:=k0_) (off:=5) (cs:=(Zf c0_)) (c:=[iv c0_.Period]) (r:=iv c0_.Period) (hl:=hlc3)) ?_)
   obtain ⟨r4,hr4,hj⟩:=bs hj
   rcases ZH hj with ⟨hc5,hj⟩ | ⟨hc7,hj⟩
   ·refine (EP.h 0 (Zap (by kernel_rfl) (ZU N c0_.Period 1 240 r4 hr4) hc5) ?_)
    have hlc6:=HP.get hH 0 rfl
    obtain rfl:=Zb hj
    exact (EP.u 2 (Zn (H:=H) (id:=k0_) (off:=6) (cs:=(Zf c0_)) (c:=(ZcI c0_.Bucket)) (r:=.agg (ZcI c0_.Bucket)) (hl:=hlc6)) (EP.f (by show _=_;kernel_rfl)))
   obtain rfl:=Zb hj
   exact (EP.h 0 (Zap (by kernel_rfl) (ZU N c0_.Period 1 240 r4 hr4) hc7) (EP.f (by show _=_;kernel_rfl)))
  clear hj
  rintro s hR
  obtain rfl:=hR
  refine tq (rt ?_)
  refine br (tr ?_)
  obtain rfl:=Zb h
  exact Zai (by kernel_rfl) (by kernel_rfl)
 refine sq (rg Za.f ?_)
 refine tq (it h (fun hc9 h => ?_) (fun hc9 h => ?_))
 ·refine sq ?_
  obtain ⟨j19,hj,h⟩:=bs h
  refine rgR (fun s=>s=⟨[(1,bv j19)],[],H⟩) ?_ ?_
  ·clear h
   have hlc10:=HP.get hH 0 rfl
   refine (EP.u 1 (Zn (H:=H) (id:=k0_) (off:=5) (cs:=(Zf c0_)) (c:=[iv c0_.Period]) (r:=iv c0_.Period) (hl:=hlc10)) ?_)
   rcases ZH hj with ⟨hc11,hj⟩ | ⟨hc18,hj⟩
   ·refine (EP.u 0 (Zj (c:=(c0_.Period==0)) (h:=hc11)) ?_)
    have hlc12:=HP.get hH 0 rfl
    refine (EP.u 2 (Zn (H:=H) (id:=k0_) (off:=6) (cs:=(Zf c0_)) (c:=(ZcI c0_.Bucket)) (r:=.agg (ZcI c0_.Bucket)) (hl:=hlc12)) ?_)
    obtain ⟨r13,hr13,hj⟩:=bs hj
    refine (EP.v 0 (Zu (hc:=Zim N c0_.Bucket r13 hr13)) ?_)
    rcases ZH hj with ⟨hc14,hj⟩ | ⟨hc17,hj⟩
    ·refine (EP.u 0 (Zj (c:=(r13==0)) (h:=hc14)) ?_)
     have hlc15:=HP.get hH 0 rfl
     refine (EP.u 4 (Zn (H:=H) (id:=k0_) (off:=6) (cs:=(Zf c0_)) (c:=[iv c0_.Bucket.Burst]) (r:=iv c0_.Bucket.Burst) (hl:=hlc15)) ?_)
     have hlc16:=HP.get hH 0 rfl
     obtain rfl:=Zb hj
     exact (EP.u 1 (Zn (H:=H) (id:=k0_) (off:=4) (cs:=(Zf c0_)) (c:=[iv c0_.Size]) (r:=iv c0_.Size) (hl:=hlc16)) (EP.f (by show _=_;kernel_rfl)))
    obtain rfl:=Zb hj
    exact (EP.u 0 (Zj (c:=(r13==0)) (h:=hc17)) (EP.f (by show _=_;kernel_rfl)))
   obtain rfl:=Zb hj
   exact (EP.u 0 (Zj (c:=(c0_.Period==0)) (h:=hc18)) (EP.f (by show _=_;kernel_rfl)))
  clear hj
  rintro s hR
  obtain rfl:=hR
  refine tq (rt ?_)
  refine br (tr ?_)
  obtain rfl:=Zb h
  exact Zai (by kernel_rfl) (by kernel_rfl)
 refine sk (bn ?_)
 refine tq (kq ?_)
 replace hH:HP H []:=HP.pick hH [] rfl
 refine sq (rg Za.f ?_)
 refine tq (rt ?_)
 obtain rfl:=Zb h
 exact Zai (by kernel_rfl) (by kernel_rfl)
theorem Zdj (N:Nat) (a0_:ZM) (a1_:(List Int)) (a2_:(List Int)) (r:Bool) (h:ZbX N a0_ a1_ a2_=some r):Zab Try.prog 94 [.agg (Zc a0_.Topo),Zg false a1_,Zg false a2_] (bv r):=by
 unfold ZbX at h
 have hH:HP ([]:List HO) []:=trivial
 refine ZF chk94 rfl rfl (Zr _ _ _ ?_) rfl
 refine sq (rg Za.f ?_)
 refine tq (sq ?_)
 obtain ⟨r1,hr1,h⟩:=bs h
 refine rg (Za.v 2 (Zu (hc:=Zb0 N a0_ a1_ r1 hr1)) Za.f) (tq ?_)
 refine sq (rg (Za.u 1 (Zo (ys:=[Zg false r1]) (h:=Zt eI64)) Za.f) ?_)
 refine tq (sq ?_)
 obtain ⟨r2,hr2,h⟩:=bs h
 refine rg (Za.v 2 (Zu (hc:=Zb0 N a0_ a2_ r2 hr2)) Za.f) (tq ?_)
 refine sq (sq ?_)
 obtain ⟨l3,hl3,h⟩:=bs h
 refine rg (Za.u 3 (Zo (ys:=[Zg false r1,iv 1,iv (w64 (((List.length r1:Nat):Int) - 1)),iv (w64 (((List.length r1:Nat):Int) - 1))]) (h:=ZjF eI64 hl3)) (Za.u 0 (Zo (ys:=[Zg true l3]) (h:=Zt eI64)) Za.f)) (tq ?_)
 refine bk ?_
 obtain ⟨o509,ho509,h⟩:=bs h
 refine ZX ((ZO (fun (x:Int) s=>s=⟨[(9,Zg false r2),(24,Zg true l3),(25,iv ((List.length l3:Nat):Int)),(26,iv x)],[],[]⟩) (fun x:Int=>Zba N r2 l3 x) (fun (p:(Unit) ⊕ (Bool)) e s=>match p with | (.inl p)=>e = .exit 0∧(s=⟨[],[],[]⟩) | (.inr p)=>e = .ret∧∃ xs,resL s i94.res=some xs∧ZaD xs=bv p) ?_ N _ o509 _ ho509 (by show _=_;kernel_rfl)).mono ?_)
 ·clear h ho509
  rintro i4 o s h hR
  obtain rfl:=hR
  replace h:Zba N r2 l3 i4=some o:=h
  unfold Zba at h
  refine sq (rg Za.f ?_)
  refine tq (sq ?_)
  refine it h (fun hc505 h => ?_) (fun hc505 h => ?_)
  ·refine sk (tq ?_)
   refine kq (sq ?_)
   refine bk (sq ?_)
   obtain ⟨e506,he506,h⟩:=bs h
   refine rg (Za.u 0 (Zo (ys:=[Zg true l3,iv i4]) (h:=Zm eI64 he506)) (Za.u 0 (ZD (sz:=1) (off:=0) (cs:=[.int .i64 e506]) (r:=iv e506) eI64 he506) Za.f)) (tq ?_)
   refine sq ?_
   obtain ⟨r507,hr507,h⟩:=bs h
   refine rg (Za.v 2 (Zu (hc:=Zdh N r2 e506 r507 hr507)) Za.f) (tq ?_)
   refine it h (fun hc508 h => ?_) (fun hc508 h => ?_)
   ·refine sq (rg Za.f ?_)
    refine tq (rt ?_)
    refine br (tr ?_)
    obtain rfl:=Zb h
    exact ⟨_,rfl,rfl,Zx (by kernel_rfl)⟩
   refine sk (bn ?_)
   refine tq (kq ?_)
   refine rg Za.f ?_
   obtain rfl:=Zb h
   exact ⟨_,rfl,(by show _=_;kernel_rfl)⟩
  refine kq (xq ?_)
  refine tx ?_
  obtain rfl:=Zb h
  exact ⟨_,rfl,rfl,(by show _=_;kernel_rfl)⟩
 rintro e s hq
 rcases o509 with p510 | p511
 ·dsimp only at h hq
  obtain ⟨rfl,hR⟩:=hq
  obtain rfl:=hR
  refine bx (tq ?_)
  refine sq (rg Za.f ?_)
  refine tq (rt ?_)
  obtain rfl:=Zb h
  exact Zx (by kernel_rfl)
 dsimp only at h hq
 obtain ⟨rfl,hq⟩:=hq
 refine br (tr ?_)
 obtain rfl:=Zb h
 exact hq
theorem Zee (N:Nat) (a0_:(List Int)) (r:Int × Int) (h:Zb3 N a0_=some r):Zab Try.prog 37 [Zg false a0_] (.tup [iv r.1,iv r.2]):=by
 unfold Zb3 at h
 have hH:HP ([]:List HO) []:=trivial
 refine ZF chk37 rfl rfl (Zr _ _ _ ?_) rfl
 refine sq (rg Za.f ?_)
 refine tq (sq ?_)
 obtain ⟨l3,hl3,h⟩:=bs h
 obtain ⟨a1,H2,ha1,hH2,ha1b,hH⟩:=HP.make Zaa hH hl3
 replace hH:HP H2 [.arr a1 3 false (List.map Zaa l3)]:=hH
 have hfa1:=ZA (HP.get hH 0 rfl)
 refine rgS ⟨[(0,Zg false a0_),(4,a1)],[],H2⟩ (Za.u 1 (Zo (ys:=[Zg false a0_]) (h:=Zt eI64)) (Za.h 0 (ZhG (H:=[]) (zero:=[.int .i64 0,.int .i64 0,.int .i64 0]) (bytes:=24) (by kernel_rfl) (by kernel_rfl) (by kernel_rfl) ha1 hH2 ha1b) Za.f)) (by rcases hfa1 with ha1e | ⟨_,_,ha1e⟩<;>subst ha1e<;>kernel_rfl) ?_
 refine tq (sq ?_)
 refine sq (rgS ⟨[(4,a1),(10,Zg false a0_),(11,iv ((List.length a0_:Nat):Int)),(12,iv 0)],[],H2⟩ (Za.u 1 (Zo (ys:=[Zg false a0_]) (h:=Zt eI64)) Za.f) (by rcases hfa1 with ha1e | ⟨_,_,ha1e⟩<;>subst ha1e<;>kernel_rfl) ?_)
 refine tq (bk ?_)
 obtain ⟨o516,ho516,h⟩:=bs h
 refine ZX ((ZO (fun (x:Int × (List Zs)) s=>∃ (a4:AV) (H5:List HO),s=⟨[(4,a4),(10,Zg false a0_),(11,iv ((List.length a0_:Nat):Int)),(12,iv x.1)],[],H5⟩∧HP H5 [.arr a4 3 false (List.map Zaa x.2)]) (fun x:Int × (List Zs)=>Zbf N a0_ x.1 x.2) (fun (p:(List Zs)) e s=>e = .exit 0∧(∃ (a508:AV) (H509:List HO),s=⟨[(4,a508)],[],H509⟩∧HP H509 [.arr a508 3 false (List.map Zaa p)])) ?_ N _ o516 _ ho516 ⟨a1,H2,(by show _=_;rcases hfa1 with ha1e | ⟨_,_,ha1e⟩<;>subst ha1e<;>kernel_rfl),(HP.pick hH [0] rfl)⟩).mono ?_)
 ·clear h ho516
  rintro ⟨i6,l7⟩ o s h hR
  obtain ⟨a4,H5,rfl,hH⟩:=hR
  replace hH:HP H5 [.arr a4 3 false (List.map Zaa l7)]:=hH
  have hfa4:=ZA (HP.get hH 0 rfl)
  replace h:Zbf N a0_ i6 l7=some o:=h
  unfold Zbf at h
  refine sq (rgS ⟨[(4,a4),(10,Zg false a0_),(11,iv ((List.length a0_:Nat):Int)),(12,iv i6),(13,bv (decide (i6<((List.length a0_:Nat):Int))))],[],H5⟩ Za.f (by rcases hfa4 with ha4e | ⟨_,_,ha4e⟩<;>subst ha4e<;>kernel_rfl) ?_)
  refine tq (sq ?_)
  refine it h (fun hc510 h => ?_) (fun hc510 h => ?_)
  ·refine sk (tq ?_)
   refine kq (sq ?_)
   refine bk (sq ?_)
   obtain ⟨e511,he511,h⟩:=bs h
   refine rgS ⟨[(4,a4),(5,iv i6),(6,iv e511),(10,Zg false a0_),(11,iv ((List.length a0_:Nat):Int)),(12,iv i6)],[],H5⟩ (Za.u 1 (Zo (ys:=[Zg false a0_,iv i6]) (h:=Zm eI64 he511)) (Za.u 0 (ZD (sz:=1) (off:=0) (cs:=[.int .i64 e511]) (r:=iv e511) eI64 he511) Za.f)) (by rcases hfa4 with ha4e | ⟨_,_,ha4e⟩<;>subst ha4e<;>kernel_rfl) ?_
   refine tq ?_
   obtain ⟨e512,he512,h⟩:=bs h
   obtain ⟨id513,ver514,_,hid513f,hid513,hid513a,hid513v⟩:=HP.elem (k:=0) (a:=a4) (sz:=3) (frz:=false) Zaa hH rfl he512
   obtain ⟨H515,hH515,hH⟩:=HP.setRow (k:=0) (off:=0) (cs:=[iv e511,iv 0,iv 1]) (ps:=[.int .i64 e511,.int .i64 0,.int .i64 1]) (e':=(Zs.mk e511 0 1)) Zaa hH rfl hid513a hid513 (hid513f rfl) he512 (by kernel_rfl) (by kernel_rfl)
   replace hH:HP H515 [.arr a4 3 false (List.map Zaa (List.set l7 (Int.toNat i6) (Zs.mk e511 0 1)))]:=hH
   refine rgS ⟨[(4,a4),(10,Zg false a0_),(11,iv ((List.length a0_:Nat):Int)),(12,iv i6)],[],H515⟩ (Za.u 4 (Zo (ys:=[a4,iv i6]) (by rcases hfa4 with ha4e | ⟨_,_,ha4e⟩<;>subst ha4e<;>kernel_rfl) (hid513v .i64)) (Za.o 0 (Z9 (H:=H5) (v:=.agg [iv e511,iv 0,iv 1]) (hw:=hH515)) Za.f)) (by rcases hfa4 with ha4e | ⟨_,_,ha4e⟩<;>subst ha4e<;>kernel_rfl) ?_
   refine bn (tq ?_)
   refine rgS ⟨[(4,a4),(10,Zg false a0_),(11,iv ((List.length a0_:Nat):Int)),(12,iv (w64 (i6+1)))],[],H515⟩ Za.f (by rcases hfa4 with ha4e | ⟨_,_,ha4e⟩<;>subst ha4e<;>kernel_rfl) ?_
   obtain rfl:=Zb h
   exact ⟨_,rfl,⟨a4,H515,(by show _=_;rcases hfa4 with ha4e | ⟨_,_,ha4e⟩<;>subst ha4e<;>kernel_rfl),(HP.pick hH [0] rfl)⟩⟩
  refine kq (xq ?_)
  refine tx ?_
  obtain rfl:=Zb h
  exact ⟨_,rfl,rfl,⟨a4,H5,(by show _=_;rcases hfa4 with ha4e | ⟨_,_,ha4e⟩<;>subst ha4e<;>kernel_rfl),(HP.pick hH [0] rfl)⟩⟩
 rintro e s hq
 obtain ⟨rfl,hR⟩:=hq
 obtain ⟨a508,H509,rfl,hH⟩:=hR
 replace hH:HP H509 [.arr a508 3 false (List.map Zaa o516)]:=hH
 have hfa508:=ZA (HP.get hH 0 rfl)
 refine bx (tq ?_)
 refine sq ?_
 obtain ⟨r517,hr517,h⟩:=bs h
 obtain ⟨H518,hzH518,hzH518v,hH⟩:=HP.frz (k:=0) (a:=a508) (sz:=3) (frz:=false) Zaa hH rfl
 replace hH:HP H518 [.arr a508 3 true (List.map Zaa o516)]:=hH
 refine rgS ⟨[(2,iv r517.1),(3,iv r517.2)],[],H518⟩ (Za.v 1 (Zhk (H:=H509) (ys:=[a508]) (by rcases hfa508 with ha508e | ⟨_,_,ha508e⟩<;>subst ha508e<;>kernel_rfl) (by rcases hfa508 with ha508e | ⟨_,_,ha508e⟩<;>subst ha508e<;>kernel_rfl) (Zd1 hzH518v Zhq) (Zhe N o516 r517 hr517)) Za.f) (by kernel_rfl) ?_
 replace hH:HP H518 []:=HP.pick hH [] rfl
 refine tq (rt ?_)
 obtain rfl:=Zb h
 exact Zx (by kernel_rfl)
theorem ZfJ (N:Nat) (a0_:Z6) (p0_:Nat) (bc0_0_:AV) (bc0_1_:AV) (H:List HO) (hH:HP H [.cel p0_ [bc0_0_,bc0_1_,bv a0_.late],.arr bc0_0_ 1 true (List.map eI64 a0_.Problem.Periods),.arr bc0_1_ 4 true (List.map Zi a0_.Problem.Uses)]) (r:Int) (h:ZcQ N a0_=some r):∃ (H':List HO),Zas Try.prog 44 [.ptr p0_ 0] H (iv r) H'∧Fp H H' [.cel p0_ [bc0_0_,bc0_1_,bv a0_.late],.arr bc0_0_ 1 true (List.map eI64 a0_.Problem.Periods),.arr bc0_1_ 4 true (List.map Zi a0_.Problem.Uses)] [.cel p0_ [bc0_0_,bc0_1_,bv a0_.late],.arr bc0_0_ 1 true (List.map eI64 a0_.Problem.Periods),.arr bc0_1_ 4 true (List.map Zi a0_.Problem.Uses)]:=by
 suffices hs:∃ r' H',Zas Try.prog 44 [.ptr p0_ 0] H r' H'∧r'=iv r∧Fp H H' [.cel p0_ [bc0_0_,bc0_1_,bv a0_.late],.arr bc0_0_ 1 true (List.map eI64 a0_.Problem.Periods),.arr bc0_1_ 4 true (List.map Zi a0_.Problem.Uses)] [.cel p0_ [bc0_0_,bc0_1_,bv a0_.late],.arr bc0_0_ 1 true (List.map eI64 a0_.Problem.Periods),.arr bc0_1_ 4 true (List.map Zi a0_.Problem.Uses)] by
  obtain ⟨_,H',h1,he,h2⟩:=hs
  exact ⟨H',he ▸ h1,h2⟩
 unfold ZcQ at h
 replace hH:=Fp.refl hH
 have hfbc0_0_:=ZA (Fp.get hH 1 rfl)
 have hfbc0_1_:=ZA (Fp.get hH 2 rfl)
 refine Zip chk44 [] (fun r' H'=>r'=iv r∧Fp H H' [.cel p0_ [bc0_0_,bc0_1_,bv a0_.late],.arr bc0_0_ 1 true (List.map eI64 a0_.Problem.Periods),.arr bc0_1_ 4 true (List.map Zi a0_.Problem.Uses)] [.cel p0_ [bc0_0_,bc0_1_,bv a0_.late],.arr bc0_0_ 1 true (List.map eI64 a0_.Problem.Periods),.arr bc0_1_ 4 true (List.map Zi a0_.Problem.Uses)]) (fun r' H' q=>by obtain ⟨e,hp⟩:=q;subst e;rfl) rfl rfl ?_
 refine sq (rg Za.f ?_)
 refine tq (sq ?_)
 have hlc1:=Fp.get hH 0 rfl
 obtain ⟨r2,hr2,h⟩:=bs h
 obtain ⟨H3,hzH3,hzH3v,hH⟩:=Fp.frz (k:=1) (a:=bc0_0_) (sz:=1) (frz:=true) eI64 hH rfl
 replace hH:Fp H H3 [.cel p0_ [bc0_0_,bc0_1_,bv a0_.late],.arr bc0_0_ 1 true (List.map eI64 a0_.Problem.Periods),.arr bc0_1_ 4 true (List.map Zi a0_.Problem.Uses)] [.cel p0_ [bc0_0_,bc0_1_,bv a0_.late],.arr bc0_0_ 1 true (List.map eI64 a0_.Problem.Periods),.arr bc0_1_ 4 true (List.map Zi a0_.Problem.Uses)]:=hH
 refine rg (Za.u 4 (Zn (H:=H) (id:=p0_) (off:=0) (cs:=[bc0_0_,bc0_1_,bv a0_.late]) (c:=[bc0_0_]) (r:=bc0_0_) (by rcases hfbc0_0_ with hbc0_0_e | ⟨_,_,hbc0_0_e⟩<;>subst hbc0_0_e<;>kernel_rfl) (by rcases hfbc0_0_ with hbc0_0_e | ⟨_,_,hbc0_0_e⟩<;>subst hbc0_0_e<;>kernel_rfl) hlc1 (by rcases hfbc0_0_ with hbc0_0_e | ⟨_,_,hbc0_0_e⟩<;>subst hbc0_0_e<;>kernel_rfl) (by rcases hfbc0_0_ with hbc0_0_e | ⟨_,_,hbc0_0_e⟩<;>subst hbc0_0_e<;>kernel_rfl) (by rcases hfbc0_0_ with hbc0_0_e | ⟨_,_,hbc0_0_e⟩<;>subst hbc0_0_e<;>kernel_rfl)) (Za.v 0 (Zhk (H:=H) (ys:=[bc0_0_]) (by rcases hfbc0_0_ with hbc0_0_e | ⟨_,_,hbc0_0_e⟩<;>subst hbc0_0_e<;>kernel_rfl) (by rcases hfbc0_0_ with hbc0_0_e | ⟨_,_,hbc0_0_e⟩<;>subst hbc0_0_e<;>kernel_rfl) (Zd1 hzH3v Zhq) (Zee N a0_.Problem.Periods r2 hr2)) Za.f)) (tq ?_)
 refine sq (sq ?_)
 refine rg Za.f (tq ?_)
 refine it h (fun hc3 h => ?_) (fun hc3 h => ?_)
 ·refine sq (rg Za.f ?_)
  refine tq (rt ?_)
  refine tr ?_
  obtain rfl:=Zb h
  exact ⟨[iv r2.2],(by kernel_rfl),(by kernel_rfl),Fp.pk hH [0,1,2] rfl⟩
 refine sk (tq ?_)
 refine kq (sq ?_)
 obtain ⟨idm,H2,hidm,hH2,hH⟩:=Fp.mapNew (sz:=4) Zi hH
 replace hH:Fp H H2 [.cel p0_ [bc0_0_,bc0_1_,bv a0_.late],.arr bc0_0_ 1 true (List.map eI64 a0_.Problem.Periods),.arr bc0_1_ 4 true (List.map Zi a0_.Problem.Uses)] ([.cel p0_ [bc0_0_,bc0_1_,bv a0_.late],.arr bc0_0_ 1 true (List.map eI64 a0_.Problem.Periods),.arr bc0_1_ 4 true (List.map Zi a0_.Problem.Uses)]++mapT idm 4 Zi ([]:List (Int × List Zy)) []):=Fp.pick hH [1,2,3,0] rfl
 refine rg (Za.h 0 (st_mkMap' (H:=H3) 0 (by kernel_rfl) hidm hH2) Za.f) (tq ?_)
 refine sq ?_
 refine sq ?_
 have hlc4:=Fp.get hH 0 rfl
 have hln6:=Fp.len (k:=2) (a:=bc0_1_) (sz:=4) (frz:=true) (l:=a0_.Problem.Uses) Zi hH rfl
 refine rgS ⟨[(0,.ptr p0_ 0),(3,iv r2.1),(5,.map idm),(32,bc0_1_),(33,iv ((List.length a0_.Problem.Uses:Nat):Int)),(34,iv 0)],[],H2⟩ (Za.u 4 (Zn (H:=H2) (id:=p0_) (off:=1) (cs:=[bc0_0_,bc0_1_,bv a0_.late]) (c:=[bc0_1_]) (r:=bc0_1_) (by rcases hfbc0_1_ with hbc0_1_e | ⟨_,_,hbc0_1_e⟩<;>subst hbc0_1_e<;>kernel_rfl) (by rcases hfbc0_1_ with hbc0_1_e | ⟨_,_,hbc0_1_e⟩<;>subst hbc0_1_e<;>kernel_rfl) hlc4 (by rcases hfbc0_1_ with hbc0_1_e | ⟨_,_,hbc0_1_e⟩<;>subst hbc0_1_e<;>kernel_rfl) (by rcases hfbc0_1_ with hbc0_1_e | ⟨_,_,hbc0_1_e⟩<;>subst hbc0_1_e<;>kernel_rfl) (by rcases hfbc0_1_ with hbc0_1_e | ⟨_,_,hbc0_1_e⟩<;>subst hbc0_1_e<;>kernel_rfl)) (Za.u 0 (Zo (ys:=[bc0_1_]) (by rcases hfbc0_1_ with hbc0_1_e | ⟨_,_,hbc0_1_e⟩<;>subst hbc0_1_e<;>kernel_rfl) hln6) Za.f)) (by rcases hfbc0_1_ with hbc0_1_e | ⟨_,_,hbc0_1_e⟩<;>subst hbc0_1_e<;>kernel_rfl) ?_
 refine tq (bk ?_)
 obtain ⟨o508,ho508,h⟩:=bs h
 refine ZX ((ZO (fun (x:Int × (List (Int × (List Zy)))) s=>∃ (as_:List AV) (H5:List HO),s=⟨[(0,.ptr p0_ 0),(3,iv r2.1),(5,.map idm),(32,bc0_1_),(33,iv ((List.length a0_.Problem.Uses:Nat):Int)),(34,iv x.1)],[],H5⟩∧as_.length=x.2.length∧Fp H H5 [.cel p0_ [bc0_0_,bc0_1_,bv a0_.late],.arr bc0_0_ 1 true (List.map eI64 a0_.Problem.Periods),.arr bc0_1_ 4 true (List.map Zi a0_.Problem.Uses)] ([.cel p0_ [bc0_0_,bc0_1_,bv a0_.late],.arr bc0_0_ 1 true (List.map eI64 a0_.Problem.Periods),.arr bc0_1_ 4 true (List.map Zi a0_.Problem.Uses)]++mapT idm 4 Zi x.2 as_)) (fun x:Int × (List (Int × (List Zy)))=>Zbe N a0_ x.1 x.2) (fun (p:(List (Int × (List Zy)))) e s=>e = .exit 0∧∃ (as_:List AV) (H5:List HO),s=⟨[(0,.ptr p0_ 0),(3,iv r2.1),(5,.map idm)],[],H5⟩∧as_.length=p.length∧Fp H H5 [.cel p0_ [bc0_0_,bc0_1_,bv a0_.late],.arr bc0_0_ 1 true (List.map eI64 a0_.Problem.Periods),.arr bc0_1_ 4 true (List.map Zi a0_.Problem.Uses)] ([.cel p0_ [bc0_0_,bc0_1_,bv a0_.late],.arr bc0_0_ 1 true (List.map eI64 a0_.Problem.Periods),.arr bc0_1_ 4 true (List.map Zi a0_.Problem.Uses)]++mapT idm 4 Zi p as_)) ?_ N _ o508 _ ho508 ⟨[],H2,(by show _=_;rcases hfbc0_1_ with hbc0_1_e | ⟨_,_,hbc0_1_e⟩<;>subst hbc0_1_e<;>kernel_rfl),rfl,hH⟩).mono ?_)
 ·clear h ho508 hln6 hH hlc4 hlc1
  rintro ⟨i5,m5⟩ o s h ⟨as_,H5,rfl,hl5,hH⟩
  replace h:Zbe N a0_ i5 m5=some o:=h
  unfold Zbe at h
  refine sq (rgS ⟨[(0,.ptr p0_ 0),(3,iv r2.1),(5,.map idm),(32,bc0_1_),(33,iv ((List.length a0_.Problem.Uses:Nat):Int)),(34,iv i5),(35,bv (decide (i5<((List.length a0_.Problem.Uses:Nat):Int))))],[],H5⟩ Za.f (by rcases hfbc0_1_ with hbc0_1_e | ⟨_,_,hbc0_1_e⟩<;>subst hbc0_1_e<;>kernel_rfl) ?_)
  refine tq (sq ?_)
  refine it h (fun hc506 h => ?_) (fun hc506 h => ?_)
  ·refine sk (tq ?_)
   refine kq (sq ?_)
   refine bk (sq ?_)
   obtain ⟨e507,he507,h⟩:=bs h
   obtain ⟨id510,ver511,_,hid510f,hid510,hid510a,hid510v⟩:=Fp.elem (k:=2) (a:=bc0_1_) (sz:=4) (frz:=true) Zi hH rfl he507
   refine rgS ⟨[(0,.ptr p0_ 0),(3,iv r2.1),(5,.map idm),(7,.loc 7 0),(32,bc0_1_),(33,iv ((List.length a0_.Problem.Uses:Nat):Int)),(34,iv i5)],[(7,(ZP e507))],H5⟩ (Za.u 0 (Zo (ys:=[bc0_1_,iv i5]) (by rcases hfbc0_1_ with hbc0_1_e | ⟨_,_,hbc0_1_e⟩<;>subst hbc0_1_e<;>kernel_rfl) (hid510v .i64)) (Za.u 0 (ZbV (H:=H5) (off:=0) (cs:=[.int .i64 e507.Stream,.int .i64 e507.Port,.int .i64 e507.From,.int .i64 e507.Long]) (r:=.agg (ZP e507)) Zi he507 hid510) (Za.f (h:=(by rcases hfbc0_1_ with hbc0_1_e | ⟨_,_,hbc0_1_e⟩<;>subst hbc0_1_e<;>kernel_rfl))))) (by rcases hfbc0_1_ with hbc0_1_e | ⟨_,_,hbc0_1_e⟩<;>subst hbc0_1_e<;>kernel_rfl) ?_
   refine tq ?_
   obtain ⟨l508,hl508,h⟩:=bs h
   obtain ⟨hid5,hno5,a1,H6,as2,H7,ha1,hid6,hok1,hl6,hH7,hH⟩:=Fp.mapApp Zi hH hl5 hl508
   refine rqS ⟨[(0,.ptr p0_ 0),(3,iv r2.1),(5,.map idm),(32,bc0_1_),(33,iv ((List.length a0_.Problem.Uses:Nat):Int)),(34,iv i5)],[],H7⟩ (Za.u 6 (ZmK (H:=H5) (id:=idm) (es:=zipE m5 as_) (x:=e507.Port) (r:=mval 4 m5 as_ e507.Port) (by kernel_rfl) (by kernel_rfl) hid5 rfl hno5) (Za.h 2 (Zfq (H:=H5) (a:=mval 4 m5 as_ e507.Port) (b:=.p (.sl 4 true [Zi e507])) (new:=[Zi e507]) (by kernel_rfl) (by kernel_rfl) (by kernel_rfl) (by kernel_rfl) ha1) (Za.o 0 (ZmJ (H:=H6) (id:=idm) (es:=zipE m5 as_) (x:=e507.Port) (y:=a1) (by kernel_rfl) (by kernel_rfl) hid6 hok1 hH7) (Za.f (h:=(by rcases hfbc0_1_ with hbc0_1_e | ⟨_,_,hbc0_1_e⟩<;>subst hbc0_1_e<;>kernel_rfl)))))) (by rcases hfbc0_1_ with hbc0_1_e | ⟨_,_,hbc0_1_e⟩<;>subst hbc0_1_e<;>kernel_rfl) ?_
   refine bn (tq ?_)
   refine rgS ⟨[(0,.ptr p0_ 0),(3,iv r2.1),(5,.map idm),(32,bc0_1_),(33,iv ((List.length a0_.Problem.Uses:Nat):Int)),(34,iv (w64 (i5+1)))],[],H7⟩ Za.f (by rcases hfbc0_1_ with hbc0_1_e | ⟨_,_,hbc0_1_e⟩<;>subst hbc0_1_e<;>kernel_rfl) ?_
   obtain rfl:=Zb h
   exact ⟨_,rfl,as2,H7,(by show _=_;rcases hfbc0_1_ with hbc0_1_e | ⟨_,_,hbc0_1_e⟩<;>subst hbc0_1_e<;>kernel_rfl),hl6,hH⟩
  refine kq (xq ?_)
  refine tx ?_
  obtain rfl:=Zb h
  exact ⟨_,rfl,rfl,as_,H5,(by show _=_;kernel_rfl),hl5,hH⟩
 clear hH hln6 hlc4 hlc1
 rintro e s hq
 obtain ⟨rfl,as_,H5,rfl,hl5,hH⟩:=hq
 refine bx (tq ?_)
 refine sq ?_
 obtain ⟨b1020,hb1020,h⟩:=bs h
 obtain ⟨hb1,hb2⟩:=Znb hb1020
 have hid5:H5[idm]? = some (.lp mapL [] (.mp 0 (zipE o508 as_))):=Fp.get hH 3 rfl
 have hidlt:idm<H5.length:=(List.getElem?_eq_some_iff.1 hid5).1
 refine vc_box (Zmg (s0:=⟨[(0,.ptr p0_ 0),(3,iv r2.1),(5,.map idm),(49,.map idm)],[],H5⟩) (id:=idm) (kn:=0) (L:=mapL) (fr:=[]) (es:=zipE o508 as_) (ZjA (Zbs N a0_ r2) o508) (sF:=[(2,iv 7)]) (bF:=[]) (path_to (by kernel_rfl) (by kernel_rfl)) (by kernel_rfl) hid5 rfl (by kernel_rfl) (by kernel_rfl) (by decide) ?_ ?_)
 ·clear h
  intro i_ p_ hp_ bs_ ck_ sn_ y_ hy_
  obtain ⟨q_,hq_,hpk_,hzt_⟩:=Zna (enc:=Zi) (sz:=4) hl5 i_ p_ hp_
  have hHI:=hIt_HP (kn:=0) (es:=zipE o508 as_) (bs:=bs_) (clock:=ck_) (seen:=sn_++[y_]) hH
  replace hH:=HP.three (i:=0) (j:=1) (k:=i_+3) hHI rfl rfl (by simpa using hzt_) (by omega) (by omega) (by omega)
  have hfae_:=ZA (HP.get hH 2 rfl)
  obtain ⟨hoka_,_⟩:=Zla (HP.get hH 2 rfl)
  obtain ⟨c_,hc_⟩:=hb1 i_ q_ hq_
  have hbad:ZjA (Zbs N a0_ r2) o508 i_=c_:=by
   unfold ZjA
   rw [hq_]
   simp only [hc_]
   cases c_<;>rfl
  rw [hbad]
  unfold Zbs at hc_
  have hjm:=hIt_map (kn:=0) (L:=mapL) (fr:=[]) (es:=zipE o508 as_) (bs:=bs_) (clock:=ck_) (seen:=sn_++[y_]) hidlt
  have hjt:=hIt_it (H:=H5) (id:=idm) (kn:=0) (L:=mapL) (fr:=[]) (es:=zipE o508 as_) (bs:=bs_) (clock:=ck_) (seen:=sn_++[y_])
  refine vc_at ⟨[(0,.ptr p0_ 0),(3,iv r2.1),(50,.map (List.length H5))],[],(hIt H5 idm mapL [] 0 (zipE o508 as_) bs_ ck_ (sn_++[y_]))⟩ (by kernel_rfl) ?_
  refine sq ?_
  refine rgS ⟨[(0,.ptr p0_ 0),(3,iv r2.1),(9,p_.2),(50,.map (List.length H5))],[],(hIt H5 idm mapL [] 0 (zipE o508 as_) bs_ ck_ (sn_++[y_]))⟩ (Za.u 0 (Zl3 (H:=(hIt H5 idm mapL [] 0 (zipE o508 as_) bs_ ck_ (sn_++[y_]))) (id:=idm) (j:=List.length H5) (kn:=0) (L:=mapL) (fr:=[]) (es:=zipE o508 as_) (bs:=bs_) (clock:=ck_) (seen:=sn_) (x:=y_) (i:=i_) (p:=p_) (by kernel_rfl) (by kernel_rfl) hp_ hy_ hoka_ hjm hjt) Za.f) (by kernel_rfl) ?_
  refine tq (sq ?_)
  obtain ⟨pk_,ae_⟩:=p_
  replace hfae_:ae_ = .p (.sl 4 true [])∨∃ id ver,ae_ = .osl 4 id ver 0 (q_.2.map Zi).length:=hfae_
  refine rgS ⟨[(0,.ptr p0_ 0),(3,iv r2.1),(9,ae_),(10,iv 0),(50,.map (List.length H5))],[],(hIt H5 idm mapL [] 0 (zipE o508 as_) bs_ ck_ (sn_++[y_]))⟩ Za.f (by rcases hfae_ with hae_e | ⟨_,_,hae_e⟩<;>rw [hae_e]<;>kernel_rfl) ?_
  refine tq (sq ?_)
  refine sq ?_
  have hln509:=HP.len (k:=2) (a:=ae_) (sz:=4) (frz:=false) (l:=q_.2) Zi hH rfl
  refine rgS ⟨[(0,.ptr p0_ 0),(3,iv r2.1),(10,iv 0),(50,.map (List.length H5)),(55,ae_),(56,iv ((List.length q_.2:Nat):Int)),(57,iv 0)],[],(hIt H5 idm mapL [] 0 (zipE o508 as_) bs_ ck_ (sn_++[y_]))⟩ (Za.u 1 (Zo (ys:=[ae_]) (by rcases hfae_ with hae_e | ⟨_,_,hae_e⟩<;>rw [hae_e]<;>kernel_rfl) hln509) Za.f) (by rcases hfae_ with hae_e | ⟨_,_,hae_e⟩<;>rw [hae_e]<;>kernel_rfl) ?_
  refine tq (bk ?_)
  obtain ⟨o1019,ho1019,hc_⟩:=bs hc_
  refine ZX ((ZO (fun (x:Int × Int) s=>s=⟨[(0,.ptr p0_ 0),(3,iv r2.1),(10,iv x.1),(50,.map (List.length H5)),(55,ae_),(56,iv ((List.length q_.2:Nat):Int)),(57,iv x.2)],[],(hIt H5 idm mapL [] 0 (zipE o508 as_) bs_ ck_ (sn_++[y_]))⟩) (fun x:Int × Int=>Zbd N a0_ r2 q_.2 x.1 x.2) (fun (p:Int) e s=>e = .exit 4∧(s=⟨[(0,.ptr p0_ 0),(3,iv r2.1),(10,iv p),(50,.map (List.length H5))],[],(hIt H5 idm mapL [] 0 (zipE o508 as_) bs_ ck_ (sn_++[y_]))⟩)) ?_ N _ o1019 _ ho1019 (by show _=_;rcases hfae_ with hae_e | ⟨_,_,hae_e⟩<;>rw [hae_e]<;>kernel_rfl)).mono ?_)
  ·clear hc_ ho1019
   rintro ⟨i510,i511⟩ o s h hR
   obtain rfl:=hR
   replace h:Zbd N a0_ r2 q_.2 i510 i511=some o:=h
   unfold Zbd at h
   refine sq (rgS ⟨[(0,.ptr p0_ 0),(3,iv r2.1),(10,iv i510),(50,.map (List.length H5)),(55,ae_),(56,iv ((List.length q_.2:Nat):Int)),(57,iv i511),(58,bv (decide (i511<((List.length q_.2:Nat):Int))))],[],(hIt H5 idm mapL [] 0 (zipE o508 as_) bs_ ck_ (sn_++[y_]))⟩ Za.f (by rcases hfae_ with hae_e | ⟨_,_,hae_e⟩<;>rw [hae_e]<;>kernel_rfl) ?_)
   refine tq (sq ?_)
   refine it h (fun hc1012 h => ?_) (fun hc1012 h => ?_)
   ·refine sk (tq ?_)
    refine kq (sq ?_)
    refine bk (sq ?_)
    obtain ⟨e1013,he1013,h⟩:=bs h
    obtain ⟨id1014,ver1015,_,hid1014f,hid1014,hid1014a,hid1014v⟩:=HP.elem (k:=2) (a:=ae_) (sz:=4) (frz:=false) Zi hH rfl he1013
    refine rgS ⟨[(0,.ptr p0_ 0),(3,iv r2.1),(10,iv i510),(12,.loc 12 0),(50,.map (List.length H5)),(55,ae_),(56,iv ((List.length q_.2:Nat):Int)),(57,iv i511)],[(12,(ZP e1013))],(hIt H5 idm mapL [] 0 (zipE o508 as_) bs_ ck_ (sn_++[y_]))⟩ (Za.u 0 (Zo (ys:=[ae_,iv i511]) (by rcases hfae_ with hae_e | ⟨_,_,hae_e⟩<;>rw [hae_e]<;>kernel_rfl) (hid1014v .i64)) (Za.u 0 (ZbV (H:=(hIt H5 idm mapL [] 0 (zipE o508 as_) bs_ ck_ (sn_++[y_]))) (off:=0) (cs:=[.int .i64 e1013.Stream,.int .i64 e1013.Port,.int .i64 e1013.From,.int .i64 e1013.Long]) (r:=.agg (ZP e1013)) Zi he1013 hid1014) (Za.f (h:=(by rcases hfae_ with hae_e | ⟨_,_,hae_e⟩<;>rw [hae_e]<;>kernel_rfl))))) (by rcases hfae_ with hae_e | ⟨_,_,hae_e⟩<;>rw [hae_e]<;>kernel_rfl) ?_
    refine tq ?_
    have hlc1016:=HP.get hH 0 rfl
    obtain ⟨e1017,he1017,h⟩:=bs h
    obtain ⟨id1022,ver1023,_,hid1022f,hid1022,hid1022a,hid1022v⟩:=HP.elem (k:=1) (a:=bc0_0_) (sz:=1) (frz:=true) eI64 hH rfl he1017
    obtain ⟨q1018,hq1018,h⟩:=bs h
    refine rqS ⟨[(0,.ptr p0_ 0),(3,iv r2.1),(10,iv (w64 (i510+q1018))),(50,.map (List.length H5)),(55,ae_),(56,iv ((List.length q_.2:Nat):Int)),(57,iv i511)],[],(hIt H5 idm mapL [] 0 (zipE o508 as_) bs_ ck_ (sn_++[y_]))⟩ (Za.u 6 (ZV (Zn (H:=(hIt H5 idm mapL [] 0 (zipE o508 as_) bs_ ck_ (sn_++[y_]))) (id:=p0_) (off:=0) (cs:=[bc0_0_,bc0_1_,bv a0_.late]) (c:=[bc0_0_]) (r:=bc0_0_) (by rcases hfbc0_0_ with hbc0_0_e | ⟨_,_,hbc0_0_e⟩<;>subst hbc0_0_e<;>kernel_rfl) (by rcases hfbc0_0_ with hbc0_0_e | ⟨_,_,hbc0_0_e⟩<;>subst hbc0_0_e<;>kernel_rfl) hlc1016 (by rcases hfbc0_0_ with hbc0_0_e | ⟨_,_,hbc0_0_e⟩<;>subst hbc0_0_e<;>kernel_rfl) (by rcases hfbc0_0_ with hbc0_0_e | ⟨_,_,hbc0_0_e⟩<;>subst hbc0_0_e<;>kernel_rfl) (by rcases hfbc0_0_ with hbc0_0_e | ⟨_,_,hbc0_0_e⟩<;>subst hbc0_0_e<;>kernel_rfl)) (by rcases hfbc0_0_ with hbc0_0_e | ⟨_,_,hbc0_0_e⟩<;>subst hbc0_0_e<;>kernel_rfl)) (Za.u 2 (Zo (ys:=[bc0_0_,iv e1013.Stream]) (by rcases hfbc0_0_ with hbc0_0_e | ⟨_,_,hbc0_0_e⟩<;>subst hbc0_0_e<;>kernel_rfl) (hid1022v .i64)) (Za.u 0 (ZV (ZbV (H:=(hIt H5 idm mapL [] 0 (zipE o508 as_) bs_ ck_ (sn_++[y_]))) (off:=0) (cs:=[.int .i64 e1017]) (r:=iv e1017) eI64 he1017 hid1022)) (Za.u 0 (Zo (ys:=[iv r2.1,iv e1017]) (h:=ZfR hq1018)) Za.f)))) (by rcases hfbc0_0_ with hbc0_0_e | ⟨_,_,hbc0_0_e⟩<;>subst hbc0_0_e<;>rcases hfae_ with hae_e | ⟨_,_,hae_e⟩<;>rw [hae_e]<;>kernel_rfl) ?_
    refine bn (tq ?_)
    refine rgS ⟨[(0,.ptr p0_ 0),(3,iv r2.1),(10,iv (w64 (i510+q1018))),(50,.map (List.length H5)),(55,ae_),(56,iv ((List.length q_.2:Nat):Int)),(57,iv (w64 (i511+1)))],[],(hIt H5 idm mapL [] 0 (zipE o508 as_) bs_ ck_ (sn_++[y_]))⟩ Za.f (by rcases hfae_ with hae_e | ⟨_,_,hae_e⟩<;>rw [hae_e]<;>kernel_rfl) ?_
    obtain rfl:=Zb h
    exact ⟨_,rfl,(by show _=_;rcases hfae_ with hae_e | ⟨_,_,hae_e⟩<;>rw [hae_e]<;>kernel_rfl)⟩
   refine kq (xq ?_)
   refine tx ?_
   obtain rfl:=Zb h
   exact ⟨_,rfl,rfl,(by show _=_;kernel_rfl)⟩
  rintro e s hq
  obtain ⟨rfl,hR⟩:=hq
  obtain rfl:=hR
  refine bx (tq ?_)
  refine sq (rg Za.f ?_)
  have h:(if (decide (o1019 > 63))=true then some true else some false)=some c_:=by
   rw [← hc_]
   cases decide (o1019 > 63)<;>rfl
  refine tq (it h (fun hc1020 h => ?_) (fun hc1020 h => ?_))
  ·obtain rfl:=Zb h
   refine sq (rg Za.f ?_)
   refine tq (rt ?_)
   refine br ?_
   rw [if_pos rfl]
   exact ⟨rfl,(by show _=_;kernel_rfl)⟩
  ·obtain rfl:=Zb h
   refine sk (bn ?_)
   rw [if_neg (by simp)]
   exact ⟨rfl,(by show _=_;kernel_rfl)⟩
 replace hH:=Fp.push hH (.lp itL [] .itd)
 rw [ZkY hl5,hb2]
 rcases ZH h with ⟨hcb,h⟩ | ⟨hcb,h⟩
 ·rw [if_pos hcb]
  refine tr ?_
  obtain rfl:=Zb h
  exact ⟨[iv 7],(by kernel_rfl),(by kernel_rfl),Fp.pk hH [0,1,2] rfl⟩
 rw [if_neg (by rw [hcb];simp)]
 refine tq ?_
 replace hH:Fp H (hEnd H5) [.cel p0_ [bc0_0_,bc0_1_,bv a0_.late],.arr bc0_0_ 1 true (List.map eI64 a0_.Problem.Periods),.arr bc0_1_ 4 true (List.map Zi a0_.Problem.Uses)] [.cel p0_ [bc0_0_,bc0_1_,bv a0_.late],.arr bc0_0_ 1 true (List.map eI64 a0_.Problem.Periods),.arr bc0_1_ 4 true (List.map Zi a0_.Problem.Uses)]:=Fp.pick hH [0,1,2] rfl
 refine vc_at ⟨[(0,.ptr p0_ 0)],[],(hEnd H5)⟩ (by kernel_rfl) ?_
 refine sq (sq ?_)
 have hlc1021:=Fp.get hH 0 rfl
 have hln1028:=Fp.len (k:=2) (a:=bc0_1_) (sz:=4) (frz:=true) (l:=a0_.Problem.Uses) Zi hH rfl
 refine rgS ⟨[(0,.ptr p0_ 0),(81,bc0_1_),(82,iv ((List.length a0_.Problem.Uses:Nat):Int)),(83,iv 0)],[],(hEnd H5)⟩ (Za.u 4 (Zn (H:=(hEnd H5)) (id:=p0_) (off:=1) (cs:=[bc0_0_,bc0_1_,bv a0_.late]) (c:=[bc0_1_]) (r:=bc0_1_) (by rcases hfbc0_1_ with hbc0_1_e | ⟨_,_,hbc0_1_e⟩<;>subst hbc0_1_e<;>kernel_rfl) (by rcases hfbc0_1_ with hbc0_1_e | ⟨_,_,hbc0_1_e⟩<;>subst hbc0_1_e<;>kernel_rfl) hlc1021 (by rcases hfbc0_1_ with hbc0_1_e | ⟨_,_,hbc0_1_e⟩<;>subst hbc0_1_e<;>kernel_rfl) (by rcases hfbc0_1_ with hbc0_1_e | ⟨_,_,hbc0_1_e⟩<;>subst hbc0_1_e<;>kernel_rfl) (by rcases hfbc0_1_ with hbc0_1_e | ⟨_,_,hbc0_1_e⟩<;>subst hbc0_1_e<;>kernel_rfl)) (Za.u 0 (Zo (ys:=[bc0_1_]) (by rcases hfbc0_1_ with hbc0_1_e | ⟨_,_,hbc0_1_e⟩<;>subst hbc0_1_e<;>kernel_rfl) hln1028) Za.f)) (by rcases hfbc0_1_ with hbc0_1_e | ⟨_,_,hbc0_1_e⟩<;>subst hbc0_1_e<;>kernel_rfl) ?_
 refine tq (bk ?_)
 obtain ⟨o1528,ho1528,h⟩:=bs h
 refine ZX ((ZO (fun (x:Int) s=>s=⟨[(0,.ptr p0_ 0),(81,bc0_1_),(82,iv ((List.length a0_.Problem.Uses:Nat):Int)),(83,iv x)],[],(hEnd H5)⟩) (fun x:Int=>Zbc N a0_ x) (fun (p:(Unit) ⊕ (Int)) e s=>match p with | (.inl p)=>e = .exit 6∧(s=⟨[(0,.ptr p0_ 0)],[],(hEnd H5)⟩) | (.inr p)=>e = .ret∧∃ xs,rawL (wS [] s) i44.res=some xs∧ZaD xs=iv p∧Fp H (weakH [] s.H) [.cel p0_ [bc0_0_,bc0_1_,bv a0_.late],.arr bc0_0_ 1 true (List.map eI64 a0_.Problem.Periods),.arr bc0_1_ 4 true (List.map Zi a0_.Problem.Uses)] [.cel p0_ [bc0_0_,bc0_1_,bv a0_.late],.arr bc0_0_ 1 true (List.map eI64 a0_.Problem.Periods),.arr bc0_1_ 4 true (List.map Zi a0_.Problem.Uses)]) ?_ N _ o1528 _ ho1528 (by show _=_;rcases hfbc0_1_ with hbc0_1_e | ⟨_,_,hbc0_1_e⟩<;>subst hbc0_1_e<;>kernel_rfl)).mono ?_)
 ·clear h ho1528
  rintro i1022 o s h hR
  obtain rfl:=hR
  replace h:Zbc N a0_ i1022=some o:=h
  unfold Zbc at h
  refine sq (rgS ⟨[(0,.ptr p0_ 0),(81,bc0_1_),(82,iv ((List.length a0_.Problem.Uses:Nat):Int)),(83,iv i1022),(84,bv (decide (i1022<((List.length a0_.Problem.Uses:Nat):Int))))],[],(hEnd H5)⟩ Za.f (by rcases hfbc0_1_ with hbc0_1_e | ⟨_,_,hbc0_1_e⟩<;>subst hbc0_1_e<;>kernel_rfl) ?_)
  refine tq (sq ?_)
  refine it h (fun hc1523 h => ?_) (fun hc1523 h => ?_)
  ·refine sk (tq ?_)
   refine kq (sq ?_)
   refine bk (sq ?_)
   obtain ⟨e1524,he1524,h⟩:=bs h
   obtain ⟨id1532,ver1533,_,hid1532f,hid1532,hid1532a,hid1532v⟩:=Fp.elem (k:=2) (a:=bc0_1_) (sz:=4) (frz:=true) Zi hH rfl he1524
   refine rgS ⟨[(0,.ptr p0_ 0),(14,.loc 14 0),(81,bc0_1_),(82,iv ((List.length a0_.Problem.Uses:Nat):Int)),(83,iv i1022)],[(14,(ZP e1524))],(hEnd H5)⟩ (Za.u 0 (Zo (ys:=[bc0_1_,iv i1022]) (by rcases hfbc0_1_ with hbc0_1_e | ⟨_,_,hbc0_1_e⟩<;>subst hbc0_1_e<;>kernel_rfl) (hid1532v .i64)) (Za.u 0 (ZbV (H:=(hEnd H5)) (off:=0) (cs:=[.int .i64 e1524.Stream,.int .i64 e1524.Port,.int .i64 e1524.From,.int .i64 e1524.Long]) (r:=.agg (ZP e1524)) Zi he1524 hid1532) (Za.f (h:=(by rcases hfbc0_1_ with hbc0_1_e | ⟨_,_,hbc0_1_e⟩<;>subst hbc0_1_e<;>kernel_rfl))))) (by rcases hfbc0_1_ with hbc0_1_e | ⟨_,_,hbc0_1_e⟩<;>subst hbc0_1_e<;>kernel_rfl) ?_
   refine tq (sq ?_)
   have hlc1525:=Fp.get hH 0 rfl
   obtain ⟨e1526,he1526,h⟩:=bs h
   obtain ⟨id1536,ver1537,_,hid1536f,hid1536,hid1536a,hid1536v⟩:=Fp.elem (k:=1) (a:=bc0_0_) (sz:=1) (frz:=true) eI64 hH rfl he1526
   refine rqS ⟨[(0,.ptr p0_ 0),(81,bc0_1_),(82,iv ((List.length a0_.Problem.Uses:Nat):Int)),(83,iv i1022),(98,bv (decide (e1524.Long > e1526)))],[],(hEnd H5)⟩ (Za.u 6 (ZV (Zn (H:=(hEnd H5)) (id:=p0_) (off:=0) (cs:=[bc0_0_,bc0_1_,bv a0_.late]) (c:=[bc0_0_]) (r:=bc0_0_) (by rcases hfbc0_0_ with hbc0_0_e | ⟨_,_,hbc0_0_e⟩<;>rcases hfbc0_1_ with hbc0_1_e | ⟨_,_,hbc0_1_e⟩<;>subst hbc0_0_e hbc0_1_e<;>kernel_rfl) (by rcases hfbc0_0_ with hbc0_0_e | ⟨_,_,hbc0_0_e⟩<;>rcases hfbc0_1_ with hbc0_1_e | ⟨_,_,hbc0_1_e⟩<;>subst hbc0_0_e hbc0_1_e<;>kernel_rfl) hlc1525 (by rcases hfbc0_0_ with hbc0_0_e | ⟨_,_,hbc0_0_e⟩<;>rcases hfbc0_1_ with hbc0_1_e | ⟨_,_,hbc0_1_e⟩<;>subst hbc0_0_e hbc0_1_e<;>kernel_rfl) (by rcases hfbc0_0_ with hbc0_0_e | ⟨_,_,hbc0_0_e⟩<;>rcases hfbc0_1_ with hbc0_1_e | ⟨_,_,hbc0_1_e⟩<;>subst hbc0_0_e hbc0_1_e<;>kernel_rfl) (by rcases hfbc0_0_ with hbc0_0_e | ⟨_,_,hbc0_0_e⟩<;>rcases hfbc0_1_ with hbc0_1_e | ⟨_,_,hbc0_1_e⟩<;>subst hbc0_0_e hbc0_1_e<;>kernel_rfl)) (by rcases hfbc0_0_ with hbc0_0_e | ⟨_,_,hbc0_0_e⟩<;>rcases hfbc0_1_ with hbc0_1_e | ⟨_,_,hbc0_1_e⟩<;>subst hbc0_0_e hbc0_1_e<;>kernel_rfl)) (Za.u 2 (Zo (ys:=[bc0_0_,iv e1524.Stream]) (by rcases hfbc0_0_ with hbc0_0_e | ⟨_,_,hbc0_0_e⟩<;>subst hbc0_0_e<;>kernel_rfl) (hid1536v .i64)) (Za.u 0 (ZV (ZbV (H:=(hEnd H5)) (off:=0) (cs:=[.int .i64 e1526]) (r:=iv e1526) eI64 he1526 hid1536)) Za.f))) (by rcases hfbc0_0_ with hbc0_0_e | ⟨_,_,hbc0_0_e⟩<;>rcases hfbc0_1_ with hbc0_1_e | ⟨_,_,hbc0_1_e⟩<;>subst hbc0_0_e hbc0_1_e<;>kernel_rfl) ?_
   refine tq (it h (fun hc1527 h => ?_) (fun hc1527 h => ?_))
   ·refine sq (rgS ⟨[(2,iv 341)],[],(hEnd H5)⟩ Za.f (by kernel_rfl) ?_)
    refine tq (rt ?_)
    refine br (tr ?_)
    obtain rfl:=Zb h
    exact ⟨_,rfl,rfl,⟨[iv 341],(by kernel_rfl),(by kernel_rfl),Fp.pk hH [0,1,2] rfl⟩⟩
   refine sk (bn ?_)
   refine tq (kq ?_)
   refine rgS ⟨[(0,.ptr p0_ 0),(81,bc0_1_),(82,iv ((List.length a0_.Problem.Uses:Nat):Int)),(83,iv (w64 (i1022+1)))],[],(hEnd H5)⟩ Za.f (by rcases hfbc0_1_ with hbc0_1_e | ⟨_,_,hbc0_1_e⟩<;>subst hbc0_1_e<;>kernel_rfl) ?_
   obtain rfl:=Zb h
   exact ⟨_,rfl,(by show _=_;rcases hfbc0_1_ with hbc0_1_e | ⟨_,_,hbc0_1_e⟩<;>subst hbc0_1_e<;>kernel_rfl)⟩
  refine kq (xq ?_)
  refine tx ?_
  obtain rfl:=Zb h
  exact ⟨_,rfl,rfl,(by show _=_;kernel_rfl)⟩
 rintro e s hq
 rcases o1528 with p1529 | p1532
 ·dsimp only at h hq
  obtain ⟨rfl,hR⟩:=hq
  obtain rfl:=hR
  refine bx (tq ?_)
  refine sq (sq ?_)
  have hlc1530:=Fp.get hH 0 rfl
  refine rg (Za.u 3 (Zn (H:=(hEnd H5)) (id:=p0_) (off:=2) (cs:=[bc0_0_,bc0_1_,bv a0_.late]) (c:=[bv a0_.late]) (r:=bv a0_.late) (hl:=hlc1530)) Za.f) (tq ?_)
  refine it h (fun hc1531 h => ?_) (fun hc1531 h => ?_)
  ·refine sq (rg Za.f ?_)
   refine tq (rt ?_)
   refine tr ?_
   obtain rfl:=Zb h
   exact ⟨[iv 342],(by kernel_rfl),(by kernel_rfl),Fp.pk hH [0,1,2] rfl⟩
  refine sk (tq ?_)
  refine kq (sq ?_)
  refine rg Za.f (tq ?_)
  refine rt ?_
  obtain rfl:=Zb h
  exact ⟨[iv 0],(by kernel_rfl),(by kernel_rfl),Fp.pk hH [0,1,2] rfl⟩
 dsimp only at h hq
 obtain ⟨rfl,hq⟩:=hq
 refine br (tr ?_)
 obtain rfl:=Zb h
 exact hq
theorem Zhg (N:Nat) (a0_:Zs) (a1_:Zs) (r:Bool × Int) (h:Zcf N a0_ a1_=some r):Zab Try.prog 46 [.agg (Za2 a0_),.agg (Za2 a1_)] (.tup [bv r.1,iv r.2]):=by
 unfold Zcf at h
 have hH:HP ([]:List HO) []:=trivial
 refine ZF chk46 rfl rfl (Zr _ _ _ ?_) rfl
 refine sq (rg Za.f ?_)
 refine tq (sq ?_)
 refine sq ?_
 obtain ⟨r1,hr1,h⟩:=bs h
 refine rg (Za.v 1 (Zu (hc:=ZcO N a0_ r1 hr1)) Za.f) (tq ?_)
 refine sq (rg Za.f ?_)
 refine tq (it h (fun hc2 h => ?_) (fun hc2 h => ?_))
 ·refine sq (rg Za.f ?_)
  refine tq (rt ?_)
  refine tr ?_
  obtain rfl:=Zb h
  exact Zx (by kernel_rfl)
 refine sk (tq ?_)
 refine kq (sq ?_)
 refine sq ?_
 obtain ⟨r3,hr3,h⟩:=bs h
 refine rg (Za.v 1 (Zu (hc:=ZcO N a1_ r3 hr3)) Za.f) (tq ?_)
 refine sq (rg Za.f ?_)
 refine tq (it h (fun hc4 h => ?_) (fun hc4 h => ?_))
 ·refine sq (rg Za.f ?_)
  refine tq (rt ?_)
  refine tr ?_
  obtain rfl:=Zb h
  exact Zx (by kernel_rfl)
 refine sk (tq ?_)
 refine kq (sq ?_)
 obtain ⟨r5,hr5,h⟩:=bs h
 refine rg (Za.v 2 (Zu (hc:=Zhc N a0_ a1_ r5 hr5)) Za.f) (tq ?_)
 refine rt ?_
 obtain rfl:=Zb h
 exact Zx (by kernel_rfl)
theorem Zd6 (N:Nat) (a0_:Zv) (r:Int) (h:ZdR N a0_=some r):Zab Try.prog 49 [.agg (Zc a0_)] (iv r):=by
 unfold ZdR at h
 have hH:HP ([]:List HO) []:=trivial
 refine ZF chk49 rfl rfl (Zr _ _ _ ?_) rfl
 refine sq (rg Za.f ?_)
 refine tq (sq ?_)
 refine sq (rgX ⟨[(1,.loc 1 0),(23,bv ((decide (a0_.Nodes<2))||((decide (a0_.Nodes > 12))||(((List.length a0_.Station:Nat):Int) != a0_.Nodes))))],[(1,(Zc a0_))],[]⟩ ?_ ?_)
 ·rcases Bool.eq_false_or_eq_true (decide (a0_.Nodes<2)) with hc1 | hc2
  ·exact (EP.u 2 (Zj (c:=(decide (a0_.Nodes<2))) (h:=hc1)) (EP.f (by simp only [hc1];kernel_rfl)))
  refine (EP.u 2 (Zj (c:=(decide (a0_.Nodes<2))) (h:=hc2)) ?_)
  rcases Bool.eq_false_or_eq_true (decide (a0_.Nodes > 12)) with hc3 | hc4
  ·exact (EP.u 3 (Zj (c:=(decide (a0_.Nodes > 12))) (h:=hc3)) (EP.f (by simp only [hc2,hc3];kernel_rfl)))
  exact (EP.u 3 (Zj (c:=(decide (a0_.Nodes > 12))) (h:=hc4)) (EP.u 4 (Zo (ys:=[s_eB false a0_.Station]) (h:=Zt eB)) (EP.f (by simp only [hc2,hc4];kernel_rfl))))
 refine tq (it h (fun hc5 h => ?_) (fun hc5 h => ?_))
 ·refine sq (rg Za.f ?_)
  refine tq (rt ?_)
  refine tr ?_
  obtain rfl:=Zb h
  exact Zx (by kernel_rfl)
 refine sk (tq ?_)
 refine kq (sq ?_)
 refine sq ?_
 obtain ⟨j9,hj,h⟩:=bs h
 refine rgR (fun s=>s=⟨[(1,.loc 1 0),(32,bv j9)],[(1,(Zc a0_))],[]⟩) ?_ ?_
 ·clear h
  refine (EP.u 2 (Zo (ys:=[Zk false a0_.Links]) (h:=Zt ZN)) ?_)
  rcases ZH hj with ⟨hc6,hj⟩ | ⟨hc7,hj⟩
  ·obtain rfl:=Zb hj
   exact (EP.u 0 (Zj (c:=(decide (((List.length a0_.Links:Nat):Int) > 24))) (h:=hc6)) (EP.f (by show _=_;kernel_rfl)))
  refine (EP.u 0 (Zj (c:=(decide (((List.length a0_.Links:Nat):Int) > 24))) (h:=hc7)) ?_)
  obtain ⟨r8,hr8,hj⟩:=bs hj
  obtain rfl:=Zb hj
  exact (EP.v 2 (Zu (hc:=Zi4 N a0_ r8 hr8)) (EP.f (by show _=_;kernel_rfl)))
 clear hj
 rintro s hR
 obtain rfl:=hR
 refine tq (it h (fun hc10 h => ?_) (fun hc10 h => ?_))
 ·refine sq (rg Za.f ?_)
  refine tq (rt ?_)
  refine tr ?_
  obtain rfl:=Zb h
  exact Zx (by kernel_rfl)
 refine sk (tq ?_)
 refine kq (sq ?_)
 obtain ⟨l13,hl13,h⟩:=bs h
 obtain ⟨a11,H12,ha11,hH12,ha11b,hH⟩:=HP.make eI64 hH hl13
 replace hH:HP H12 [.arr a11 1 false (List.map eI64 l13)]:=hH
 have hfa11:=ZA (HP.get hH 0 rfl)
 refine rgS ⟨[(1,.loc 1 0),(3,a11)],[(1,(Zc a0_))],H12⟩ (Za.h 2 (ZhG (H:=[]) (zero:=[.int .i64 0]) (bytes:=8) (by kernel_rfl) (by kernel_rfl) (by kernel_rfl) ha11 hH12 ha11b) Za.f) (by rcases hfa11 with ha11e | ⟨_,_,ha11e⟩<;>subst ha11e<;>kernel_rfl) ?_
 refine tq (sq ?_)
 refine sq (rgS ⟨[(1,.loc 1 0),(3,a11),(37,Zk false a0_.Links),(38,iv ((List.length a0_.Links:Nat):Int)),(39,iv 0)],[(1,(Zc a0_))],H12⟩ (Za.u 2 (Zo (ys:=[Zk false a0_.Links]) (h:=Zt ZN)) Za.f) (by rcases hfa11 with ha11e | ⟨_,_,ha11e⟩<;>subst ha11e<;>kernel_rfl) ?_)
 refine tq (bk ?_)
 obtain ⟨o536,ho536,h⟩:=bs h
 refine ZX ((ZO (fun (x:Int × (List Int)) s=>∃ (a14:AV) (H15:List HO),s=⟨[(1,.loc 1 0),(3,a14),(37,Zk false a0_.Links),(38,iv ((List.length a0_.Links:Nat):Int)),(39,iv x.1)],[(1,(Zc a0_))],H15⟩∧HP H15 [.arr a14 1 false (List.map eI64 x.2)]) (fun x:Int × (List Int)=>Zc6 N a0_ x.1 x.2) (fun (p:(List Int)) e s=>e = .exit 0∧(∃ (a518:AV) (H519:List HO),s=⟨[(1,.loc 1 0),(3,a518)],[(1,(Zc a0_))],H519⟩∧HP H519 [.arr a518 1 false (List.map eI64 p)])) ?_ N _ o536 _ ho536 ⟨a11,H12,(by show _=_;rcases hfa11 with ha11e | ⟨_,_,ha11e⟩<;>subst ha11e<;>kernel_rfl),(HP.pick hH [0] rfl)⟩).mono ?_)
 ·clear h ho536
  rintro ⟨i16,l17⟩ o s h hR
  obtain ⟨a14,H15,rfl,hH⟩:=hR
  replace hH:HP H15 [.arr a14 1 false (List.map eI64 l17)]:=hH
  have hfa14:=ZA (HP.get hH 0 rfl)
  replace h:Zc6 N a0_ i16 l17=some o:=h
  unfold Zc6 at h
  refine sq (rgS ⟨[(1,.loc 1 0),(3,a14),(37,Zk false a0_.Links),(38,iv ((List.length a0_.Links:Nat):Int)),(39,iv i16),(40,bv (decide (i16<((List.length a0_.Links:Nat):Int))))],[(1,(Zc a0_))],H15⟩ Za.f (by rcases hfa14 with ha14e | ⟨_,_,ha14e⟩<;>subst ha14e<;>kernel_rfl) ?_)
  refine tq (sq ?_)
  refine it h (fun hc520 h => ?_) (fun hc520 h => ?_)
  ·refine sk (tq ?_)
   refine kq (sq ?_)
   refine bk (sq ?_)
   obtain ⟨e521,he521,h⟩:=bs h
   refine rgS ⟨[(1,.loc 1 0),(3,a14),(5,.loc 5 0),(37,Zk false a0_.Links),(38,iv ((List.length a0_.Links:Nat):Int)),(39,iv i16)],[(1,(Zc a0_)),(5,(ZaA e521))],H15⟩ (Za.u 0 (Zo (ys:=[Zk false a0_.Links,iv i16]) (h:=Zm ZN he521)) (Za.u 0 (ZD (sz:=4) (off:=0) (cs:=[.int .i64 e521.A,.int .i64 e521.B,.int .i64 e521.Per,.int .i64 e521.Delay]) (r:=.agg (ZaA e521)) ZN he521) (Za.f (h:=(by rcases hfa14 with ha14e | ⟨_,_,ha14e⟩<;>subst ha14e<;>kernel_rfl))))) (by rcases hfa14 with ha14e | ⟨_,_,ha14e⟩<;>subst ha14e<;>kernel_rfl) ?_
   refine tq (sq ?_)
   obtain ⟨e522,he522,h⟩:=bs h
   obtain ⟨id523,ver524,_,hid523f,hid523,hid523a,hid523v⟩:=HP.elem (k:=0) (a:=a14) (sz:=1) (frz:=false) eI64 hH rfl he522
   obtain ⟨e525,he525,h⟩:=bs h
   obtain ⟨id526,ver527,_,hid526f,hid526,hid526a,hid526v⟩:=HP.elem (k:=0) (a:=a14) (sz:=1) (frz:=false) eI64 hH rfl he525
   obtain ⟨H528,hH528,hH⟩:=HP.setRow (k:=0) (off:=0) (cs:=[iv (w64 (e522+1))]) (ps:=[.int .i64 (w64 (e522+1))]) (e':=(w64 (e522+1))) eI64 hH rfl hid526a hid526 (hid526f rfl) he525 (by kernel_rfl) (by kernel_rfl)
   replace hH:HP H528 [.arr a14 1 false (List.map eI64 (List.set l17 (Int.toNat e521.A) (w64 (e522+1))))]:=hH
   refine rgS ⟨[(1,.loc 1 0),(3,a14),(5,.loc 5 0),(37,Zk false a0_.Links),(38,iv ((List.length a0_.Links:Nat):Int)),(39,iv i16)],[(1,(Zc a0_)),(5,(ZaA e521))],H528⟩ (Za.u 3 (Zo (ys:=[a14,iv e521.A]) (by rcases hfa14 with ha14e | ⟨_,_,ha14e⟩<;>subst ha14e<;>kernel_rfl) (hid523v .i64)) (Za.u 0 (ZbV (H:=H15) (off:=0) (cs:=[.int .i64 e522]) (r:=iv e522) eI64 he522 hid523) (Za.u 1 (Zo (ys:=[a14,iv e521.A]) (by rcases hfa14 with ha14e | ⟨_,_,ha14e⟩<;>subst ha14e<;>kernel_rfl) (hid526v .i64)) (Za.o 0 (Z9 (H:=H15) (v:=iv (w64 (e522+1))) (hw:=hH528)) Za.f)))) (by rcases hfa14 with ha14e | ⟨_,_,ha14e⟩<;>subst ha14e<;>kernel_rfl) ?_
   refine tq ?_
   obtain ⟨e529,he529,h⟩:=bs h
   obtain ⟨id530,ver531,_,hid530f,hid530,hid530a,hid530v⟩:=HP.elem (k:=0) (a:=a14) (sz:=1) (frz:=false) eI64 hH rfl he529
   obtain ⟨e532,he532,h⟩:=bs h
   obtain ⟨id533,ver534,_,hid533f,hid533,hid533a,hid533v⟩:=HP.elem (k:=0) (a:=a14) (sz:=1) (frz:=false) eI64 hH rfl he532
   obtain ⟨H535,hH535,hH⟩:=HP.setRow (k:=0) (off:=0) (cs:=[iv (w64 (e529+1))]) (ps:=[.int .i64 (w64 (e529+1))]) (e':=(w64 (e529+1))) eI64 hH rfl hid533a hid533 (hid533f rfl) he532 (by kernel_rfl) (by kernel_rfl)
   replace hH:HP H535 [.arr a14 1 false (List.map eI64 (List.set (List.set l17 (Int.toNat e521.A) (w64 (e522+1))) (Int.toNat e521.B) (w64 (e529+1))))]:=hH
   refine rgS ⟨[(1,.loc 1 0),(3,a14),(37,Zk false a0_.Links),(38,iv ((List.length a0_.Links:Nat):Int)),(39,iv i16)],[(1,(Zc a0_))],H535⟩ (Za.u 3 (Zo (ys:=[a14,iv e521.B]) (by rcases hfa14 with ha14e | ⟨_,_,ha14e⟩<;>subst ha14e<;>kernel_rfl) (hid530v .i64)) (Za.u 0 (ZbV (H:=H528) (off:=0) (cs:=[.int .i64 e529]) (r:=iv e529) eI64 he529 hid530) (Za.u 1 (Zo (ys:=[a14,iv e521.B]) (by rcases hfa14 with ha14e | ⟨_,_,ha14e⟩<;>subst ha14e<;>kernel_rfl) (hid533v .i64)) (Za.o 0 (Z9 (H:=H528) (v:=iv (w64 (e529+1))) (hw:=hH535)) Za.f)))) (by rcases hfa14 with ha14e | ⟨_,_,ha14e⟩<;>subst ha14e<;>kernel_rfl) ?_
   refine bn (tq ?_)
   refine rgS ⟨[(1,.loc 1 0),(3,a14),(37,Zk false a0_.Links),(38,iv ((List.length a0_.Links:Nat):Int)),(39,iv (w64 (i16+1)))],[(1,(Zc a0_))],H535⟩ Za.f (by rcases hfa14 with ha14e | ⟨_,_,ha14e⟩<;>subst ha14e<;>kernel_rfl) ?_
   obtain rfl:=Zb h
   exact ⟨_,rfl,⟨a14,H535,(by show _=_;rcases hfa14 with ha14e | ⟨_,_,ha14e⟩<;>subst ha14e<;>kernel_rfl),(HP.pick hH [0] rfl)⟩⟩
  refine kq (xq ?_)
  refine tx ?_
  obtain rfl:=Zb h
  exact ⟨_,rfl,rfl,⟨a14,H15,(by show _=_;rcases hfa14 with ha14e | ⟨_,_,ha14e⟩<;>subst ha14e<;>kernel_rfl),(HP.pick hH [0] rfl)⟩⟩
 rintro e s hq
 obtain ⟨rfl,hR⟩:=hq
 obtain ⟨a518,H519,rfl,hH⟩:=hR
 replace hH:HP H519 [.arr a518 1 false (List.map eI64 o536)]:=hH
 have hfa518:=ZA (HP.get hH 0 rfl)
 refine bx (tq ?_)
 refine sq (sq ?_)
 refine rgS ⟨[(1,.loc 1 0),(3,a518),(59,s_eB false a0_.Station),(60,iv ((List.length a0_.Station:Nat):Int)),(61,iv 0)],[(1,(Zc a0_))],H519⟩ (Za.u 2 (Zo (ys:=[s_eB false a0_.Station]) (h:=Zt eB)) Za.f) (by rcases hfa518 with ha518e | ⟨_,_,ha518e⟩<;>subst ha518e<;>kernel_rfl) ?_
 refine tq (bk ?_)
 obtain ⟨o1052,ho1052,h⟩:=bs h
 refine ZX ((ZO (fun (x:Int) s=>s=⟨[(1,.loc 1 0),(3,a518),(59,s_eB false a0_.Station),(60,iv ((List.length a0_.Station:Nat):Int)),(61,iv x)],[(1,(Zc a0_))],H519⟩) (fun x:Int=>Zc5 N a0_ o536 x) (fun (p:(Unit) ⊕ (Int)) e s=>match p with | (.inl p)=>e = .exit 2∧(s=⟨[(1,.loc 1 0)],[(1,(Zc a0_))],H519⟩) | (.inr p)=>e = .ret∧∃ xs,resL s i49.res=some xs∧ZaD xs=iv p) ?_ N _ o1052 _ ho1052 (by show _=_;rcases hfa518 with ha518e | ⟨_,_,ha518e⟩<;>subst ha518e<;>kernel_rfl)).mono ?_)
 ·clear h ho1052
  rintro i537 o s h hR
  obtain rfl:=hR
  replace h:Zc5 N a0_ o536 i537=some o:=h
  unfold Zc5 at h
  refine sq (rgS ⟨[(1,.loc 1 0),(3,a518),(59,s_eB false a0_.Station),(60,iv ((List.length a0_.Station:Nat):Int)),(61,iv i537),(62,bv (decide (i537<((List.length a0_.Station:Nat):Int))))],[(1,(Zc a0_))],H519⟩ Za.f (by rcases hfa518 with ha518e | ⟨_,_,ha518e⟩<;>subst ha518e<;>kernel_rfl) ?_)
  refine tq (sq ?_)
  refine it h (fun hc1038 h => ?_) (fun hc1038 h => ?_)
  ·refine sk (tq ?_)
   refine kq (sq ?_)
   refine bk (sq ?_)
   obtain ⟨e1039,he1039,h⟩:=bs h
   refine rgS ⟨[(1,.loc 1 0),(3,a518),(6,iv i537),(7,bv e1039),(59,s_eB false a0_.Station),(60,iv ((List.length a0_.Station:Nat):Int)),(61,iv i537)],[(1,(Zc a0_))],H519⟩ (Za.u 1 (Zo (ys:=[s_eB false a0_.Station,iv i537]) (h:=Zm eB he1039)) (Za.u 0 (ZD (sz:=1) (off:=0) (cs:=[.bool e1039]) (r:=bv e1039) eB he1039) Za.f)) (by rcases hfa518 with ha518e | ⟨_,_,ha518e⟩<;>subst ha518e<;>kernel_rfl) ?_
   refine tq (sq ?_)
   obtain ⟨j1050,hj,h⟩:=bs h
   refine rgR (fun s=>s=⟨[(1,.loc 1 0),(3,a518),(59,s_eB false a0_.Station),(60,iv ((List.length a0_.Station:Nat):Int)),(61,iv i537),(80,bv j1050)],[(1,(Zc a0_))],H519⟩) ?_ ?_
   ·clear h
    rcases ZH hj with ⟨hc1040,hj⟩ | ⟨hc1049,hj⟩
    ·refine (EP.u 0 (Zj (c:=e1039) (h:=hc1040)) ?_)
     obtain ⟨e1041,he1041,hj⟩:=bs hj
     obtain ⟨id1042,ver1043,_,hid1042f,hid1042,hid1042a,hid1042v⟩:=HP.elem (k:=0) (a:=a518) (sz:=1) (frz:=false) eI64 hH rfl he1041
     refine (EP.u 3 (Zo (ys:=[a518,iv i537]) (by rcases hfa518 with ha518e | ⟨_,_,ha518e⟩<;>subst ha518e<;>kernel_rfl) (hid1042v .i64)) (EP.u 0 (ZbV (H:=H519) (off:=0) (cs:=[.int .i64 e1041]) (r:=iv e1041) eI64 he1041 hid1042) ?_))
     rcases ZH hj with ⟨hc1044,hj⟩ | ⟨hc1045,hj⟩
     ·obtain rfl:=Zb hj
      exact (EP.u 0 (Zj (c:=(decide (e1041<1))) (h:=hc1044)) (EP.f (by show _=_;rcases hfa518 with ha518e | ⟨_,_,ha518e⟩<;>subst ha518e<;>kernel_rfl)))
     refine (EP.u 0 (Zj (c:=(decide (e1041<1))) (h:=hc1045)) ?_)
     obtain ⟨e1046,he1046,hj⟩:=bs hj
     obtain ⟨id1047,ver1048,_,hid1047f,hid1047,hid1047a,hid1047v⟩:=HP.elem (k:=0) (a:=a518) (sz:=1) (frz:=false) eI64 hH rfl he1046
     obtain rfl:=Zb hj
     exact (EP.u 3 (Zo (ys:=[a518,iv i537]) (by rcases hfa518 with ha518e | ⟨_,_,ha518e⟩<;>subst ha518e<;>kernel_rfl) (hid1047v .i64)) (EP.u 0 (ZbV (H:=H519) (off:=0) (cs:=[.int .i64 e1046]) (r:=iv e1046) eI64 he1046 hid1047) (EP.f (by show _=_;rcases hfa518 with ha518e | ⟨_,_,ha518e⟩<;>subst ha518e<;>kernel_rfl))))
    obtain rfl:=Zb hj
    exact (EP.u 0 (Zj (c:=e1039) (h:=hc1049)) (EP.f (by show _=_;rcases hfa518 with ha518e | ⟨_,_,ha518e⟩<;>subst ha518e<;>kernel_rfl)))
   clear hj
   rintro s hR
   obtain rfl:=hR
   refine tq (it h (fun hc1051 h => ?_) (fun hc1051 h => ?_))
   ·refine sq (rgS ⟨[(2,iv 260)],[],H519⟩ Za.f (by kernel_rfl) ?_)
    replace hH:HP H519 []:=HP.pick hH [] rfl
    refine tq (rt ?_)
    refine br (tr ?_)
    obtain rfl:=Zb h
    exact ⟨_,rfl,rfl,Zx (by kernel_rfl)⟩
   refine sk (bn ?_)
   refine tq (kq ?_)
   refine rgS ⟨[(1,.loc 1 0),(3,a518),(59,s_eB false a0_.Station),(60,iv ((List.length a0_.Station:Nat):Int)),(61,iv (w64 (i537+1)))],[(1,(Zc a0_))],H519⟩ Za.f (by rcases hfa518 with ha518e | ⟨_,_,ha518e⟩<;>subst ha518e<;>kernel_rfl) ?_
   obtain rfl:=Zb h
   exact ⟨_,rfl,(by show _=_;rcases hfa518 with ha518e | ⟨_,_,ha518e⟩<;>subst ha518e<;>kernel_rfl)⟩
  refine kq ?_
  replace hH:HP H519 []:=HP.pick hH [] rfl
  refine xq (tx ?_)
  obtain rfl:=Zb h
  exact ⟨_,rfl,rfl,(by show _=_;kernel_rfl)⟩
 rintro e s hq
 rcases o1052 with p1053 | p1057
 ·dsimp only at h hq
  obtain ⟨rfl,hR⟩:=hq
  obtain rfl:=hR
  replace hH:HP H519 []:=HP.pick hH [] rfl
  refine bx (tq ?_)
  refine sq (sq ?_)
  obtain ⟨r1054,hr1054,h⟩:=bs h
  obtain ⟨r1055,hr1055,h⟩:=bs h
  refine rg (Za.v 2 (Zu (hc:=Zi5 N a0_ 0 (Za4.mk false false false false false false false false false false false false false false false false false false false false false false false false) r1054 hr1054)) (Za.v 0 (Zu (hc:=ZcN N r1054 false r1055 hr1055)) Za.f)) (tq ?_)
  refine it h (fun hc1056 h => ?_) (fun hc1056 h => ?_)
  ·refine sq (rg Za.f ?_)
   refine tq (rt ?_)
   refine tr ?_
   obtain rfl:=Zb h
   exact Zx (by kernel_rfl)
  refine sk (tq ?_)
  refine kq (sq ?_)
  refine rg Za.f (tq ?_)
  refine rt ?_
  obtain rfl:=Zb h
  exact Zx (by kernel_rfl)
 dsimp only at h hq
 obtain ⟨rfl,hq⟩:=hq
 refine br (tr ?_)
 obtain rfl:=Zb h
 exact hq
theorem Zha (N:Nat) (a0_:ZM) (c0_:(List Int)) (c1_:(List Int)) (k0_:Nat) (k1_:Nat) (H:List HO) (hH:HP H [.cel k0_ [Zg false c0_],.cel k1_ [Zg false c1_]]) (r:Bool × Int) (h:Zc9 N a0_ c0_ c1_=some r):Zas Try.prog 91 [.agg (Zc a0_.Topo),.ptr k0_ 0,.ptr k1_ 0] H (.tup [bv r.1,iv r.2]) H:=by
 unfold Zc9 at h
 refine ZaF chk91 rfl rfl rfl (Zr _ _ _ ?_)
 refine sq (rg Za.f ?_)
 refine tq (sq ?_)
 refine sq ?_
 have hlc1:=HP.get hH 0 rfl
 obtain ⟨r2,hr2,h⟩:=bs h
 refine rg (Za.u 1 (Zn (H:=H) (id:=k0_) (off:=0) (cs:=[Zg false c0_]) (c:=[Zg false c0_]) (r:=Zg false c0_) (hl:=hlc1)) (Za.v 0 (Zu (hc:=Zdi N a0_ c0_ r2 hr2)) Za.f)) (tq ?_)
 refine it h (fun hc3 h => ?_) (fun hc3 h => ?_)
 ·refine sq (rg Za.f ?_)
  replace hH:HP H []:=HP.pick hH [] rfl
  refine tq (rt ?_)
  refine tr ?_
  obtain rfl:=Zb h
  exact Zai (by kernel_rfl) (by kernel_rfl)
 refine sk (tq ?_)
 refine kq (sq ?_)
 obtain ⟨j17,hj,h⟩:=bs h
 refine rgR (fun s=>s=⟨[(4,bv j17),(5,iv 0)],[],H⟩) ?_ ?_
 ·clear h
  have hlc4:=HP.get hH 1 rfl
  refine (EP.u 0 (Zn (H:=H) (id:=k1_) (off:=0) (cs:=[Zg false c1_]) (c:=[Zg false c1_]) (r:=Zg false c1_) (hl:=hlc4)) ?_)
  have hlc5:=HP.get hH 0 rfl
  refine (EP.u 0 (Zn (H:=H) (id:=k0_) (off:=0) (cs:=[Zg false c0_]) (c:=[Zg false c0_]) (r:=Zg false c0_) (hl:=hlc5)) ?_)
  obtain ⟨r6,hr6,hj⟩:=bs hj
  refine (EP.v 0 (Zu (hc:=ZhL N c1_ c0_ r6 hr6)) ?_)
  rcases ZH hj with ⟨hc7,hj⟩ | ⟨hc16,hj⟩
  ·refine (EP.u 0 (Zj (c:=(!r6)) (h:=hc7)) ?_)
   have hlc8:=HP.get hH 1 rfl
   refine (EP.u 2 (Zn (H:=H) (id:=k1_) (off:=0) (cs:=[Zg false c1_]) (c:=[Zg false c1_]) (r:=Zg false c1_) (hl:=hlc8)) ?_)
   have hlc9:=HP.get hH 0 rfl
   refine (EP.u 0 (Zn (H:=H) (id:=k0_) (off:=0) (cs:=[Zg false c0_]) (c:=[Zg false c0_]) (r:=Zg false c0_) (hl:=hlc9)) ?_)
   obtain ⟨r10,hr10,hj⟩:=bs hj
   refine (EP.v 0 (Zu (hc:=Zdj N a0_ c1_ c0_ r10 hr10)) ?_)
   rcases ZH hj with ⟨hc11,hj⟩ | ⟨hc15,hj⟩
   ·refine (EP.u 0 (Zj (c:=(!r10)) (h:=hc11)) ?_)
    have hlc12:=HP.get hH 0 rfl
    refine (EP.u 3 (Zn (H:=H) (id:=k0_) (off:=0) (cs:=[Zg false c0_]) (c:=[Zg false c0_]) (r:=Zg false c0_) (hl:=hlc12)) ?_)
    have hlc13:=HP.get hH 1 rfl
    refine (EP.u 0 (Zn (H:=H) (id:=k1_) (off:=0) (cs:=[Zg false c1_]) (c:=[Zg false c1_]) (r:=Zg false c1_) (hl:=hlc13)) ?_)
    obtain ⟨r14,hr14,hj⟩:=bs hj
    obtain rfl:=Zb hj
    exact (EP.v 0 (Zu (hc:=Zdj N a0_ c0_ c1_ r14 hr14)) (EP.f (by show _=_;kernel_rfl)))
   obtain rfl:=Zb hj
   exact (EP.u 0 (Zj (c:=(!r10)) (h:=hc15)) (EP.f (by show _=_;kernel_rfl)))
  obtain rfl:=Zb hj
  exact (EP.u 0 (Zj (c:=(!r6)) (h:=hc16)) (EP.f (by show _=_;kernel_rfl)))
 clear hj
 rintro s hR
 obtain rfl:=hR
 refine tq (rt ?_)
 obtain rfl:=Zb h
 exact Zai (by kernel_rfl) (by kernel_rfl)
theorem Zfv (N:Nat) (a0_:Zv) (a1_:(List Int)) (r:Int) (h:Zec N a0_ a1_=some r):Zab Try.prog 97 [.agg (Zc a0_),Zg false a1_] (iv r):=by
 unfold Zec at h
 have hH:HP ([]:List HO) []:=trivial
 refine ZF chk97 rfl rfl (Zr _ _ _ ?_) rfl
 refine sq (rg Za.f ?_)
 refine tq (sq ?_)
 refine sq ?_
 obtain ⟨r1,hr1,h⟩:=bs h
 refine rg (Za.v 1 (Zu (hc:=Zd6 N a0_ r1 hr1)) Za.f) (tq ?_)
 refine sq (rg Za.f ?_)
 refine tq (it h (fun hc2 h => ?_) (fun hc2 h => ?_))
 ·refine sq (rg Za.f ?_)
  refine tq (rt ?_)
  refine tr ?_
  obtain rfl:=Zb h
  exact Zx (by kernel_rfl)
 refine sk (tq ?_)
 refine kq (sq ?_)
 refine sq ?_
 obtain ⟨r3,hr3,h⟩:=bs h
 refine rg (Za.v 3 (Zu (hc:=Zdi N (ZM.mk a0_) a1_ r3 hr3)) Za.f) (tq ?_)
 refine it h (fun hc4 h => ?_) (fun hc4 h => ?_)
 ·refine sq (rg Za.f ?_)
  refine tq (rt ?_)
  refine tr ?_
  obtain rfl:=Zb h
  exact Zx (by kernel_rfl)
 refine sk (tq ?_)
 refine kq (sq ?_)
 refine rg Za.f (tq ?_)
 refine rt ?_
 obtain rfl:=Zb h
 exact Zx (by kernel_rfl)
theorem Zgp (N:Nat) (a0_:Zv) (a1_:(List Int)) (a2_:ZM→Option ((List Int) × Int)) (a2_f:Nat) (a2_p a2_c:List AV) (ha2_n:(noLocL a2_p&&noLocL a2_c)=true) (its:List ZR) (ha2_:∀ (H:List HO) (x0:ZM) (r:(List Int) × Int),HP H its→a2_ x0=some r→Zek Try.prog (.fn a2_f a2_p a2_c) [.agg [iv x0.Topo.Nodes,s_eB false x0.Topo.Station,Zk false x0.Topo.Links]] H (.tup [Zg false r.1,iv r.2]) H) (H:List HO) (hH:HP H (its)) (r:(List Int) × Int) (h:ZdM N a0_ a1_ a2_=some r):Zas Try.prog 101 [.agg (Zc a0_),Zg false a1_,.fn a2_f a2_p a2_c] H (.tup [Zg false r.1,iv r.2]) H:=by
 unfold ZdM at h
 refine ZaF chk101 rfl (by simpa [noLocL,ZK.noLocL,ZK] using ha2_n) rfl (Zr _ _ _ ?_)
 refine sq (rg Za.f ?_)
 refine tq (sq ?_)
 refine rg Za.f (tq ?_)
 refine sq (sq ?_)
 obtain ⟨r1,hr1,h⟩:=bs h
 refine rg (Za.v 2 (Zu (hc:=Zfv N a0_ a1_ r1 hr1)) Za.f) (tq ?_)
 refine sq (rg Za.f ?_)
 refine tq (it h (fun hc2 h => ?_) (fun hc2 h => ?_))
 ·refine sq (rg Za.f ?_)
  refine tq (rt ?_)
  refine tr ?_
  obtain rfl:=Zb h
  exact Zai (by kernel_rfl) (by kernel_rfl)
 refine sk (tq ?_)
 refine kq (sq ?_)
 obtain ⟨r3,hr3,h⟩:=bs h
 have hvr3:=ha2_ _ (ZM.mk a0_) _ hH hr3
 refine rg (Za.v 3 (Zbq (H:=H) (ys:=[.agg (Zc a0_)]) (hc:=hvr3)) Za.f) (tq ?_)
 refine rt ?_
 obtain rfl:=Zb h
 exact Zai (by kernel_rfl) (by kernel_rfl)
theorem Zef (N:Nat) (a0_:Ze) (r:Int) (h:Zcr N a0_=some r):Zab Try.prog 18 [.agg (Zd a0_)] (iv r):=by
 unfold Zcr at h
 have hH:HP ([]:List HO) []:=trivial
 refine ZF chk18 rfl rfl (Zr _ _ _ ?_) rfl
 refine sq (rg Za.f ?_)
 refine tq (sq ?_)
 refine sq (rgX ⟨[(1,.loc 1 0),(19,bv ((decide (((List.length a0_.Periods:Nat):Int) > 12))||(decide (((List.length a0_.Uses:Nat):Int) > 192))))],[(1,(Zd a0_))],[]⟩ ?_ ?_)
 ·refine (EP.u 2 (Zo (ys:=[Zg false a0_.Periods]) (h:=Zt eI64)) ?_)
  rcases Bool.eq_false_or_eq_true (decide (((List.length a0_.Periods:Nat):Int) > 12)) with hc1 | hc2
  ·exact (EP.u 0 (Zj (c:=(decide (((List.length a0_.Periods:Nat):Int) > 12))) (h:=hc1)) (EP.f (by simp only [hc1];kernel_rfl)))
  exact (EP.u 0 (Zj (c:=(decide (((List.length a0_.Periods:Nat):Int) > 12))) (h:=hc2)) (EP.u 3 (Zo (ys:=[Zp false a0_.Uses]) (h:=Zt Zi)) (EP.f (by simp only [hc2];kernel_rfl))))
 refine tq (it h (fun hc3 h => ?_) (fun hc3 h => ?_))
 ·refine sq (rg Za.f ?_)
  refine tq (rt ?_)
  refine tr ?_
  obtain rfl:=Zb h
  exact Zx (by kernel_rfl)
 refine sk (tq ?_)
 refine kq (sq ?_)
 refine sq (rg (Za.u 2 (Zo (ys:=[Zg false a0_.Periods]) (h:=Zt eI64)) Za.f) ?_)
 refine tq (bk ?_)
 obtain ⟨o510,ho510,h⟩:=bs h
 refine ZX ((ZO (fun (x:Int) s=>s=⟨[(1,.loc 1 0),(21,Zg false a0_.Periods),(22,iv ((List.length a0_.Periods:Nat):Int)),(23,iv x)],[(1,(Zd a0_))],[]⟩) (fun x:Int=>ZbL N a0_ x) (fun (p:(Unit) ⊕ (Int)) e s=>match p with | (.inl p)=>e = .exit 0∧(s=⟨[(1,.loc 1 0)],[(1,(Zd a0_))],[]⟩) | (.inr p)=>e = .ret∧∃ xs,resL s i18.res=some xs∧ZaD xs=iv p) ?_ N _ o510 _ ho510 (by show _=_;kernel_rfl)).mono ?_)
 ·clear h ho510
  rintro i4 o s h hR
  obtain rfl:=hR
  replace h:ZbL N a0_ i4=some o:=h
  unfold ZbL at h
  refine sq (rg Za.f ?_)
  refine tq (sq ?_)
  refine it h (fun hc505 h => ?_) (fun hc505 h => ?_)
  ·refine sk (tq ?_)
   refine kq (sq ?_)
   refine bk (sq ?_)
   obtain ⟨e506,he506,h⟩:=bs h
   refine rg (Za.u 0 (Zo (ys:=[Zg false a0_.Periods,iv i4]) (h:=Zm eI64 he506)) (Za.u 0 (ZD (sz:=1) (off:=0) (cs:=[.int .i64 e506]) (r:=iv e506) eI64 he506) Za.f)) (tq ?_)
   refine sq (rgX ⟨[(1,.loc 1 0),(21,Zg false a0_.Periods),(22,iv ((List.length a0_.Periods:Nat):Int)),(23,iv i4),(32,bv ((decide (e506<1))||(decide (e506 > 240))))],[(1,(Zd a0_))],[]⟩ ?_ ?_)
   ·rcases Bool.eq_false_or_eq_true (decide (e506<1)) with hc507 | hc508
    ·exact (EP.u 1 (Zj (c:=(decide (e506<1))) (h:=hc507)) (EP.f (by simp only [hc507];kernel_rfl)))
    exact (EP.u 1 (Zj (c:=(decide (e506<1))) (h:=hc508)) (EP.f (by simp only [hc508];kernel_rfl)))
   refine tq (it h (fun hc509 h => ?_) (fun hc509 h => ?_))
   ·refine sq (rg Za.f ?_)
    refine tq (rt ?_)
    refine br (tr ?_)
    obtain rfl:=Zb h
    exact ⟨_,rfl,rfl,Zx (by kernel_rfl)⟩
   refine sk (bn ?_)
   refine tq (kq ?_)
   refine rg Za.f ?_
   obtain rfl:=Zb h
   exact ⟨_,rfl,(by show _=_;kernel_rfl)⟩
  refine kq (xq ?_)
  refine tx ?_
  obtain rfl:=Zb h
  exact ⟨_,rfl,rfl,(by show _=_;kernel_rfl)⟩
 rintro e s hq
 rcases o510 with p511 | p1035
 ·dsimp only at h hq
  obtain ⟨rfl,hR⟩:=hq
  obtain rfl:=hR
  refine bx (tq ?_)
  refine sq (sq ?_)
  obtain ⟨r512,hr512,h⟩:=bs h
  refine rg (Za.v 2 (Zu (hc:=Zee N a0_.Periods r512 hr512)) Za.f) (tq ?_)
  refine sq (rg Za.f ?_)
  refine tq (it h (fun hc513 h => ?_) (fun hc513 h => ?_))
  ·refine sq (rg Za.f ?_)
   refine tq (rt ?_)
   refine tr ?_
   obtain rfl:=Zb h
   exact Zx (by kernel_rfl)
  refine sk (tq ?_)
  refine kq (sq ?_)
  refine sq (rg (Za.u 2 (Zo (ys:=[Zp false a0_.Uses]) (h:=Zt Zi)) Za.f) ?_)
  refine tq (bk ?_)
  obtain ⟨o1032,ho1032,h⟩:=bs h
  refine ZX ((ZO (fun (x:Int) s=>s=⟨[(1,.loc 1 0),(43,Zp false a0_.Uses),(44,iv ((List.length a0_.Uses:Nat):Int)),(45,iv x)],[(1,(Zd a0_))],[]⟩) (fun x:Int=>ZbK N a0_ x) (fun (p:(Unit) ⊕ (Int)) e s=>match p with | (.inl p)=>e = .exit 2∧(s=⟨[],[],[]⟩) | (.inr p)=>e = .ret∧∃ xs,resL s i18.res=some xs∧ZaD xs=iv p) ?_ N _ o1032 _ ho1032 (by show _=_;kernel_rfl)).mono ?_)
  ·clear h ho1032
   rintro i514 o s h hR
   obtain rfl:=hR
   replace h:ZbK N a0_ i514=some o:=h
   unfold ZbK at h
   refine sq (rg Za.f ?_)
   refine tq (sq ?_)
   refine it h (fun hc1015 h => ?_) (fun hc1015 h => ?_)
   ·refine sk (tq ?_)
    refine kq (sq ?_)
    refine bk (sq ?_)
    obtain ⟨e1016,he1016,h⟩:=bs h
    refine rg (Za.u 0 (Zo (ys:=[Zp false a0_.Uses,iv i514]) (h:=Zm Zi he1016)) (Za.u 0 (ZD (sz:=4) (off:=0) (cs:=[.int .i64 e1016.Stream,.int .i64 e1016.Port,.int .i64 e1016.From,.int .i64 e1016.Long]) (r:=.agg (ZP e1016)) Zi he1016) Za.f)) (tq ?_)
    refine sq (sq ?_)
    refine rgX ⟨[(1,.loc 1 0),(8,.loc 8 0),(43,Zp false a0_.Uses),(44,iv ((List.length a0_.Uses:Nat):Int)),(45,iv i514),(69,bv ((decide (e1016.Stream<0))||((decide (e1016.Stream ≥ ((List.length a0_.Periods:Nat):Int)))||((decide (e1016.Port<0))||(decide (e1016.Port ≥ 48))))))],[(1,(Zd a0_)),(8,(ZP e1016))],[]⟩ ?_ ?_
    ·rcases Bool.eq_false_or_eq_true (decide (e1016.Stream<0)) with hc1017 | hc1018
     ·exact (EP.u 2 (Zj (c:=(decide (e1016.Stream<0))) (h:=hc1017)) (EP.f (by simp only [hc1017];kernel_rfl)))
     refine (EP.u 2 (Zj (c:=(decide (e1016.Stream<0))) (h:=hc1018)) (EP.u 5 (Zo (ys:=[Zg false a0_.Periods]) (h:=Zt eI64)) ?_))
     rcases Bool.eq_false_or_eq_true (decide (e1016.Stream ≥ ((List.length a0_.Periods:Nat):Int))) with hc1019 | hc1020
     ·exact (EP.u 0 (Zj (c:=(decide (e1016.Stream ≥ ((List.length a0_.Periods:Nat):Int)))) (h:=hc1019)) (EP.f (by simp only [hc1018,hc1019];kernel_rfl)))
     refine (EP.u 0 (Zj (c:=(decide (e1016.Stream ≥ ((List.length a0_.Periods:Nat):Int)))) (h:=hc1020)) ?_)
     rcases Bool.eq_false_or_eq_true (decide (e1016.Port<0)) with hc1021 | hc1022
     ·exact (EP.u 4 (Zj (c:=(decide (e1016.Port<0))) (h:=hc1021)) (EP.f (by simp only [hc1018,hc1020,hc1021];kernel_rfl)))
     exact (EP.u 4 (Zj (c:=(decide (e1016.Port<0))) (h:=hc1022)) (EP.f (by simp only [hc1018,hc1020,hc1022];kernel_rfl)))
    refine tq (it h (fun hc1023 h => ?_) (fun hc1023 h => ?_))
    ·refine sq (rg Za.f ?_)
     refine tq (rt ?_)
     refine tr (br ?_)
     refine tr ?_
     obtain rfl:=Zb h
     exact ⟨_,rfl,rfl,Zx (by kernel_rfl)⟩
    refine sk (tq ?_)
    refine kq (sq ?_)
    obtain ⟨e1024,he1024,h⟩:=bs h
    refine rg (Za.u 4 (Zo (ys:=[Zg false a0_.Periods,iv e1016.Stream]) (h:=Zm eI64 he1024)) (Za.u 0 (ZD (sz:=1) (off:=0) (cs:=[.int .i64 e1024]) (r:=iv e1024) eI64 he1024) Za.f)) (tq ?_)
    refine sq (rgX ⟨[(1,.loc 1 0),(43,Zp false a0_.Uses),(44,iv ((List.length a0_.Uses:Nat):Int)),(45,iv i514),(95,bv ((decide (e1016.From<0))||((decide (e1016.From ≥ e1024))||((decide (e1016.Long<1))||(decide (e1016.Long > e1024))))))],[(1,(Zd a0_))],[]⟩ ?_ ?_)
    ·rcases Bool.eq_false_or_eq_true (decide (e1016.From<0)) with hc1025 | hc1026
     ·exact (EP.u 2 (Zj (c:=(decide (e1016.From<0))) (h:=hc1025)) (EP.f (by simp only [hc1025];kernel_rfl)))
     refine (EP.u 2 (Zj (c:=(decide (e1016.From<0))) (h:=hc1026)) ?_)
     rcases Bool.eq_false_or_eq_true (decide (e1016.From ≥ e1024)) with hc1027 | hc1028
     ·exact (EP.u 4 (Zj (c:=(decide (e1016.From ≥ e1024))) (h:=hc1027)) (EP.f (by simp only [hc1026,hc1027];kernel_rfl)))
     refine (EP.u 4 (Zj (c:=(decide (e1016.From ≥ e1024))) (h:=hc1028)) ?_)
     rcases Bool.eq_false_or_eq_true (decide (e1016.Long<1)) with hc1029 | hc1030
     ·exact (EP.u 4 (Zj (c:=(decide (e1016.Long<1))) (h:=hc1029)) (EP.f (by simp only [hc1026,hc1028,hc1029];kernel_rfl)))
     exact (EP.u 4 (Zj (c:=(decide (e1016.Long<1))) (h:=hc1030)) (EP.f (by simp only [hc1026,hc1028,hc1030];kernel_rfl)))
    refine tq (it h (fun hc1031 h => ?_) (fun hc1031 h => ?_))
    ·refine sq (rg Za.f ?_)
     refine tq (rt ?_)
     refine br (tr ?_)
     obtain rfl:=Zb h
     exact ⟨_,rfl,rfl,Zx (by kernel_rfl)⟩
    refine sk (bn ?_)
    refine tq (kq ?_)
    refine rg Za.f ?_
    obtain rfl:=Zb h
    exact ⟨_,rfl,(by show _=_;kernel_rfl)⟩
   refine kq (xq ?_)
   refine tx ?_
   obtain rfl:=Zb h
   exact ⟨_,rfl,rfl,(by show _=_;kernel_rfl)⟩
  rintro e s hq
  rcases o1032 with p1033 | p1034
  ·dsimp only at h hq
   obtain ⟨rfl,hR⟩:=hq
   obtain rfl:=hR
   refine bx (tq ?_)
   refine sq (rg Za.f ?_)
   refine tq (rt ?_)
   obtain rfl:=Zb h
   exact Zx (by kernel_rfl)
  dsimp only at h hq
  obtain ⟨rfl,hq⟩:=hq
  refine br (tr ?_)
  obtain rfl:=Zb h
  exact hq
 dsimp only at h hq
 obtain ⟨rfl,hq⟩:=hq
 refine br (tr ?_)
 obtain rfl:=Zb h
 exact hq
theorem Zep (N:Nat) (a0_:Ze) (a1_:Int) (a2_:Int) (a3_:Int) (a4_:Int) (r:Bool) (h:ZbJ N a0_ a1_ a2_ a3_ a4_=some r):Zab Try.prog 29 [.agg (Zd a0_),iv a1_,iv a2_,iv a3_,iv a4_] (bv r):=by
 unfold ZbJ at h
 have hH:HP ([]:List HO) []:=trivial
 refine ZF chk29 rfl rfl (Zr _ _ _ ?_) rfl
 refine sq ?_
 obtain ⟨id1,H2,hid1,hH2,hH⟩:=HP.newCell hH (Zd a0_)
 replace hH:HP H2 [.cel id1 (Zd a0_)]:=hH
 obtain ⟨id3,H4,hid3,hH4,hH⟩:=HP.newCell hH [iv a2_]
 replace hH:HP H4 [.cel id3 [iv a2_],.cel id1 (Zd a0_)]:=hH
 obtain ⟨id5,H6,hid5,hH6,hH⟩:=HP.newCell hH [iv a4_]
 replace hH:HP H6 [.cel id5 [iv a4_],.cel id3 [iv a2_],.cel id1 (Zd a0_)]:=hH
 obtain ⟨id7,H8,hid7,hH8,hH⟩:=HP.newCell hH [bv false]
 replace hH:HP H8 [.cel id7 [bv false],.cel id5 [iv a4_],.cel id3 [iv a2_],.cel id1 (Zd a0_)]:=hH
 refine rgS ⟨[(1,iv a1_),(3,iv a3_),(5,.ptr id1 0),(7,.ptr id3 0),(9,.ptr id5 0),(10,.ptr id7 0)],[],H8⟩ (Za.h 0 (ZaQ (H:=[]) (v:=.agg (Zd a0_)) (hid:=hid1) (hH:=hH2)) (Za.h 0 (ZaQ (H:=H2) (v:=iv a2_) (hid:=hid3) (hH:=hH4)) (Za.h 0 (ZaQ (H:=H4) (v:=iv a4_) (hid:=hid5) (hH:=hH6)) (Za.h 0 (ZeG (H:=H6) (by kernel_rfl) hid7 hH8) Za.f)))) (by kernel_rfl) ?_
 refine tq (sq ?_)
 refine sq ?_
 have hlc9:=HP.get hH 3 rfl
 obtain ⟨r10,hr10,h⟩:=bs h
 obtain ⟨id12,id13,id14,H11,hvr10,hpr10⟩:=Zjk N a0_ a1_ a3_ H8 r10 hr10
 replace hH:HP H11 [.cel id12 (Zd r10.1),.cel id13 [iv r10.2.1],.cel id14 [iv r10.2.2],.cel id7 [bv false],.cel id5 [iv a4_],.cel id3 [iv a2_],.cel id1 (Zd a0_)]:=HP.callee (fp:=[]) (rest:=[.cel id7 [bv false],.cel id5 [iv a4_],.cel id3 [iv a2_],.cel id1 (Zd a0_)]) hH hpr10
 refine rgS ⟨[(5,.ptr id1 0),(7,.ptr id3 0),(9,.ptr id5 0),(10,.ptr id7 0),(18,.fn 55 [] [.ptr id12 0,.ptr id13 0,.ptr id14 0])],[],H11⟩ (Za.u 0 (Zn (H:=H8) (id:=id1) (off:=0) (cs:=(Zd a0_)) (c:=(Zd a0_)) (r:=.agg (Zd a0_)) (hl:=hlc9)) (Za.v 2 (Zea (H:=H8) (ys:=[.agg (Zd a0_),iv a1_,iv a3_]) (by kernel_rfl) (by kernel_rfl) (by kernel_rfl) hvr10) Za.f)) (by kernel_rfl) ?_
 refine tq (bk ?_)
 obtain ⟨o530,ho530,h⟩:=bs h
 have hyo530:∀ (x16:Zy) (x17:Zy) (s:(Bool) × Nat) (r:((Bool) × Nat) × Bool) (H:List HO) (its:List ZR),(fun (s:(Bool) × Nat) (its:List ZR)=>its=[.cel id7 [bv s.1],.cel id5 [iv a4_],.cel id3 [iv a2_],.cel id1 (Zd a0_)]++[.lp (List.length H11) (lcOf Try.prog i29.nt [19,20] Zcn Zcl) [(5,.ptr id1 0),(7,.ptr id3 0),(9,.ptr id5 0),(10,.ptr id7 0)] (stAt [.ready,.done .ret] s.2)]) s its→HP H its→(fun (s:(Bool) × Nat) (x16:Zy) (x17:Zy)=>Zfo (fun v:Bool=>Zan N a0_ a2_ a4_ v x16 x17) s) s x16 x17=some r→∃ H' its',Ze3 Try.prog (List.length H11) [.agg (ZP x16),.agg (ZP x17)] H r.2 H'∧(fun (s:(Bool) × Nat) (its:List ZR)=>its=[.cel id7 [bv s.1],.cel id5 [iv a4_],.cel id3 [iv a2_],.cel id1 (Zd a0_)]++[.lp (List.length H11) (lcOf Try.prog i29.nt [19,20] Zcn Zcl) [(5,.ptr id1 0),(7,.ptr id3 0),(9,.ptr id5 0),(10,.ptr id7 0)] (stAt [.ready,.done .ret] s.2)]) r.1 its'∧Fp H H' its its':=by
  clear h
  intro x16 x17 s r H15 its hT hH h
  obtain ⟨h0,q,hb,rfl⟩:=Zhx h
  clear h
  obtain ⟨vs,e⟩:=s
  obtain rfl:e=0:=h0
  obtain ⟨b18,rfl⟩:∃ v,v=vs:=⟨vs,rfl⟩
  obtain rfl:=hT
  replace h:Zan N a0_ a2_ a4_ b18 x16 x17=some q:=hb
  clear hb
  unfold Zan at h
  replace hH:Fp H15 H15 [.cel id7 [bv b18],.cel id5 [iv a4_],.cel id3 [iv a2_],.cel id1 (Zd a0_),.lp (List.length H11) (lcOf Try.prog i29.nt [19,20] Zcn Zcl) [(5,.ptr id1 0),(7,.ptr id3 0),(9,.ptr id5 0),(10,.ptr id7 0)] .ready] [.cel id7 [bv b18],.cel id5 [iv a4_],.cel id3 [iv a2_],.cel id1 (Zd a0_),.lp (List.length H11) (lcOf Try.prog i29.nt [19,20] Zcn Zcl) [(5,.ptr id1 0),(7,.ptr id3 0),(9,.ptr id5 0),(10,.ptr id7 0)] .ready]:=Fp.refl hH
  suffices hs:∃ H',Ze3 Try.prog (List.length H11) [.agg (ZP x16),.agg (ZP x17)] H15 (q.2==0) H'∧∃ its',(fun (s:(Bool) × Nat) (its:List ZR)=>its=[.cel id7 [bv s.1],.cel id5 [iv a4_],.cel id3 [iv a2_],.cel id1 (Zd a0_)]++[.lp (List.length H11) (lcOf Try.prog i29.nt [19,20] Zcn Zcl) [(5,.ptr id1 0),(7,.ptr id3 0),(9,.ptr id5 0),(10,.ptr id7 0)] (stAt [.ready,.done .ret] s.2)]) q its'∧Fp H15 H' [.cel id7 [bv b18],.cel id5 [iv a4_],.cel id3 [iv a2_],.cel id1 (Zd a0_),.lp (List.length H11) (lcOf Try.prog i29.nt [19,20] Zcn Zcl) [(5,.ptr id1 0),(7,.ptr id3 0),(9,.ptr id5 0),(10,.ptr id7 0)] .ready] its' by
   obtain ⟨H',h1,its',h2,h3⟩:=hs
   exact ⟨H',its',h1,h2,h3⟩
  refine Zez (id:=(List.length H11)) (args:=[.agg (ZP x16),.agg (ZP x17)]) (H:=H15) (n:=i29.nt) (ps:=[19,20]) (fr0:=[(5,.ptr id1 0),(7,.ptr id3 0),(9,.ptr id5 0),(10,.ptr id7 0)]) (ia:=Zcn) (ib:=Zcl) (q.2==0) (fun H'=>∃ its',(fun (s:(Bool) × Nat) (its:List ZR)=>its=[.cel id7 [bv s.1],.cel id5 [iv a4_],.cel id3 [iv a2_],.cel id1 (Zd a0_)]++[.lp (List.length H11) (lcOf Try.prog i29.nt [19,20] Zcn Zcl) [(5,.ptr id1 0),(7,.ptr id3 0),(9,.ptr id5 0),(10,.ptr id7 0)] (stAt [.ready,.done .ret] s.2)]) q its'∧Fp H15 H' [.cel id7 [bv b18],.cel id5 [iv a4_],.cel id3 [iv a2_],.cel id1 (Zd a0_),.lp (List.length H11) (lcOf Try.prog i29.nt [19,20] Zcn Zcl) [(5,.ptr id1 0),(7,.ptr id3 0),(9,.ptr id5 0),(10,.ptr id7 0)] .ready] its') (Fp.get hH 4 rfl) rfl (by decide +kernel) rfl ?_
  show vc _ _ _ _ ⟨[(5,.ptr id1 0),(7,.ptr id3 0),(9,.ptr id5 0),(10,.ptr id7 0),(19,.agg (ZP x16)),(20,.agg (ZP x17))],[],H15⟩
  refine sq (rgS ⟨[(5,.ptr id1 0),(7,.ptr id3 0),(9,.ptr id5 0),(10,.ptr id7 0),(11,.loc 11 0),(20,.agg (ZP x17))],[(11,(ZP x16))],H15⟩ Za.f (by kernel_rfl) ?_)
  refine tq (rgS ⟨[(5,.ptr id1 0),(7,.ptr id3 0),(9,.ptr id5 0),(10,.ptr id7 0),(11,.loc 11 0),(12,.loc 12 0)],[(11,(ZP x16)),(12,(ZP x17))],H15⟩ Za.f (by kernel_rfl) ?_)
  refine Zib (k:=4) hH rfl ?_
  intro H518 hH
  replace hH:Fp H15 H518 [.cel id7 [bv b18],.cel id5 [iv a4_],.cel id3 [iv a2_],.cel id1 (Zd a0_),.lp (List.length H11) (lcOf Try.prog i29.nt [19,20] Zcn Zcl) [(5,.ptr id1 0),(7,.ptr id3 0),(9,.ptr id5 0),(10,.ptr id7 0)] .ready] [.cel id7 [bv b18],.cel id5 [iv a4_],.cel id3 [iv a2_],.cel id1 (Zd a0_),.lp (List.length H11) (lcOf Try.prog i29.nt [19,20] Zcn Zcl) [(5,.ptr id1 0),(7,.ptr id3 0),(9,.ptr id5 0),(10,.ptr id7 0)] .busy]:=hH
  show vc _ _ _ _ ⟨[(5,.ptr id1 0),(7,.ptr id3 0),(9,.ptr id5 0),(10,.ptr id7 0),(11,.loc 11 0),(12,.loc 12 0)],[(11,(ZP x16)),(12,(ZP x17))],H518⟩
  refine bk (sq ?_)
  refine sq (rgS ⟨[(5,.ptr id1 0),(7,.ptr id3 0),(9,.ptr id5 0),(10,.ptr id7 0),(11,.loc 11 0),(12,.loc 12 0),(23,bv ((x16.Stream==x17.Stream)&&((x16.Port==x17.Port)&&((x16.From==x17.From)&&((x16.Long==x17.Long)&&true)))))],[(11,(ZP x16)),(12,(ZP x17))],H518⟩ Za.f (by kernel_rfl) ?_)
  refine tq (it h (fun hc519 h => ?_) (fun hc519 h => ?_))
  ·refine sq ?_
   obtain ⟨H520,hH520,hH⟩:=Fp.setCell (k:=0) (off:=0) (cs:=[bv b18]) (vs:=[bv true]) (cs':=[bv true]) hH rfl (by kernel_rfl)
   replace hH:Fp H15 H520 [.cel id7 [bv b18],.cel id5 [iv a4_],.cel id3 [iv a2_],.cel id1 (Zd a0_),.lp (List.length H11) (lcOf Try.prog i29.nt [19,20] Zcn Zcl) [(5,.ptr id1 0),(7,.ptr id3 0),(9,.ptr id5 0),(10,.ptr id7 0)] .ready] [.cel id7 [bv true],.cel id5 [iv a4_],.cel id3 [iv a2_],.cel id1 (Zd a0_),.lp (List.length H11) (lcOf Try.prog i29.nt [19,20] Zcn Zcl) [(5,.ptr id1 0),(7,.ptr id3 0),(9,.ptr id5 0),(10,.ptr id7 0)] .busy]:=hH
   refine rgS ⟨[],[],H520⟩ (Za.o 0 (Z9 (H:=H518) (v:=bv true) (hw:=hH520)) Za.f) (by kernel_rfl) ?_
   refine tq (rt ?_)
   refine tr (br ?_)
   obtain rfl:=Zb h
   exact rbd (k:=4) (.done .ret) hH rfl rfl (fun H6 hH=>⟨_,(Eq.refl _),(Fp.pick hH [0,1,2,3,4] rfl)⟩)
  refine sk (tq ?_)
  refine kq (sq ?_)
  have hlc521:=Fp.get hH 3 rfl
  have hlc522:=Fp.get hH 2 rfl
  obtain ⟨r523,hr523,h⟩:=bs h
  have hlc524:=Fp.get hH 3 rfl
  have hlc525:=Fp.get hH 1 rfl
  obtain ⟨r526,hr526,h⟩:=bs h
  obtain ⟨r527,hr527,h⟩:=bs h
  refine rqS ⟨[(10,.ptr id7 0),(13,bv r527.1)],[],H518⟩ (Za.u 0 (ZV (Zn (H:=H518) (id:=id1) (off:=0) (cs:=(Zd a0_)) (c:=(Zd a0_)) (r:=.agg (Zd a0_)) (hl:=hlc521))) (Za.u 1 (ZV (Zn (H:=H518) (id:=id3) (off:=0) (cs:=[iv a2_]) (c:=[iv a2_]) (r:=iv a2_) (hl:=hlc522))) (Za.u 0 (Zk2 (hc:=Zen N a0_ x16 a2_ r523 hr523)) (Za.u 0 (ZV (Zn (H:=H518) (id:=id1) (off:=0) (cs:=(Zd a0_)) (c:=(Zd a0_)) (r:=.agg (Zd a0_)) (hl:=hlc524))) (Za.u 1 (ZV (Zn (H:=H518) (id:=id5) (off:=0) (cs:=[iv a4_]) (c:=[iv a4_]) (r:=iv a4_) (hl:=hlc525))) (Za.v 0 (Zu (hc:=Zen N a0_ x17 a4_ r526 hr526)) (Za.v 0 (Zu (hc:=Zhg N r523 r526 r527 hr527)) Za.f))))))) (by kernel_rfl) ?_
  refine tq (sq ?_)
  refine rgS ⟨[(10,.ptr id7 0),(37,bv (!r527.1))],[],H518⟩ Za.f (by kernel_rfl) ?_
  refine tq (it h (fun hc528 h => ?_) (fun hc528 h => ?_))
  ·refine sq ?_
   obtain ⟨H529,hH529,hH⟩:=Fp.setCell (k:=0) (off:=0) (cs:=[bv b18]) (vs:=[bv true]) (cs':=[bv true]) hH rfl (by kernel_rfl)
   replace hH:Fp H15 H529 [.cel id7 [bv b18],.cel id5 [iv a4_],.cel id3 [iv a2_],.cel id1 (Zd a0_),.lp (List.length H11) (lcOf Try.prog i29.nt [19,20] Zcn Zcl) [(5,.ptr id1 0),(7,.ptr id3 0),(9,.ptr id5 0),(10,.ptr id7 0)] .ready] [.cel id7 [bv true],.cel id5 [iv a4_],.cel id3 [iv a2_],.cel id1 (Zd a0_),.lp (List.length H11) (lcOf Try.prog i29.nt [19,20] Zcn Zcl) [(5,.ptr id1 0),(7,.ptr id3 0),(9,.ptr id5 0),(10,.ptr id7 0)] .busy]:=hH
   refine rgS ⟨[],[],H529⟩ (Za.o 0 (Z9 (H:=H518) (v:=bv true) (hw:=hH529)) Za.f) (by kernel_rfl) ?_
   refine tq (rt ?_)
   refine br ?_
   obtain rfl:=Zb h
   exact rbd (k:=4) (.done .ret) hH rfl rfl (fun H6 hH=>⟨_,(Eq.refl _),(Fp.pick hH [0,1,2,3,4] rfl)⟩)
  refine sk (bn ?_)
  obtain rfl:=Zb h
  exact rbd (k:=4) (.ready) hH rfl rfl (fun H6 hH=>⟨_,(Eq.refl _),(Fp.pick hH [0,1,2,3,4] rfl)⟩)
 refine ZfS (s:=⟨[(5,.ptr id1 0),(7,.ptr id3 0),(9,.ptr id5 0),(10,.ptr id7 0),(18,.fn 55 [] [.ptr id12 0,.ptr id13 0,.ptr id14 0])],[],H11⟩) [(5,.ptr id1 0),(7,.ptr id3 0),(9,.ptr id5 0),(10,.ptr id7 0)] (FrOK.cons (by kernel_rfl) (by kernel_rfl) (FrOK.cons (by kernel_rfl) (by kernel_rfl) (FrOK.cons (by kernel_rfl) (by kernel_rfl) (FrOK.cons (by kernel_rfl) (by kernel_rfl) FrOK.nil)))) (by kernel_rfl) (fun H=>rfl) (capT:=[.cel id12 (Zd r10.1),.cel id13 [iv r10.2.1],.cel id14 [iv r10.2.2]]) (cells0:=[.cel id7 [bv false],.cel id5 [iv a4_],.cel id3 [iv a2_],.cel id1 (Zd a0_)]) (rest:=[]) (HP.now (HP.pick hH [0,1,2,3,4,5,6] rfl)) (fun (s:(Bool) × Nat) (its:List ZR)=>its=[.cel id7 [bv s.1],.cel id5 [iv a4_],.cel id3 [iv a2_],.cel id1 (Zd a0_)]++[.lp (List.length H11) (lcOf Try.prog i29.nt [19,20] Zcn Zcl) [(5,.ptr id1 0),(7,.ptr id3 0),(9,.ptr id5 0),(10,.ptr id7 0)] (stAt [.ready,.done .ret] s.2)]) (false,0) o530 (by exact (Eq.refl _)) (fun H its hT hH=>ZhT N (fun (s:(Bool) × Nat) (x16:Zy) (x17:Zy)=>Zfo (fun v:Bool=>Zan N a0_ a2_ a4_ v x16 x17) s) r10.1 r10.2.1 r10.2.2 (false,0) id12 id13 id14 (List.length H11) (fun (s:(Bool) × Nat) (its:List ZR)=>its=[.cel id7 [bv s.1],.cel id5 [iv a4_],.cel id3 [iv a2_],.cel id1 (Zd a0_)]++[.lp (List.length H11) (lcOf Try.prog i29.nt [19,20] Zcn Zcl) [(5,.ptr id1 0),(7,.ptr id3 0),(9,.ptr id5 0),(10,.ptr id7 0)] (stAt [.ready,.done .ret] s.2)]) hyo530 H its hT hH o530 ho530) ?_
 rintro its hT
 obtain rfl:=hT
 refine ⟨_,_,rfl,?_⟩
 intro H531 hF
 replace hH:HP H531 [.cel id12 (Zd r10.1),.cel id13 [iv r10.2.1],.cel id14 [iv r10.2.2],.cel id7 [bv o530.1],.cel id5 [iv a4_],.cel id3 [iv a2_],.cel id1 (Zd a0_)]:=HP.after (HP.pick hH [0,1,2,3,4,5,6] rfl) hF
 rcases ZH h with ⟨hc532,h⟩ | ⟨_,h⟩
 ·refine Zjn (S:=⟨[(5,.ptr id1 0),(7,.ptr id3 0),(9,.ptr id5 0),(10,.ptr id7 0),(18,.fn 55 [] [.ptr id12 0,.ptr id13 0,.ptr id14 0])],[],H531⟩) (e:=.normal) hc532 rfl ?_
  refine bn (tq ?_)
  refine kq ?_
  replace hH:HP H531 [.cel id7 [bv o530.1]]:=HP.pick hH [3] rfl
  refine sq ?_
  obtain ⟨H533,hH533,hH⟩:=HP.setCell (k:=0) (off:=0) (cs:=[bv o530.1]) (vs:=[bv false]) (cs':=[bv false]) hH rfl (by kernel_rfl)
  replace hH:HP H533 [.cel id7 [bv false]]:=hH
  refine rgS ⟨[(10,.ptr id7 0)],[],H533⟩ (Za.o 0 (Z9 (H:=H531) (v:=bv false) (hw:=hH533)) Za.f) (by kernel_rfl) ?_
  refine tq (rt ?_)
  obtain rfl:=Zb h
  exact ZeM (H:=H533) (ys:=[bv false]) (xs:=[bv false]) (by kernel_rfl) (Zk8 (r:=.cell 10 1 false) (v:=bv false) (Zk7 (id:=id7) (off:=0) (cs:=[bv false]) (c:=[bv false]) (by kernel_rfl) (HP.get hH 0 rfl) (by kernel_rfl) (by kernel_rfl)) Zk9) (ZaS rfl Zb2) (by kernel_rfl)
 rcases ZH h with ⟨hc534,h⟩ | ⟨_,h⟩
 ·refine Zjn (S:=⟨[(5,.ptr id1 0),(7,.ptr id3 0),(9,.ptr id5 0),(10,.ptr id7 0),(18,.fn 55 [] [.ptr id12 0,.ptr id13 0,.ptr id14 0])],[],H531⟩) (e:=.ret) hc534 rfl ?_
  refine br (tr ?_)
  obtain rfl:=Zb h
  exact ZeM (H:=H531) (ys:=[bv o530.1]) (xs:=[bv o530.1]) (by kernel_rfl) (Zk8 (r:=.cell 10 1 false) (v:=bv o530.1) (Zk7 (id:=id7) (off:=0) (cs:=[bv o530.1]) (c:=[bv o530.1]) (by kernel_rfl) (HP.get hH 3 rfl) (by kernel_rfl) (by kernel_rfl)) Zk9) (ZaS rfl Zb2) (by kernel_rfl)
 cases h
theorem Zgo (N:Nat) (a0_:Zv) (a1_:(List Int)) (a2_:ZM→Option (Bool × Int)) (a2_f:Nat) (a2_p a2_c:List AV) (ha2_n:(noLocL a2_p&&noLocL a2_c)=true) (its:List ZR) (ha2_:∀ (H:List HO) (x0:ZM) (r:Bool × Int),HP H its→a2_ x0=some r→Zek Try.prog (.fn a2_f a2_p a2_c) [.agg [iv x0.Topo.Nodes,s_eB false x0.Topo.Station,Zk false x0.Topo.Links]] H (.tup [bv r.1,iv r.2]) H) (H:List HO) (hH:HP H (its)) (r:Bool × Int) (h:ZdL N a0_ a1_ a2_=some r):Zas Try.prog 90 [.agg (Zc a0_),Zg false a1_,.fn a2_f a2_p a2_c] H (.tup [bv r.1,iv r.2]) H:=by
 unfold ZdL at h
 refine ZaF chk90 rfl (by simpa [noLocL,ZK.noLocL,ZK] using ha2_n) rfl (Zr _ _ _ ?_)
 refine sq (rg Za.f ?_)
 refine tq (sq ?_)
 refine rg Za.f (tq ?_)
 refine sq (sq ?_)
 obtain ⟨r1,hr1,h⟩:=bs h
 refine rg (Za.v 2 (Zu (hc:=Zfv N a0_ a1_ r1 hr1)) Za.f) (tq ?_)
 refine sq (rg Za.f ?_)
 refine tq (it h (fun hc2 h => ?_) (fun hc2 h => ?_))
 ·refine sq (rg Za.f ?_)
  refine tq (rt ?_)
  refine tr ?_
  obtain rfl:=Zb h
  exact Zai (by kernel_rfl) (by kernel_rfl)
 refine sk (tq ?_)
 refine kq (sq ?_)
 obtain ⟨r3,hr3,h⟩:=bs h
 have hvr3:=ha2_ _ (ZM.mk a0_) _ hH hr3
 refine rg (Za.v 3 (Zbq (H:=H) (ys:=[.agg (Zc a0_)]) (hc:=hvr3)) Za.f) (tq ?_)
 refine rt ?_
 obtain rfl:=Zb h
 exact Zai (by kernel_rfl) (by kernel_rfl)
theorem Ziw (N:Nat) (a0_:Zv) (a1_:(List Int)) (r:(List Int) × Int) (h:ZfE N a0_ a1_=some r):Zab Try.prog 96 [.agg (Zc a0_),Zg false a1_] (.tup [Zg false r.1,iv r.2]):=by
 unfold ZfE at h
 have hH:HP ([]:List HO) []:=trivial
 refine ZF chk96 rfl rfl (Zr _ _ _ ?_) rfl
 refine sq ?_
 obtain ⟨id1,H2,hid1,hH2,hH⟩:=HP.newCell hH [Zg false a1_]
 replace hH:HP H2 [.cel id1 [Zg false a1_]]:=hH
 refine rg (Za.h 1 (ZaQ (H:=[]) (v:=Zg false a1_) (hid:=hid1) (hH:=hH2)) Za.f) (tq ?_)
 refine sq ?_
 have hlc3:=HP.get hH 0 rfl
 obtain ⟨r4,hr4,h⟩:=bs h
 have hvr4:=(Zgp N a0_ a1_ (fun x0=>Zc8 N x0 a1_)   102 [] [.ptr id1 0] (by kernel_rfl) [.cel id1 [Zg false a1_]] (fun H x0 r hH h=>Zek.of (by kernel_rfl) (Zg9 N  x0 a1_ id1 H hH r h)) H2 (HP.now (HP.pick hH [0] rfl)) r4 hr4)
 refine rg (Za.u 1 (Zn (H:=H2) (id:=id1) (off:=0) (cs:=[Zg false a1_]) (c:=[Zg false a1_]) (r:=Zg false a1_) (hl:=hlc3)) (Za.v 1 (Zea (H:=H2) (ys:=[.agg (Zc a0_),Zg false a1_,.fn 102 [] [.ptr id1 0]]) (by kernel_rfl) (by kernel_rfl) (by kernel_rfl) hvr4) Za.f)) ?_
 replace hH:HP H2 []:=HP.pick hH [] rfl
 refine tq (rt ?_)
 obtain rfl:=Zb h
 exact Zx (by kernel_rfl)
theorem ZcS (N:Nat) (a0_:Ze) (a1_:Int) (a2_:Int) (a3_:Int) (a4_:Int) (r:Bool × Int) (h:Zbg N a0_ a1_ a2_ a3_ a4_=some r):Zab Try.prog 11 [.agg (Zd a0_),iv a1_,iv a2_,iv a3_,iv a4_] (.tup [bv r.1,iv r.2]):=by
 unfold Zbg at h
 have hH:HP ([]:List HO) []:=trivial
 refine ZF chk11 rfl rfl (Zr _ _ _ ?_) rfl
 refine sq (rg Za.f ?_)
 refine tq (sq ?_)
 refine sq ?_
 obtain ⟨r1,hr1,h⟩:=bs h
 refine rg (Za.v 1 (Zu (hc:=Zef N a0_ r1 hr1)) Za.f) (tq ?_)
 refine sq (rg Za.f ?_)
 refine tq (it h (fun hc2 h => ?_) (fun hc2 h => ?_))
 ·refine sq (rg Za.f ?_)
  refine tq (rt ?_)
  refine tr ?_
  obtain rfl:=Zb h
  exact Zx (by kernel_rfl)
 refine sk (tq ?_)
 refine kq (sq ?_)
 refine sq (rgX ⟨[(1,iv a1_),(2,iv a2_),(3,iv a3_),(4,iv a4_),(5,.loc 5 0),(37,bv ((decide (a1_<0))||((decide (a1_ ≥ ((List.length a0_.Periods:Nat):Int)))||((decide (a3_<0))||(decide (a3_ ≥ ((List.length a0_.Periods:Nat):Int)))))))],[(5,(Zd a0_))],[]⟩ ?_ ?_)
 ·rcases Bool.eq_false_or_eq_true (decide (a1_<0)) with hc3 | hc4
  ·exact (EP.u 1 (Zj (c:=(decide (a1_<0))) (h:=hc3)) (EP.f (by simp only [hc3];kernel_rfl)))
  refine (EP.u 1 (Zj (c:=(decide (a1_<0))) (h:=hc4)) (EP.u 4 (Zo (ys:=[Zg false a0_.Periods]) (h:=Zt eI64)) ?_))
  rcases Bool.eq_false_or_eq_true (decide (a1_ ≥ ((List.length a0_.Periods:Nat):Int))) with hc5 | hc6
  ·exact (EP.u 0 (Zj (c:=(decide (a1_ ≥ ((List.length a0_.Periods:Nat):Int)))) (h:=hc5)) (EP.f (by simp only [hc4,hc5];kernel_rfl)))
  refine (EP.u 0 (Zj (c:=(decide (a1_ ≥ ((List.length a0_.Periods:Nat):Int)))) (h:=hc6)) ?_)
  rcases Bool.eq_false_or_eq_true (decide (a3_<0)) with hc7 | hc8
  ·exact (EP.u 3 (Zj (c:=(decide (a3_<0))) (h:=hc7)) (EP.f (by simp only [hc4,hc6,hc7];kernel_rfl)))
  exact (EP.u 3 (Zj (c:=(decide (a3_<0))) (h:=hc8)) (EP.u 5 (Zo (ys:=[Zg false a0_.Periods]) (h:=Zt eI64)) (EP.f (by simp only [hc4,hc6,hc8];kernel_rfl))))
 refine tq (it h (fun hc9 h => ?_) (fun hc9 h => ?_))
 ·refine sq (rg Za.f ?_)
  refine tq (rt ?_)
  refine tr ?_
  obtain rfl:=Zb h
  exact Zx (by kernel_rfl)
 refine sk (tq ?_)
 refine kq (sq ?_)
 refine sq ?_
 obtain ⟨j18,hj,h⟩:=bs h
 refine rgR (fun s=>s=⟨[(1,iv a1_),(2,iv a2_),(3,iv a3_),(4,iv a4_),(5,.loc 5 0),(59,bv j18)],[(5,(Zd a0_))],[]⟩) ?_ ?_
 ·clear h
  obtain ⟨r10,hr10,hj⟩:=bs hj
  refine (EP.v 3 (Zu (hc:=ZdN N a0_ a1_ a2_ r10 hr10)) ?_)
  rcases ZH hj with ⟨hc11,hj⟩ | ⟨hc12,hj⟩
  ·obtain rfl:=Zb hj
   exact (EP.u 0 (Zj (c:=(!r10)) (h:=hc11)) (EP.f (by show _=_;kernel_rfl)))
  refine (EP.u 0 (Zj (c:=(!r10)) (h:=hc12)) ?_)
  obtain ⟨r13,hr13,hj⟩:=bs hj
  refine (EP.v 4 (Zu (hc:=ZdN N a0_ a3_ a4_ r13 hr13)) ?_)
  rcases ZH hj with ⟨hc14,hj⟩ | ⟨hc15,hj⟩
  ·obtain rfl:=Zb hj
   exact (EP.u 0 (Zj (c:=(!r13)) (h:=hc14)) (EP.f (by show _=_;kernel_rfl)))
  refine (EP.u 0 (Zj (c:=(!r13)) (h:=hc15)) ?_)
  rcases ZH hj with ⟨hc16,hj⟩ | ⟨hc17,hj⟩
  ·obtain rfl:=Zb hj
   exact (EP.u 4 (Zj (c:=(a1_==a3_)) (h:=hc16)) (EP.f (by show _=_;kernel_rfl)))
  obtain rfl:=Zb hj
  exact (EP.u 4 (Zj (c:=(a1_==a3_)) (h:=hc17)) (EP.f (by show _=_;kernel_rfl)))
 clear hj
 rintro s hR
 obtain rfl:=hR
 refine tq (it h (fun hc19 h => ?_) (fun hc19 h => ?_))
 ·refine sq (rg Za.f ?_)
  refine tq (rt ?_)
  refine tr ?_
  obtain rfl:=Zb h
  exact Zx (by kernel_rfl)
 refine sk (tq ?_)
 refine kq (sq ?_)
 obtain ⟨r20,hr20,h⟩:=bs h
 refine rg (Za.v 5 (Zu (hc:=Zep N a0_ a1_ a2_ a3_ a4_ r20 hr20)) Za.f) (tq ?_)
 refine rt ?_
 obtain rfl:=Zb h
 exact Zx (by kernel_rfl)
theorem ZeO (N:Nat) (a0_:Ze) (a1_:(List Int)) (r:Bool × Int) (h:Zdl N a0_ a1_=some r):Zab Try.prog 13 [.agg (Zd a0_),Zg false a1_] (.tup [bv r.1,iv r.2]):=by
 unfold Zdl at h
 have hH:HP ([]:List HO) []:=trivial
 refine ZF chk13 rfl rfl (Zr _ _ _ ?_) rfl
 refine sq (rg Za.f ?_)
 refine tq (sq ?_)
 refine sq ?_
 obtain ⟨r1,hr1,h⟩:=bs h
 refine rg (Za.v 1 (Zu (hc:=Zef N a0_ r1 hr1)) Za.f) (tq ?_)
 refine sq (rg Za.f ?_)
 refine tq (it h (fun hc2 h => ?_) (fun hc2 h => ?_))
 ·refine sq (rg Za.f ?_)
  refine tq (rt ?_)
  refine tr ?_
  obtain rfl:=Zb h
  exact Zx (by kernel_rfl)
 refine sk (tq ?_)
 refine kq (sq ?_)
 refine sq (rg (Za.u 1 (Zo (ys:=[Zg false a1_]) (h:=Zt eI64)) (Za.u 2 (Zo (ys:=[Zg false a0_.Periods]) (h:=Zt eI64)) Za.f)) ?_)
 refine tq (it h (fun hc3 h => ?_) (fun hc3 h => ?_))
 ·refine sq (rg Za.f ?_)
  refine tq (rt ?_)
  refine tr ?_
  obtain rfl:=Zb h
  exact Zx (by kernel_rfl)
 refine sk (tq ?_)
 refine kq (sq ?_)
 refine sq (rg (Za.u 1 (Zo (ys:=[Zg false a1_]) (h:=Zt eI64)) Za.f) ?_)
 refine tq (bk ?_)
 obtain ⟨o509,ho509,h⟩:=bs h
 refine ZX ((ZO (fun (x:Int) s=>s=⟨[(1,Zg false a1_),(2,.loc 2 0),(24,Zg false a1_),(25,iv ((List.length a1_:Nat):Int)),(26,iv x)],[(2,(Zd a0_))],[]⟩) (fun x:Int=>Zb6 N a0_ a1_ x) (fun (p:(Unit) ⊕ (Bool × Int)) e s=>match p with | (.inl p)=>e = .exit 0∧(s=⟨[(1,Zg false a1_),(2,.loc 2 0)],[(2,(Zd a0_))],[]⟩) | (.inr p)=>e = .ret∧∃ xs,resL s i13.res=some xs∧ZaD xs = .tup [bv p.1,iv p.2]) ?_ N _ o509 _ ho509 (by show _=_;kernel_rfl)).mono ?_)
 ·clear h ho509
  rintro i4 o s h hR
  obtain rfl:=hR
  replace h:Zb6 N a0_ a1_ i4=some o:=h
  unfold Zb6 at h
  refine sq (rg Za.f ?_)
  refine tq (sq ?_)
  refine it h (fun hc505 h => ?_) (fun hc505 h => ?_)
  ·refine sk (tq ?_)
   refine kq (sq ?_)
   refine bk (sq ?_)
   obtain ⟨e506,he506,h⟩:=bs h
   refine rg (Za.u 1 (Zo (ys:=[Zg false a1_,iv i4]) (h:=Zm eI64 he506)) (Za.u 0 (ZD (sz:=1) (off:=0) (cs:=[.int .i64 e506]) (r:=iv e506) eI64 he506) Za.f)) (tq ?_)
   refine sq ?_
   obtain ⟨r507,hr507,h⟩:=bs h
   refine rg (Za.v 3 (Zu (hc:=ZdN N a0_ i4 e506 r507 hr507)) Za.f) (tq ?_)
   refine it h (fun hc508 h => ?_) (fun hc508 h => ?_)
   ·refine sq (rg Za.f ?_)
    refine tq (rt ?_)
    refine br (tr ?_)
    obtain rfl:=Zb h
    exact ⟨_,rfl,rfl,Zx (by kernel_rfl)⟩
   refine sk (bn ?_)
   refine tq (kq ?_)
   refine rg Za.f ?_
   obtain rfl:=Zb h
   exact ⟨_,rfl,(by show _=_;kernel_rfl)⟩
  refine kq (xq ?_)
  refine tx ?_
  obtain rfl:=Zb h
  exact ⟨_,rfl,rfl,(by show _=_;kernel_rfl)⟩
 rintro e s hq
 rcases o509 with p510 | p1526
 ·dsimp only at h hq
  obtain ⟨rfl,hR⟩:=hq
  obtain rfl:=hR
  refine bx (tq ?_)
  refine sq (sq ?_)
  refine rg (Za.u 1 (Zo (ys:=[Zg false a1_]) (h:=Zt eI64)) Za.f) (tq ?_)
  refine bk ?_
  obtain ⟨o1523,ho1523,h⟩:=bs h
  refine ZX ((ZO (fun (x:Int) s=>s=⟨[(1,Zg false a1_),(2,.loc 2 0),(37,Zg false a1_),(38,iv ((List.length a1_:Nat):Int)),(39,iv x)],[(2,(Zd a0_))],[]⟩) (fun x:Int=>Zb5 N a0_ a1_ x) (fun (p:(Unit) ⊕ (Bool × Int)) e s=>match p with | (.inl p)=>e = .exit 2∧(s=⟨[],[],[]⟩) | (.inr p)=>e = .ret∧∃ xs,resL s i13.res=some xs∧ZaD xs = .tup [bv p.1,iv p.2]) ?_ N _ o1523 _ ho1523 (by show _=_;kernel_rfl)).mono ?_)
  ·clear h ho1523
   rintro i511 o s h hR
   obtain rfl:=hR
   replace h:Zb5 N a0_ a1_ i511=some o:=h
   unfold Zb5 at h
   refine sq (rg Za.f ?_)
   refine tq (sq ?_)
   refine it h (fun hc1012 h => ?_) (fun hc1012 h => ?_)
   ·refine sk (tq ?_)
    refine kq (sq ?_)
    refine bk (sq ?_)
    obtain ⟨e1013,he1013,h⟩:=bs h
    refine rg (Za.u 1 (Zo (ys:=[Zg false a1_,iv i511]) (h:=Zm eI64 he1013)) (Za.u 0 (ZD (sz:=1) (off:=0) (cs:=[.int .i64 e1013]) (r:=iv e1013) eI64 he1013) Za.f)) (tq ?_)
    refine sq ?_
    obtain ⟨l1014,hl1014,h⟩:=bs h
    refine rg (Za.u 3 (Zo (ys:=[Zg false a1_,iv (w64 (i511+1))]) (h:=ZfQ eI64 hl1014)) (Za.u 0 (Zo (ys:=[Zg false l1014]) (h:=Zt eI64)) Za.f)) (tq ?_)
    refine bk ?_
    obtain ⟨o1520,ho1520,h⟩:=bs h
    refine ZX ((ZO (fun (x:Int) s=>s=⟨[(1,Zg false a1_),(2,.loc 2 0),(9,iv i511),(10,iv e1013),(37,Zg false a1_),(38,iv ((List.length a1_:Nat):Int)),(39,iv i511),(47,Zg false l1014),(48,iv ((List.length l1014:Nat):Int)),(49,iv x)],[(2,(Zd a0_))],[]⟩) (fun x:Int=>Zb4 N a0_ i511 e1013 l1014 x) (fun (p:(Unit) ⊕ (Bool × Int)) e s=>match p with | (.inl p)=>e = .exit 4∧(s=⟨[(1,Zg false a1_),(2,.loc 2 0),(37,Zg false a1_),(38,iv ((List.length a1_:Nat):Int)),(39,iv i511)],[(2,(Zd a0_))],[]⟩) | (.inr p)=>e = .ret∧∃ xs,resL s i13.res=some xs∧ZaD xs = .tup [bv p.1,iv p.2]) ?_ N _ o1520 _ ho1520 (by show _=_;kernel_rfl)).mono ?_)
    ·clear h ho1520
     rintro i1015 o s h hR
     obtain rfl:=hR
     replace h:Zb4 N a0_ i511 e1013 l1014 i1015=some o:=h
     unfold Zb4 at h
     refine sq (rg Za.f ?_)
     refine tq (sq ?_)
     refine it h (fun hc1516 h => ?_) (fun hc1516 h => ?_)
     ·refine sk (tq ?_)
      refine kq (sq ?_)
      refine bk (sq ?_)
      obtain ⟨e1517,he1517,h⟩:=bs h
      refine rg (Za.u 1 (Zo (ys:=[Zg false l1014,iv i1015]) (h:=Zm eI64 he1517)) (Za.u 0 (ZD (sz:=1) (off:=0) (cs:=[.int .i64 e1517]) (r:=iv e1517) eI64 he1517) Za.f)) (tq ?_)
      refine sq ?_
      obtain ⟨r1518,hr1518,h⟩:=bs h
      refine rg (Za.v 5 (Zu (hc:=Zep N a0_ i1015 e1517 i511 e1013 r1518 hr1518)) Za.f) (tq ?_)
      refine it h (fun hc1519 h => ?_) (fun hc1519 h => ?_)
      ·refine sq (rg Za.f ?_)
       refine tq (rt ?_)
       refine br (tr ?_)
       obtain rfl:=Zb h
       exact ⟨_,rfl,rfl,Zx (by kernel_rfl)⟩
      refine sk (bn ?_)
      refine tq (kq ?_)
      refine rg Za.f ?_
      obtain rfl:=Zb h
      exact ⟨_,rfl,(by show _=_;kernel_rfl)⟩
     refine kq (xq ?_)
     refine tx ?_
     obtain rfl:=Zb h
     exact ⟨_,rfl,rfl,(by show _=_;kernel_rfl)⟩
    rintro e s hq
    rcases o1520 with p1521 | p1522
    ·dsimp only at h hq
     obtain ⟨rfl,hR⟩:=hq
     obtain rfl:=hR
     refine bx (bn ?_)
     refine tq (rg Za.f ?_)
     obtain rfl:=Zb h
     exact ⟨_,rfl,(by show _=_;kernel_rfl)⟩
    dsimp only at h hq
    obtain ⟨rfl,hq⟩:=hq
    refine br (br ?_)
    refine tr ?_
    obtain rfl:=Zb h
    exact ⟨_,rfl,rfl,hq⟩
   refine kq (xq ?_)
   refine tx ?_
   obtain rfl:=Zb h
   exact ⟨_,rfl,rfl,(by show _=_;kernel_rfl)⟩
  rintro e s hq
  rcases o1523 with p1524 | p1525
  ·dsimp only at h hq
   obtain ⟨rfl,hR⟩:=hq
   obtain rfl:=hR
   refine bx (tq ?_)
   refine sq (rg Za.f ?_)
   refine tq (rt ?_)
   obtain rfl:=Zb h
   exact Zx (by kernel_rfl)
  dsimp only at h hq
  obtain ⟨rfl,hq⟩:=hq
  refine br (tr ?_)
  obtain rfl:=Zb h
  exact hq
 dsimp only at h hq
 obtain ⟨rfl,hq⟩:=hq
 refine br (tr ?_)
 obtain rfl:=Zb h
 exact hq
theorem ZfY (N:Nat) (a0_:Ze) (r:Int × Int) (h:Ze9 N a0_=some r):Zab Try.prog 16 [.agg (Zd a0_)] (.tup [iv r.1,iv r.2]):=by
 unfold Ze9 at h
 have hH:HP ([]:List HO) []:=trivial
 refine ZF chk16 rfl rfl (Zr _ _ _ ?_) rfl
 refine sq (rg Za.f ?_)
 refine tq (sq ?_)
 refine sq ?_
 obtain ⟨r1,hr1,h⟩:=bs h
 refine rg (Za.v 1 (Zu (hc:=Zef N a0_ r1 hr1)) Za.f) (tq ?_)
 refine sq (rg Za.f ?_)
 refine tq (it h (fun hc2 h => ?_) (fun hc2 h => ?_))
 ·refine sq (rg Za.f ?_)
  refine tq (rt ?_)
  refine tr ?_
  obtain rfl:=Zb h
  exact Zx (by kernel_rfl)
 refine sk (tq ?_)
 refine kq (sq ?_)
 obtain ⟨r3,hr3,h⟩:=bs h
 refine rg (Za.v 2 (Zu (hc:=Zee N a0_.Periods r3 hr3)) Za.f) (tq ?_)
 refine rt ?_
 obtain rfl:=Zb h
 exact Zx (by kernel_rfl)
theorem Zch (N:Nat) (a0_:Ze) (a1_:(List Int)) (r:Bool) (h:Zd0 N a0_ a1_=some r):Zab Try.prog 27 [.agg (Zd a0_),Zg false a1_] (bv r):=by
 unfold Zd0 at h
 have hH:HP ([]:List HO) []:=trivial
 refine ZF chk27 rfl rfl (Zr _ _ _ ?_) rfl
 refine sq (rg Za.f ?_)
 refine tq (sq ?_)
 obtain ⟨r1,hr1,h⟩:=bs h
 refine rg (Za.v 2 (Zu (hc:=ZeO N a0_ a1_ r1 hr1)) Za.f) (tq ?_)
 refine sq (rgX ⟨[(4,bv (r1.1&&(r1.2==0)))],[],[]⟩ ?_ ?_)
 ·rcases Bool.eq_false_or_eq_true r1.1 with hc2 | hc3
  ·exact (EP.u 0 (Zj (c:=r1.1) (h:=hc2)) (EP.f (by simp only [hc2];kernel_rfl)))
  exact (EP.u 0 (Zj (c:=r1.1) (h:=hc3)) (EP.f (by simp only [hc3];kernel_rfl)))
 refine tq (rt ?_)
 obtain rfl:=Zb h
 exact Zx (by kernel_rfl)
theorem Zar (N:Nat) (a0_:Ze) (a1_:Int) (a2_:Int) (r:Bool) (h:Zbl N a0_ a1_ a2_=some r):Zab Try.prog 36 [.agg (Zd a0_),iv a1_,iv a2_] (bv r):=by
 unfold Zbl at h
 have hH:HP ([]:List HO) []:=trivial
 refine ZF chk36 rfl rfl (Zr _ _ _ ?_) rfl
 refine sq (rg Za.f ?_)
 refine tq (sq ?_)
 obtain ⟨r1,hr1,h⟩:=bs h
 refine rg (Za.v 3 (Zu (hc:=ZcS N a0_ 0 a1_ 1 a2_ r1 hr1)) Za.f) (tq ?_)
 refine sq (rgX ⟨[(6,bv (r1.1&&(r1.2==0)))],[],[]⟩ ?_ ?_)
 ·rcases Bool.eq_false_or_eq_true r1.1 with hc2 | hc3
  ·exact (EP.u 0 (Zj (c:=r1.1) (h:=hc2)) (EP.f (by simp only [hc2];kernel_rfl)))
  exact (EP.u 0 (Zj (c:=r1.1) (h:=hc3)) (EP.f (by simp only [hc3];kernel_rfl)))
 refine tq (rt ?_)
 obtain rfl:=Zb h
 exact Zx (by kernel_rfl)
theorem Zix (N:Nat) (a0_:Zv) (a1_:(List Int)) (a2_:(List Int)) (r:Bool × Int) (h:ZfF N a0_ a1_ a2_=some r):Zab Try.prog 76 [.agg (Zc a0_),Zg false a1_,Zg false a2_] (.tup [bv r.1,iv r.2]):=by
 unfold ZfF at h
 have hH:HP ([]:List HO) []:=trivial
 refine ZF chk76 rfl rfl (Zr _ _ _ ?_) rfl
 refine sq ?_
 obtain ⟨id1,H2,hid1,hH2,hH⟩:=HP.newCell hH [Zg false a1_]
 replace hH:HP H2 [.cel id1 [Zg false a1_]]:=hH
 obtain ⟨id3,H4,hid3,hH4,hH⟩:=HP.newCell hH [Zg false a2_]
 replace hH:HP H4 [.cel id3 [Zg false a2_],.cel id1 [Zg false a1_]]:=hH
 refine rg (Za.h 1 (ZaQ (H:=[]) (v:=Zg false a1_) (hid:=hid1) (hH:=hH2)) (Za.h 0 (ZaQ (H:=H2) (v:=Zg false a2_) (hid:=hid3) (hH:=hH4)) Za.f)) (tq ?_)
 refine sq ?_
 have hlc5:=HP.get hH 1 rfl
 obtain ⟨r6,hr6,h⟩:=bs h
 have hvr6:=(Zgo N a0_ a1_ (fun x0=>Zc9 N x0 a2_ a1_)   91 [] [.ptr id3 0,.ptr id1 0] (by kernel_rfl) [.cel id3 [Zg false a2_],.cel id1 [Zg false a1_]] (fun H x0 r hH h=>Zek.of (by kernel_rfl) (Zha N  x0 a2_ a1_ id3 id1 H hH r h)) H4 (HP.now (HP.pick hH [0,1] rfl)) r6 hr6)
 refine rg (Za.u 1 (Zn (H:=H4) (id:=id1) (off:=0) (cs:=[Zg false a1_]) (c:=[Zg false a1_]) (r:=Zg false a1_) (hl:=hlc5)) (Za.v 1 (Zea (H:=H4) (ys:=[.agg (Zc a0_),Zg false a1_,.fn 91 [] [.ptr id3 0,.ptr id1 0]]) (by kernel_rfl) (by kernel_rfl) (by kernel_rfl) hvr6) Za.f)) ?_
 replace hH:HP H4 []:=HP.pick hH [] rfl
 refine tq (rt ?_)
 obtain rfl:=Zb h
 exact Zx (by kernel_rfl)
theorem Zjg (N:Nat) (a0_:Zv) (a1_:(List Int)) (r:Int × Int × Int) (h:Zgq N a0_ a1_=some r):Zab Try.prog 89 [.agg (Zc a0_),Zg false a1_] (.tup [iv r.1,iv r.2.1,iv r.2.2]):=by
 unfold Zgq at h
 have hH:HP ([]:List HO) []:=trivial
 refine ZF chk89 rfl rfl (Zr _ _ _ ?_) rfl
 refine sq (rg Za.f ?_)
 refine tq (sq ?_)
 obtain ⟨r1,hr1,h⟩:=bs h
 refine rg (Za.v 2 (Zu (hc:=Ziw N a0_ a1_ r1 hr1)) Za.f) (tq ?_)
 refine sq (sq ?_)
 refine rg Za.f (tq ?_)
 refine it h (fun hc2 h => ?_) (fun hc2 h => ?_)
 ·refine sq (rg Za.f ?_)
  refine tq (rt ?_)
  refine tr ?_
  obtain rfl:=Zb h
  exact Zx (by kernel_rfl)
 refine sk (tq ?_)
 refine kq (sq ?_)
 obtain ⟨e3,he3,h⟩:=bs h
 obtain ⟨e4,he4,h⟩:=bs h
 refine rq (Za.u 1 (Zo (ys:=[Zg false r1.1,iv 0]) (h:=Zm eI64 he3)) (Za.u 0 (ZV (ZD (sz:=1) (off:=0) (cs:=[.int .i64 e3]) (r:=iv e3) eI64 he3)) (Za.u 2 (Zo (ys:=[Zg false r1.1]) (h:=Zt eI64)) (Za.u 1 (Zo (ys:=[Zg false r1.1,iv (w64 (((List.length r1.1:Nat):Int) - 1))]) (h:=Zm eI64 he4)) (Za.u 0 (ZV (ZD (sz:=1) (off:=0) (cs:=[.int .i64 e4]) (r:=iv e4) eI64 he4)) Za.f))))) (tq ?_)
 refine rt ?_
 obtain rfl:=Zb h
 exact Zx (by kernel_rfl)
theorem ZhC (N:Nat) (a0_:Zv) (a1_:(List Int)) (a2_:Int) (a3_:Int) (r:Bool) (h:ZeF N a0_ a1_ a2_ a3_=some r):Zab Try.prog 74 [.agg (Zc a0_),Zg false a1_,iv a2_,iv a3_] (bv r):=by
 unfold ZeF at h
 have hH:HP ([]:List HO) []:=trivial
 refine ZF chk74 rfl rfl (Zr _ _ _ ?_) rfl
 refine sq (rg Za.f ?_)
 refine tq (sq ?_)
 obtain ⟨r1,hr1,h⟩:=bs h
 refine rg (Za.v 2 (Zu (hc:=Zjg N a0_ a1_ r1 hr1)) Za.f) (tq ?_)
 refine sq (rgX ⟨[(8,bv ((r1.2.2==0)&&((r1.1==a2_)&&(r1.2.1==a3_))))],[],[]⟩ ?_ ?_)
 ·rcases Bool.eq_false_or_eq_true (r1.2.2==0) with hc2 | hc5
  ·refine (EP.u 1 (Zj (c:=(r1.2.2==0)) (h:=hc2)) ?_)
   rcases Bool.eq_false_or_eq_true (r1.1==a2_) with hc3 | hc4
   ·exact (EP.u 3 (Zj (c:=(r1.1==a2_)) (h:=hc3)) (EP.f (by simp only [hc2,hc3];kernel_rfl)))
   exact (EP.u 3 (Zj (c:=(r1.1==a2_)) (h:=hc4)) (EP.f (by simp only [hc2,hc4];kernel_rfl)))
  exact (EP.u 1 (Zj (c:=(r1.2.2==0)) (h:=hc5)) (EP.f (by simp only [hc5];kernel_rfl)))
 refine tq (rt ?_)
 obtain rfl:=Zb h
 exact Zx (by kernel_rfl)
theorem Zgf (N:Nat) (c0_:Zw) (c1_:Zv) (k0_:Nat) (k1_:Nat) (H:List HO) (hH:HP H [.cel k0_ (Zf c0_),.cel k1_ (Zc c1_)]) (r:Bool) (h:ZdD N c0_ c1_=some r):Zas Try.prog 75 [.ptr k0_ 0,.ptr k1_ 0] H (bv r) H:=by
 unfold ZdD at h
 refine ZaF chk75 rfl rfl rfl (Zr _ _ _ ?_)
 refine sq (rg Za.f ?_)
 refine tq (sq ?_)
 refine sq ?_
 have hlc1:=HP.get hH 0 rfl
 refine rg (Za.u 1 (Zn (H:=H) (id:=k0_) (off:=9) (cs:=(Zf c0_)) (c:=[ZI false c0_.Routes]) (r:=ZI false c0_.Routes) (hl:=hlc1)) (Za.u 0 (Zo (ys:=[ZI false c0_.Routes]) (h:=Zt (eSl 1 eI64))) Za.f)) (tq ?_)
 refine it h (fun hc2 h => ?_) (fun hc2 h => ?_)
 ·refine sq (rg Za.f ?_)
  replace hH:HP H []:=HP.pick hH [] rfl
  refine tq (rt ?_)
  refine tr ?_
  obtain rfl:=Zb h
  exact Zai (by kernel_rfl) (by kernel_rfl)
 refine sk (tq ?_)
 refine kq (sq ?_)
 have hlc3:=HP.get hH 1 rfl
 have hlc4:=HP.get hH 0 rfl
 obtain ⟨e5,he5,h⟩:=bs h
 have hlc6:=HP.get hH 0 rfl
 obtain ⟨e7,he7,h⟩:=bs h
 obtain ⟨r8,hr8,h⟩:=bs h
 refine rq (Za.u 0 (ZV (Zn (H:=H) (id:=k1_) (off:=0) (cs:=(Zc c1_)) (c:=(Zc c1_)) (r:=.agg (Zc c1_)) (hl:=hlc3))) (Za.u 1 (ZV (Zn (H:=H) (id:=k0_) (off:=9) (cs:=(Zf c0_)) (c:=[ZI false c0_.Routes]) (r:=ZI false c0_.Routes) (hl:=hlc4))) (Za.u 0 (Zo (ys:=[ZI false c0_.Routes,iv 0]) (h:=Zm (eSl 1 eI64) he5)) (Za.u 0 (ZV (ZD (sz:=1) (off:=0) (cs:=[.sl 1 false (List.map eI64 e5)]) (r:=Zg false e5) (eSl 1 eI64) he5)) (Za.u 1 (ZV (Zn (H:=H) (id:=k0_) (off:=9) (cs:=(Zf c0_)) (c:=[ZI false c0_.Routes]) (r:=ZI false c0_.Routes) (hl:=hlc6))) (Za.u 0 (Zo (ys:=[ZI false c0_.Routes,iv 1]) (h:=Zm (eSl 1 eI64) he7)) (Za.u 0 (ZV (ZD (sz:=1) (off:=0) (cs:=[.sl 1 false (List.map eI64 e7)]) (r:=Zg false e7) (eSl 1 eI64) he7)) (Za.v 0 (Zu (hc:=Zix N c1_ e5 e7 r8 hr8)) Za.f)))))))) ?_
 replace hH:HP H []:=HP.pick hH [] rfl
 refine tq (sq ?_)
 refine rgX ⟨[(2,bv ((r8.2==0)&&r8.1))],[],H⟩ ?_ ?_
 ·rcases Bool.eq_false_or_eq_true (r8.2==0) with hc9 | hc10
  ·exact (EP.u 1 (Zj (c:=(r8.2==0)) (h:=hc9)) (EP.f (by simp only [hc9];kernel_rfl)))
  exact (EP.u 1 (Zj (c:=(r8.2==0)) (h:=hc10)) (EP.f (by simp only [hc10];kernel_rfl)))
 refine tq (rt ?_)
 obtain rfl:=Zb h
 exact Zai (by kernel_rfl) (by kernel_rfl)
theorem Zgg (N:Nat) (c0_:Zw) (c1_:Zv) (k0_:Nat) (k1_:Nat) (H:List HO) (hH:HP H [.cel k0_ (Zf c0_),.cel k1_ (Zc c1_)]) (r:Bool) (h:ZdE N c0_ c1_=some r):Zas Try.prog 73 [.ptr k0_ 0,.ptr k1_ 0] H (bv r) H:=by
 unfold ZdE at h
 refine ZaF chk73 rfl rfl rfl (Zr _ _ _ ?_)
 refine sq (rg Za.f ?_)
 refine tq (sq ?_)
 refine sq ?_
 have hlc1:=HP.get hH 0 rfl
 refine rg (Za.u 1 (Zn (H:=H) (id:=k0_) (off:=9) (cs:=(Zf c0_)) (c:=[ZI false c0_.Routes]) (r:=ZI false c0_.Routes) (hl:=hlc1)) (Za.u 0 (Zo (ys:=[ZI false c0_.Routes]) (h:=Zt (eSl 1 eI64))) Za.f)) (tq ?_)
 refine bk ?_
 obtain ⟨o510,ho510,h⟩:=bs h
 refine ZX ((ZO (fun (x:Int) s=>s=⟨[(0,.ptr k0_ 0),(1,.ptr k1_ 0),(6,ZI false c0_.Routes),(7,iv ((List.length c0_.Routes:Nat):Int)),(8,iv x)],[],H⟩) (fun x:Int=>ZbB N c0_ c1_ x) (fun (p:(Unit) ⊕ (Bool)) e s=>match p with | (.inl p)=>e = .exit 0∧(s=⟨[],[],H⟩) | (.inr p)=>e = .ret∧∃ xs,rawL s i73.res=some xs∧ZaD (weakVs xs)=bv p∧s.H=H) ?_ N _ o510 _ ho510 (by show _=_;kernel_rfl)).mono ?_)
 ·clear h ho510
  rintro i2 o s h hR
  obtain rfl:=hR
  replace h:ZbB N c0_ c1_ i2=some o:=h
  unfold ZbB at h
  refine sq (rg Za.f ?_)
  refine tq (sq ?_)
  refine it h (fun hc503 h => ?_) (fun hc503 h => ?_)
  ·refine sk (tq ?_)
   refine kq (sq ?_)
   refine bk (sq ?_)
   obtain ⟨e504,he504,h⟩:=bs h
   refine rg (Za.u 0 (Zo (ys:=[ZI false c0_.Routes,iv i2]) (h:=Zm (eSl 1 eI64) he504)) (Za.u 0 (ZD (sz:=1) (off:=0) (cs:=[.sl 1 false (List.map eI64 e504)]) (r:=Zg false e504) (eSl 1 eI64) he504) Za.f)) (tq ?_)
   refine sq ?_
   have hlc505:=HP.get hH 1 rfl
   have hlc506:=HP.get hH 0 rfl
   have hlc507:=HP.get hH 0 rfl
   obtain ⟨r508,hr508,h⟩:=bs h
   refine rg (Za.u 0 (Zn (H:=H) (id:=k1_) (off:=0) (cs:=(Zc c1_)) (c:=(Zc c1_)) (r:=.agg (Zc c1_)) (hl:=hlc505)) (Za.u 2 (Zn (H:=H) (id:=k0_) (off:=1) (cs:=(Zf c0_)) (c:=[iv c0_.Talker]) (r:=iv c0_.Talker) (hl:=hlc506)) (Za.u 1 (Zn (H:=H) (id:=k0_) (off:=2) (cs:=(Zf c0_)) (c:=[iv c0_.Listener]) (r:=iv c0_.Listener) (hl:=hlc507)) (Za.v 0 (Zu (hc:=ZhC N c1_ e504 c0_.Talker c0_.Listener r508 hr508)) Za.f)))) (tq ?_)
   refine it h (fun hc509 h => ?_) (fun hc509 h => ?_)
   ·refine sq (rg Za.f ?_)
    replace hH:HP H []:=HP.pick hH [] rfl
    refine tq (rt ?_)
    refine br (tr ?_)
    obtain rfl:=Zb h
    exact ⟨_,rfl,rfl,Zai (by kernel_rfl) (by kernel_rfl)⟩
   refine sk (bn ?_)
   refine tq (kq ?_)
   refine rg Za.f ?_
   obtain rfl:=Zb h
   exact ⟨_,rfl,(by show _=_;kernel_rfl)⟩
  refine kq ?_
  replace hH:HP H []:=HP.pick hH [] rfl
  refine xq (tx ?_)
  obtain rfl:=Zb h
  exact ⟨_,rfl,rfl,(by show _=_;kernel_rfl)⟩
 rintro e s hq
 rcases o510 with p511 | p512
 ·dsimp only at h hq
  obtain ⟨rfl,hR⟩:=hq
  obtain rfl:=hR
  replace hH:HP H []:=HP.pick hH [] rfl
  refine bx (tq ?_)
  refine sq (rg Za.f ?_)
  refine tq (rt ?_)
  obtain rfl:=Zb h
  exact Zai (by kernel_rfl) (by kernel_rfl)
 dsimp only at h hq
 obtain ⟨rfl,hq⟩:=hq
 refine br (tr ?_)
 obtain rfl:=Zb h
 exact hq
theorem ZeE (N:Nat) (a0_:Zv) (a1_:Zw) (r:Bool) (h:Zds N a0_ a1_=some r):Zab Try.prog 50 [.agg (Zc a0_),.agg (Zf a1_)] (bv r):=by
 unfold Zds at h
 have hH:HP ([]:List HO) []:=trivial
 refine ZF chk50 rfl rfl (Zr _ _ _ ?_) rfl
 refine sq ?_
 obtain ⟨id1,H2,hid1,hH2,hH⟩:=HP.newCell hH (Zc a0_)
 replace hH:HP H2 [.cel id1 (Zc a0_)]:=hH
 obtain ⟨id3,H4,hid3,hH4,hH⟩:=HP.newCell hH (Zf a1_)
 replace hH:HP H4 [.cel id3 (Zf a1_),.cel id1 (Zc a0_)]:=hH
 refine rg (Za.h 0 (ZaQ (H:=[]) (v:=.agg (Zc a0_)) (hid:=hid1) (hH:=hH2)) (Za.h 0 (ZaQ (H:=H2) (v:=.agg (Zf a1_)) (hid:=hid3) (hH:=hH4)) Za.f)) (tq ?_)
 refine sq ?_
 obtain ⟨id5,H6,hid5,hH6,hH⟩:=HP.newCell hH [.fn 65 [] [.ptr id3 0],.fn 66 [] [.ptr id1 0,.ptr id3 0],.fn 68 [] [.ptr id3 0],.fn 69 [] [.ptr id3 0],.fn 70 [] [.ptr id3 0],.fn 72 [] [.ptr id3 0],.fn 73 [] [.ptr id3 0,.ptr id1 0],.fn 75 [] [.ptr id3 0,.ptr id1 0]]
 replace hH:HP H6 [.cel id5 [.fn 65 [] [.ptr id3 0],.fn 66 [] [.ptr id1 0,.ptr id3 0],.fn 68 [] [.ptr id3 0],.fn 69 [] [.ptr id3 0],.fn 70 [] [.ptr id3 0],.fn 72 [] [.ptr id3 0],.fn 73 [] [.ptr id3 0,.ptr id1 0],.fn 75 [] [.ptr id3 0,.ptr id1 0]],.cel id3 (Zf a1_),.cel id1 (Zc a0_)]:=hH
 refine rg (Za.h 8 (st_litC (H:=H4) (ys:=[.fn 65 [] [.ptr id3 0],.fn 66 [] [.ptr id1 0,.ptr id3 0],.fn 68 [] [.ptr id3 0],.fn 69 [] [.ptr id3 0],.fn 70 [] [.ptr id3 0],.fn 72 [] [.ptr id3 0],.fn 73 [] [.ptr id3 0,.ptr id1 0],.fn 75 [] [.ptr id3 0,.ptr id1 0]]) (by kernel_rfl) (by kernel_rfl) (by kernel_rfl) hid5 hH6) Za.f) (tq ?_)
 refine sq (sq ?_)
 refine rg Za.f (tq ?_)
 refine bk (ZjH 18 ?_)
 refine Zbn ?_
 refine sq (rg Za.f ?_)
 refine tq (sq ?_)
 refine ZcL (by kernel_rfl) ?_
 refine sk (tq ?_)
 refine kq (sq ?_)
 refine bk (sq ?_)
 have hlc7:=HP.get hH 0 rfl
 refine rg (Za.u 1 (Zn (H:=H6) (id:=id5) (off:=0) (cs:=[.fn 65 [] [.ptr id3 0],.fn 66 [] [.ptr id1 0,.ptr id3 0],.fn 68 [] [.ptr id3 0],.fn 69 [] [.ptr id3 0],.fn 70 [] [.ptr id3 0],.fn 72 [] [.ptr id3 0],.fn 73 [] [.ptr id3 0,.ptr id1 0],.fn 75 [] [.ptr id3 0,.ptr id1 0]]) (c:=[.fn 65 [] [.ptr id3 0]]) (r:=.fn 65 [] [.ptr id3 0]) (hl:=hlc7)) Za.f) (tq ?_)
 refine sq ?_
 obtain ⟨r8,hr8,h⟩:=bs h
 have hvr8:=(Zgm N  a1_ id3 H6 (HP.now (HP.pick hH [1] rfl)) r8 hr8)
 refine rg (Za.v 1 (Zbq (H:=H6) (fv:=.fn 65 [] [.ptr id3 0]) (ys:=[]) (hc:=Zek.of (by kernel_rfl) hvr8)) Za.f) (tq ?_)
 refine it h (fun hc9 h => ?_) (fun hc9 h => ?_)
 ·refine sq (rg Za.f ?_)
  replace hH:HP H6 []:=HP.pick hH [] rfl
  refine tq (rt ?_)
  refine br (tr ?_)
  refine tr (br ?_)
  refine tr ?_
  obtain rfl:=Zb h
  exact Zx (by kernel_rfl)
 refine sk (bn ?_)
 refine tq (kq ?_)
 refine rg Za.f (tq ?_)
 refine Zbn ?_
 refine sq (rg Za.f ?_)
 refine tq (sq ?_)
 refine ZcL (by kernel_rfl) ?_
 refine sk (tq ?_)
 refine kq (sq ?_)
 refine bk (sq ?_)
 have hlc10:=HP.get hH 0 rfl
 refine rg (Za.u 1 (Zn (H:=H6) (id:=id5) (off:=1) (cs:=[.fn 65 [] [.ptr id3 0],.fn 66 [] [.ptr id1 0,.ptr id3 0],.fn 68 [] [.ptr id3 0],.fn 69 [] [.ptr id3 0],.fn 70 [] [.ptr id3 0],.fn 72 [] [.ptr id3 0],.fn 73 [] [.ptr id3 0,.ptr id1 0],.fn 75 [] [.ptr id3 0,.ptr id1 0]]) (c:=[.fn 66 [] [.ptr id1 0,.ptr id3 0]]) (r:=.fn 66 [] [.ptr id1 0,.ptr id3 0]) (hl:=hlc10)) Za.f) (tq ?_)
 refine sq ?_
 obtain ⟨r11,hr11,h⟩:=bs h
 have hvr11:=(Zgl N  a0_ a1_ id1 id3 H6 (HP.now (HP.pick hH [2,1] rfl)) r11 hr11)
 refine rg (Za.v 1 (Zbq (H:=H6) (fv:=.fn 66 [] [.ptr id1 0,.ptr id3 0]) (ys:=[]) (hc:=Zek.of (by kernel_rfl) hvr11)) Za.f) (tq ?_)
 refine it h (fun hc12 h => ?_) (fun hc12 h => ?_)
 ·refine sq (rg Za.f ?_)
  replace hH:HP H6 []:=HP.pick hH [] rfl
  refine tq (rt ?_)
  refine br (tr ?_)
  refine tr (br ?_)
  refine tr ?_
  obtain rfl:=Zb h
  exact Zx (by kernel_rfl)
 refine sk (bn ?_)
 refine tq (kq ?_)
 refine rg Za.f (tq ?_)
 refine Zbn ?_
 refine sq (rg Za.f ?_)
 refine tq (sq ?_)
 refine ZcL (by kernel_rfl) ?_
 refine sk (tq ?_)
 refine kq (sq ?_)
 refine bk (sq ?_)
 have hlc13:=HP.get hH 0 rfl
 refine rg (Za.u 1 (Zn (H:=H6) (id:=id5) (off:=2) (cs:=[.fn 65 [] [.ptr id3 0],.fn 66 [] [.ptr id1 0,.ptr id3 0],.fn 68 [] [.ptr id3 0],.fn 69 [] [.ptr id3 0],.fn 70 [] [.ptr id3 0],.fn 72 [] [.ptr id3 0],.fn 73 [] [.ptr id3 0,.ptr id1 0],.fn 75 [] [.ptr id3 0,.ptr id1 0]]) (c:=[.fn 68 [] [.ptr id3 0]]) (r:=.fn 68 [] [.ptr id3 0]) (hl:=hlc13)) Za.f) (tq ?_)
 refine sq ?_
 obtain ⟨r14,hr14,h⟩:=bs h
 have hvr14:=(Zgk N  a1_ id3 H6 (HP.now (HP.pick hH [1] rfl)) r14 hr14)
 refine rg (Za.v 1 (Zbq (H:=H6) (fv:=.fn 68 [] [.ptr id3 0]) (ys:=[]) (hc:=Zek.of (by kernel_rfl) hvr14)) Za.f) (tq ?_)
 refine it h (fun hc15 h => ?_) (fun hc15 h => ?_)
 ·refine sq (rg Za.f ?_)
  replace hH:HP H6 []:=HP.pick hH [] rfl
  refine tq (rt ?_)
  refine br (tr ?_)
  refine tr (br ?_)
  refine tr ?_
  obtain rfl:=Zb h
  exact Zx (by kernel_rfl)
 refine sk (bn ?_)
 refine tq (kq ?_)
 refine rg Za.f (tq ?_)
 refine Zbn ?_
 refine sq (rg Za.f ?_)
 refine tq (sq ?_)
 refine ZcL (by kernel_rfl) ?_
 refine sk (tq ?_)
 refine kq (sq ?_)
 refine bk (sq ?_)
 have hlc16:=HP.get hH 0 rfl
 refine rg (Za.u 1 (Zn (H:=H6) (id:=id5) (off:=3) (cs:=[.fn 65 [] [.ptr id3 0],.fn 66 [] [.ptr id1 0,.ptr id3 0],.fn 68 [] [.ptr id3 0],.fn 69 [] [.ptr id3 0],.fn 70 [] [.ptr id3 0],.fn 72 [] [.ptr id3 0],.fn 73 [] [.ptr id3 0,.ptr id1 0],.fn 75 [] [.ptr id3 0,.ptr id1 0]]) (c:=[.fn 69 [] [.ptr id3 0]]) (r:=.fn 69 [] [.ptr id3 0]) (hl:=hlc16)) Za.f) (tq ?_)
 refine sq ?_
 obtain ⟨r17,hr17,h⟩:=bs h
 have hvr17:=(Zgj N  a1_ id3 H6 (HP.now (HP.pick hH [1] rfl)) r17 hr17)
 refine rg (Za.v 1 (Zbq (H:=H6) (fv:=.fn 69 [] [.ptr id3 0]) (ys:=[]) (hc:=Zek.of (by kernel_rfl) hvr17)) Za.f) (tq ?_)
 refine it h (fun hc18 h => ?_) (fun hc18 h => ?_)
 ·refine sq (rg Za.f ?_)
  replace hH:HP H6 []:=HP.pick hH [] rfl
  refine tq (rt ?_)
  refine br (tr ?_)
  refine tr (br ?_)
  refine tr ?_
  obtain rfl:=Zb h
  exact Zx (by kernel_rfl)
 refine sk (bn ?_)
 refine tq (kq ?_)
 refine rg Za.f (tq ?_)
 refine Zbn ?_
 refine sq (rg Za.f ?_)
 refine tq (sq ?_)
 refine ZcL (by kernel_rfl) ?_
 refine sk (tq ?_)
 refine kq (sq ?_)
 refine bk (sq ?_)
 have hlc19:=HP.get hH 0 rfl
 refine rg (Za.u 1 (Zn (H:=H6) (id:=id5) (off:=4) (cs:=[.fn 65 [] [.ptr id3 0],.fn 66 [] [.ptr id1 0,.ptr id3 0],.fn 68 [] [.ptr id3 0],.fn 69 [] [.ptr id3 0],.fn 70 [] [.ptr id3 0],.fn 72 [] [.ptr id3 0],.fn 73 [] [.ptr id3 0,.ptr id1 0],.fn 75 [] [.ptr id3 0,.ptr id1 0]]) (c:=[.fn 70 [] [.ptr id3 0]]) (r:=.fn 70 [] [.ptr id3 0]) (hl:=hlc19)) Za.f) (tq ?_)
 refine sq ?_
 obtain ⟨r20,hr20,h⟩:=bs h
 have hvr20:=(Zgi N  a1_ id3 H6 (HP.now (HP.pick hH [1] rfl)) r20 hr20)
 refine rg (Za.v 1 (Zbq (H:=H6) (fv:=.fn 70 [] [.ptr id3 0]) (ys:=[]) (hc:=Zek.of (by kernel_rfl) hvr20)) Za.f) (tq ?_)
 refine it h (fun hc21 h => ?_) (fun hc21 h => ?_)
 ·refine sq (rg Za.f ?_)
  replace hH:HP H6 []:=HP.pick hH [] rfl
  refine tq (rt ?_)
  refine br (tr ?_)
  refine tr (br ?_)
  refine tr ?_
  obtain rfl:=Zb h
  exact Zx (by kernel_rfl)
 refine sk (bn ?_)
 refine tq (kq ?_)
 refine rg Za.f (tq ?_)
 refine Zbn ?_
 refine sq (rg Za.f ?_)
 refine tq (sq ?_)
 refine ZcL (by kernel_rfl) ?_
 refine sk (tq ?_)
 refine kq (sq ?_)
 refine bk (sq ?_)
 have hlc22:=HP.get hH 0 rfl
 refine rg (Za.u 1 (Zn (H:=H6) (id:=id5) (off:=5) (cs:=[.fn 65 [] [.ptr id3 0],.fn 66 [] [.ptr id1 0,.ptr id3 0],.fn 68 [] [.ptr id3 0],.fn 69 [] [.ptr id3 0],.fn 70 [] [.ptr id3 0],.fn 72 [] [.ptr id3 0],.fn 73 [] [.ptr id3 0,.ptr id1 0],.fn 75 [] [.ptr id3 0,.ptr id1 0]]) (c:=[.fn 72 [] [.ptr id3 0]]) (r:=.fn 72 [] [.ptr id3 0]) (hl:=hlc22)) Za.f) (tq ?_)
 refine sq ?_
 obtain ⟨r23,hr23,h⟩:=bs h
 have hvr23:=(Zgh N  a1_ id3 H6 (HP.now (HP.pick hH [1] rfl)) r23 hr23)
 refine rg (Za.v 1 (Zbq (H:=H6) (fv:=.fn 72 [] [.ptr id3 0]) (ys:=[]) (hc:=Zek.of (by kernel_rfl) hvr23)) Za.f) (tq ?_)
 refine it h (fun hc24 h => ?_) (fun hc24 h => ?_)
 ·refine sq (rg Za.f ?_)
  replace hH:HP H6 []:=HP.pick hH [] rfl
  refine tq (rt ?_)
  refine br (tr ?_)
  refine tr (br ?_)
  refine tr ?_
  obtain rfl:=Zb h
  exact Zx (by kernel_rfl)
 refine sk (bn ?_)
 refine tq (kq ?_)
 refine rg Za.f (tq ?_)
 refine Zbn ?_
 refine sq (rg Za.f ?_)
 refine tq (sq ?_)
 refine ZcL (by kernel_rfl) ?_
 refine sk (tq ?_)
 refine kq (sq ?_)
 refine bk (sq ?_)
 have hlc25:=HP.get hH 0 rfl
 refine rg (Za.u 1 (Zn (H:=H6) (id:=id5) (off:=6) (cs:=[.fn 65 [] [.ptr id3 0],.fn 66 [] [.ptr id1 0,.ptr id3 0],.fn 68 [] [.ptr id3 0],.fn 69 [] [.ptr id3 0],.fn 70 [] [.ptr id3 0],.fn 72 [] [.ptr id3 0],.fn 73 [] [.ptr id3 0,.ptr id1 0],.fn 75 [] [.ptr id3 0,.ptr id1 0]]) (c:=[.fn 73 [] [.ptr id3 0,.ptr id1 0]]) (r:=.fn 73 [] [.ptr id3 0,.ptr id1 0]) (hl:=hlc25)) Za.f) (tq ?_)
 refine sq ?_
 obtain ⟨r26,hr26,h⟩:=bs h
 have hvr26:=(Zgg N  a1_ a0_ id3 id1 H6 (HP.now (HP.pick hH [1,2] rfl)) r26 hr26)
 refine rg (Za.v 1 (Zbq (H:=H6) (fv:=.fn 73 [] [.ptr id3 0,.ptr id1 0]) (ys:=[]) (hc:=Zek.of (by kernel_rfl) hvr26)) Za.f) (tq ?_)
 refine it h (fun hc27 h => ?_) (fun hc27 h => ?_)
 ·refine sq (rg Za.f ?_)
  replace hH:HP H6 []:=HP.pick hH [] rfl
  refine tq (rt ?_)
  refine br (tr ?_)
  refine tr (br ?_)
  refine tr ?_
  obtain rfl:=Zb h
  exact Zx (by kernel_rfl)
 refine sk (bn ?_)
 refine tq (kq ?_)
 refine rg Za.f (tq ?_)
 refine Zbn ?_
 refine sq (rg Za.f ?_)
 refine tq (sq ?_)
 refine ZcL (by kernel_rfl) ?_
 refine sk (tq ?_)
 refine kq (sq ?_)
 refine bk (sq ?_)
 have hlc28:=HP.get hH 0 rfl
 refine rg (Za.u 1 (Zn (H:=H6) (id:=id5) (off:=7) (cs:=[.fn 65 [] [.ptr id3 0],.fn 66 [] [.ptr id1 0,.ptr id3 0],.fn 68 [] [.ptr id3 0],.fn 69 [] [.ptr id3 0],.fn 70 [] [.ptr id3 0],.fn 72 [] [.ptr id3 0],.fn 73 [] [.ptr id3 0,.ptr id1 0],.fn 75 [] [.ptr id3 0,.ptr id1 0]]) (c:=[.fn 75 [] [.ptr id3 0,.ptr id1 0]]) (r:=.fn 75 [] [.ptr id3 0,.ptr id1 0]) (hl:=hlc28)) Za.f) (tq ?_)
 refine sq ?_
 obtain ⟨r29,hr29,h⟩:=bs h
 have hvr29:=(Zgf N  a1_ a0_ id3 id1 H6 (HP.now (HP.pick hH [1,2] rfl)) r29 hr29)
 refine rg (Za.v 1 (Zbq (H:=H6) (fv:=.fn 75 [] [.ptr id3 0,.ptr id1 0]) (ys:=[]) (hc:=Zek.of (by kernel_rfl) hvr29)) Za.f) (tq ?_)
 refine it h (fun hc30 h => ?_) (fun hc30 h => ?_)
 ·refine sq (rg Za.f ?_)
  replace hH:HP H6 []:=HP.pick hH [] rfl
  refine tq (rt ?_)
  refine br (tr ?_)
  refine tr (br ?_)
  refine tr ?_
  obtain rfl:=Zb h
  exact Zx (by kernel_rfl)
 refine sk (bn ?_)
 refine tq (kq ?_)
 refine rg Za.f (tq ?_)
 refine Zbn ?_
 refine sq (rg Za.f ?_)
 refine tq (sq ?_)
 refine Zk0 (by kernel_rfl) ?_
 refine kq ?_
 replace hH:HP H6 []:=HP.pick hH [] rfl
 refine xq (tx ?_)
 refine tx (bx ?_)
 refine tq (sq ?_)
 refine rg Za.f (tq ?_)
 refine rt ?_
 obtain rfl:=Zb h
 exact Zx (by kernel_rfl)
theorem ZfV (N:Nat) (a0_:Zv) (a1_:Z2) (a2_:Zw) (a3_:Int) (r:Int) (h:Ze4 N a0_ a1_ a2_ a3_=some r):Zab Try.prog 77 [.agg (Zc a0_),.agg (Zh a1_),.agg (Zf a2_),iv a3_] (iv r):=by
 unfold Ze4 at h
 have hH:HP ([]:List HO) []:=trivial
 refine ZF chk77 rfl rfl (Zr _ _ _ ?_) rfl
 refine sq (rg Za.f ?_)
 refine tq (sq ?_)
 refine sq ?_
 obtain ⟨r1,hr1,h⟩:=bs h
 refine rg (Za.v 1 (Zu (hc:=Zd6 N a0_ r1 hr1)) Za.f) (tq ?_)
 refine sq (rg Za.f ?_)
 refine tq (it h (fun hc2 h => ?_) (fun hc2 h => ?_))
 ·refine sq (rg Za.f ?_)
  refine tq (rt ?_)
  refine tr ?_
  obtain rfl:=Zb h
  exact Zx (by kernel_rfl)
 refine sk (tq ?_)
 refine kq (sq ?_)
 refine sq ?_
 obtain ⟨r3,hr3,h⟩:=bs h
 refine rg (Za.v 1 (Zu (hc:=ZcW N a1_ r3 hr3)) Za.f) (tq ?_)
 refine sq (rg Za.f ?_)
 refine tq (it h (fun hc4 h => ?_) (fun hc4 h => ?_))
 ·refine sq (rg Za.f ?_)
  refine tq (rt ?_)
  refine tr ?_
  obtain rfl:=Zb h
  exact Zx (by kernel_rfl)
 refine sk (tq ?_)
 refine kq (sq ?_)
 refine sq ?_
 obtain ⟨r5,hr5,h⟩:=bs h
 refine rg (Za.v 2 (Zu (hc:=ZeE N a0_ a2_ r5 hr5)) Za.f) (tq ?_)
 refine it h (fun hc6 h => ?_) (fun hc6 h => ?_)
 ·refine sq (rg Za.f ?_)
  refine tq (rt ?_)
  refine tr ?_
  obtain rfl:=Zb h
  exact Zx (by kernel_rfl)
 refine sk (tq ?_)
 refine kq (sq ?_)
 refine sq ?_
 obtain ⟨j10,hj,h⟩:=bs h
 refine rgR (fun s=>s=⟨[(36,bv j10)],[],[]⟩) ?_ ?_
 ·clear h
  rcases ZH hj with ⟨hc7,hj⟩ | ⟨hc8,hj⟩
  ·obtain rfl:=Zb hj
   exact (EP.u 2 (Zj (c:=(a2_.Class != 7)) (h:=hc7)) (EP.f (by show _=_;kernel_rfl)))
  refine (EP.u 2 (Zj (c:=(a2_.Class != 7)) (h:=hc8)) (EP.u 4 (Zo (ys:=[ZI false a2_.Routes]) (h:=Zt (eSl 1 eI64))) ?_))
  obtain ⟨r9,hr9,hj⟩:=bs hj
  obtain rfl:=Zb hj
  exact (EP.v 1 (Zu (hc:=ZU N a3_ 0 (w64 (((List.length a2_.Routes:Nat):Int) - 1)) r9 hr9)) (EP.f (by show _=_;kernel_rfl)))
 clear hj
 rintro s hR
 obtain rfl:=hR
 refine tq (it h (fun hc11 h => ?_) (fun hc11 h => ?_))
 ·refine sq (rg Za.f ?_)
  refine tq (rt ?_)
  refine tr ?_
  obtain rfl:=Zb h
  exact Zx (by kernel_rfl)
 refine sk (tq ?_)
 refine kq (sq ?_)
 refine rg Za.f (tq ?_)
 refine rt ?_
 obtain rfl:=Zb h
 exact Zx (by kernel_rfl)
theorem Zdt (N:Nat) (a0_:Zv) (a1_:(List Zw)) (r:Int) (h:Zb9 N a0_ a1_=some r):Zab Try.prog 41 [.agg (Zc a0_),ZW false a1_] (iv r):=by
 unfold Zb9 at h
 have hH:HP ([]:List HO) []:=trivial
 refine ZF chk41 rfl rfl (Zr _ _ _ ?_) rfl
 refine sq (rg Za.f ?_)
 refine tq (sq ?_)
 refine sq ?_
 obtain ⟨r1,hr1,h⟩:=bs h
 refine rg (Za.v 1 (Zu (hc:=Zd6 N a0_ r1 hr1)) Za.f) (tq ?_)
 refine sq (rg Za.f ?_)
 refine tq (it h (fun hc2 h => ?_) (fun hc2 h => ?_))
 ·refine sq (rg Za.f ?_)
  refine tq (rt ?_)
  refine tr ?_
  obtain rfl:=Zb h
  exact Zx (by kernel_rfl)
 refine sk (tq ?_)
 refine kq (sq ?_)
 refine sq (rg (Za.u 1 (Zo (ys:=[ZW false a1_]) (h:=Zt Zav)) Za.f) ?_)
 refine tq (it h (fun hc3 h => ?_) (fun hc3 h => ?_))
 ·refine sq (rg Za.f ?_)
  refine tq (rt ?_)
  refine tr ?_
  obtain rfl:=Zb h
  exact Zx (by kernel_rfl)
 refine sk (tq ?_)
 refine kq (sq ?_)
 refine sq (rg (Za.u 1 (Zo (ys:=[ZW false a1_]) (h:=Zt Zav)) Za.f) ?_)
 refine tq (bk ?_)
 obtain ⟨o509,ho509,h⟩:=bs h
 refine ZX ((ZO (fun (x:Int) s=>s=⟨[(1,ZW false a1_),(2,.loc 2 0),(19,ZW false a1_),(20,iv ((List.length a1_:Nat):Int)),(21,iv x)],[(2,(Zc a0_))],[]⟩) (fun x:Int=>Zbp N a0_ a1_ x) (fun (p:(Unit) ⊕ (Int)) e s=>match p with | (.inl p)=>e = .exit 0∧(s=⟨[(1,ZW false a1_)],[],[]⟩) | (.inr p)=>e = .ret∧∃ xs,resL s i41.res=some xs∧ZaD xs=iv p) ?_ N _ o509 _ ho509 (by show _=_;kernel_rfl)).mono ?_)
 ·clear h ho509
  rintro i4 o s h hR
  obtain rfl:=hR
  replace h:Zbp N a0_ a1_ i4=some o:=h
  unfold Zbp at h
  refine sq (rg Za.f ?_)
  refine tq (sq ?_)
  refine it h (fun hc505 h => ?_) (fun hc505 h => ?_)
  ·refine sk (tq ?_)
   refine kq (sq ?_)
   refine bk (sq ?_)
   obtain ⟨e506,he506,h⟩:=bs h
   refine rg (Za.u 0 (Zo (ys:=[ZW false a1_,iv i4]) (h:=Zm Zav he506)) (Za.u 0 (ZD (sz:=10) (off:=0) (cs:=[.int .i64 e506.Id,.int .i64 e506.Talker,.int .i64 e506.Listener,.int .i64 e506.Class,.int .i64 e506.Size,.int .i64 e506.Period,.int .i64 e506.Bucket.Burst,.int .i64 e506.Bucket.Rate,.int .i64 e506.Deadline,.sl 1 false (List.map (eSl 1 eI64) e506.Routes)]) (r:=.agg (Zf e506)) Zav he506) Za.f)) (tq ?_)
   refine sq ?_
   obtain ⟨r507,hr507,h⟩:=bs h
   refine rg (Za.v 2 (Zu (hc:=ZeE N a0_ e506 r507 hr507)) Za.f) (tq ?_)
   refine it h (fun hc508 h => ?_) (fun hc508 h => ?_)
   ·refine sq (rg Za.f ?_)
    refine tq (rt ?_)
    refine br (tr ?_)
    obtain rfl:=Zb h
    exact ⟨_,rfl,rfl,Zx (by kernel_rfl)⟩
   refine sk (bn ?_)
   refine tq (kq ?_)
   refine rg Za.f ?_
   obtain rfl:=Zb h
   exact ⟨_,rfl,(by show _=_;kernel_rfl)⟩
  refine kq (xq ?_)
  refine tx ?_
  obtain rfl:=Zb h
  exact ⟨_,rfl,rfl,(by show _=_;kernel_rfl)⟩
 rintro e s hq
 rcases o509 with p510 | p1026
 ·dsimp only at h hq
  obtain ⟨rfl,hR⟩:=hq
  obtain rfl:=hR
  refine bx (tq ?_)
  refine sq ?_
  obtain ⟨id511,H512,hid511,hH512,hH⟩:=HP.newMp hH 0
  replace hH:HP H512 [mpT id511 0 (encE ke1 bv [])]:=hH
  refine rg (Za.h 0 (st_mkMap' (H:=[]) 0 (by kernel_rfl) hid511 hH512) Za.f) (tq ?_)
  refine sq (sq ?_)
  refine rg (Za.u 1 (Zo (ys:=[ZW false a1_]) (h:=Zt Zav)) Za.f) (tq ?_)
  refine bk ?_
  obtain ⟨o1023,ho1023,h⟩:=bs h
  refine ZX ((ZO (fun (x:Int × (List (Int × Bool))) s=>∃ (H513:List HO),s=⟨[(8,.map id511),(31,ZW false a1_),(32,iv ((List.length a1_:Nat):Int)),(33,iv x.1)],[],H513⟩∧HP H513 [mpT id511 0 (encE ke1 bv x.2)]) (fun x:Int × (List (Int × Bool))=>Zbo N a1_ x.1 x.2) (fun (p:(Unit) ⊕ (Int)) e s=>match p with | (.inl p)=>e = .exit 2∧(∃ (H1016:List HO),s=⟨[],[],H1016⟩∧HP H1016 []) | (.inr p)=>e = .ret∧∃ xs,resL s i41.res=some xs∧ZaD xs=iv p) ?_ N _ o1023 _ ho1023 ⟨H512,(by show _=_;kernel_rfl),(HP.pick hH [0] rfl)⟩).mono ?_)
  ·clear h ho1023
   rintro ⟨i514,l515⟩ o s h hR
   obtain ⟨H513,rfl,hH⟩:=hR
   replace hH:HP H513 [mpT id511 0 (encE ke1 bv l515)]:=hH
   replace h:Zbo N a1_ i514 l515=some o:=h
   unfold Zbo at h
   refine sq (rg Za.f ?_)
   refine tq (sq ?_)
   refine it h (fun hc1017 h => ?_) (fun hc1017 h => ?_)
   ·refine sk (tq ?_)
    refine kq (sq ?_)
    refine bk (sq ?_)
    obtain ⟨e1018,he1018,h⟩:=bs h
    refine rg (Za.u 0 (Zo (ys:=[ZW false a1_,iv i514]) (h:=Zm Zav he1018)) (Za.u 0 (ZD (sz:=10) (off:=0) (cs:=[.int .i64 e1018.Id,.int .i64 e1018.Talker,.int .i64 e1018.Listener,.int .i64 e1018.Class,.int .i64 e1018.Size,.int .i64 e1018.Period,.int .i64 e1018.Bucket.Burst,.int .i64 e1018.Bucket.Rate,.int .i64 e1018.Deadline,.sl 1 false (List.map (eSl 1 eI64) e1018.Routes)]) (r:=.agg (Zf e1018)) Zav he1018) Za.f)) (tq ?_)
    refine sq (sq ?_)
    have hlm1019:=HP.get hH 0 rfl
    refine rg (Za.u 3 (st_mapG (H:=H513) (id:=id511) (kn:=0) (ke:=ke1) (ve:=bv) (l:=l515) (x:=e1018.Id) (z:=false) (r:=bv (ZiB l515 e1018.Id false)) (by kernel_rfl) (by kernel_rfl) hlm1019 (by kernel_rfl) (by kernel_rfl) (fun _=>rfl)) Za.f) (tq ?_)
    refine it h (fun hc1020 h => ?_) (fun hc1020 h => ?_)
    ·refine sq (rg Za.f ?_)
     replace hH:HP H513 []:=HP.pick hH [] rfl
     refine tq (rt ?_)
     refine tr (br ?_)
     refine tr ?_
     obtain rfl:=Zb h
     exact ⟨_,rfl,rfl,Zx (by kernel_rfl)⟩
    refine sk (tq ?_)
    refine kq ?_
    have hlm1022:=HP.get hH 0 rfl
    obtain ⟨H1021,hH1021,hH⟩:=HP.setMp (k:=0) hH rfl (encE ke1 bv (Zdc l515 e1018.Id true))
    replace hH:HP H1021 [mpT id511 0 (encE ke1 bv (Zdc l515 e1018.Id true))]:=hH
    refine rg (Za.o 3 (st_mapS (H:=H513) (id:=id511) (kn:=0) (ke:=ke1) (ve:=bv) (l:=l515) (x:=e1018.Id) (v:=true) (y:=bv true) (by kernel_rfl) (by kernel_rfl) hlm1022 (by kernel_rfl) (by kernel_rfl) hH1021) Za.f) (bn ?_)
    refine tq (kq ?_)
    refine rg Za.f ?_
    obtain rfl:=Zb h
    exact ⟨_,rfl,⟨H1021,(by show _=_;kernel_rfl),(HP.pick hH [0] rfl)⟩⟩
   refine kq ?_
   replace hH:HP H513 []:=HP.pick hH [] rfl
   refine xq (tx ?_)
   obtain rfl:=Zb h
   exact ⟨_,rfl,rfl,⟨H513,(by show _=_;kernel_rfl),(HP.pick hH [] rfl)⟩⟩
  rintro e s hq
  rcases o1023 with p1024 | p1025
  ·dsimp only at h hq
   obtain ⟨rfl,hR⟩:=hq
   obtain ⟨H1016,rfl,hH⟩:=hR
   replace hH:HP H1016 []:=hH
   refine bx (tq ?_)
   refine sq (rg Za.f ?_)
   refine tq (rt ?_)
   obtain rfl:=Zb h
   exact Zx (by kernel_rfl)
  dsimp only at h hq
  obtain ⟨rfl,hq⟩:=hq
  refine br (tr ?_)
  obtain rfl:=Zb h
  exact hq
 dsimp only at h hq
 obtain ⟨rfl,hq⟩:=hq
 refine br (tr ?_)
 obtain rfl:=Zb h
 exact hq
theorem Ziu (N:Nat) (a0_:Zv) (a1_:Z2) (a2_:Zw) (a3_:Int) (r:(List Z4) × Int) (h:ZfC N a0_ a1_ a2_ a3_=some r):Zab Try.prog 52 [.agg (Zc a0_),.agg (Zh a1_),.agg (Zf a2_),iv a3_] (.tup [ZaI false r.1,iv r.2]):=by
 unfold ZfC at h
 have hH:HP ([]:List HO) []:=trivial
 refine ZF chk52 rfl rfl (Zr _ _ _ ?_) rfl
 refine sq (rgS ⟨[(3,iv a3_),(4,.loc 4 0),(5,.loc 5 0),(6,.loc 6 0)],[(4,(Zc a0_)),(5,(Zh a1_)),(6,(Zf a2_))],[]⟩ Za.f (by kernel_rfl) ?_)
 refine tq (sq ?_)
 refine sq ?_
 obtain ⟨r1,hr1,h⟩:=bs h
 refine rgS ⟨[(3,iv a3_),(4,.loc 4 0),(5,.loc 5 0),(6,.loc 6 0),(10,iv r1)],[(4,(Zc a0_)),(5,(Zh a1_)),(6,(Zf a2_))],[]⟩ (Za.v 4 (Zu (hc:=ZfV N a0_ a1_ a2_ a3_ r1 hr1)) Za.f) (by kernel_rfl) ?_
 refine tq (sq ?_)
 refine rgS ⟨[(3,iv a3_),(4,.loc 4 0),(5,.loc 5 0),(6,.loc 6 0),(10,iv r1),(19,bv (r1 != 0))],[(4,(Zc a0_)),(5,(Zh a1_)),(6,(Zf a2_))],[]⟩ Za.f (by kernel_rfl) ?_
 refine tq (it h (fun hc2 h => ?_) (fun hc2 h => ?_))
 ·refine sq (rgS ⟨[(8,ZaI true []),(9,iv r1)],[],[]⟩ Za.f (by kernel_rfl) ?_)
  refine tq (rt ?_)
  refine tr ?_
  obtain rfl:=Zb h
  exact Zx (by kernel_rfl)
 refine sk (tq ?_)
 refine kq (sq ?_)
 obtain ⟨id3,H4,hid3,hH4,hH⟩:=HP.newCell hH [ZaI true []]
 replace hH:HP H4 [.cel id3 [ZaI true []]]:=hH
 refine rgS ⟨[(3,iv a3_),(4,.loc 4 0),(5,.loc 5 0),(6,.loc 6 0),(11,.ptr id3 0)],[(4,(Zc a0_)),(5,(Zh a1_)),(6,(Zf a2_))],H4⟩ (Za.h 0 (ZeG (H:=[]) (by kernel_rfl) hid3 hH4) Za.f) (by kernel_rfl) ?_
 refine tq (sq ?_)
 refine sq ?_
 obtain ⟨r5,hr5,h⟩:=bs h
 obtain ⟨id7,id8,id9,id10,H6,hvr5,hpr5⟩:=Zfp N a0_ a1_ a2_ a3_ H4 r5 hr5
 replace hH:HP H6 [.cel id7 (Zf r5.1),.cel id8 [iv r5.2.1],.cel id9 (Zc r5.2.2.1),.cel id10 (Zh r5.2.2.2),.cel id3 [ZaI true []]]:=HP.callee (fp:=[]) (rest:=[.cel id3 [ZaI true []]]) hH hpr5
 refine rgS ⟨[(11,.ptr id3 0),(25,.fn 95 [] [.ptr id7 0,.ptr id8 0,.ptr id9 0,.ptr id10 0])],[],H6⟩ (Za.v 4 (Zea (H:=H4) (ys:=[.agg (Zc a0_),.agg (Zh a1_),.agg (Zf a2_),iv a3_]) (by kernel_rfl) (by kernel_rfl) (by kernel_rfl) hvr5) Za.f) (by kernel_rfl) ?_
 refine tq (bk ?_)
 obtain ⟨o520,ho520,h⟩:=bs h
 have hyo520:∀ (x12:Z4) (s:(List Z4)) (r:((List Z4)) × Bool) (H:List HO) (its:List ZR),(fun (s:(List Z4)) (its:List ZR)=>∃ (a13:AV),its=[.arr a13 5 false (List.map ZY s),.cel id3 [a13]]++[.lp (List.length H6) (lcOf Try.prog i52.nt [26] Zcm Zck) [(11,.ptr id3 0)] .ready]) s its→HP H its→(fun (s:(List Z4)) (x12:Z4)=>Zey (fun v:(List Z4)=>ZbP N v x12) s) s x12=some r→∃ H' its',Ze3 Try.prog (List.length H6) [.agg (Za3 x12)] H r.2 H'∧(fun (s:(List Z4)) (its:List ZR)=>∃ (a13:AV),its=[.arr a13 5 false (List.map ZY s),.cel id3 [a13]]++[.lp (List.length H6) (lcOf Try.prog i52.nt [26] Zcm Zck) [(11,.ptr id3 0)] .ready]) r.1 its'∧Fp H H' its its':=by
  clear h
  intro x12 s r H11 its hT hH h
  obtain ⟨q,hb,rfl⟩:=Zfy h
  clear h
  obtain ⟨vs,rfl⟩:∃ v,v=s:=⟨s,rfl⟩
  obtain ⟨l14,rfl⟩:∃ v,v=vs:=⟨vs,rfl⟩
  obtain ⟨a13,rfl⟩:=hT
  replace h:ZbP N l14 x12=some q:=hb
  clear hb
  unfold ZbP at h
  replace hH:Fp H11 H11 [.arr a13 5 false (List.map ZY l14),.cel id3 [a13],.lp (List.length H6) (lcOf Try.prog i52.nt [26] Zcm Zck) [(11,.ptr id3 0)] .ready] [.arr a13 5 false (List.map ZY l14),.cel id3 [a13],.lp (List.length H6) (lcOf Try.prog i52.nt [26] Zcm Zck) [(11,.ptr id3 0)] .ready]:=Fp.refl hH
  have hfa13:=ZA (Fp.get hH 0 rfl)
  suffices hs:∃ H',Ze3 Try.prog (List.length H6) [.agg (Za3 x12)] H11 true H'∧∃ its',(fun (s:(List Z4)) (its:List ZR)=>∃ (a13:AV),its=[.arr a13 5 false (List.map ZY s),.cel id3 [a13]]++[.lp (List.length H6) (lcOf Try.prog i52.nt [26] Zcm Zck) [(11,.ptr id3 0)] .ready]) q its'∧Fp H11 H' [.arr a13 5 false (List.map ZY l14),.cel id3 [a13],.lp (List.length H6) (lcOf Try.prog i52.nt [26] Zcm Zck) [(11,.ptr id3 0)] .ready] its' by
   obtain ⟨H',h1,its',h2,h3⟩:=hs
   exact ⟨H',its',h1,h2,h3⟩
  refine Zez (id:=(List.length H6)) (args:=[.agg (Za3 x12)]) (H:=H11) (n:=i52.nt) (ps:=[26]) (fr0:=[(11,.ptr id3 0)]) (ia:=Zcm) (ib:=Zck) true (fun H'=>∃ its',(fun (s:(List Z4)) (its:List ZR)=>∃ (a13:AV),its=[.arr a13 5 false (List.map ZY s),.cel id3 [a13]]++[.lp (List.length H6) (lcOf Try.prog i52.nt [26] Zcm Zck) [(11,.ptr id3 0)] .ready]) q its'∧Fp H11 H' [.arr a13 5 false (List.map ZY l14),.cel id3 [a13],.lp (List.length H6) (lcOf Try.prog i52.nt [26] Zcm Zck) [(11,.ptr id3 0)] .ready] its') (Fp.get hH 2 rfl) rfl (by decide +kernel) rfl ?_
  show vc _ _ _ _ ⟨[(11,.ptr id3 0),(26,.agg (Za3 x12))],[],H11⟩
  refine rgS ⟨[(11,.ptr id3 0),(12,.loc 12 0)],[(12,(Za3 x12))],H11⟩ Za.f (by kernel_rfl) ?_
  refine Zib (k:=2) hH rfl ?_
  intro H514 hH
  replace hH:Fp H11 H514 [.arr a13 5 false (List.map ZY l14),.cel id3 [a13],.lp (List.length H6) (lcOf Try.prog i52.nt [26] Zcm Zck) [(11,.ptr id3 0)] .ready] [.arr a13 5 false (List.map ZY l14),.cel id3 [a13],.lp (List.length H6) (lcOf Try.prog i52.nt [26] Zcm Zck) [(11,.ptr id3 0)] .busy]:=hH
  show vc _ _ _ _ ⟨[(11,.ptr id3 0),(12,.loc 12 0)],[(12,(Za3 x12))],H514⟩
  refine bk ?_
  have hlc515:=Fp.get hH 1 rfl
  obtain ⟨l518,hl518,h⟩:=bs h
  obtain ⟨a516,H517,ha516,hH⟩:=Fp.app (k:=0) (a:=a13) (sz:=5) (frz:=false) ZY hH rfl hl518
  replace hH:Fp H11 H517 [.arr a13 5 false (List.map ZY l14),.cel id3 [a13],.lp (List.length H6) (lcOf Try.prog i52.nt [26] Zcm Zck) [(11,.ptr id3 0)] .ready] [.arr a516 5 false (List.map ZY l518),.cel id3 [a13],.lp (List.length H6) (lcOf Try.prog i52.nt [26] Zcm Zck) [(11,.ptr id3 0)] .busy]:=hH
  have hfa516:=ZA (Fp.get hH 0 rfl)
  obtain ⟨H519,hH519,hH⟩:=Fp.setCell (k:=1) (off:=0) (cs:=[a13]) (vs:=[a516]) (cs':=[a516]) hH rfl (by kernel_rfl)
  replace hH:Fp H11 H519 [.arr a13 5 false (List.map ZY l14),.cel id3 [a13],.lp (List.length H6) (lcOf Try.prog i52.nt [26] Zcm Zck) [(11,.ptr id3 0)] .ready] [.arr a516 5 false (List.map ZY l518),.cel id3 [a516],.lp (List.length H6) (lcOf Try.prog i52.nt [26] Zcm Zck) [(11,.ptr id3 0)] .busy]:=hH
  refine rgS ⟨[],[],H519⟩ (Za.u 0 (Zn (H:=H514) (id:=id3) (off:=0) (cs:=[a13]) (c:=[a13]) (r:=a13) (by rcases hfa13 with ha13e | ⟨_,_,ha13e⟩<;>subst ha13e<;>kernel_rfl) (by rcases hfa13 with ha13e | ⟨_,_,ha13e⟩<;>subst ha13e<;>kernel_rfl) hlc515 (by rcases hfa13 with ha13e | ⟨_,_,ha13e⟩<;>subst ha13e<;>kernel_rfl) (by rcases hfa13 with ha13e | ⟨_,_,ha13e⟩<;>subst ha13e<;>kernel_rfl) (by rcases hfa13 with ha13e | ⟨_,_,ha13e⟩<;>subst ha13e<;>kernel_rfl)) (Za.h 2 (Zfq (H:=H514) (a:=a13) (b:=ZaI true [x12]) (by rcases hfa13 with ha13e | ⟨_,_,ha13e⟩<;>subst ha13e<;>kernel_rfl) (by rcases hfa13 with ha13e | ⟨_,_,ha13e⟩<;>subst ha13e<;>kernel_rfl) (by rcases hfa13 with ha13e | ⟨_,_,ha13e⟩<;>subst ha13e<;>kernel_rfl) (by rcases hfa13 with ha13e | ⟨_,_,ha13e⟩<;>subst ha13e<;>kernel_rfl) ha516) (Za.o 0 (ZdS (H:=H517) (v:=a516) (cs:=[a516]) (by rcases hfa516 with ha516e | ⟨_,_,ha516e⟩<;>subst ha516e<;>kernel_rfl) (by rcases hfa516 with ha516e | ⟨_,_,ha516e⟩<;>subst ha516e<;>kernel_rfl) (by rcases hfa516 with ha516e | ⟨_,_,ha516e⟩<;>subst ha516e<;>kernel_rfl) (by rcases hfa516 with ha516e | ⟨_,_,ha516e⟩<;>subst ha516e<;>kernel_rfl) (by rcases hfa516 with ha516e | ⟨_,_,ha516e⟩<;>subst ha516e<;>kernel_rfl) hH519) Za.f))) (by kernel_rfl) ?_
  refine bn ?_
  obtain rfl:=Zb h
  exact rbd (k:=2) (.ready) hH rfl rfl (fun H6 hH=>⟨_,⟨a516,Eq.refl _⟩,(Fp.pick hH [0,1,2] rfl)⟩)
 refine ZfS (s:=⟨[(11,.ptr id3 0),(25,.fn 95 [] [.ptr id7 0,.ptr id8 0,.ptr id9 0,.ptr id10 0])],[],H6⟩) [(11,.ptr id3 0)] (FrOK.cons (by kernel_rfl) (by kernel_rfl) FrOK.nil) (by kernel_rfl) (fun H=>rfl) (capT:=[.cel id7 (Zf r5.1),.cel id8 [iv r5.2.1],.cel id9 (Zc r5.2.2.1),.cel id10 (Zh r5.2.2.2)]) (cells0:=[.arr (.p (.sl 5 true [])) 5 false (List.map ZY []),.cel id3 [ZaI true []]]) (rest:=[]) (HP.now (HP.pick (HP.nilArr hH 5 false) [1,2,3,4,0,5] rfl)) (fun (s:(List Z4)) (its:List ZR)=>∃ (a13:AV),its=[.arr a13 5 false (List.map ZY s),.cel id3 [a13]]++[.lp (List.length H6) (lcOf Try.prog i52.nt [26] Zcm Zck) [(11,.ptr id3 0)] .ready]) [] o520 (by exact ⟨(.p (.sl 5 true [])),Eq.refl _⟩) (fun H its hT hH=>Zem N (fun (s:(List Z4)) (x12:Z4)=>Zey (fun v:(List Z4)=>ZbP N v x12) s) r5.1 r5.2.1 r5.2.2.1 r5.2.2.2 [] id7 id8 id9 id10 (List.length H6) (fun (s:(List Z4)) (its:List ZR)=>∃ (a13:AV),its=[.arr a13 5 false (List.map ZY s),.cel id3 [a13]]++[.lp (List.length H6) (lcOf Try.prog i52.nt [26] Zcm Zck) [(11,.ptr id3 0)] .ready]) hyo520 H its hT hH o520 ho520) ?_
 rintro its hT
 obtain ⟨a13,rfl⟩:=hT
 refine ⟨_,_,rfl,?_⟩
 intro H521 hF
 replace hH:HP H521 [.cel id7 (Zf r5.1),.cel id8 [iv r5.2.1],.cel id9 (Zc r5.2.2.1),.cel id10 (Zh r5.2.2.2),.arr a13 5 false (List.map ZY o520),.cel id3 [a13]]:=HP.after (HP.pick (HP.nilArr hH 5 false) [1,2,3,4,0,5] rfl) hF
 have hfa13:=ZA (HP.get hH 4 rfl)
 refine Zgx (S:=⟨[(11,.ptr id3 0),(25,.fn 95 [] [.ptr id7 0,.ptr id8 0,.ptr id9 0,.ptr id10 0])],[],H521⟩) ?_
 refine bn (tq ?_)
 refine kq ?_
 replace hH:HP H521 [.arr a13 5 false (List.map ZY o520),.cel id3 [a13]]:=HP.pick hH [4,5] rfl
 refine sq ?_
 have hlc522:=HP.get hH 1 rfl
 refine rgS ⟨[(8,a13),(9,iv 0)],[],H521⟩ (Za.u 0 (Zn (H:=H521) (id:=id3) (off:=0) (cs:=[a13]) (c:=[a13]) (r:=a13) (by rcases hfa13 with ha13e | ⟨_,_,ha13e⟩<;>subst ha13e<;>kernel_rfl) (by rcases hfa13 with ha13e | ⟨_,_,ha13e⟩<;>subst ha13e<;>kernel_rfl) hlc522 (by rcases hfa13 with ha13e | ⟨_,_,ha13e⟩<;>subst ha13e<;>kernel_rfl) (by rcases hfa13 with ha13e | ⟨_,_,ha13e⟩<;>subst ha13e<;>kernel_rfl) (by rcases hfa13 with ha13e | ⟨_,_,ha13e⟩<;>subst ha13e<;>kernel_rfl)) Za.f) (by rcases hfa13 with ha13e | ⟨_,_,ha13e⟩<;>subst ha13e<;>kernel_rfl) ?_
 replace hH:HP H521 [.arr a13 5 false (List.map ZY o520)]:=HP.pick hH [0] rfl
 refine tq (rt ?_)
 obtain rfl:=Zb h
 exact ZeM (H:=H521) (ys:=[a13,iv 0]) (xs:=[.p (.sl 5 false (List.map ZY o520)),iv 0]) (by rcases hfa13 with ha13e | ⟨_,_,ha13e⟩<;>subst ha13e<;>kernel_rfl) (by rcases hfa13 with ha13e | ⟨_,_,ha13e⟩<;>subst ha13e<;>kernel_rfl) (ZaS (HP.pure (k:=0) (frz:=false) ZY hH rfl).2 (ZaS rfl Zb2)) (by kernel_rfl)
theorem Zit (N:Nat) (a0_:Zv) (a1_:Z2) (a2_:Zw) (a3_:Int) (r:Int × Int) (h:ZfB N a0_ a1_ a2_ a3_=some r):Zab Try.prog 54 [.agg (Zc a0_),.agg (Zh a1_),.agg (Zf a2_),iv a3_] (.tup [iv r.1,iv r.2]):=by
 unfold ZfB at h
 have hH:HP ([]:List HO) []:=trivial
 refine ZF chk54 rfl rfl (Zr _ _ _ ?_) rfl
 refine sq ?_
 obtain ⟨id1,H2,hid1,hH2,hH⟩:=HP.newCell hH (Zc a0_)
 replace hH:HP H2 [.cel id1 (Zc a0_)]:=hH
 obtain ⟨id3,H4,hid3,hH4,hH⟩:=HP.newCell hH (Zh a1_)
 replace hH:HP H4 [.cel id3 (Zh a1_),.cel id1 (Zc a0_)]:=hH
 refine rgS ⟨[(3,iv a3_),(4,.ptr id1 0),(5,.ptr id3 0),(6,.loc 6 0)],[(6,(Zf a2_))],H4⟩ (Za.h 0 (ZaQ (H:=[]) (v:=.agg (Zc a0_)) (hid:=hid1) (hH:=hH2)) (Za.h 0 (ZaQ (H:=H2) (v:=.agg (Zh a1_)) (hid:=hid3) (hH:=hH4)) Za.f)) (by kernel_rfl) ?_
 refine tq (sq ?_)
 refine sq ?_
 have hlc5:=HP.get hH 1 rfl
 have hlc6:=HP.get hH 0 rfl
 obtain ⟨r7,hr7,h⟩:=bs h
 refine rgS ⟨[(3,iv a3_),(4,.ptr id1 0),(5,.ptr id3 0),(6,.loc 6 0),(10,iv r7)],[(6,(Zf a2_))],H4⟩ (Za.u 0 (Zn (H:=H4) (id:=id1) (off:=0) (cs:=(Zc a0_)) (c:=(Zc a0_)) (r:=.agg (Zc a0_)) (hl:=hlc5)) (Za.u 0 (Zn (H:=H4) (id:=id3) (off:=0) (cs:=(Zh a1_)) (c:=(Zh a1_)) (r:=.agg (Zh a1_)) (hl:=hlc6)) (Za.v 2 (Zu (hc:=ZfV N a0_ a1_ a2_ a3_ r7 hr7)) Za.f))) (by kernel_rfl) ?_
 refine tq (sq ?_)
 refine rgS ⟨[(3,iv a3_),(4,.ptr id1 0),(5,.ptr id3 0),(6,.loc 6 0),(10,iv r7),(19,bv (r7 != 0))],[(6,(Zf a2_))],H4⟩ Za.f (by kernel_rfl) ?_
 refine tq (it h (fun hc8 h => ?_) (fun hc8 h => ?_))
 ·refine sq (rgS ⟨[(8,iv 0),(9,iv r7)],[],H4⟩ Za.f (by kernel_rfl) ?_)
  replace hH:HP H4 []:=HP.pick hH [] rfl
  refine tq (rt ?_)
  refine tr ?_
  obtain rfl:=Zb h
  exact Zx (by kernel_rfl)
 refine sk (tq ?_)
 refine kq (sq ?_)
 obtain ⟨id9,H10,hid9,hH10,hH⟩:=HP.newCell hH [iv 0]
 replace hH:HP H10 [.cel id9 [iv 0],.cel id3 (Zh a1_),.cel id1 (Zc a0_)]:=hH
 obtain ⟨H11,hH11,hH⟩:=HP.setCell (k:=0) (off:=0) (cs:=[iv 0]) (vs:=[iv 0]) (cs':=[iv 0]) hH rfl (by kernel_rfl)
 replace hH:HP H11 [.cel id9 [iv 0],.cel id3 (Zh a1_),.cel id1 (Zc a0_)]:=hH
 refine rgS ⟨[(3,iv a3_),(4,.ptr id1 0),(5,.ptr id3 0),(6,.loc 6 0),(11,.ptr id9 0)],[(6,(Zf a2_))],H11⟩ (Za.h 0 (ZeG (H:=H4) (by kernel_rfl) hid9 hH10) (Za.o 0 (Z9 (H:=H10) (v:=iv 0) (hw:=hH11)) Za.f)) (by kernel_rfl) ?_
 refine tq (sq ?_)
 refine sq ?_
 have hlc12:=HP.get hH 2 rfl
 have hlc13:=HP.get hH 1 rfl
 obtain ⟨r14,hr14,h⟩:=bs h
 obtain ⟨id16,id17,id18,id19,H15,hvr14,hpr14⟩:=Zfp N a0_ a1_ a2_ a3_ H11 r14 hr14
 replace hH:HP H15 [.cel id16 (Zf r14.1),.cel id17 [iv r14.2.1],.cel id18 (Zc r14.2.2.1),.cel id19 (Zh r14.2.2.2),.cel id9 [iv 0],.cel id3 (Zh a1_),.cel id1 (Zc a0_)]:=HP.callee (fp:=[]) (rest:=[.cel id9 [iv 0],.cel id3 (Zh a1_),.cel id1 (Zc a0_)]) hH hpr14
 refine rgS ⟨[(4,.ptr id1 0),(5,.ptr id3 0),(11,.ptr id9 0),(25,.fn 95 [] [.ptr id16 0,.ptr id17 0,.ptr id18 0,.ptr id19 0])],[],H15⟩ (Za.u 0 (Zn (H:=H11) (id:=id1) (off:=0) (cs:=(Zc a0_)) (c:=(Zc a0_)) (r:=.agg (Zc a0_)) (hl:=hlc12)) (Za.u 0 (Zn (H:=H11) (id:=id3) (off:=0) (cs:=(Zh a1_)) (c:=(Zh a1_)) (r:=.agg (Zh a1_)) (hl:=hlc13)) (Za.v 2 (Zea (H:=H11) (ys:=[.agg (Zc a0_),.agg (Zh a1_),.agg (Zf a2_),iv a3_]) (by kernel_rfl) (by kernel_rfl) (by kernel_rfl) hvr14) Za.f))) (by kernel_rfl) ?_
 refine tq (bk ?_)
 obtain ⟨o527,ho527,h⟩:=bs h
 have hyo527:∀ (x21:Z4) (s:Int) (r:(Int) × Bool) (H:List HO) (its:List ZR),(fun (s:Int) (its:List ZR)=>its=[.cel id9 [iv s],.cel id3 (Zh a1_),.cel id1 (Zc a0_)]++[.lp (List.length H15) (lcOf Try.prog i54.nt [26] ZcZ ZcY) [(4,.ptr id1 0),(5,.ptr id3 0),(11,.ptr id9 0)] .ready]) s its→HP H its→(fun (s:Int) (x21:Z4)=>Zey (fun v:Int=>ZbO N a0_ a1_ v x21) s) s x21=some r→∃ H' its',Ze3 Try.prog (List.length H15) [.agg (Za3 x21)] H r.2 H'∧(fun (s:Int) (its:List ZR)=>its=[.cel id9 [iv s],.cel id3 (Zh a1_),.cel id1 (Zc a0_)]++[.lp (List.length H15) (lcOf Try.prog i54.nt [26] ZcZ ZcY) [(4,.ptr id1 0),(5,.ptr id3 0),(11,.ptr id9 0)] .ready]) r.1 its'∧Fp H H' its its':=by
  clear h
  intro x21 s r H20 its hT hH h
  obtain ⟨q,hb,rfl⟩:=Zfy h
  clear h
  obtain ⟨vs,rfl⟩:∃ v,v=s:=⟨s,rfl⟩
  obtain ⟨i22,rfl⟩:∃ v,v=vs:=⟨vs,rfl⟩
  obtain rfl:=hT
  replace h:ZbO N a0_ a1_ i22 x21=some q:=hb
  clear hb
  unfold ZbO at h
  replace hH:Fp H20 H20 [.cel id9 [iv i22],.cel id3 (Zh a1_),.cel id1 (Zc a0_),.lp (List.length H15) (lcOf Try.prog i54.nt [26] ZcZ ZcY) [(4,.ptr id1 0),(5,.ptr id3 0),(11,.ptr id9 0)] .ready] [.cel id9 [iv i22],.cel id3 (Zh a1_),.cel id1 (Zc a0_),.lp (List.length H15) (lcOf Try.prog i54.nt [26] ZcZ ZcY) [(4,.ptr id1 0),(5,.ptr id3 0),(11,.ptr id9 0)] .ready]:=Fp.refl hH
  suffices hs:∃ H',Ze3 Try.prog (List.length H15) [.agg (Za3 x21)] H20 true H'∧∃ its',(fun (s:Int) (its:List ZR)=>its=[.cel id9 [iv s],.cel id3 (Zh a1_),.cel id1 (Zc a0_)]++[.lp (List.length H15) (lcOf Try.prog i54.nt [26] ZcZ ZcY) [(4,.ptr id1 0),(5,.ptr id3 0),(11,.ptr id9 0)] .ready]) q its'∧Fp H20 H' [.cel id9 [iv i22],.cel id3 (Zh a1_),.cel id1 (Zc a0_),.lp (List.length H15) (lcOf Try.prog i54.nt [26] ZcZ ZcY) [(4,.ptr id1 0),(5,.ptr id3 0),(11,.ptr id9 0)] .ready] its' by
   obtain ⟨H',h1,its',h2,h3⟩:=hs
   exact ⟨H',its',h1,h2,h3⟩
  refine Zez (id:=(List.length H15)) (args:=[.agg (Za3 x21)]) (H:=H20) (n:=i54.nt) (ps:=[26]) (fr0:=[(4,.ptr id1 0),(5,.ptr id3 0),(11,.ptr id9 0)]) (ia:=ZcZ) (ib:=ZcY) true (fun H'=>∃ its',(fun (s:Int) (its:List ZR)=>its=[.cel id9 [iv s],.cel id3 (Zh a1_),.cel id1 (Zc a0_)]++[.lp (List.length H15) (lcOf Try.prog i54.nt [26] ZcZ ZcY) [(4,.ptr id1 0),(5,.ptr id3 0),(11,.ptr id9 0)] .ready]) q its'∧Fp H20 H' [.cel id9 [iv i22],.cel id3 (Zh a1_),.cel id1 (Zc a0_),.lp (List.length H15) (lcOf Try.prog i54.nt [26] ZcZ ZcY) [(4,.ptr id1 0),(5,.ptr id3 0),(11,.ptr id9 0)] .ready] its') (Fp.get hH 3 rfl) rfl (by decide +kernel) rfl ?_
  show vc _ _ _ _ ⟨[(4,.ptr id1 0),(5,.ptr id3 0),(11,.ptr id9 0),(26,.agg (Za3 x21))],[],H20⟩
  refine rgS ⟨[(4,.ptr id1 0),(5,.ptr id3 0),(11,.ptr id9 0),(12,.loc 12 0)],[(12,(Za3 x21))],H20⟩ Za.f (by kernel_rfl) ?_
  refine Zib (k:=3) hH rfl ?_
  intro H522 hH
  replace hH:Fp H20 H522 [.cel id9 [iv i22],.cel id3 (Zh a1_),.cel id1 (Zc a0_),.lp (List.length H15) (lcOf Try.prog i54.nt [26] ZcZ ZcY) [(4,.ptr id1 0),(5,.ptr id3 0),(11,.ptr id9 0)] .ready] [.cel id9 [iv i22],.cel id3 (Zh a1_),.cel id1 (Zc a0_),.lp (List.length H15) (lcOf Try.prog i54.nt [26] ZcZ ZcY) [(4,.ptr id1 0),(5,.ptr id3 0),(11,.ptr id9 0)] .busy]:=hH
  show vc _ _ _ _ ⟨[(4,.ptr id1 0),(5,.ptr id3 0),(11,.ptr id9 0),(12,.loc 12 0)],[(12,(Za3 x21))],H522⟩
  refine bk ?_
  have hlc523:=Fp.get hH 2 rfl
  obtain ⟨e524,he524,h⟩:=bs h
  have hlc525:=Fp.get hH 1 rfl
  obtain ⟨H526,hH526,hH⟩:=Fp.setCell (k:=0) (off:=0) (cs:=[iv i22]) (vs:=[iv (w64 ((w64 ((w64 (x21.Open+x21.Long))+e524.Delay))+a1_.Proc))]) (cs':=[iv (w64 ((w64 ((w64 (x21.Open+x21.Long))+e524.Delay))+a1_.Proc))]) hH rfl (by kernel_rfl)
  replace hH:Fp H20 H526 [.cel id9 [iv i22],.cel id3 (Zh a1_),.cel id1 (Zc a0_),.lp (List.length H15) (lcOf Try.prog i54.nt [26] ZcZ ZcY) [(4,.ptr id1 0),(5,.ptr id3 0),(11,.ptr id9 0)] .ready] [.cel id9 [iv (w64 ((w64 ((w64 (x21.Open+x21.Long))+e524.Delay))+a1_.Proc))],.cel id3 (Zh a1_),.cel id1 (Zc a0_),.lp (List.length H15) (lcOf Try.prog i54.nt [26] ZcZ ZcY) [(4,.ptr id1 0),(5,.ptr id3 0),(11,.ptr id9 0)] .busy]:=hH
  refine rqS ⟨[],[],H526⟩ (Za.u 6 (ZV (Zn (H:=H522) (id:=id1) (off:=2) (cs:=(Zc a0_)) (c:=[Zk false a0_.Links]) (r:=Zk false a0_.Links) (hl:=hlc523))) (Za.u 3 (Zo (ys:=[Zk false a0_.Links,iv (w64 (Int.tdiv x21.Port 2))]) (h:=Zm ZN he524)) (Za.u 1 (ZV (ZD (sz:=4) (off:=3) (cs:=[.int .i64 e524.Delay]) (r:=iv e524.Delay) ZN he524)) (Za.u 2 (ZV (Zn (H:=H522) (id:=id3) (off:=2) (cs:=(Zh a1_)) (c:=[iv a1_.Proc]) (r:=iv a1_.Proc) (hl:=hlc525))) (Za.o 1 (ZjM (Z9 (H:=H522) (v:=iv (w64 ((w64 ((w64 (x21.Open+x21.Long))+e524.Delay))+a1_.Proc))) (hw:=hH526)) (by kernel_rfl)) Za.f))))) (by kernel_rfl) ?_
  refine bn ?_
  obtain rfl:=Zb h
  exact rbd (k:=3) (.ready) hH rfl rfl (fun H6 hH=>⟨_,(Eq.refl _),(Fp.pick hH [0,1,2,3] rfl)⟩)
 refine ZfS (s:=⟨[(4,.ptr id1 0),(5,.ptr id3 0),(11,.ptr id9 0),(25,.fn 95 [] [.ptr id16 0,.ptr id17 0,.ptr id18 0,.ptr id19 0])],[],H15⟩) [(4,.ptr id1 0),(5,.ptr id3 0),(11,.ptr id9 0)] (FrOK.cons (by kernel_rfl) (by kernel_rfl) (FrOK.cons (by kernel_rfl) (by kernel_rfl) (FrOK.cons (by kernel_rfl) (by kernel_rfl) FrOK.nil))) (by kernel_rfl) (fun H=>rfl) (capT:=[.cel id16 (Zf r14.1),.cel id17 [iv r14.2.1],.cel id18 (Zc r14.2.2.1),.cel id19 (Zh r14.2.2.2)]) (cells0:=[.cel id9 [iv 0],.cel id3 (Zh a1_),.cel id1 (Zc a0_)]) (rest:=[]) (HP.now (HP.pick hH [0,1,2,3,4,5,6] rfl)) (fun (s:Int) (its:List ZR)=>its=[.cel id9 [iv s],.cel id3 (Zh a1_),.cel id1 (Zc a0_)]++[.lp (List.length H15) (lcOf Try.prog i54.nt [26] ZcZ ZcY) [(4,.ptr id1 0),(5,.ptr id3 0),(11,.ptr id9 0)] .ready]) 0 o527 (by exact (Eq.refl _)) (fun H its hT hH=>Zem N (fun (s:Int) (x21:Z4)=>Zey (fun v:Int=>ZbO N a0_ a1_ v x21) s) r14.1 r14.2.1 r14.2.2.1 r14.2.2.2 0 id16 id17 id18 id19 (List.length H15) (fun (s:Int) (its:List ZR)=>its=[.cel id9 [iv s],.cel id3 (Zh a1_),.cel id1 (Zc a0_)]++[.lp (List.length H15) (lcOf Try.prog i54.nt [26] ZcZ ZcY) [(4,.ptr id1 0),(5,.ptr id3 0),(11,.ptr id9 0)] .ready]) hyo527 H its hT hH o527 ho527) ?_
 rintro its hT
 obtain rfl:=hT
 refine ⟨_,_,rfl,?_⟩
 intro H528 hF
 replace hH:HP H528 [.cel id16 (Zf r14.1),.cel id17 [iv r14.2.1],.cel id18 (Zc r14.2.2.1),.cel id19 (Zh r14.2.2.2),.cel id9 [iv o527],.cel id3 (Zh a1_),.cel id1 (Zc a0_)]:=HP.after (HP.pick hH [0,1,2,3,4,5,6] rfl) hF
 refine Zgx (S:=⟨[(4,.ptr id1 0),(5,.ptr id3 0),(11,.ptr id9 0),(25,.fn 95 [] [.ptr id16 0,.ptr id17 0,.ptr id18 0,.ptr id19 0])],[],H528⟩) ?_
 refine bn (tq ?_)
 refine kq ?_
 replace hH:HP H528 [.cel id9 [iv o527]]:=HP.pick hH [4] rfl
 refine sq ?_
 have hlc529:=HP.get hH 0 rfl
 refine rgS ⟨[(8,iv o527),(9,iv 0)],[],H528⟩ (Za.u 0 (Zn (H:=H528) (id:=id9) (off:=0) (cs:=[iv o527]) (c:=[iv o527]) (r:=iv o527) (hl:=hlc529)) Za.f) (by kernel_rfl) ?_
 replace hH:HP H528 []:=HP.pick hH [] rfl
 refine tq (rt ?_)
 obtain rfl:=Zb h
 exact Zx (by kernel_rfl)
end Go.Sh

