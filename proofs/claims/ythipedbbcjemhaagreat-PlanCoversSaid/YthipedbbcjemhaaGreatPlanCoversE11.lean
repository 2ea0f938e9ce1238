/- Part of the proof; written by a program out of the texts in wip/. -/
import Derived.Test.YthipedbbcjemhaaGreatPlanCoversE10
set_option linter.unusedVariables false
set_option linter.unusedSimpArgs false
namespace Go.Eng
open Go
structure HR (k:K0) (ρ:List Nat) (H:List HO) (w:World):Prop where
 heap:∀ (id:Nat) o,H[id]? = some o→∃ b,ρ[id]? = some b∧HoR (cx k ⟨ρ,noB⟩ H w) b o
 len:ρ.length=H.length
 inj:∀ (i j b:Nat),ρ[i]? = some b→ρ[j]? = some b→i=j
 own:∀ (i b:Nat),ρ[i]? = some b→k.w0.heap.size≤b∨k.D b
 keep:Keep k.D k.w0 w
def k0 (ok0:Addr→Prop) (ρ:List Nat) (H:List HO) (w:World):K0:=⟨ok0,w,fun b=>∃ id:Nat,ρ[id]? = some b,ρ,H,none⟩
def Zo4 (P:Program) (f:Nat):Prop:=∃ fn,P.funcs[f]? = some fn∧fn.body.isSome=true∧(fn.name == "runtime.NumGoroutine")=false
def Zbe (P:Program) (f:Nat) (args:List AV) (H:List HO) (r:AV) (H':List HO):Prop :=
 Zo4 P f∧ZX r=true∧∀ (ok0:Addr→Prop) (ρ:List Nat) (w:World) (vs:List Value),
  HR (k0 ok0 ρ H w) ρ H w→VRL (cx (k0 ok0 ρ H w) ⟨ρ,noB⟩ H w) args vs →
  Calls P f vs.toArray w fun e w'=>∃ v ρ',e = .returned v∧HR (k0 ok0 ρ H w) ρ' H' w'∧VR (cx (k0 ok0 ρ H w) ⟨ρ',noB⟩ H' w') r v ∧
   Zam (cx (k0 ok0 ρ H w) ⟨ρ,noB⟩ H w) (cx (k0 ok0 ρ H w) ⟨ρ',noB⟩ H' w')
section
variable {P:Program} {k:K0} {n:Nat} {g:G} {s:St} {a:Act} {w:World}
theorem Rel.laterCall (h:Rel k n g s a w):Zam (cx k g s.H w) (cx (k0 (okOf k s.H g) g.ρ s.H w) ⟨g.ρ,noB⟩ s.H w) :=
 {stay:=fun a u ho hc=>⟨hc,.inl ho,fun t e=>(by cases e),ho.2.2⟩
  arr:=fun id sz ver frz rows e=>⟨ver,frz,rows,e,Nat.le_refl _,fun _=>⟨Nat.le_refl _,rfl,fun b vs _ hb=>⟨vs,hb,rfl⟩⟩⟩
  cells:=fun id cs e=>⟨⟨cs,e⟩,rfl⟩
  lp:=fun _ _ _ st e=>⟨⟨st,e⟩,rfl⟩ }
theorem Rel.hr (h:Rel k n g s a w):HR (k0 (okOf k s.H g) g.ρ s.H w) g.ρ s.H w :=
 {heap:=fun id o e=>let ⟨b,hb,hr⟩:=h.heap id o e; ⟨b,hb,hr.later h.laterCall fun _ hb=>hb⟩
  len:=h.len
  inj:=h.inj
  own:=fun i b e=>.inr ⟨i,e⟩
  keep:=Keep.refl _ _ }
theorem Rel.obj (h:Rel k n g s a w) {id b:Nat} (e:g.ρ[id]? = some b):∃ o,s.H[id]? = some o∧HoR (cx k g s.H w) b o:=by
 have hlt:id<s.H.length:=by rw [← h.len];exact (List.getElem?_eq_some_iff.1 e).1
 obtain ⟨b',hb',hr⟩:=h.heap id s.H[id] (List.getElem?_eq_getElem hlt)
 rw [e] at hb'
 cases hb'
 exact ⟨_,List.getElem?_eq_getElem hlt,hr⟩
theorem Rel.notDeferred (h:Rel k n g s a w) {id b:Nat} (e:g.ρ[id]? = some b) {x:Option (List Deferred)} (hx:w.heap[b]? = some (.deferred x)):False:=by
 obtain ⟨o,_,hr⟩:=h.obj e
 rcases hr.kind hx with ⟨_,_,_,e⟩ | ⟨_,e,_⟩ | ⟨_,_,e⟩ | ⟨_,_,_,_,e⟩<;>cases e
theorem Rel.isLp (h:Rel k n g s a w) {id b:Nat} (e:g.ρ[id]? = some b) {x:Loop} (hx:w.heap[b]? = some (.loop x)):∃ L fr st,s.H[id]? = some (.lp L fr st)∧L.mpk=false:=by
 obtain ⟨o,ho,hr⟩:=h.obj e
 rcases hr.kind hx with ⟨_,_,_,e⟩ | ⟨_,_,L,fr,st,e,hm⟩ | ⟨_,_,e⟩ | ⟨_,_,_,_,e⟩
 ·cases e
 ·exact ⟨L,fr,st,by rw [ho,e],hm⟩
 ·cases e
 ·cases e
theorem Rel.back (h:Rel k n g s a w) {ρ':List Nat} {H':List HO} {w':World} (hr:HR (k0 (okOf k s.H g) g.ρ s.H w) ρ' H' w')
  (hl:Zam (cx (k0 (okOf k s.H g) g.ρ s.H w) ⟨g.ρ,noB⟩ s.H w) (cx (k0 (okOf k s.H g) g.ρ s.H w) ⟨ρ',noB⟩ H' w')) :
  Rel k n ⟨ρ',g.β⟩ ⟨s.fr,s.bx,H'⟩ a w'∧Zam (cx (k0 (okOf k s.H g) g.ρ s.H w) ⟨ρ',noB⟩ H' w') (cx k ⟨ρ',g.β⟩ H' w'):=by
 have hapart:∀ (t i b:Nat),g.β t=some b→ρ'[i]? ≠ some b:=fun t i b e1 e2=>by
  rcases hr.own i b e2 with h1 | ⟨j,h1⟩
  ·have h2:w.heap.size≤b:=h1
   have:=β_lt h e1;omega
  ·exact h.apart t j b e1 h1
 have hstay2:Stay (okOf (k0 (okOf k s.H g) g.ρ s.H w) H' ⟨ρ',noB⟩) (okOf k H' ⟨ρ',g.β⟩) w' w':=fun a u ho hc=>by
  refine ⟨hc,?_,fun t e => ?_,ho.2.2⟩
  ·rcases ho.1 with h1 | h1 | ⟨j,h1⟩
   ·exact h1.1
   ·right;left;have:w.heap.size≤a.block:=h1;have:=h.keep.size;omega
   ·exact .inr (h.own j _ h1)
  ·rcases ho.1 with h1 | h1 | ⟨j,h1⟩
   ·exact h1.2.1 t e
   ·have h2:w.heap.size≤a.block:=h1
    have:=β_lt h e;omega
   ·exact h.apart t j _ e h1
 have hl2:Zam (cx (k0 (okOf k s.H g) g.ρ s.H w) ⟨ρ',noB⟩ H' w') (cx k ⟨ρ',g.β⟩ H' w') :=
  {stay:=hstay2
   arr:=fun id sz ver frz rows e=>⟨ver,frz,rows,e,Nat.le_refl _,fun _=>⟨Nat.le_refl _,rfl,fun b vs _ hb=>⟨vs,hb,rfl⟩⟩⟩
   cells:=fun id cs e=>⟨⟨cs,e⟩,rfl⟩
   lp:=fun _ _ _ st e=>⟨⟨st,e⟩,rfl⟩ }
 have hl1:Zam (cx k g s.H w) (cx k ⟨ρ',g.β⟩ H' w') :=
  {stay:=fun a u ho hc=>by
    obtain ⟨h1,h2⟩:=hl.stay a u (h.laterCall.stay a u ho hc).2 hc
    exact hstay2 a u h2 h1
   arr:=fun id sz ver frz rows e=>hl.arr id sz ver frz rows e
   cells:=fun id cs e=>hl.cells id cs e
   lp:=fun id L fr st e=>hl.lp id L fr st e }
 refine ⟨?_,hl2⟩
 have hblk:∀ t b,g.β t=some b→∀ o,(cx k g s.H w).w.heap[b]? = some o→(cx k ⟨ρ',g.β⟩ H' w').w.heap[b]? = some o:=fun t b e o hb=>by
  have:w'.heap[b]? = w.heap[b]?:=hr.keep.block b (β_lt h e) (fun ⟨j,hj⟩=>h.apart t j b e hj)
  exact this.trans hb
 exact
  {defers:=h.defers.mono fun D _ hD=>(hr.keep.block D (Array.getElem?_eq_some_iff.1 hD).1 (fun ⟨j,hj⟩=>h.notDeferred hj hD)).trans hD
   rnd:=fun l hl'=>by
    obtain ⟨r,hr'⟩:=h.rnd l hl'
    by_cases hj:∃ j:Nat,g.ρ[j]? = some l
    ·obtain ⟨j,hj⟩:=hj
     obtain ⟨L,fr,st,hH,hm⟩:=h.isLp hj hr'
     obtain ⟨⟨st',e1⟩,e2⟩:=hl.lp j L fr st hH
     obtain ⟨b,hb,hh⟩:=hr.heap j _ e1
     have e2':ρ'[j]? = g.ρ[j]?:=e2
     rw [e2',hj] at hb
     cases hb
     rcases hh with ⟨_,_,r',hr'',_⟩ | ⟨hm',_⟩
     ·exact ⟨r',hr''⟩
     ·rw [hm] at hm';cases hm'
    ·exact ⟨r,(hr.keep.block l (Array.getElem?_eq_some_iff.1 hr').1 hj).trans hr'⟩
   tsz:=h.tsz
   slots:=fun t=>Zau hl1 (fun _ _ e=>e) (h.tops t) (h.slots t)
   tops:=h.tops
   hist:=h.hist.trans hl1
   boxes:=fun t cs e=>let ⟨b,hb,hr'⟩:=h.boxes t cs e; ⟨b,hb,hr'.later hl1 (hblk t b hb)⟩
   boxed:=h.boxed
   heap:=fun id o e=>let ⟨b,hb,hr'⟩:=hr.heap id o e; ⟨b,hb,hr'.later hl2 fun _ hb=>hb⟩
   len:=hr.len
   inj:=hr.inj
   binj:=h.binj
   apart:=hapart
   own:=fun i b e=>by
    rcases hr.own i b e with h1 | ⟨j,h1⟩
    ·left
     have h2:w.heap.size≤b:=h1
     have:=h.keep.size;omega
    ·exact h.own j b h1
   keep :=
    {os:=hr.keep.os.trans h.keep.os
     tape:=hr.keep.tape.trans h.keep.tape
     output:=hr.keep.output.trans h.keep.output
     size:=Nat.le_trans h.keep.size hr.keep.size
     block:=fun i hi hD=>by
      have h1:w'.heap[i]? = w.heap[i]?:=hr.keep.block i (Nat.lt_of_lt_of_le hi h.keep.size) (fun ⟨j,hj⟩=>by
       rcases h.own j i hj with h2 | h2
       ·omega
       ·exact hD h2)
      exact h1.trans (h.keep.block i hi hD) } }
theorem Rel.call (h:Rel k n g s a w) {f:Nat} {args:List AV} {r:AV} {H':List HO} {vs:List Value} (hc:Zbe P f args s.H r H') (hargs:VRL (cx k g s.H w) args vs) (hno:noLocL args=true)
  {R:Ending→World→Prop} (hR:∀ g' v w',Rel k n g' ⟨s.fr,s.bx,H'⟩ a w'→VR (cx k g' H' w') r v→R (.returned v) w'):Calls P f vs.toArray w R:=by
 obtain ⟨_,hr0,hc⟩:=hc
 refine (hc (okOf k s.H g) g.ρ w vs h.hr (VRL.later h.laterCall args vs hno hargs)).mono ?_
 rintro e w' ⟨v,ρ',rfl,h1,h2,h3⟩
 obtain ⟨h4,h5⟩:=h.back h1 h3
 exact hR _ _ _ h4 (VR.later h5 r v hr0 h2)
theorem Ziy {c c':Cx} (h:Stay c.ok c'.ok c.w c'.w) {x:AV} {v:Value} (hp:Zha x=true) (hv:VR c x v):VR c' x v:=by
 cases x with
 | p x=>rw [VR] at hv ⊢;exact PR.mono h x v hv
 | nl x=>rw [VR] at hv ⊢;exact hv
 | _=>simp [Zha] at hp
theorem ZnZ {c c':Cx} (h:Stay c.ok c'.ok c.w c'.w):∀ {xs:List AV} {vs:List Value},Zg9 xs=true→VRL c xs vs→VRL c' xs vs
 | [],vs,_,hv=>by rw [VRL] at hv ⊢;exact hv
 | x::xs,vs,hp,hv=>by
  rw [VRL] at hv ⊢
  obtain ⟨u,us,e,h1,h2⟩:=hv
  simp only [Zg9,Bool.and_eq_true] at hp
  exact ⟨u,us,e,Ziy h hp.1 h1,ZnZ h hp.2 h2⟩
theorem ZqB {c c':Cx} (h:Stay c.ok c'.ok c.w c'.w) {x:AV} {v:Value} (hp:Zhb x=true) (hv:VR c x v):VR c' x v:=by
 cases x with
 | agg cs =>
  rw [VR] at hv ⊢
  obtain ⟨vs,e,hv⟩:=hv
  exact ⟨vs,e,ZnZ h (by simpa [Zhb] using hp) hv⟩
 | _=>exact Ziy h (by simpa [Zhb] using hp) hv
theorem Zh5 {c c':Cx} (h:Stay c.ok c'.ok c.w c'.w):∀ {xs:List AV} {vs:List Value},Zgr xs=true→VRL c xs vs→VRL c' xs vs
 | [],vs,_,hv=>by rw [VRL] at hv ⊢;exact hv
 | x::xs,vs,hp,hv=>by
  rw [VRL] at hv ⊢
  obtain ⟨u,us,e,h1,h2⟩:=hv
  simp only [Zgr,Bool.and_eq_true] at hp
  exact ⟨u,us,e,ZqB h hp.1 h1,Zh5 h hp.2 h2⟩
theorem Zrq {c c':Cx} (h:Stay c.ok c'.ok c.w c'.w) {x:AV} {v:Value} (hp:Zgm x=true) (hv:VR c x v):VR c' x v:=by
 cases x with
 | tup cs =>
  rw [VR] at hv ⊢
  obtain ⟨vs,e,hv⟩:=hv
  exact ⟨vs,e,Zh5 h (by simpa [Zgm] using hp) hv⟩
 | _=>exact ZqB h (by simpa [Zgm] using hp) hv
theorem ZkJ {x:AV} (h:Zha x=true):ZX x=true:=by cases x<;>simp_all [Zha,ZX]
theorem Zjq:∀ {xs:List AV},Zg9 xs=true→noLocL xs=true
 | [],_=>rfl
 | x::xs,h=>by
  simp only [Zg9,Bool.and_eq_true] at h
  simp only [noLocL,ZX.noLocL,Bool.and_eq_true]
  exact ⟨ZkJ h.1,Zjq h.2⟩
theorem ZlK {x:AV} (h:Zhb x=true):ZX x=true:=by
 cases x with
 | agg cs=>simpa [ZX] using Zjq (by simpa [Zhb] using h)
 | _=>exact ZkJ (by simpa [Zhb] using h)
theorem Zek:∀ {xs:List AV},Zgr xs=true→noLocL xs=true
 | [],_=>rfl
 | x::xs,h=>by
  simp only [Zgr,Bool.and_eq_true] at h
  simp only [noLocL,ZX.noLocL,Bool.and_eq_true]
  exact ⟨ZlK h.1,Zek h.2⟩
def Zac (P:Program) (f:Nat) (args:List AV) (r:AV):Prop:=Zgm r=true∧Zgr args=true∧Zbe P f args [] r []
theorem Zac.frame {f:Nat} {args:List AV} {r:AV} (h:Zac P f args r) (H:List HO):Zbe P f args H r H:=by
 obtain ⟨hpr,hpa,hcb,hno,hc⟩:=h
 refine ⟨hcb,hno,fun ok0 ρ w vs hr hv => ?_⟩
 have hρlt:∀ (i b:Nat),ρ[i]? = some b→b<w.heap.size:=fun i b e=>by
  have hlt:i<H.length:=by rw [← hr.len];exact (List.getElem?_eq_some_iff.1 e).1
  obtain ⟨b',hb',hh⟩:=hr.heap i H[i] (List.getElem?_eq_getElem hlt)
  rw [e] at hb'
  cases hb'
  exact hh.lt
 have hk:HR (k0 (okOf (k0 ok0 ρ H w) H ⟨ρ,noB⟩) [] [] w) [] [] w :=
  {heap:=fun id o e=>by simp at e
   len:=rfl
   inj:=fun i j b e=>by simp at e
   own:=fun i b e=>by simp at e
   keep:=Keep.refl _ _ }
 have hv':VRL (cx (k0 (okOf (k0 ok0 ρ H w) H ⟨ρ,noB⟩) [] [] w) ⟨[],noB⟩ [] w) args vs :=
  Zh5 (c:=cx (k0 ok0 ρ H w) ⟨ρ,noB⟩ H w) (c':=cx (k0 (okOf (k0 ok0 ρ H w) H ⟨ρ,noB⟩) [] [] w) ⟨[],noB⟩ [] w) (fun a u ho hc=>⟨hc,.inl ho,fun t e=>(by cases e),fun id e=>by simp [cx] at e⟩) hpa hv
 refine (hc _ [] w vs hk hv').mono ?_
 rintro e w' ⟨v,ρ',rfl,h1,h2,h3⟩
 have hg:Grow w w':=⟨h1.keep.os,h1.keep.tape,h1.keep.output,h1.keep.size,fun i hi=>h1.keep.block i hi (fun ⟨j,hj⟩=>by simp at hj)⟩
 have hl:=ZdI (k:=k0 ok0 ρ H w) (g:=⟨ρ,noB⟩) hg H
 refine ⟨v,ρ,rfl,?_,?_,hl⟩
 ·exact
   {heap:=fun id o e=>let ⟨b,hb,hh⟩:=hr.heap id o e; ⟨b,hb,hh.later hl fun _=>Zdy hg⟩
    len:=hr.len
    inj:=hr.inj
    own:=hr.own
    keep:=hr.keep.grow hg }
 ·refine Zrq (c:=cx (k0 (okOf (k0 ok0 ρ H w) H ⟨ρ,noB⟩) [] [] w) ⟨ρ',noB⟩ [] w') (c':=cx (k0 ok0 ρ H w) ⟨ρ,noB⟩ H w') (fun a u ho hc=>⟨hc,?_⟩) hpr h2
  rcases ho.1 with h4 | h4 | ⟨j,h4⟩
  ·exact h4
  ·have h5:w.heap.size≤a.block:=h4
   exact ⟨.inr (.inl h5),fun t e=>(by cases e),fun id e=>absurd (hρlt id _ e) (by omega)⟩
  ·simp at h4
theorem Zhs (h:Rel k n g s a w) {x x':AV} {H':List HO} {v:Value} (hf:frz1 s.H x=some (x',H')) (hv:VR (cx k g s.H w) x v) :
  Rel k n g ⟨s.fr,s.bx,H'⟩ a w∧Zam (cx k g s.H w) (cx k g H' w)∧VR (cx k g H' w) x' v∧ZX x'=true:=by
 unfold frz1 at hf
 split at hf
 ·simp only [Option.some.injEq,Prod.mk.injEq] at hf
  obtain ⟨rfl,rfl⟩:=hf
  exact ⟨h,Zam.refl _,hv.weak1,rfl⟩
 ·simp only [Option.some.injEq,Prod.mk.injEq] at hf
  obtain ⟨rfl,rfl⟩:=hf
  exact ⟨h,Zam.refl _,hv,rfl⟩
 ·simp only [Option.some.injEq,Prod.mk.injEq] at hf
  obtain ⟨rfl,rfl⟩:=hf
  exact ⟨h,Zam.refl _,hv,rfl⟩
 ·split at hf
  ·rename_i hno
   simp only [Option.some.injEq,Prod.mk.injEq] at hf
   obtain ⟨rfl,rfl⟩:=hf
   exact ⟨h,Zam.refl _,hv,by simpa [ZX] using hno⟩
  ·cases hf
 ·simp only [Option.some.injEq,Prod.mk.injEq] at hf
  obtain ⟨rfl,rfl⟩:=hf
  exact ⟨h,Zam.refl _,hv,rfl⟩
 ·simp only [Option.some.injEq,Prod.mk.injEq] at hf
  obtain ⟨rfl,rfl⟩:=hf
  exact ⟨h,Zam.refl _,hv,rfl⟩
 ·rename_i sz id ver off len
  split at hf
  ·rename_i sz' ver' frz rows hH
   split at hf
   ·rename_i hcond
    obtain ⟨rfl,rfl⟩:=hcond
    cases hs:sub off len rows with
    | none=>simp [hs] at hf
    | some r =>
     simp only [hs,Option.map_some,Option.some.injEq,Prod.mk.injEq] at hf
     obtain ⟨rfl,rfl⟩:=hf
     obtain ⟨h1,hl⟩:=h.freeze hH
     refine ⟨h1,hl,?_,rfl⟩
     have hv':=hv
     rw [VR] at hv'
     obtain ⟨ver0,frz0,rows0,b,cap,hH0,_,rfl,hcap,hcur⟩:=hv'
     have e0:s.H[id]? = some (HO.arr sz' ver0 frz0 rows0):=hH0
     rw [hH] at e0
     simp only [Option.some.injEq,HO.arr.injEq] at e0
     obtain ⟨vs,hρ,_,_,_⟩:=hcur e0.2.1
     have hρ1:g.ρ[id]? = some b:=hρ
     obtain ⟨hle,rfl⟩:=Zf6 hs
     have hH1:(s.H.set id (.arr sz' ver' true rows))[id]? = some (.arr sz' ver' true rows):=by rw [Zev _ hH,if_pos rfl]
     obtain ⟨b',hρ',vs',hblk,hsz,hrow⟩:=h1.heap id _ hH1
     rw [hρ1] at hρ'
     cases hρ'
     rw [VR,PR]
     refine ⟨some ⟨b,off * sz',none⟩,cap,?_,?_,by simp,fun hne=>⟨⟨b,off * sz',none⟩,rfl,?_⟩⟩
     ·congr 1;simp;omega
     ·simp;omega
     ·rw [ZeA]
      intro i r hi
      rw [List.getElem?_take] at hi
      split at hi
      ·rename_i hil
       rw [List.getElem?_drop] at hi
       obtain ⟨c1,c2⟩:=hrow _ r hi
       refine ⟨c1,?_⟩
       rw [Zgu]
       intro j x hj
       obtain ⟨u,hu1,hu2⟩:=c2 j x hj
       have hjl:=(List.getElem?_eq_some_iff.1 hj).1
       have hil2:=(List.getElem?_eq_some_iff.1 hi).1
       have eaddr:(((⟨b,off * sz',none⟩:Addr).add (i * sz')).add j)=⟨b,(off+i) * sz'+j,none⟩:=by rw [ZdY,ZeM,Nat.add_mul];congr 1;omega
       rw [eaddr]
       refine ⟨u,(Ziw hblk _).trans hu1,⟨?_,fun t e => ?_,fun id2 e => ?_⟩,hu2⟩
       ·exact .inr (h1.own id b hρ1)
       ·exact h1.apart t id b e hρ1
       ·have:id2=id:=h1.inj id2 id b e hρ1
        subst this
        refine ⟨sz',ver',rows,hH1,?_⟩
        have:(off+i+1) * sz'≤rows.length * sz':=Nat.mul_le_mul_right _ hil2
        rw [Nat.add_mul] at this
        show (off+i) * sz'+j<_
        omega
      ·cases hi
   ·cases hf
  ·cases hf
 ·cases hf
theorem Zi9:∀ (xs:List AV) {s:St} {xs':List AV} {H':List HO} {vs:List Value},Rel k n g s a w→frzC s.H xs=some (xs',H')→noLocL xs=true→VRL (cx k g s.H w) xs vs →
  Rel k n g ⟨s.fr,s.bx,H'⟩ a w∧Zam (cx k g s.H w) (cx k g H' w)∧VRL (cx k g H' w) xs' vs∧noLocL xs'=true
 | [],s,xs',H',vs,h,hf,_,hv=>by
  simp only [frzC,Option.some.injEq,Prod.mk.injEq] at hf
  obtain ⟨rfl,rfl⟩:=hf
  exact ⟨h,Zam.refl _,hv,rfl⟩
 | x::xs,s,xs',H',vs,h,hf,hno,hv=>by
  simp only [frzC] at hf
  cases h1:frz1 s.H x with
  | none=>simp [h1] at hf
  | some p =>
   obtain ⟨x',H1⟩:=p
   simp only [h1,Option.bind_some] at hf
   cases h2:frzC H1 xs with
   | none=>simp [h2] at hf
   | some q =>
    obtain ⟨xs1,H2⟩:=q
    simp only [h2,Option.map_some,Option.some.injEq,Prod.mk.injEq] at hf
    obtain ⟨rfl,rfl⟩:=hf
    rw [VRL] at hv
    obtain ⟨u,us,rfl,hv1,hv2⟩:=hv
    simp only [noLocL,ZX.noLocL,Bool.and_eq_true] at hno
    obtain ⟨r1,l1,v1,n1⟩:=Zhs h h1 hv1
    obtain ⟨r2,l2,v2,n2⟩:=Zi9 xs r1 h2 hno.2 (VRL.later l1 xs us hno.2 hv2)
    refine ⟨r2,l1.trans l2,?_,?_⟩
    ·rw [VRL];exact ⟨u,us,rfl,VR.later l2 x' u n1 v1,v2⟩
    ·simp only [noLocL,ZX.noLocL,Bool.and_eq_true];exact ⟨n1,n2⟩
theorem Zi7 (h:Rel k n g s a w) {x x':AV} {H':List HO} {v:Value} (hf:frzV s.H x=some (x',H')) (ht:top x=true) (hv:VR (cx k g s.H w) x v) :
  Rel k n g ⟨s.fr,s.bx,H'⟩ a w∧Zam (cx k g s.H w) (cx k g H' w)∧VR (cx k g H' w) x' v∧ZX x'=true:=by
 unfold frzV at hf
 split at hf
 ·rename_i cs
  cases h1:frzC s.H cs with
  | none=>simp [h1] at hf
  | some p =>
   obtain ⟨cs',H1⟩:=p
   simp only [h1,Option.map_some,Option.some.injEq,Prod.mk.injEq] at hf
   obtain ⟨rfl,rfl⟩:=hf
   rw [VR] at hv
   obtain ⟨vs,rfl,hv⟩:=hv
   obtain ⟨r1,l1,v1,n1⟩:=Zi9 cs h h1 (by simpa [top,ZX] using ht) hv
   exact ⟨r1,l1,by rw [VR];exact ⟨vs,rfl,v1⟩,by simpa [ZX] using n1⟩
 ·exact Zhs h hf hv
theorem Zi8:∀ (xs:List AV) {s:St} {xs':List AV} {H':List HO} {vs:List Value},Rel k n g s a w→frzL s.H xs=some (xs',H')→(∀ x ∈ xs,top x=true)→VRL (cx k g s.H w) xs vs →
  Rel k n g ⟨s.fr,s.bx,H'⟩ a w∧Zam (cx k g s.H w) (cx k g H' w)∧VRL (cx k g H' w) xs' vs∧noLocL xs'=true
 | [],s,xs',H',vs,h,hf,_,hv=>by
  simp only [frzL,Option.some.injEq,Prod.mk.injEq] at hf
  obtain ⟨rfl,rfl⟩:=hf
  exact ⟨h,Zam.refl _,hv,rfl⟩
 | x::xs,s,xs',H',vs,h,hf,hno,hv=>by
  simp only [frzL] at hf
  cases h1:frzV s.H x with
  | none=>simp [h1] at hf
  | some p =>
   obtain ⟨x',H1⟩:=p
   simp only [h1,Option.bind_some] at hf
   cases h2:frzL H1 xs with
   | none=>simp [h2] at hf
   | some q =>
    obtain ⟨xs1,H2⟩:=q
    simp only [h2,Option.map_some,Option.some.injEq,Prod.mk.injEq] at hf
    obtain ⟨rfl,rfl⟩:=hf
    rw [VRL] at hv
    obtain ⟨u,us,rfl,hv1,hv2⟩:=hv
    obtain ⟨r1,l1,v1,n1⟩:=Zi7 h h1 (hno x (by simp)) hv1
    have hv3:VRL (cx k g H1 w) xs us:=by
     rw [Zd0] at hv2 ⊢
     exact ⟨hv2.1,fun j y v hj hv=>Zau l1 (fun _ _ e=>e) (hno y (by simp [List.mem_of_getElem? hj])) (hv2.2 j y v hj hv)⟩
    obtain ⟨r2,l2,v2,n2⟩:=Zi8 xs r1 h2 (fun y hy=>hno y (by simp [hy])) hv3
    refine ⟨r2,l1.trans l2,?_,?_⟩
    ·rw [VRL];exact ⟨u,us,rfl,VR.later l2 x' u n1 v1,v2⟩
    ·simp only [noLocL,ZX.noLocL,Bool.and_eq_true];exact ⟨n1,n2⟩
theorem FrzC.frz {H:List HO}:∀ {cs ys:List AV},FrzC H cs ys→frzC H cs=some (ys,H)
 | [],ys,h=>by rw [FrzC] at h;subst h;rfl
 | c::cs,ys,h=>by
  rw [FrzC] at h
  obtain ⟨x,xs,rfl,h1,h2⟩:=h
  simp only [frzC,h1,Option.bind_some,h2.frz,Option.map_some]
theorem FrzQ.frz {H:List HO} {v y:AV} (h:FrzQ H v y):frzV H v=some (y,H):=by
 unfold FrzQ at h
 split at h
 ·obtain ⟨xs,rfl,h⟩:=h
  simp only [frzV,h.frz,Option.map_some]
 ·rename_i hna
  unfold frzV
  split
  ·rename_i cs;exact absurd rfl (hna cs)
  ·exact h
theorem FrzL.frz {H:List HO}:∀ {cs ys:List AV},FrzL H cs ys→frzL H cs=some (ys,H)
 | [],ys,h=>by rw [FrzL] at h;subst h;rfl
 | c::cs,ys,h=>by
  rw [FrzL] at h
  obtain ⟨x,xs,rfl,h1,h2⟩:=h
  simp only [frzL,h1.frz,Option.bind_some,h2.frz,Option.map_some]
theorem ZnJ {H e:List HO} {c x:AV} (h:frz1 H c=some (x,H)):frz1 (H++e) c=some (x,H++e):=by
 unfold frz1 at h ⊢
 split at h
 ·simp only [Option.some.injEq,Prod.mk.injEq] at h;simp [h.1]
 ·simp only [Option.some.injEq,Prod.mk.injEq] at h;simp [h.1]
 ·simp only [Option.some.injEq,Prod.mk.injEq] at h;simp [h.1]
 ·split at h
  ·rename_i hc;simp only [Option.some.injEq,Prod.mk.injEq] at h;simp [hc,h.1]
  ·cases h
 ·simp only [Option.some.injEq,Prod.mk.injEq] at h;simp [h.1]
 ·simp only [Option.some.injEq,Prod.mk.injEq] at h;simp [h.1]
 ·rename_i sz id ver off len
  split at h
  ·rename_i sz' ver' frz rows hH
   have hlt:=(List.getElem?_eq_some_iff.1 hH).1
   have hH':(H++e)[id]? = some (.arr sz' ver' frz rows):=by rw [List.getElem?_append_left hlt];exact hH
   simp only [hH']
   split at h
   ·rename_i hc
    rw [if_pos hc]
    cases hs:sub off len rows with
    | none=>simp [hs] at h
    | some r =>
     simp only [hs,Option.map_some,Option.some.injEq,Prod.mk.injEq] at h ⊢
     exact ⟨h.1,by rw [List.set_append_left _ _ hlt,h.2]⟩
   ·cases h
  ·cases h
 ·cases h
theorem FrzC.grow {H e:List HO}:∀ {cs ys:List AV},FrzC H cs ys→FrzC (H++e) cs ys
 | [],ys,h=>by rw [FrzC] at h ⊢;exact h
 | c::cs,ys,h=>by
  rw [FrzC] at h ⊢
  obtain ⟨x,xs,rfl,h1,h2⟩:=h
  exact ⟨x,xs,rfl,ZnJ h1,h2.grow⟩
theorem FrzQ.grow {H e:List HO} {v y:AV} (h:FrzQ H v y):FrzQ (H++e) v y:=by
 unfold FrzQ at h ⊢
 split
 ·obtain ⟨xs,rfl,h⟩:=h
  exact ⟨xs,rfl,h.grow⟩
 ·rename_i hna
  split at h
  ·rename_i cs;exact absurd rfl (hna cs)
  ·exact ZnJ h
theorem FrzL.grow {H e:List HO}:∀ {cs ys:List AV},FrzL H cs ys→FrzL (H++e) cs ys
 | [],ys,h=>by rw [FrzL] at h ⊢;exact h
 | c::cs,ys,h=>by
  rw [FrzL] at h ⊢
  obtain ⟨x,xs,rfl,h1,h2⟩:=h
  exact ⟨x,xs,rfl,h1.grow,h2.grow⟩
theorem ZkB (h:Rel k n g s a w) {b:Bool} {x x':AV} {H':List HO} {v:Value} (hf:ZkC b s.H x=some (x',H')) (hv:VR (cx k g s.H w) x v) :
  Rel k n g ⟨s.fr,s.bx,H'⟩ a w∧Zam (cx k g s.H w) (cx k g H' w)∧VR (cx k g H' w) x' v∧ZX x'=true:=by
 unfold ZkC at hf
 split at hf
 ·split at hf
  ·rename_i hn
   simp only [Option.some.injEq,Prod.mk.injEq] at hf
   obtain ⟨rfl,rfl⟩:=hf
   exact ⟨h,Zam.refl _,hv,hn⟩
  ·cases hf
 ·exact Zhs h hf hv
theorem ZkA:∀ (xs:List AV) {fl:List Bool} {s:St} {xs':List AV} {H':List HO} {vs:List Value},Rel k n g s a w→Zil fl s.H xs=some (xs',H')→noLocL xs=true→VRL (cx k g s.H w) xs vs →
  Rel k n g ⟨s.fr,s.bx,H'⟩ a w∧Zam (cx k g s.H w) (cx k g H' w)∧VRL (cx k g H' w) xs' vs∧noLocL xs'=true
 | [],fl,s,xs',H',vs,h,hf,_,hv=>by
  simp only [Zil,Option.some.injEq,Prod.mk.injEq] at hf
  obtain ⟨rfl,rfl⟩:=hf
  exact ⟨h,Zam.refl _,hv,rfl⟩
 | x::xs,fl,s,xs',H',vs,h,hf,hno,hv=>by
  simp only [Zil] at hf
  cases h1:ZkC (fl.headD false) s.H x with
  | none=>rw [h1] at hf;cases hf
  | some p =>
   obtain ⟨x',H1⟩:=p
   simp only [h1,Option.bind_some] at hf
   cases h2:Zil fl.tail H1 xs with
   | none=>rw [h2] at hf;cases hf
   | some q =>
    obtain ⟨xs1,H2⟩:=q
    simp only [h2,Option.map_some,Option.some.injEq,Prod.mk.injEq] at hf
    obtain ⟨rfl,rfl⟩:=hf
    rw [VRL] at hv
    obtain ⟨u,us,rfl,hv1,hv2⟩:=hv
    simp only [noLocL,ZX.noLocL,Bool.and_eq_true] at hno
    obtain ⟨r1,l1,v1,n1⟩:=ZkB h h1 hv1
    obtain ⟨r2,l2,v2,n2⟩:=ZkA xs r1 h2 hno.2 (VRL.later l1 xs us hno.2 hv2)
    refine ⟨r2,l1.trans l2,?_,?_⟩
    ·rw [VRL];exact ⟨u,us,rfl,VR.later l2 x' u n1 v1,v2⟩
    ·simp only [noLocL,ZX.noLocL,Bool.and_eq_true];exact ⟨n1,n2⟩
theorem Zn9 (h:Rel k n g s a w) {fl:List Bool} {x x':AV} {H':List HO} {v:Value} (hf:Zlv fl s.H x=some (x',H')) (ht:top x=true) (hv:VR (cx k g s.H w) x v) :
  Rel k n g ⟨s.fr,s.bx,H'⟩ a w∧Zam (cx k g s.H w) (cx k g H' w)∧VR (cx k g H' w) x' v∧ZX x'=true:=by
 unfold Zlv at hf
 split at hf
 ·rename_i cs
  cases h1:Zil fl s.H cs with
  | none=>rw [h1] at hf;cases hf
  | some p =>
   obtain ⟨cs',H1⟩:=p
   simp only [h1,Option.map_some,Option.some.injEq,Prod.mk.injEq] at hf
   obtain ⟨rfl,rfl⟩:=hf
   rw [VR] at hv
   obtain ⟨vs,rfl,hv⟩:=hv
   obtain ⟨r1,l1,v1,n1⟩:=ZkA cs h h1 (by simpa [top,ZX] using ht) hv
   exact ⟨r1,l1,by rw [VR];exact ⟨vs,rfl,v1⟩,by simpa [ZX] using n1⟩
 ·exact ZkB h hf hv
theorem Zkz:∀ (xs:List AV) {fl:List (List Bool)} {s:St} {xs':List AV} {H':List HO} {vs:List Value},Rel k n g s a w→ZiY fl s.H xs=some (xs',H')→(∀ x ∈ xs,top x=true)→VRL (cx k g s.H w) xs vs →
  Rel k n g ⟨s.fr,s.bx,H'⟩ a w∧Zam (cx k g s.H w) (cx k g H' w)∧VRL (cx k g H' w) xs' vs∧noLocL xs'=true
 | [],fl,s,xs',H',vs,h,hf,_,hv=>by
  simp only [ZiY,Option.some.injEq,Prod.mk.injEq] at hf
  obtain ⟨rfl,rfl⟩:=hf
  exact ⟨h,Zam.refl _,hv,rfl⟩
 | x::xs,fl,s,xs',H',vs,h,hf,hno,hv=>by
  simp only [ZiY] at hf
  cases h1:Zlv (fl.headD []) s.H x with
  | none=>rw [h1] at hf;cases hf
  | some p =>
   obtain ⟨x',H1⟩:=p
   simp only [h1,Option.bind_some] at hf
   cases h2:ZiY fl.tail H1 xs with
   | none=>rw [h2] at hf;cases hf
   | some q =>
    obtain ⟨xs1,H2⟩:=q
    simp only [h2,Option.map_some,Option.some.injEq,Prod.mk.injEq] at hf
    obtain ⟨rfl,rfl⟩:=hf
    rw [VRL] at hv
    obtain ⟨u,us,rfl,hv1,hv2⟩:=hv
    obtain ⟨r1,l1,v1,n1⟩:=Zn9 h h1 (hno x (by simp)) hv1
    have hv3:VRL (cx k g H1 w) xs us:=by
     rw [Zd0] at hv2 ⊢
     exact ⟨hv2.1,fun j y v hj hv=>Zau l1 (fun _ _ e=>e) (hno y (by simp [List.mem_of_getElem? hj])) (hv2.2 j y v hj hv)⟩
    obtain ⟨r2,l2,v2,n2⟩:=Zkz xs r1 h2 (fun y hy=>hno y (by simp [hy])) hv3
    refine ⟨r2,l1.trans l2,?_,?_⟩
    ·rw [VRL];exact ⟨u,us,rfl,VR.later l2 x' u n1 v1,v2⟩
    ·simp only [noLocL,ZX.noLocL,Bool.and_eq_true];exact ⟨n1,n2⟩
theorem ZpH (xs:List AV) {s:St} {xs':List AV} {H':List HO} {vs:List Value} (h:Rel k n g s a w) (hf:Pass s.H xs xs' H') (ht:∀ x ∈ xs,top x=true) (hv:VRL (cx k g s.H w) xs vs) :
  Rel k n g ⟨s.fr,s.bx,H'⟩ a w∧Zam (cx k g s.H w) (cx k g H' w)∧VRL (cx k g H' w) xs' vs∧noLocL xs'=true :=
 let ⟨_,hf⟩:=hf; Zkz xs h hf ht hv
theorem Znr:∀ (xs:List AV) (H:List HO),Zil [] H xs=frzC H xs
 | [],H=>rfl
 | x::xs,H=>by
  have e:ZkC (([]:List Bool).headD false) H x=frz1 H x:=rfl
  simp only [Zil,frzC,e,List.tail_nil]
  cases frz1 H x with
  | none=>rfl
  | some p=>simp only [Option.bind_some,Znr xs p.2]
theorem Znp (x:AV) (H:List HO):Zlv [] H x=frzV H x:=by
 cases x with
 | agg cs=>simp only [Zlv,frzV,Znr]
 | _=>rfl
theorem Znq:∀ (xs:List AV) (H:List HO),ZiY [] H xs=frzL H xs
 | [],H=>rfl
 | x::xs,H=>by
  simp only [ZiY,frzL,List.headD_nil,List.tail_nil,Znp]
  cases frzV H x with
  | none=>rfl
  | some p=>simp only [Option.bind_some,Znq xs p.2]
theorem Pass.frz {xs xs':List AV} {H H':List HO} (h:frzL H xs=some (xs',H')):Pass H xs xs' H':=⟨[],by rw [Znq];exact h⟩
end
end Go.Eng

