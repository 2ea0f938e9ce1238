/- Part of the proof; written by a program out of the texts in wip/. -/
import Derived.Test.YthipedbbcjemhaaGreatPlanCoversE3
set_option linter.unusedVariables false
set_option linter.unusedSimpArgs false
namespace Go.Eng
open Go
theorem ZmN {w:World} {a:Addr} {u:Value} (h:w.cell? a=some u):a.block<w.heap.size:=by
 rcases Nat.lt_or_ge a.block w.heap.size with hlt | hge
 ·exact hlt
 ·simp [World.cell?,Array.getElem?_eq_none hge] at h
theorem Ziw {c:Cx} {b:Nat} {vs:Array Value} (h:c.blk b vs) (i:Nat):c.w.cell? ⟨b,i,none⟩=vs[i]?:=by
 obtain ⟨e,h⟩:=h
 simp [World.cell?,h]
theorem Zry {c:Cx} {b:Nat} {vs:Array Value} (h:c.blk b vs):b<c.w.heap.size:=by
 obtain ⟨e,h⟩:=h
 exact (Array.getElem?_eq_some_iff.1 h).1
structure Grow (w w':World):Prop where
 os:w'.os=w.os
 tape:w'.tape=w.tape
 output:w'.output=w.output
 size:w.heap.size≤w'.heap.size
 block:∀ i,i<w.heap.size→w'.heap[i]? = w.heap[i]?
theorem Grow.alloc (w:World) (o:Obj):Grow w (w.alloc o) :=
 ⟨rfl,rfl,rfl,by simp,fun i hi=>RowKit.Below.heap_alloc w o i hi⟩
theorem Grow.cell {w w':World} (h:Grow w w') {a:Addr} {u:Value} (hc:w.cell? a=some u):w'.cell? a=some u:=by
 have:=ZmN hc
 rw [World.cell?_of_block (h.block a.block this)];exact hc
theorem Grow.drew (w:World):Grow w w.drew:=⟨rfl,rfl,rfl,Nat.le_refl _,fun _ _=>rfl⟩
theorem Keep.grow {D:Nat→Prop} {w0 w w':World} (h:Keep D w0 w) (g:Grow w w'):Keep D w0 w' :=
 ⟨g.os.trans h.os,g.tape.trans h.tape,g.output.trans h.output,Nat.le_trans h.size g.size,fun i hi hD=>(g.block i (Nat.lt_of_lt_of_le hi h.size)).trans (h.block i hi hD)⟩
section
variable {k:K0} {n:Nat} {g:G} {s:St} {a:Act} {w:World}
theorem ZjX {H H':List HO} {g g':G} {w w':World} (h:Grow w w') {b:Nat} {vs:Array Value} (hb:(cx k g H w).blk b vs):(cx k g' H' w').blk b vs:=by
 have hlt:=Zry hb
 obtain ⟨e,hb⟩:=hb
 exact ⟨e,(h.block b hlt).trans hb⟩
theorem Zdy {w w':World} (h:Grow w w') {b:Nat} {o:Obj} (hb:w.heap[b]? = some o):w'.heap[b]? = some o :=
 (h.block b (Array.getElem?_eq_some_iff.1 hb).1).trans hb
theorem ZlA.grow {w0 w w':World} {ds:List Deferred} (h:ZlA w0 w ds) (hg:Grow w w'):ZlA w0 w' ds:=h.mono fun _ _=>Zdy hg
theorem Rel.rndG (h:Rel k n g s a w) {w':World} (hg:Grow w w'):∀ l,k.rd=some l→∃ r,w'.heap[l]? = some (.loop r):=fun l hl =>
 let ⟨r,hr⟩:=h.rnd l hl; ⟨r,Zdy hg hr⟩
theorem ZdI {w':World} (h:Grow w w') (H:List HO):Zam (cx k g H w) (cx k g H w') :=
 {stay:=fun a u ho hc=>⟨h.cell hc,ho⟩
  arr:=fun id sz ver frz rows e=>⟨ver,frz,rows,e,Nat.le_refl _,fun _=>⟨Nat.le_refl _,rfl,fun b vs _ hb=>⟨vs,ZjX h hb,rfl⟩⟩⟩
  cells:=fun id cs e=>⟨⟨cs,e⟩,rfl⟩
  lp:=fun _ _ _ st e=>⟨⟨st,e⟩,rfl⟩ }
theorem Rel.grow (h:Rel k n g s a w) {w':World} (hg:Grow w w'):Rel k n g s a w' :=
 have hl:=ZdI (k:=k) (g:=g) hg s.H
 {h with
  defers:=h.defers.grow hg
  rnd:=h.rndG hg
  slots:=fun t=>Zau hl (fun _ _ e=>e) (h.tops t) (h.slots t)
  boxes:=fun t cs e=>let ⟨b,hb,hr⟩:=h.boxes t cs e; ⟨b,hb,hr.later hl fun _=>Zdy hg⟩
  heap:=fun id o e=>let ⟨b,hb,hr⟩:=h.heap id o e; ⟨b,hb,hr.later hl fun _=>Zdy hg⟩
  keep:=h.keep.grow hg
  hist:=h.hist.trans hl }
theorem β_lt (h:Rel k n g s a w) {t b:Nat} (e:g.β t=some b):b<w.heap.size:=by
 obtain ⟨⟨cs,hc⟩,_⟩:=h.boxed t b e
 obtain ⟨b',hb',_,vs,hr,_⟩:=h.boxes t cs hc
 rw [e] at hb'
 cases hb'
 exact Zry hr
theorem ρ_lt (h:Rel k n g s a w) {id b:Nat} (e:g.ρ[id]? = some b):b<w.heap.size:=by
 have hlt:id<s.H.length:=by rw [← h.len];exact (List.getElem?_eq_some_iff.1 e).1
 obtain ⟨b',hb',hr⟩:=h.heap id s.H[id] (List.getElem?_eq_getElem hlt)
 rw [e] at hb'
 cases hb'
 exact hr.lt
theorem Rel.newBox (h:Rel k n g s a w) {d:Nat} (hd:d<n) {cs:List AV} {vs:Array Value} (hok:ZO cs=true) (hv:VRL (cx k g s.H w) cs vs.toList) (e:TypeId) :
  ∃ g',Rel k n g' ⟨Eng.put (ZeB d s.fr) d (.loc d 0),bput s.bx d cs,s.H⟩ (a.put (some d) (.pointer (some ⟨w.heap.size,0,none⟩))) (w.alloc (.cells vs e)):=by
 let g':G:=⟨g.ρ,fun t=>if d=t then some w.heap.size else g.β t⟩
 have hg:=Grow.alloc w (.cells vs e)
 have hβ:∀ t b,t ≠ d→g'.β t=some b→g.β t=some b:=fun t b hne e=>by
  simp only [g'] at e;rw [if_neg (Ne.symm hne)] at e;exact e
 have hl:Zam (cx k g s.H w) (cx k g' s.H (w.alloc (.cells vs e))) :=
  {stay:=fun a u ho hc=>⟨hg.cell hc,ho.1,fun t e'=>by
    have:=ZmN hc
    simp only [g'] at e'
    split at e'
    ·simp at e';exact Nat.ne_of_lt this e'.symm
    ·exact ho.2.1 t e',ho.2.2⟩
   arr:=fun id sz ver frz rows e=>⟨ver,frz,rows,e,Nat.le_refl _,fun _=>⟨Nat.le_refl _,rfl,fun b vs _ hb=>⟨vs,ZjX hg hb,rfl⟩⟩⟩
   cells:=fun id cs e=>⟨⟨cs,e⟩,rfl⟩
   lp:=fun _ _ _ st e=>⟨⟨st,e⟩,rfl⟩ }
 refine ⟨g',?_⟩
 exact
  {defers:=h.defers.grow hg
   rnd:=h.rndG hg
   tsz:=by simp [Act.put,h.tsz]
   slots:=fun t=>by
    simp only [Zao]
    rw [Zov a d t _ (by rw [h.tsz];exact hd)]
    by_cases he:d=t
    ·subst he
     simp only [if_true]
     rw [VR]
     refine ⟨w.heap.size,rfl,fun b' hb => ?_⟩
     simp only [cx_β,g',if_true] at hb
     cases hb
     rfl
    ·simp only [he,if_false]
     have hs:=h.slots t
     have ht:=h.tops t
     rw [Zc3]
     generalize get s.fr t=x at hs ht
     cases x with
     | loc t' o =>
      simp only
      split
      ·simp [VR]
      ·rename_i hne
       rw [VR] at hs ⊢
       obtain ⟨b0,e0,hs⟩:=hs
       exact ⟨b0,e0,fun b hb=>hs b (hβ t' b hne hb)⟩
     | _=>exact VR.later hl _ _ (by simpa [top] using ht) hs
   tops:=fun t=>by
    simp only [Zao,Zc3]
    split
    ·rfl
    ·have ht:=h.tops t
     generalize get s.fr t=x at ht
     cases x with
     | loc t' o=>simp only;split<;>rfl
     | _=>simpa using ht
   boxes:=fun t cs' e'=>by
    simp only [ZbR] at e'
    by_cases he:d=t
    ·subst he
     simp only [if_true,Option.some.injEq] at e'
     subst e'
     exact ⟨w.heap.size,by simp [g'],hok,vs,⟨e,heap_alloc_new w _⟩,VRL.later hl cs _ (ZH hok) hv⟩
    ·simp only [he,if_false] at e'
     obtain ⟨b,hb,hr⟩:=h.boxes t cs' e'
     exact ⟨b,by simp only [g',he,if_false];exact hb,hr.later hl fun _=>Zdy hg⟩
   boxed:=fun t b e'=>by
    by_cases he:d=t
    ·subst he
     simp only [g',if_true,Option.some.injEq] at e'
     subst e'
     exact ⟨⟨cs,by simp [ZbR]⟩,h.keep.size⟩
    ·obtain ⟨⟨cs',hc⟩,hb⟩:=h.boxed t b (hβ t b (Ne.symm he) e')
     exact ⟨⟨cs',by simp only [ZbR,he,if_false];exact hc⟩,hb⟩
   heap:=fun id o e'=>let ⟨b,hb,hr⟩:=h.heap id o e'; ⟨b,hb,hr.later hl fun _=>Zdy hg⟩
   len:=h.len
   inj:=h.inj
   binj:=fun t u b e1 e2=>by
    by_cases h1:d=t<;>by_cases h2:d=u
    ·omega
    ·subst h1
     have:=β_lt h (hβ u b (Ne.symm h2) e2)
     simp only [g',if_true,Option.some.injEq] at e1
     omega
    ·subst h2
     have:=β_lt h (hβ t b (Ne.symm h1) e1)
     simp only [g',if_true,Option.some.injEq] at e2
     omega
    ·exact h.binj t u b (hβ t b (Ne.symm h1) e1) (hβ u b (Ne.symm h2) e2)
   apart:=fun t i b e1 e2=>by
    by_cases h1:d=t
    ·subst h1
     have:=ρ_lt h e2
     simp only [g',if_true,Option.some.injEq] at e1
     omega
    ·exact h.apart t i b (hβ t b (Ne.symm h1) e1) e2
   own:=h.own
   keep:=h.keep.grow hg
   hist:=h.hist.trans hl }
theorem ρ_new (h:Rel k n g s a w) (id b:Nat) (hb:(g.ρ++[w.heap.size])[id]? = some b):g.ρ[id]? = some b∨(b=w.heap.size∧id=s.H.length):=by
 rcases Nat.lt_or_ge id g.ρ.length with hlt | hge
 ·left;rwa [List.getElem?_append_left hlt] at hb
 ·right
  rw [List.getElem?_append_right hge] at hb
  have:id - g.ρ.length=0:=by
   rcases Nat.eq_zero_or_pos (id - g.ρ.length) with h0 | h0
   ·exact h0
   ·rw [List.getElem?_eq_none (by simp;omega)] at hb;cases hb
  rw [this] at hb
  simp at hb
  exact ⟨hb.symm,by rw [← h.len];omega⟩
theorem Rel.laterNewG (h:Rel k n g s a w) {o:HO} (x:Obj) :
  Zam (cx k g s.H w) (cx k ⟨g.ρ++[w.heap.size],g.β⟩ (s.H++[o]) (w.alloc x)):=by
 have hg:=Grow.alloc w x
 have hH:∀ (id:Nat) y,s.H[id]? = some y→(s.H++[o])[id]? = some y:=fun id y hx=>by
  rw [List.getElem?_append_left (List.getElem?_eq_some_iff.1 hx).1];exact hx
 have hρ:∀ (id:Nat),id<s.H.length→(g.ρ++[w.heap.size])[id]? = g.ρ[id]?:=fun id hid=>by
  rw [List.getElem?_append_left (by rw [h.len];exact hid)]
 exact
  {stay:=fun a u hk hc=>⟨hg.cell hc,hk.1,hk.2.1,fun id e'=>by
    rcases ρ_new h id _ e' with e' | ⟨e',_⟩
    ·obtain ⟨sz,ver,rows,h1,h2⟩:=hk.2.2 id e'
     exact ⟨sz,ver,rows,hH _ _ h1,h2⟩
    ·have hlt:a.block<w.heap.size:=ZmN hc
     omega⟩
   arr:=fun id sz ver frz rows e'=>⟨ver,frz,rows,hH _ _ e',Nat.le_refl _,fun _=>⟨Nat.le_refl _,hρ id (List.getElem?_eq_some_iff.1 e').1,fun b vs _ hb=>⟨vs,ZjX hg hb,rfl⟩⟩⟩
   cells:=fun id cs e'=>⟨⟨cs,hH _ _ e'⟩,hρ id (List.getElem?_eq_some_iff.1 e').1⟩
   lp:=fun id _ _ st e'=>⟨⟨st,hH _ _ e'⟩,hρ id (List.getElem?_eq_some_iff.1 e').1⟩ }
theorem Rel.newObjG (h:Rel k n g s a w) {o:HO} (x:Obj)
  (ho:HoR (cx k ⟨g.ρ++[w.heap.size],g.β⟩ (s.H++[o]) (w.alloc x)) w.heap.size o) :
  Rel k n ⟨g.ρ++[w.heap.size],g.β⟩ ⟨s.fr,s.bx,s.H++[o]⟩ a (w.alloc x)∧Zam (cx k g s.H w) (cx k ⟨g.ρ++[w.heap.size],g.β⟩ (s.H++[o]) (w.alloc x)):=by
 have hg:=Grow.alloc w x
 have hρ:∀ (id:Nat),id<s.H.length→(g.ρ++[w.heap.size])[id]? = g.ρ[id]?:=fun id hid=>by
  rw [List.getElem?_append_left (by rw [h.len];exact hid)]
 have hρ':=ρ_new h
 have hl:=h.laterNewG (o:=o) x
 refine ⟨?_,hl⟩
 exact
  {defers:=h.defers.grow hg
   rnd:=h.rndG hg
   tsz:=h.tsz
   slots:=fun t=>Zau hl (fun _ _ e=>e) (h.tops t) (h.slots t)
   tops:=h.tops
   boxes:=fun t cs e=>let ⟨b,hb,hr⟩:=h.boxes t cs e; ⟨b,hb,hr.later hl fun _=>Zdy hg⟩
   boxed:=h.boxed
   heap:=fun id y e'=>by
    rcases Nat.lt_or_ge id s.H.length with hlt | hge
    ·rw [List.getElem?_append_left hlt] at e'
     obtain ⟨b,hb,hr⟩:=h.heap id y e'
     exact ⟨b,by show (g.ρ++[w.heap.size])[id]? = _;rw [hρ id hlt];exact hb,hr.later hl fun _=>Zdy hg⟩
    ·rw [List.getElem?_append_right hge] at e'
     have h0:id - s.H.length=0:=by
      rcases Nat.eq_zero_or_pos (id - s.H.length) with h0 | h0
      ·exact h0
      ·rw [List.getElem?_eq_none (by simp;omega)] at e';cases e'
     rw [h0] at e'
     simp at e'
     subst e'
     refine ⟨w.heap.size,?_,ho⟩
     show (g.ρ++[w.heap.size])[id]? = _
     rw [List.getElem?_append_right (by rw [h.len];exact hge),h.len,h0];rfl
   len:=by simp [h.len]
   inj:=fun i j b e1 e2=>by
    rcases hρ' i b e1 with e1 | ⟨e1,i1⟩<;>rcases hρ' j b e2 with e2 | ⟨e2,i2⟩
    ·exact h.inj i j b e1 e2
    ·have:=ρ_lt h e1;omega
    ·have:=ρ_lt h e2;omega
    ·omega
   binj:=h.binj
   apart:=fun t i b e1 e2=>by
    rcases hρ' i b e2 with e2 | ⟨e2,_⟩
    ·exact h.apart t i b e1 e2
    ·have:=β_lt h e1;omega
   own:=fun i b e1=>by
    rcases hρ' i b e1 with e1 | ⟨e1,_⟩
    ·exact h.own i b e1
    ·left;rw [e1];exact h.keep.size
   keep:=h.keep.grow hg
   hist:=h.hist.trans hl }
theorem Rel.laterNew (h:Rel k n g s a w) {o:HO} {vs:Array Value} (e:TypeId) :
  Zam (cx k g s.H w) (cx k ⟨g.ρ++[w.heap.size],g.β⟩ (s.H++[o]) (w.alloc (.cells vs e))):=h.laterNewG _
theorem Rel.newObj (h:Rel k n g s a w) {o:HO} {vs:Array Value} (e:TypeId)
  (ho:HoR (cx k ⟨g.ρ++[w.heap.size],g.β⟩ (s.H++[o]) (w.alloc (.cells vs e))) w.heap.size o) :
  Rel k n ⟨g.ρ++[w.heap.size],g.β⟩ ⟨s.fr,s.bx,s.H++[o]⟩ a (w.alloc (.cells vs e))∧Zam (cx k g s.H w) (cx k ⟨g.ρ++[w.heap.size],g.β⟩ (s.H++[o]) (w.alloc (.cells vs e))) :=
 h.newObjG _ ho
structure Upd (w w':World) (b:Nat) (vs':Array Value):Prop where
 os:w'.os=w.os
 tape:w'.tape=w.tape
 output:w'.output=w.output
 size:w'.heap.size=w.heap.size
 here:∃ e,w'.heap[b]? = some (.cells vs' e (0,0))
 block:∀ i,i ≠ b→w'.heap[i]? = w.heap[i]?
theorem Upd.setRow {c:Cx} {b:Nat} {vs:Array Value} (h:c.blk b vs) (vs':Array Value):Upd c.w (c.w.setRow b vs') b vs':=by
 obtain ⟨e,h⟩:=h
 refine ⟨rfl,rfl,rfl,by simp,⟨e,setRow_heap c.w b vs vs' e (0,0) h⟩,fun i hi => ?_⟩
 simp only [World.setRow,Array.getElem?_modify]
 rw [if_neg (Ne.symm hi)]
theorem Keep.upd {D:Nat→Prop} {w0 w w':World} {b:Nat} {vs':Array Value} (h:Keep D w0 w) (u:Upd w w' b vs') (hb:w0.heap.size≤b∨D b):Keep D w0 w' :=
 ⟨u.os.trans h.os,u.tape.trans h.tape,u.output.trans h.output,by rw [u.size];exact h.size,fun i hi hD=>by
  rw [u.block i (fun e=>by subst e;rcases hb with hb | hb;omega;exact hD hb)]
  exact h.block i hi hD⟩
theorem Zoq {H H':List HO} {g g':G} {w w':World} {b':Nat} {vs':Array Value} (h:Upd w w' b' vs') {b:Nat} {vs:Array Value} (hne:b ≠ b') (hb:(cx k g H w).blk b vs):(cx k g' H' w').blk b vs:=by
 obtain ⟨e,hb⟩:=hb
 exact ⟨e,(h.block b hne).trans hb⟩
theorem ZmM {w w':World} {b:Nat} {vs':Array Value} (h:Upd w w' b vs') {a:Addr} (hne:a.block ≠ b):w'.cell? a=w.cell? a :=
 World.cell?_of_block (h.block a.block hne)
theorem Zg7 {w w':World} {b':Nat} {vs':Array Value} (h:Upd w w' b' vs') {b:Nat} (hne:b ≠ b') {o:Obj} (hb:w.heap[b]? = some o):w'.heap[b]? = some o :=
 (h.block b hne).trans hb
theorem ZlA.upd {H:List HO} {w0 w w':World} {ds:List Deferred} (h:ZlA w0 w ds) {b:Nat} {vs vs':Array Value} (hv:(cx k g H w).blk b vs) (u:Upd w w' b vs'):ZlA w0 w' ds :=
 h.mono fun D _ hD=>Zg7 u (fun e=>by obtain ⟨e',hv⟩:=hv;subst e;rw [show w.heap[D]? = _ from hv] at hD;cases hD) hD
theorem Rel.rndU (h:Rel k n g s a w) {H:List HO} {w':World} {b:Nat} {vs vs':Array Value} (hv:(cx k g H w).blk b vs) (u:Upd w w' b vs'):∀ l,k.rd=some l→∃ r,w'.heap[l]? = some (.loop r):=fun l hl =>
 let ⟨r,hr⟩:=h.rnd l hl; ⟨r,Zg7 u (fun e=>by obtain ⟨e',hv⟩:=hv;subst e;rw [show w.heap[l]? = _ from hv] at hr;cases hr) hr⟩
theorem Rel.setBox (h:Rel k n g s a w) {t b:Nat} (hβ:g.β t=some b) {vs vs':Array Value} (hv:(cx k g s.H w).blk b vs) (hsz:vs'.size=vs.size) {w':World} (u:Upd w w' b vs') {cs':List AV}
  (hok:ZO cs'=true) (hr:VRL (cx k g s.H w) cs' vs'.toList) :
  Rel k n g ⟨s.fr,bput s.bx t cs',s.H⟩ a w':=by
 have hl:Zam (cx k g s.H w) (cx k g s.H w') :=
  {stay:=fun a x ho hc=>⟨(ZmM u (fun e=>ho.2.1 t (by rw [e];exact hβ))).trans hc,ho⟩
   arr:=fun id sz ver frz rows e=>⟨ver,frz,rows,e,Nat.le_refl _,fun _=>⟨Nat.le_refl _,rfl,fun b' vs1 hb' hb1=>by
    exact ⟨vs1,Zoq u (fun e=>h.apart t id b hβ (by rw [← e];exact hb')) hb1,rfl⟩⟩⟩
   cells:=fun id cs e=>⟨⟨cs,e⟩,rfl⟩
   lp:=fun _ _ _ st e=>⟨⟨st,e⟩,rfl⟩ }
 exact
  {h with
   defers:=h.defers.upd hv u
   rnd:=h.rndU hv u
   slots:=fun t=>Zau hl (fun _ _ e=>e) (h.tops t) (h.slots t)
   boxes:=fun t' cs e=>by
    simp only [ZbR] at e
    by_cases he:t=t'
    ·subst he
     simp only [if_true,Option.some.injEq] at e
     subst e
     exact ⟨b,hβ,hok,vs',u.here,VRL.later hl cs' _ (ZH hok) hr⟩
    ·simp only [he,if_false] at e
     obtain ⟨b',hb',hr'⟩:=h.boxes t' cs e
     exact ⟨b',hb',hr'.later hl fun _=>Zg7 u (fun e=>he (h.binj t t' b hβ (by rw [← e];exact hb')))⟩
   boxed:=fun t' b' e=>by
    obtain ⟨⟨cs,hc⟩,hb⟩:=h.boxed t' b' e
    refine ⟨?_,hb⟩
    by_cases he:t=t'
    ·exact ⟨cs',by simp [ZbR,he]⟩
    ·exact ⟨cs,by simp only [ZbR,he,if_false];exact hc⟩
   heap:=fun id o e=>by
    obtain ⟨b',hb',hr'⟩:=h.heap id o e
    exact ⟨b',hb',hr'.later hl fun _=>Zg7 u (fun e=>h.apart t id b hβ (by rw [← e];exact hb'))⟩
   keep:=h.keep.upd u (.inl (h.boxed t b hβ).2)
   hist:=h.hist.trans hl }
theorem Rel.setObj (h:Rel k n g s a w) {id b:Nat} (hρ:g.ρ[id]? = some b) {o o':HO} (hH:s.H[id]? = some o)
  (hkind:(∃ cs cs',o = .cells cs∧o' = .cells cs')∨∃ sz ver rows rows',o = .arr sz ver false rows∧o' = .arr sz ver false rows'∧rows.length≤rows'.length)
  {vs vs':Array Value} (hv:(cx k g s.H w).blk b vs) (hsz:vs'.size=vs.size) {w':World} (u:Upd w w' b vs')
  (hr:Zam (cx k g s.H w) (cx k g (s.H.set id o') w')→HoR (cx k g (s.H.set id o') w') b o') :
  Rel k n g ⟨s.fr,s.bx,s.H.set id o'⟩ a w':=by
 have hid:id<s.H.length:=(List.getElem?_eq_some_iff.1 hH).1
 have hget:∀ (j:Nat),(s.H.set id o')[j]? = if id=j then some o' else s.H[j]?:=fun j=>by
  rw [List.getElem?_set]
  by_cases e:id=j
  ·subst e;simp [hid]
  ·simp [e]
 have hnf:∀ (sz ver:Nat) rows,o ≠ .arr sz ver true rows:=by
  rintro sz ver rows rfl
  rcases hkind with ⟨cs,cs',e,_⟩ | ⟨sz',ver',r1,r2,e,_⟩<;>cases e
 have hl:Zam (cx k g s.H w) (cx k g (s.H.set id o') w') :=
  {stay:=fun a x ho hc=>by
    have hne:a.block ≠ b:=fun e=>by
     obtain ⟨sz,ver,rows,h1,_⟩:=ho.2.2 id (by rw [e];exact hρ)
     rw [hH] at h1;cases h1;exact hnf _ _ _ rfl
    refine ⟨(ZmM u hne).trans hc,ho.1,ho.2.1,fun j hj => ?_⟩
    obtain ⟨sz,ver,rows,h1,h2⟩:=ho.2.2 j hj
    refine ⟨sz,ver,rows,?_,h2⟩
    show (s.H.set id o')[j]? = _
    rw [hget,if_neg (fun e=>by subst e;rw [hH] at h1;cases h1;exact hnf _ _ _ rfl)]
    exact h1
   arr:=fun j sz ver frz rows e=>by
    by_cases he:id=j
    ·subst he
     have e':s.H[id]? = some (.arr sz ver frz rows):=e
     rw [hH] at e'
     cases e'
     rcases hkind with ⟨cs,cs',e,_⟩ | ⟨sz',ver',r1,r2,e,e2,hle⟩
     ·cases e
     ·cases e
      refine ⟨ver,false,r2,?_,Nat.le_refl _,fun _=>⟨hle,rfl,fun b' vs1 hb' hb1 => ?_⟩⟩
      ·show (s.H.set id o')[id]? = _
       rw [hget,if_pos rfl,e2]
      ·have eb:b'=b:=by
        have:g.ρ[id]? = some b':=hb'
        rw [hρ] at this;cases this;rfl
       subst eb
       have:vs1=vs:=by
        obtain ⟨e1,h1⟩:=hb1
        obtain ⟨e2,h2⟩:=hv
        have:=h1.symm.trans h2
        simp at this
        exact this.1
       subst this
       exact ⟨vs',u.here,hsz⟩
    ·refine ⟨ver,frz,rows,?_,Nat.le_refl _,fun _=>⟨Nat.le_refl _,rfl,fun b' vs1 hb' hb1=>⟨vs1,?_,rfl⟩⟩⟩
     ·show (s.H.set id o')[j]? = _
      rw [hget,if_neg he];exact e
     ·exact Zoq u (fun e=>he (h.inj id j b hρ (by rw [← e];exact hb'))) hb1
   cells:=fun j cs e=>by
    refine ⟨?_,rfl⟩
    by_cases he:id=j
    ·subst he
     have e':s.H[id]? = some (.cells cs):=e
     rw [hH] at e'
     cases e'
     rcases hkind with ⟨cs1,cs',e,e2⟩ | ⟨sz',ver',r1,r2,e,_⟩
     ·exact ⟨cs',by show (s.H.set id o')[id]? = _;rw [hget,if_pos rfl,e2]⟩
     ·cases e
    ·exact ⟨cs,by show (s.H.set id o')[j]? = _;rw [hget,if_neg he];exact e⟩
   lp:=fun j L fr st e=>by
    refine ⟨⟨st,?_⟩,rfl⟩
    show (s.H.set id o')[j]? = _
    rw [hget,if_neg (fun he=>by
     subst he;have e':s.H[id]? = some (.lp L fr st):=e;rw [hH] at e';cases e'
     rcases hkind with ⟨cs,cs',e,_⟩ | ⟨sz',ver',r1,r2,e,_⟩<;>cases e)]
    exact e }
 exact
  {h with
   defers:=h.defers.upd hv u
   rnd:=h.rndU hv u
   slots:=fun t=>Zau hl (fun _ _ e=>e) (h.tops t) (h.slots t)
   boxes:=fun t cs e=>by
    obtain ⟨b',hb',hr'⟩:=h.boxes t cs e
    exact ⟨b',hb',hr'.later hl fun _=>Zg7 u (fun e=>h.apart t id b' hb' (by rw [e];exact hρ))⟩
   heap:=fun j x e=>by
    simp only [hget] at e
    by_cases he:id=j
    ·subst he
     simp only [if_true,Option.some.injEq] at e
     subst e
     exact ⟨b,hρ,hr hl⟩
    ·simp only [he,if_false] at e
     obtain ⟨b',hb',hr'⟩:=h.heap j x e
     exact ⟨b',hb',hr'.later hl fun _=>Zg7 u (fun e=>he (h.inj id j b hρ (by rw [← e];exact hb')))⟩
   len:=by simp [h.len]
   keep:=h.keep.upd u (h.own id b hρ)
   hist:=h.hist.trans hl }
theorem Rel.freeze (h:Rel k n g s a w) {id sz ver:Nat} {frz:Bool} {rows:List (List PC)} (hH:s.H[id]? = some (.arr sz ver frz rows)) :
  Rel k n g ⟨s.fr,s.bx,s.H.set id (.arr sz ver true rows)⟩ a w∧Zam (cx k g s.H w) (cx k g (s.H.set id (.arr sz ver true rows)) w):=by
 have hid:id<s.H.length:=(List.getElem?_eq_some_iff.1 hH).1
 have hget:∀ (j:Nat),(s.H.set id (.arr sz ver true rows))[j]? = if id=j then some (.arr sz ver true rows) else s.H[j]?:=fun j=>by
  rw [List.getElem?_set]
  by_cases e:id=j
  ·subst e;simp [hid]
  ·simp [e]
 have hl:Zam (cx k g s.H w) (cx k g (s.H.set id (.arr sz ver true rows)) w) :=
  {stay:=fun a x ho hc=>by
    refine ⟨hc,ho.1,ho.2.1,fun j hj => ?_⟩
    obtain ⟨sz1,ver1,rows1,h1,h2⟩:=ho.2.2 j hj
    by_cases he:id=j
    ·subst he
     rw [hH] at h1
     cases h1
     exact ⟨sz,ver,rows,by rw [hget,if_pos rfl],h2⟩
    ·exact ⟨sz1,ver1,rows1,by rw [hget,if_neg he];exact h1,h2⟩
   arr:=fun j sz1 ver1 frz1 rows1 e=>by
    by_cases he:id=j
    ·subst he
     have e':s.H[id]? = some (.arr sz1 ver1 frz1 rows1):=e
     rw [hH] at e'
     cases e'
     exact ⟨ver,true,rows,by show (s.H.set _ _)[_]? = _;rw [hget,if_pos rfl],Nat.le_refl _,fun _=>⟨Nat.le_refl _,rfl,fun b vs _ hb=>⟨vs,hb,rfl⟩⟩⟩
    ·exact ⟨ver1,frz1,rows1,by show (s.H.set _ _)[_]? = _;rw [hget,if_neg he];exact e,Nat.le_refl _,fun _=>⟨Nat.le_refl _,rfl,fun b vs _ hb=>⟨vs,hb,rfl⟩⟩⟩
   cells:=fun j cs e=>by
    refine ⟨⟨cs,?_⟩,rfl⟩
    show (s.H.set _ _)[_]? = _
    rw [hget,if_neg (fun he=>by subst he;have e':s.H[id]? = some (.cells cs):=e;rw [hH] at e';cases e')]
    exact e
   lp:=fun j L fr st e=>by
    refine ⟨⟨st,?_⟩,rfl⟩
    show (s.H.set _ _)[_]? = _
    rw [hget,if_neg (fun he=>by subst he;have e':s.H[id]? = some (.lp L fr st):=e;rw [hH] at e';cases e')]
    exact e }
 refine ⟨?_,hl⟩
 exact
  {h with
   slots:=fun t=>Zau hl (fun _ _ e=>e) (h.tops t) (h.slots t)
   boxes:=fun t cs e=>let ⟨b,hb,hr⟩:=h.boxes t cs e; ⟨b,hb,hr.later hl fun _ hb=>hb⟩
   heap:=fun j x e=>by
    simp only [hget] at e
    by_cases he:id=j
    ·subst he
     simp only [if_true,Option.some.injEq] at e
     subst e
     obtain ⟨b,hb,hr⟩:=h.heap id _ hH
     exact ⟨b,hb,ArrR.later hl (fun _ hb=>hb) hr⟩
    ·simp only [he,if_false] at e
     obtain ⟨b,hb,hr⟩:=h.heap j x e
     exact ⟨b,hb,hr.later hl fun _ hb=>hb⟩
   len:=by simp [h.len]
   hist:=h.hist.trans hl }
end
end Go.Eng

