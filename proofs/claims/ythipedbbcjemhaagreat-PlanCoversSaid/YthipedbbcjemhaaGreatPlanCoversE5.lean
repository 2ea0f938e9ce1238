/- Part of the proof; written by a program out of the texts in wip/. -/
import Derived.Test.YthipedbbcjemhaaGreatPlanCoversE4
set_option linter.unusedVariables false
set_option linter.unusedSimpArgs false
namespace Go.Eng
open Go
section
variable {k:K0} {n:Nat} {g:G} {s:St} {a:Act} {w:World}
theorem Zev {H:List HO} {id:Nat} {o:HO} (o':HO) (hH:H[id]? = some o) (j:Nat):(H.set id o')[j]? = if id=j then some o' else H[j]?:=by
 have hid:id<H.length:=(List.getElem?_eq_some_iff.1 hH).1
 rw [List.getElem?_set]
 by_cases e:id=j
 ·subst e;simp [hid]
 ·simp [e]
theorem Rel.appendIn (h:Rel k n g s a w) {id b sz ver:Nat} {frz:Bool} {rows new:List (List PC)} (hρ:g.ρ[id]? = some b) (hH:s.H[id]? = some (.arr sz ver frz rows))
  {vs vs':Array Value} (hv:(cx k g s.H w).blk b vs) (hsz:vs'.size=vs.size) {w':World} (u:Upd w w' b vs')
  (hold:∀ j,j<rows.length * sz→vs'[j]? = vs[j]?)
  (hr:Zam (cx k g s.H w) (cx k g (s.H.set id (.arr sz (ver+1) frz (rows++new))) w')→ArrR (cx k g (s.H.set id (.arr sz (ver+1) frz (rows++new))) w') b sz (rows++new)) :
  Rel k n g ⟨s.fr,s.bx,s.H.set id (.arr sz (ver+1) frz (rows++new))⟩ a w':=by
 have hget:=Zev (.arr sz (ver+1) frz (rows++new)) hH
 generalize ho':HO.arr sz (ver+1) frz (rows++new)=o' at *
 have hl:Zam (cx k g s.H w) (cx k g (s.H.set id o') w') :=
  {stay:=fun a x ho hc=>by
    refine ⟨?_,ho.1,ho.2.1,fun j hj => ?_⟩
    ·by_cases hne:a.block=b
     ·obtain ⟨sz1,ver1,rows1,h1,h2⟩:=ho.2.2 id (by rw [hne];exact hρ)
      rw [hH] at h1
      cases h1
      obtain ⟨e1,hv1⟩:=hv
      obtain ⟨e2,hv2⟩:=u.here
      have hc':w.cell? a=some x:=hc
      show w'.cell? a=some x
      have hv1':w.heap[b]? = some (.cells vs e1 (0,0)):=hv1
      unfold World.cell? at hc' ⊢
      rw [hne,hv1'] at hc'
      rw [hne,hv2]
      simp only at hc' ⊢
      split at hc'
      ·cases hc'
      ·rename_i hs
       rw [if_neg hs,hold _ h2];exact hc'
     ·exact (ZmM u hne).trans hc
    ·obtain ⟨sz1,ver1,rows1,h1,h2⟩:=ho.2.2 j hj
     by_cases he:id=j
     ·subst he
      rw [hH] at h1
      cases h1
      refine ⟨sz,ver+1,rows++new,?_,?_⟩
      ·rw [hget,if_pos rfl,← ho']
      ·simp only [List.length_append,Nat.add_mul];omega
     ·exact ⟨sz1,ver1,rows1,by rw [hget,if_neg he];exact h1,h2⟩
   arr:=fun j sz1 ver1 frz1 rows1 e=>by
    by_cases he:id=j
    ·subst he
     have e':s.H[id]? = some (.arr sz1 ver1 frz1 rows1):=e
     rw [hH] at e'
     cases e'
     refine ⟨ver+1,frz,rows++new,?_,by omega,fun e=>by omega⟩
     show (s.H.set id o')[id]? = _
     rw [hget,if_pos rfl,ho']
    ·refine ⟨ver1,frz1,rows1,?_,Nat.le_refl _,fun _=>⟨Nat.le_refl _,rfl,fun b' vs1 hb' hb1=>⟨vs1,?_,rfl⟩⟩⟩
     ·show (s.H.set id o')[j]? = _
      rw [hget,if_neg he];exact e
     ·exact Zoq u (fun e=>he (h.inj id j b hρ (by rw [← e];exact hb'))) hb1
   cells:=fun j cs e=>by
    refine ⟨⟨cs,?_⟩,rfl⟩
    show (s.H.set id o')[j]? = _
    rw [hget,if_neg (fun he=>by subst he;have e':s.H[id]? = some (.cells cs):=e;rw [hH] at e';cases e')]
    exact e
   lp:=fun j L fr st e=>by
    refine ⟨⟨st,?_⟩,rfl⟩
    show (s.H.set id o')[j]? = _
    rw [hget,if_neg (fun he=>by subst he;have e':s.H[id]? = some (.lp L fr st):=e;rw [hH] at e';cases e')]
    exact e }
 exact
  {h with
   defers:=h.defers.upd hv u
   rnd:=h.rndU hv u
   slots:=fun t=>Zau hl (fun _ _ e=>e) (h.tops t) (h.slots t)
   boxes:=fun t cs e=>by
    obtain ⟨b',hb',hr'⟩:=h.boxes t cs e
    exact ⟨b',hb',hr'.later hl fun _=>Zg7 u (fun e=>h.apart t id b' hb' (by rw [e];exact hρ))⟩
   heap:=fun j x e=>by
    simp only [hget] at e
    by_cases he:id=j
    ·subst he
     simp only [if_true,Option.some.injEq] at e
     subst e
     refine ⟨b,hρ,?_⟩
     rw [← ho'] at hr hl ⊢
     exact hr hl
    ·simp only [he,if_false] at e
     obtain ⟨b',hb',hr'⟩:=h.heap j x e
     exact ⟨b',hb',hr'.later hl fun _=>Zg7 u (fun e=>he (h.inj id j b hρ (by rw [← e];exact hb')))⟩
   len:=by simp [h.len]
   keep:=h.keep.upd u (h.own id b hρ)
   hist:=h.hist.trans hl }
theorem Rel.appendNew (h:Rel k n g s a w) {id b sz ver:Nat} {frz:Bool} {rows new:List (List PC)} (hρ:g.ρ[id]? = some b) (hH:s.H[id]? = some (.arr sz ver frz rows))
  {vs:Array Value} (e:TypeId)
  (hr:Zam (cx k g s.H w) (cx k ⟨g.ρ.set id w.heap.size,g.β⟩ (s.H.set id (.arr sz (ver+1) frz (rows++new))) (w.alloc (.cells vs e))) →
   ArrR (cx k ⟨g.ρ.set id w.heap.size,g.β⟩ (s.H.set id (.arr sz (ver+1) frz (rows++new))) (w.alloc (.cells vs e))) w.heap.size sz (rows++new)) :
  Rel k n ⟨g.ρ.set id w.heap.size,g.β⟩ ⟨s.fr,s.bx,s.H.set id (.arr sz (ver+1) frz (rows++new))⟩ a (w.alloc (.cells vs e)):=by
 have hget:=Zev (.arr sz (ver+1) frz (rows++new)) hH
 have hg:=Grow.alloc w (.cells vs e)
 generalize hg':(⟨g.ρ.set id w.heap.size,g.β⟩:G)=g' at *
 generalize ho':HO.arr sz (ver+1) frz (rows++new)=o' at *
 generalize hw':w.alloc (.cells vs e)=w' at *
 have hid:id<g.ρ.length:=(List.getElem?_eq_some_iff.1 hρ).1
 have hβ:g'.β=g.β:=by rw [← hg']
 have hρ':∀ (j:Nat),g'.ρ[j]? = if id=j then some w.heap.size else g.ρ[j]?:=fun j=>by
  rw [← hg']
  show (g.ρ.set id w.heap.size)[j]? = _
  rw [List.getElem?_set]
  by_cases e:id=j
  ·subst e;simp [hid]
  ·simp [e]
 have hl:Zam (cx k g s.H w) (cx k g' (s.H.set id o') w') :=
  {stay:=fun a x ho hc=>by
    refine ⟨hg.cell hc,ho.1,fun t=>by rw [hβ];exact ho.2.1 t,fun j hj => ?_⟩
    rw [hρ'] at hj
    split at hj
    ·have hlt:a.block<w.heap.size:=ZmN hc
     simp at hj;omega
    ·rename_i he
     obtain ⟨sz1,ver1,rows1,h1,h2⟩:=ho.2.2 j hj
     exact ⟨sz1,ver1,rows1,by rw [hget,if_neg he];exact h1,h2⟩
   arr:=fun j sz1 ver1 frz1 rows1 e=>by
    by_cases he:id=j
    ·subst he
     have e':s.H[id]? = some (.arr sz1 ver1 frz1 rows1):=e
     rw [hH] at e'
     cases e'
     refine ⟨ver+1,frz,rows++new,?_,by omega,fun e=>by omega⟩
     show (s.H.set id o')[id]? = _
     rw [hget,if_pos rfl,ho']
    ·refine ⟨ver1,frz1,rows1,?_,Nat.le_refl _,fun _=>⟨Nat.le_refl _,?_,fun b' vs1 hb' hb1=>⟨vs1,ZjX hg hb1,rfl⟩⟩⟩
     ·show (s.H.set id o')[j]? = _
      rw [hget,if_neg he];exact e
     ·show g'.ρ[j]? = g.ρ[j]?
      rw [hρ',if_neg he]
   cells:=fun j cs e=>by
    have hne:id ≠ j:=fun he=>by subst he;have e':s.H[id]? = some (.cells cs):=e;rw [hH] at e';cases e'
    refine ⟨⟨cs,?_⟩,?_⟩
    ·show (s.H.set id o')[j]? = _
     rw [hget,if_neg hne];exact e
    ·show g'.ρ[j]? = g.ρ[j]?
     rw [hρ',if_neg hne]
   lp:=fun j L fr st e=>by
    have hne:id ≠ j:=fun he=>by subst he;have e':s.H[id]? = some (.lp L fr st):=e;rw [hH] at e';cases e'
    refine ⟨⟨st,?_⟩,?_⟩
    ·show (s.H.set id o')[j]? = _
     rw [hget,if_neg hne];exact e
    ·show g'.ρ[j]? = g.ρ[j]?
     rw [hρ',if_neg hne] }
 exact
  {defers:=h.defers.grow hg
   rnd:=h.rndG hg
   tsz:=h.tsz
   slots:=fun t=>Zau hl (fun _ _ e=>by rw [cx_β,hβ] at e;exact e) (h.tops t) (h.slots t)
   tops:=h.tops
   boxes:=fun t cs e=>by
    obtain ⟨b',hb',hr'⟩:=h.boxes t cs e
    exact ⟨b',by rw [hβ];exact hb',hr'.later hl fun _=>Zdy hg⟩
   boxed:=fun t b e=>h.boxed t b (by rw [← hβ];exact e)
   heap:=fun j x e=>by
    simp only [hget] at e
    by_cases he:id=j
    ·subst he
     simp only [if_true,Option.some.injEq] at e
     subst e
     refine ⟨w.heap.size,by rw [hρ',if_pos rfl],?_⟩
     rw [← ho'] at hr hl ⊢
     exact hr hl
    ·simp only [he,if_false] at e
     obtain ⟨b',hb',hr'⟩:=h.heap j x e
     exact ⟨b',by rw [hρ',if_neg he];exact hb',hr'.later hl fun _=>Zdy hg⟩
   len:=by rw [← hg'];simp [h.len]
   inj:=fun i j b' e1 e2=>by
    rw [hρ'] at e1 e2
    by_cases h1:id=i<;>by_cases h2:id=j
    ·omega
    ·rw [if_pos h1] at e1;rw [if_neg h2] at e2
     have:=ρ_lt h e2
     simp at e1;omega
    ·rw [if_neg h1] at e1;rw [if_pos h2] at e2
     have:=ρ_lt h e1
     simp at e2;omega
    ·rw [if_neg h1] at e1;rw [if_neg h2] at e2
     exact h.inj i j b' e1 e2
   binj:=fun t u b' e1 e2=>by rw [hβ] at e1 e2;exact h.binj t u b' e1 e2
   apart:=fun t i b' e1 e2=>by
    rw [hβ] at e1
    rw [hρ'] at e2
    split at e2
    ·have:=β_lt h e1
     simp at e2;omega
    ·exact h.apart t i b' e1 e2
   own:=fun i b' e1=>by
    rw [hρ'] at e1
    split at e1
    ·left
     have:=h.keep.size
     simp at e1;omega
    ·exact h.own i b' e1
   keep:=h.keep.grow hg
   hist:=h.hist.trans hl }
end
end Go.Eng

