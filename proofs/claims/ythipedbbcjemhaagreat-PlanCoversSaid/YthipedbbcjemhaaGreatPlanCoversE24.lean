/- Part of the proof; written by a program out of the texts in wip/. -/
import Derived.Test.YthipedbbcjemhaaGreatPlanCoversE23
set_option linter.unusedVariables false
set_option linter.unusedSimpArgs false
namespace Go.Eng
open Go
section
variable {H0 H H':List HO} {f0 items:List Z8}
theorem Fp.step {k:Nat} {i i':Z8} (h:Fp H0 H f0 items) (hk:items[k]? = some i) (hl:Lies H' i') (ho:∀ id,Occ i' id→Occ i id∨H.length≤id)
  (hs:∀ id,id<H.length→¬ Occ i id→H'[id]? = H[id]?) (hn:H.length≤H'.length):Fp H0 H' f0 (items.set k i') :=
 h.trans
  {size:=hn
   same:=fun id hlt hno=>hs id hlt (hno i (List.mem_of_getElem? hk))
   now:=h.now.replace hk hl ho hs
   occ:=fun x hx id hxo=>by
    rcases List.mem_or_eq_of_mem_set hx with hx | rfl
    ·exact .inl ⟨x,hx,hxo⟩
    ·rcases ho id hxo with h1 | h1
     ·exact .inl ⟨i,List.mem_of_getElem? hk,h1⟩
     ·exact .inr h1 }
theorem Fp.new {i:Z8} {o:HO} (h:Fp H0 H f0 items) (hl:Lies (H++[o]) i) (ho:∀ id,Occ i id→id=H.length):Fp H0 (H++[o]) f0 (i::items) :=
 h.trans
  {size:=by simp
   same:=fun id hlt _=>List.getElem?_append_left hlt
   now:=(h.now.push o).cons hl (fun id hi j hj hjo=>by
    have:=(h.now.lies j hj).lt id hjo
    have:=ho id hi
    omega)
   occ:=fun x hx id hxo=>by
    rcases List.mem_cons.1 hx with rfl | hx
    ·exact .inr (by rw [ho id hxo];exact Nat.le_refl _)
    ·exact .inl ⟨x,hx,hxo⟩ }
theorem Fp.pick (h:Fp H0 H f0 items) (ks:List Nat) (hn:Znw ks=true):Fp H0 H f0 (ks.filterMap fun k=>items[k]?) :=
 h.trans
  {size:=Nat.le_refl _
   same:=fun _ _ _=>rfl
   now:=h.now.pick ks hn
   occ:=fun x hx id hxo=>by
    obtain ⟨m,_,hm⟩:=List.mem_filterMap.1 hx
    exact .inl ⟨x,List.mem_of_getElem? hm,hxo⟩ }
theorem Fp.get (h:Fp H0 H f0 items) (k:Nat) {i:Z8} (hk:items[k]? = some i):Lies H i:=h.now.get k hk
theorem Fp.app {α:Type} {k:Nat} {a:AV} {sz bytes:Nat} {frz:Bool} {l m r:List α} (enc:α→List PC) (hF:Fp H0 H f0 items) (hk:items[k]? = some (.arr a sz frz (l.map enc))) (h:appI bytes l m=some r) :
  ∃ a' H',appV H sz bytes a (m.map enc)=some (a',H')∧Fp H0 H' f0 (items.set k (.arr a' sz frz (r.map enc))):=by
 unfold appI at h
 split at h
 ·rename_i hb
  cases h
  rcases hF.get k hk with ⟨rfl,hl⟩ | ⟨id,ver,rfl,f,hf,hid⟩
  ·have hl0:l=[]:=by cases l with
    | nil=>rfl
    | cons x xs=>simp at hl
   subst hl0
   by_cases hm:m=[]
   ·subst hm
    refine ⟨.p (.sl sz true []),H,by simp [appV],?_⟩
    exact hF.step hk (.inl ⟨rfl,rfl⟩) (fun id ⟨_,_,_,_,e⟩=>by cases e) (fun _ _ _=>rfl) (Nat.le_refl _)
   ·refine ⟨.osl sz H.length 0 0 (0+m.length),H++[.arr sz 0 false ([]++m.map enc)],?_,?_⟩
    ·simp only [List.length_nil,Nat.zero_add] at hb
     simp [appV,hb,hm]
    ·exact hF.step hk (.inr ⟨H.length,0,by simp,false,fun _=>rfl,by simp⟩) (fun id ⟨_,_,_,_,e⟩=>by cases e;exact .inr (Nat.le_refl _)) (fun id hlt _=>List.getElem?_append_left hlt) (by simp)
  ·have hlt:=(List.getElem?_eq_some_iff.1 hid).1
   refine ⟨.osl sz id (ver+1) 0 (l.length+m.length),H.set id (.arr sz (ver+1) f (l.map enc++m.map enc)),?_,?_⟩
   ·simp only [appV,hid,List.length_map]
    rw [if_pos ⟨trivial,trivial,trivial,trivial,hb.1,hb.2,trivial⟩]
   ·refine hF.step hk (.inr ⟨id,ver+1,by simp,f,hf,by simp [hlt]⟩) (fun id' ⟨_,_,_,_,e⟩=>by cases e;exact .inl ⟨sz,ver,0,_,rfl⟩) (fun id' hl' ho => ?_) (by simp)
    rw [List.getElem?_set_ne]
    intro e;subst e;exact ho ⟨sz,ver,0,_,rfl⟩
 ·cases h
theorem Fp.frz {α:Type} {k:Nat} {a:AV} {sz:Nat} {frz:Bool} {l:List α} (enc:α→List PC) (hF:Fp H0 H f0 items) (hk:items[k]? = some (.arr a sz frz (l.map enc))) :
  ∃ H',frz1 H a=some (.p (.sl sz false (l.map enc)),H')∧frzV H a=some (.p (.sl sz false (l.map enc)),H')∧Fp H0 H' f0 (items.set k (.arr a sz true (l.map enc))):=by
 rcases hF.get k hk with ⟨rfl,hl⟩ | ⟨id,ver,rfl,f,hf,hid⟩
 ·refine ⟨H,by rw [hl];rfl,by rw [hl];rfl,?_⟩
  exact hF.step hk (.inl ⟨rfl,hl⟩) (fun id ⟨_,_,_,_,e⟩=>by cases e) (fun _ _ _=>rfl) (Nat.le_refl _)
 ·have hlt:=(List.getElem?_eq_some_iff.1 hid).1
  have e1:frz1 H (.osl sz id ver 0 (l.map enc).length)=some (.p (.sl sz false (l.map enc)),H.set id (.arr sz ver true (l.map enc))):=by
   simp only [frz1,hid,and_self,if_true,sub,Nat.zero_add,Nat.le_refl,List.drop_zero,List.take_length,Option.map_some]
  refine ⟨H.set id (.arr sz ver true (l.map enc)),e1,e1,?_⟩
  refine hF.step hk (.inr ⟨id,ver,by simp,true,by simp,by simp [hlt]⟩) (fun id' ⟨_,_,_,_,e⟩=>by cases e;exact .inl ⟨sz,ver,0,_,rfl⟩) (fun id' hl' ho => ?_) (by simp)
  rw [List.getElem?_set_ne]
  intro e;subst e;exact ho ⟨sz,ver,0,_,rfl⟩
theorem Fp.newCell (hF:Fp H0 H f0 items) (cs:List AV):∃ id H',id=H.length∧H'=H++[.cells cs]∧Fp H0 H' f0 (.cel id cs::items) :=
 ⟨_,_,rfl,rfl,hF.new (by simp [Lies]) (fun id e=>by cases e;rfl)⟩
theorem Fp.setCell {k id off:Nat} {cs vs cs':List AV} (hF:Fp H0 H f0 items) (hk:items[k]? = some (.cel id cs)) (hs:Zbr off vs cs=some cs') :
  ∃ H',(∀ bx,wrt bx H vs (.ptr id off)=some ⟨bx,H'⟩)∧Fp H0 H' f0 (items.set k (.cel id cs')):=by
 have hid:H[id]? = some (.cells cs):=hF.get k hk
 have hlt:=(List.getElem?_eq_some_iff.1 hid).1
 refine ⟨H.set id (.cells cs'),fun bx=>by simp [wrt,hid,hs],hF.step hk (by simp [Lies,hlt]) (fun id' e=>.inl e) (fun id' hl ho => ?_) (by simp)⟩
 rw [List.getElem?_set_ne]
 intro e;subst e;exact ho rfl
theorem Fp.elem {α:Type} {k:Nat} {a:AV} {sz:Nat} {frz:Bool} {l:List α} {i:Int} {e:α} (enc:α→List PC) (hF:Fp H0 H f0 items) (hk:items[k]? = some (.arr a sz frz (l.map enc))) (h:idx l i=some e) :
  ∃ id ver f,(frz=false→f=false)∧H[id]? = some (.arr sz ver f (l.map enc))∧a = .osl sz id ver 0 l.length∧∀ kk:IntKind,Z7 (.iaddrS sz) [a,.p (.int kk i)]=some (.optr sz id ver (0+i.toNat) 0):=hF.now.elem enc hk h
theorem Fp.len {α:Type} {k:Nat} {a:AV} {sz:Nat} {frz:Bool} {l:List α} (enc:α→List PC) (hF:Fp H0 H f0 items) (hk:items[k]? = some (.arr a sz frz (l.map enc))):Z7 .len [a]=some (.p (.int .i64 l.length)):=hF.now.len enc hk
theorem HP.callee {fp fp' rest:List Z8} (h:HP H (fp++rest)) (hf:Fp H H' fp fp'):HP H' (fp'++rest):=hf.rest h
end
end Go.Eng

