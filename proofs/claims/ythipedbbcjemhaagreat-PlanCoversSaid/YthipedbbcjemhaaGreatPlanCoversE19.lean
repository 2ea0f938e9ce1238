/- Part of the proof; written by a program out of the texts in wip/. -/
import Derived.Test.YthipedbbcjemhaaGreatPlanCoversE18
set_option linter.unusedVariables false
set_option linter.unusedSimpArgs false
namespace Go.Eng
open Go
section
variable {H H':List HO} {items:List Z8}
theorem Lies.same {i:Z8} (h:Lies H i) (hs:∀ id,Occ i id→H'[id]? = H[id]?):Lies H' i:=by
 cases i with
 | arr a sz frz rows =>
  rcases h with h | ⟨id,ver,rfl,f,hf,h⟩
  ·exact .inl h
  ·exact .inr ⟨id,ver,rfl,f,hf,by rw [hs id ⟨sz,ver,0,rows.length,rfl⟩];exact h⟩
 | cel id cs=>exact (hs id rfl).trans h
 | lp id L fr st=>exact (hs id rfl).trans h
theorem Lies.lt {i:Z8} (h:Lies H i):∀ id,Occ i id→id<H.length:=by
 intro id ho
 cases i with
 | arr a sz frz rows =>
  obtain ⟨sz',ver,off,len,rfl⟩:=ho
  rcases h with ⟨h,_⟩ | ⟨id',ver',e,f,_,h⟩
  ·cases h
  ·cases e;exact (List.getElem?_eq_some_iff.1 h).1
 | cel id' cs=>cases ho;exact (List.getElem?_eq_some_iff.1 h).1
 | lp id' L fr st=>cases ho;exact (List.getElem?_eq_some_iff.1 h).1
theorem HP.lies:∀ {items:List Z8},HP H items→∀ i ∈ items,Lies H i
 | [],_,i,hi=>by cases hi
 | j::is,h,i,hi=>by
  rcases List.mem_cons.1 hi with rfl | hi
  ·exact h.1
  ·exact HP.lies h.2.2 i hi
theorem HP.get (h:HP H items) (k:Nat) {i:Z8} (hk:items[k]? = some i):Lies H i:=h.lies i (List.mem_of_getElem? hk)
theorem HP.same:∀ {items:List Z8},HP H items→(∀ i ∈ items,∀ id,Occ i id→H'[id]? = H[id]?)→HP H' items
 | [],_,_=>trivial
 | i::is,h,hs=>⟨h.1.same (hs i (by simp)),h.2.1,HP.same h.2.2 fun j hj=>hs j (by simp [hj])⟩
theorem HP.push (h:HP H items) (o:HO):HP (H++[o]) items :=
 h.same fun i hi id ho=>by
  have:=(h.lies i hi).lt id ho
  rw [List.getElem?_append_left this]
theorem HP.cons (h:HP H items) {i:Z8} (hi:Lies H i) (hn:∀ id,Occ i id→∀ j ∈ items,¬ Occ j id):HP H (i::items):=⟨hi,hn,h⟩
theorem HP.nilArr (h:HP H items) (sz:Nat) (frz:Bool):HP H (.arr (.p (.sl sz true [])) sz frz []::items) :=
 h.cons (.inl ⟨rfl,rfl⟩) (fun id ⟨_,_,_,_,e⟩=>by cases e)
theorem HP.replace:∀ {items:List Z8} {k:Nat} {i i':Z8},HP H items→items[k]? = some i→Lies H' i'→(∀ id,Occ i' id→Occ i id∨H.length≤id) →
  (∀ id,id<H.length→¬ Occ i id→H'[id]? = H[id]?)→HP H' (items.set k i')
 | [],k,i,i',h,hk,_,_,_=>by simp at hk
 | j::is,0,i,i',h,hk,hl,ho,hs=>by
  simp only [List.getElem?_cons_zero,Option.some.injEq] at hk
  subst hk
  refine ⟨hl,fun id hid x hx hxo => ?_,HP.same h.2.2 fun x hx id hxo=>hs id ((HP.lies h.2.2 x hx).lt id hxo) fun hj=>h.2.1 id hj x hx hxo⟩
  rcases ho id hid with h1 | h1
  ·exact h.2.1 id h1 x hx hxo
  ·have:=(HP.lies h.2.2 x hx).lt id hxo;omega
 | j::is,k+1,i,i',h,hk,hl,ho,hs=>by
  simp only [List.getElem?_cons_succ] at hk
  have hi:i ∈ is:=List.mem_of_getElem? hk
  refine ⟨h.1.same fun id hid=>hs id (h.1.lt id hid) fun hio=>h.2.1 id hid i hi hio,fun id hid x hx hxo => ?_,HP.replace h.2.2 hk hl ho hs⟩
  rcases List.mem_or_eq_of_mem_set hx with h1 | rfl
  ·exact h.2.1 id hid x h1 hxo
  ·rcases ho id hxo with h1 | h1
   ·exact h.2.1 id hid i hi h1
   ·have:=h.1.lt id hid;omega
theorem ZjS {a:AV} {sz:Nat} {frz:Bool} {rows:List (List PC)} (h:Lies H (.arr a sz frz rows)):a = .p (.sl sz true [])∨∃ id ver,a = .osl sz id ver 0 rows.length:=by
 rcases h with h | ⟨id,ver,h,_⟩
 ·exact .inl h.1
 ·exact .inr ⟨id,ver,h⟩
inductive OwnF (sz n:Nat):AV→Prop
 | a:OwnF sz n (.p (.sl sz true []))
 | b (id ver:Nat):OwnF sz n (.osl sz id ver 0 n)
theorem ZW {a:AV} {sz:Nat} {frz:Bool} {rows:List (List PC)} (h:Lies H (.arr a sz frz rows)):OwnF sz rows.length a:=by
 rcases ZjS h with rfl | ⟨_,_,rfl⟩
 ·exact .a
 ·exact .b ..
theorem HP.app {α:Type} {k:Nat} {a:AV} {sz bytes:Nat} {frz:Bool} {l m r:List α} (enc:α→List PC) (hH:HP H items) (hk:items[k]? = some (.arr a sz frz (l.map enc))) (h:appI bytes l m=some r) :
  ∃ a' H',appV H sz bytes a (m.map enc)=some (a',H')∧HP H' (items.set k (.arr a' sz frz (r.map enc))):=by
 unfold appI at h
 split at h
 ·rename_i hb
  cases h
  rcases hH.get k hk with ⟨rfl,hl⟩ | ⟨id,ver,rfl,f,hf,hid⟩
  ·have hl0:l=[]:=by cases l with
    | nil=>rfl
    | cons x xs=>simp at hl
   subst hl0
   by_cases hm:m=[]
   ·subst hm
    refine ⟨.p (.sl sz true []),H,by simp [appV],?_⟩
    exact hH.replace hk (.inl ⟨rfl,rfl⟩) (fun id ⟨_,_,_,_,e⟩=>by cases e) (fun _ _ _=>rfl)
   ·refine ⟨.osl sz H.length 0 0 (0+m.length),H++[.arr sz 0 false ([]++m.map enc)],?_,?_⟩
    ·simp only [List.length_nil,Nat.zero_add] at hb
     simp [appV,hb,hm]
    ·refine hH.replace hk (.inr ⟨H.length,0,by simp,false,fun _=>rfl,by simp⟩) (fun id ⟨_,_,_,_,e⟩=>by cases e;exact .inr (Nat.le_refl _)) (fun id hlt _=>List.getElem?_append_left hlt)
  ·have hlt:=(List.getElem?_eq_some_iff.1 hid).1
   refine ⟨.osl sz id (ver+1) 0 (l.length+m.length),H.set id (.arr sz (ver+1) f (l.map enc++m.map enc)),?_,?_⟩
   ·simp only [appV,hid,List.length_map]
    rw [if_pos ⟨trivial,trivial,trivial,trivial,hb.1,hb.2,trivial⟩]
   ·refine hH.replace hk (.inr ⟨id,ver+1,by simp,f,hf,by simp [hlt]⟩) (fun id' ⟨_,_,_,_,e⟩=>by cases e;exact .inl ⟨sz,ver,0,_,rfl⟩) (fun id' hl' ho => ?_)
    rw [List.getElem?_set_ne]
    intro e;subst e;exact ho ⟨sz,ver,0,_,rfl⟩
 ·cases h
theorem HP.make {α:Type} {bytes:Nat} {n c:Int} {z:α} {r:List α} (enc:α→List PC) (hH:HP H items) (h:Zh2 bytes n c z=some r) :
  ∃ a H',a = .osl (enc z).length H.length 0 0 n.toNat∧H'=H++[.arr (enc z).length 0 false (List.replicate n.toNat (enc z))]∧(0≤n∧n≤c∧c * bytes≤140737488355328∧c≤140737488355328)∧HP H' (.arr a (enc z).length false (r.map enc)::items):=by
 unfold Zh2 at h
 split at h
 ·rename_i hb
  cases h
  refine ⟨_,_,rfl,rfl,hb,(hH.push _).cons (.inr ⟨H.length,0,by simp,false,fun _=>rfl,by simp⟩) (fun id ⟨_,_,_,_,e⟩ j hj ho => ?_)⟩
  cases e
  have:=(hH.lies j hj).lt _ ho
  omega
 ·cases h
theorem HP.elem {α:Type} {k:Nat} {a:AV} {sz:Nat} {frz:Bool} {l:List α} {i:Int} {e:α} (enc:α→List PC) (hH:HP H items) (hk:items[k]? = some (.arr a sz frz (l.map enc))) (h:idx l i=some e) :
  ∃ id ver f,(frz=false→f=false)∧H[id]? = some (.arr sz ver f (l.map enc))∧a = .osl sz id ver 0 l.length∧∀ kk:IntKind,Z7 (.iaddrS sz) [a,.p (.int kk i)]=some (.optr sz id ver (0+i.toNat) 0):=by
 have h1:=(ZkO enc h).1
 rcases hH.get k hk with ⟨_,hl⟩ | ⟨id,ver,rfl,f,hf,hid⟩
 ·have:l=[]:=by cases l with
   | nil=>rfl
   | cons x xs=>simp at hl
  subst this
  simp at h1;omega
 ·refine ⟨id,ver,f,hf,hid,by simp,fun kk => ?_⟩
  simp only [Z7]
  rw [if_pos ⟨trivial,h1.1,h1.2⟩]
theorem HP.setRow {α:Type} {k:Nat} {sz id ver:Nat} {l:List α} {i:Int} {e e':α} {off:Nat} {ps:List PC} {cs:List AV} {f:Bool} {a:AV} (enc:α→List PC) (hH:HP H items) (hk:items[k]? = some (.arr a sz false (l.map enc)))
  (ha:a = .osl sz id ver 0 l.length) (hid:H[id]? = some (.arr sz ver f (l.map enc))) (hff:f=false) (h:idx l i=some e) (hu:unP cs=some ps) (hs:Zbr off ps (enc e)=some (enc e')) :
  ∃ H',(∀ bx,wrt bx H cs (.optr sz id ver (0+i.toNat) off)=some ⟨bx,H'⟩)∧HP H' (items.set k (.arr a sz false ((l.set i.toNat e').map enc))):=by
 subst ha hff
 have h2:=(ZkO enc h).2
 have hlt:=(List.getElem?_eq_some_iff.1 hid).1
 refine ⟨H.set id (.arr sz ver false ((l.map enc).set i.toNat (enc e'))),fun bx => ?_,?_⟩
 ·simp only [wrt,hid,Nat.zero_add,and_self,if_true,h2,Option.bind_some,hu,hs,Option.map_some]
 ·refine hH.replace hk (.inr ⟨id,ver,by simp,false,fun _=>rfl,by simp [hlt,List.map_set]⟩) (fun id' ⟨_,_,_,_,e⟩=>by cases e;exact .inl ⟨sz,ver,0,_,rfl⟩) (fun id' hl' ho => ?_)
  rw [List.getElem?_set_ne]
  intro e;subst e;exact ho ⟨sz,ver,0,_,rfl⟩
theorem HP.len {α:Type} {k:Nat} {a:AV} {sz:Nat} {frz:Bool} {l:List α} (enc:α→List PC) (hH:HP H items) (hk:items[k]? = some (.arr a sz frz (l.map enc))):Z7 .len [a]=some (.p (.int .i64 l.length)):=by
 rcases hH.get k hk with ⟨rfl,hl⟩ | ⟨id,ver,rfl,f,hf,hid⟩
 ·have:l=[]:=by cases l with
   | nil=>rfl
   | cons x xs=>simp at hl
  subst this;rfl
 ·simp [Z7]
theorem HP.pure {α:Type} {k:Nat} {a:AV} {sz:Nat} {frz:Bool} {l:List α} (enc:α→List PC) (hH:HP H items) (hk:items[k]? = some (.arr a sz frz (l.map enc))):Znm H a=some (.p (.sl sz false (l.map enc)))∧ZiT H a=some (.p (.sl sz false (l.map enc))):=by
 rcases hH.get k hk with ⟨rfl,hl⟩ | ⟨id,ver,rfl,f,hf,hid⟩
 ·rw [hl];exact ⟨rfl,rfl⟩
 ·simp only [ZiT,Znm,hid,and_self,if_true,sub,Nat.zero_add,Nat.le_refl,List.drop_zero,List.take_length,Option.map_some]
theorem HP.frz {α:Type} {k:Nat} {a:AV} {sz:Nat} {frz:Bool} {l:List α} (enc:α→List PC) (hH:HP H items) (hk:items[k]? = some (.arr a sz frz (l.map enc))) :
  ∃ H',frz1 H a=some (.p (.sl sz false (l.map enc)),H')∧frzV H a=some (.p (.sl sz false (l.map enc)),H')∧HP H' (items.set k (.arr a sz true (l.map enc))):=by
 rcases hH.get k hk with ⟨rfl,hl⟩ | ⟨id,ver,rfl,f,hf,hid⟩
 ·refine ⟨H,by rw [hl];rfl,by rw [hl];rfl,?_⟩
  exact hH.replace hk (.inl ⟨rfl,hl⟩) (fun id ⟨_,_,_,_,e⟩=>by cases e) (fun _ _ _=>rfl)
 ·have hlt:=(List.getElem?_eq_some_iff.1 hid).1
  have e1:frz1 H (.osl sz id ver 0 (l.map enc).length)=some (.p (.sl sz false (l.map enc)),H.set id (.arr sz ver true (l.map enc))):=by
   simp only [frz1,hid,and_self,if_true,sub,Nat.zero_add,Nat.le_refl,List.drop_zero,List.take_length,Option.map_some]
  refine ⟨H.set id (.arr sz ver true (l.map enc)),e1,e1,?_⟩
  refine hH.replace hk (.inr ⟨id,ver,by simp,true,by simp,by simp [hlt]⟩) (fun id' ⟨_,_,_,_,e⟩=>by cases e;exact .inl ⟨sz,ver,0,_,rfl⟩) (fun id' hl' ho => ?_)
  rw [List.getElem?_set_ne]
  intro e;subst e;exact ho ⟨sz,ver,0,_,rfl⟩
theorem HP.newCell (hH:HP H items) (cs:List AV):∃ id H',id=H.length∧H'=H++[.cells cs]∧HP H' (.cel id cs::items) :=
 ⟨_,_,rfl,rfl,(hH.push _).cons (by simp [Lies]) (fun id e j hj ho=>by
  cases e
  have:=(hH.lies j hj).lt _ ho
  omega)⟩
theorem HP.setCell {k id off:Nat} {cs vs cs':List AV} (hH:HP H items) (hk:items[k]? = some (.cel id cs)) (hs:Zbr off vs cs=some cs') :
  ∃ H',(∀ bx,wrt bx H vs (.ptr id off)=some ⟨bx,H'⟩)∧HP H' (items.set k (.cel id cs')):=by
 have hid:H[id]? = some (.cells cs):=hH.get k hk
 have hlt:=(List.getElem?_eq_some_iff.1 hid).1
 refine ⟨H.set id (.cells cs'),fun bx=>by simp [wrt,hid,hs],hH.replace hk (by simp [Lies,hlt]) (fun id' e=>.inl e) (fun id' hl ho => ?_)⟩
 rw [List.getElem?_set_ne]
 intro e;subst e;exact ho rfl
def Znw:List Nat→Bool
 | []=>true
 | k::ks => !ks.elem k&&Znw ks
theorem HP.apart {items:List Z8} (h:HP H items) {j k:Nat} {x y:Z8} (hj:items[j]? = some x) (hk:items[k]? = some y) (hne:j ≠ k) {id:Nat} (hx:Occ x id):¬ Occ y id:=by
 induction items generalizing j k with
 | nil=>simp at hj
 | cons i is ih =>
  cases j with
  | zero =>
   cases k with
   | zero=>exact absurd rfl hne
   | succ k =>
    simp only [List.getElem?_cons_zero,Option.some.injEq] at hj
    simp only [List.getElem?_cons_succ] at hk
    subst hj
    exact h.2.1 id hx y (List.mem_of_getElem? hk)
  | succ j =>
   simp only [List.getElem?_cons_succ] at hj
   cases k with
   | zero =>
    simp only [List.getElem?_cons_zero,Option.some.injEq] at hk
    subst hk
    exact fun hy=>h.2.1 id hy x (List.mem_of_getElem? hj) hx
   | succ k =>
    simp only [List.getElem?_cons_succ] at hk
    exact ih h.2.2 hj hk (by omega)
theorem HP.pick (h:HP H items):∀ (ks:List Nat),Znw ks=true→HP H (ks.filterMap fun k=>items[k]?)
 | [],_=>trivial
 | k::ks,hn=>by
  simp only [Znw,Bool.and_eq_true,Bool.not_eq_true'] at hn
  have ih:=HP.pick h ks hn.2
  cases hk:items[k]? with
  | none=>simpa [List.filterMap_cons,hk] using ih
  | some i =>
   simp only [List.filterMap_cons,hk]
   refine ⟨h.get k hk,fun id ho j hj hjo => ?_,ih⟩
   obtain ⟨m,hm,hmj⟩:=List.mem_filterMap.1 hj
   have hne:k ≠ m:=by
    intro e;subst e
    have:List.elem k ks=true:=by simpa using hm
    rw [hn.1] at this;cases this
   exact h.apart hk hmj hne ho hjo
theorem HP.frzUp (h:HP H items) {k:Nat} {a:AV} {sz:Nat} {frz:Bool} {rows:List (List PC)} (hk:items[k]? = some (.arr a sz frz rows)):HP H (items.set k (.arr a sz true rows)):=by
 refine h.replace hk ?_ (fun id ho=>.inl ho) (fun _ _ _=>rfl)
 rcases h.get k hk with h1 | ⟨id,ver,e,f,hf,h1⟩
 ·exact .inl h1
 ·exact .inr ⟨id,ver,e,f,by simp,h1⟩
theorem HP.drop (h:HP H items) (k:Nat):HP H (items.eraseIdx k):=by
 induction items generalizing k with
 | nil=>exact h
 | cons i is ih =>
  cases k with
  | zero=>exact h.2.2
  | succ k=>exact ⟨h.1,fun id ho j hj=>h.2.1 id ho j (List.mem_of_mem_eraseIdx hj),ih h.2.2 k⟩
end
section
variable {P:Program} {n:Nat} {s:St}
theorem Ze1 {d:Nat} {x y:IX} {sz bytes:Nat} {a a' b:AV} {new:List (List PC)} {H H':List HO} (hs:s.H=H) (hx:ev s.fr x=a) (hb:ev s.fr y=b) (hy:ZfT H sz b=some new) (h:appV H sz bytes a new=some (a',H')) :
  ZI P (.app d x y sz bytes) s ⟨put s.fr d a',s.bx,H'⟩:=by
 subst hs hb
 simp only [ZI,Z5,hx,hy,Option.bind_some,h,Option.map_some]
theorem ZI.bool {i:Ins} {d:Nat} {r b:Bool} {H:List HO} (h:ZI P i s ⟨put s.fr d (.p (.bool r)),s.bx,H⟩) (e:r=b):ZI P i s ⟨put s.fr d (.p (.bool b)),s.bx,H⟩:=e ▸ h
theorem Zkf {d:Nat} {x y:IX} {zero:List PC} {bytes:Nat} {m c:Int} {H H':List HO} {a:AV} (hs:s.H=H) (hx:ev s.fr x = .p (.int .i64 m)) (hy:ev s.fr y = .p (.int .i64 c))
  (ha:a = .osl zero.length H.length 0 0 m.toNat) (hH:H'=H++[.arr zero.length 0 false (List.replicate m.toNat zero)]) (h:0≤m∧m≤c∧c * bytes≤140737488355328∧c≤140737488355328) :
  ZI P (.mkSl d x y zero bytes) s ⟨put s.fr d a,s.bx,H'⟩:=by
 subst hs ha hH
 simp only [ZI,Z5,hx,hy]
 rw [if_pos h]
theorem Zc8 {α:Type} {l:List α} {i:Int} {e:α} {d:Nat} {x:IX} {m sz id ver off:Nat} {f isA:Bool} {cs:List PC} {r:AV} {H:List HO} (enc:α→List PC) (h:idx l i=some e) (hid:H[id]? = some (.arr sz ver f (l.map enc))) (hH:s.H=H:=by kernel_rfl)
  (hx:ev s.fr x = .optr sz id ver (0+i.toNat) off:=by kernel_rfl) (hs:sub off m (enc e)=some cs:=by kernel_rfl) (hm:mk isA (cs.map .p)=some r:=by kernel_rfl):ZI P (.load d x m isA) s ⟨put s.fr d r,s.bx,s.H⟩:=by
 have h2:=(ZkO enc h).2
 have hok:∀ cs:List PC,ZO (cs.map .p)=true:=fun cs=>by
  induction cs with
  | nil=>rfl
  | cons c cs ih=>simp [ZO,ZcQ,ih]
 subst hH
 simp only [ZI,Z5,hx,rd,hid,and_self,if_true,Nat.zero_add,h2,Option.bind_some,hs,Option.map_some,hok,hm]
theorem Zaw {x y:IX} {m:Nat} {v p:AV} {H H':List HO} (hH:s.H=H:=by kernel_rfl) (hx:ev s.fr x=p:=by kernel_rfl) (hy:ev s.fr y=v:=by kernel_rfl) (hok:decide ((cellsOf v).length=m)&&ZO (cellsOf v)=true:=by kernel_rfl) (hw:∀ bx,wrt bx H (cellsOf v) p=some ⟨bx,H'⟩) :
  ZI P (.store x y m) s ⟨s.fr,s.bx,H'⟩:=by
 subst hH hx hy
 simp only [Bool.and_eq_true,decide_eq_true_eq] at hok
 simp only [ZI,Z5,hok,and_self,if_true,hw,Option.map_some]
theorem Zb6 {d:Nat} {x:IX} {v:AV} {id:Nat} {H H':List HO} (hs:s.H=H:=by kernel_rfl) (hx:ev s.fr x=v:=by kernel_rfl) (hok:ZO (cellsOf v)=true:=by kernel_rfl) (hid:id=H.length) (hH:H'=H++[.cells (cellsOf v)]) :
  ZI P (.boxH d x) s ⟨put s.fr d (.ptr id 0),s.bx,H'⟩:=by
 subst hs hx hid hH
 simp only [ZI,Z5,hok,if_true]
theorem ZgP {d:Nat} {zero:List AV} {id:Nat} {H H':List HO} (hs:s.H=H) (hid:id=H.length) (hH:H'=H++[.cells zero]) :
  ZI P (.newH d zero) s ⟨put s.fr d (.ptr id 0),s.bx,H'⟩:=by
 subst hs hid hH
 simp only [ZI,Z5]
theorem Zv {d:Nat} {x:IX} {m id off:Nat} {isA:Bool} {cs c:List AV} {r:AV} {H:List HO} (hs:s.H=H:=by kernel_rfl) (hx:ev s.fr x = .ptr id off:=by kernel_rfl) (hl:Lies H (.cel id cs)) (hsub:sub off m cs=some c:=by kernel_rfl) (hok:ZO c=true:=by kernel_rfl) (hm:mk isA c=some r:=by kernel_rfl) :
  ZI P (.load d x m isA) s ⟨put s.fr d r,s.bx,s.H⟩:=by
 subst hs
 have hl':s.H[id]? = some (.cells cs):=hl
 simp only [ZI,Z5,hx,rd,hl',hsub,Option.bind_some,hok,if_true,hm,Option.map_some]
theorem Zis {H:List HO}:frzL H []=some ([],H):=rfl
theorem Zew {H H1 H2:List HO} {x x':AV} {xs xs':List AV} (h1:frzV H x=some (x',H1)) (h2:frzL H1 xs=some (xs',H2)):frzL H (x::xs)=some (x'::xs',H2):=by
 simp only [frzL,h1,Option.bind_some,h2,Option.map_some]
theorem ZoR {H:List HO}:frzC H []=some ([],H):=rfl
theorem Zck {H H1 H2:List HO} {x x':AV} {xs xs':List AV} (h1:frz1 H x=some (x',H1)) (h2:frzC H1 xs=some (xs',H2)):frzC H (x::xs)=some (x'::xs',H2):=by
 simp only [frzC,h1,Option.bind_some,h2,Option.map_some]
theorem ZoQ {H H':List HO} {cs cs':List AV} (h:frzC H cs=some (cs',H')):frzV H (.agg cs)=some (.agg cs',H'):=by
 simp only [frzV,h,Option.map_some]
theorem Zic {d:Option Nat} {f:Nat} {xs:List IX} {ys args:List AV} {r:AV} {H H':List HO} (hs:s.H=H) (hy:xs.map (ev s.fr)=ys) (hf:frzL H ys=some (args,H')) (hc:Zac P f args r):ZI P (.call d f xs) s ⟨putO s.fr d r,s.bx,H'⟩:=by
 subst hs hy
 exact ⟨args,H',r,H',.frz hf,hc.frame _,rfl⟩
theorem Zga {d:Option Nat} {f:Nat} {xs:List IX} {ys args:List AV} {r:AV} {H H1 H':List HO} (hs:s.H=H) (hy:xs.map (ev s.fr)=ys) (hf:frzL H ys=some (args,H1)) (hc:Zbe P f args H1 r H'):ZI P (.call d f xs) s ⟨putO s.fr d r,s.bx,H'⟩:=by
 subst hs hy
 exact ⟨args,H1,r,H',.frz hf,hc,rfl⟩
def Zgs (P:Program) (fv:AV) (xs:List AV) (H:List HO) (r:AV) (H':List HO):Prop :=
 ∃ f first cap args H1,fv = .fn f first cap∧Pass H (first++xs++cap) args H1∧Zbe P f args H1 r H'
theorem Zgs.of {f:Nat} {first cap xs args:List AV} {H:List HO} {r:AV} {H':List HO} (hf:frzL H (first++xs++cap)=some (args,H)) (hc:Zbe P f args H r H'):Zgs P (.fn f first cap) xs H r H' :=
 ⟨f,first,cap,args,H,rfl,.frz hf,hc⟩
theorem ZcO {d:Option Nat} {fx:IX} {xs:List IX} {fv:AV} {ys:List AV} {r:AV} {H H':List HO} (hs:s.H=H:=by kernel_rfl) (hf:ev s.fr fx=fv:=by kernel_rfl) (hy:xs.map (ev s.fr)=ys:=by kernel_rfl) (hc:Zgs P fv ys H r H'):ZI P (.callV d fx xs) s ⟨putO s.fr d r,s.bx,H'⟩:=by
 subst hs hf hy
 obtain ⟨f,first,cap,args,H1,h1,h2,h3⟩:=hc
 exact ⟨f,first,cap,args,H1,r,H',h1,h2,h3,rfl⟩
theorem Za3 {d:Nat} {f:Nat} {xs:List IX} {args:List AV} {r b:Bool} (hx:frzL s.H (xs.map (ev s.fr))=some (args,s.H)) (hc:Zac P f args (.p (.bool r))) (e:r=b):ZI P (.call (some d) f xs) s ⟨put s.fr d (.p (.bool b)),s.bx,s.H⟩ :=
 ⟨args,s.H,.p (.bool r),s.H,.frz hx,hc.frame _,by rw [e];rfl⟩
theorem Zna {d:Nat} {f:Nat} {xs:List IX} {args:List AV} {r b:Bool} (hx:weakVs (xs.map (ev s.fr))=args) (hc:Zac P f args (.p (.bool r))) (e:r=b):ZI P (.callP d f xs) s ⟨put s.fr d (.p (.bool b)),s.bx,s.H⟩ :=
 ⟨.p (.bool r),hx ▸ hc,by rw [e]⟩
def Zjn (H:List HO):List AV→Option (List AV)
 | []=>some []
 | y::ys=>(ZiT H y).bind fun x=>(Zjn H ys).map (x :: ·)
theorem Zni:∀ {rs:List RV} {ys:List AV},rawL s rs=some ys→resL s rs=Zjn s.H ys
 | [],ys,h=>by simp only [rawL,Option.some.injEq] at h;subst h;rfl
 | r::rs,ys,h=>by
  simp only [rawL] at h
  cases h1:rawV s r with
  | none=>simp [h1] at h
  | some y =>
   simp only [h1,Option.bind_some] at h
   cases h2:rawL s rs with
   | none=>simp [h2] at h
   | some zs =>
    simp only [h2,Option.map_some,Option.some.injEq] at h
    subst h
    simp only [resL,Zjn,Zni h2]
    have:resV s r=ZiT s.H y:=by
     cases r with
     | tmp t=>simp only [rawV,Option.some.injEq] at h1;subst h1;rfl
     | cell t m b=>simp only [rawV] at h1;simp only [resV,h1,Option.bind_some]
    rw [this]
theorem Zd6 {res:List RV} {ys xs:List AV} {r:AV} {H:List HO} (hs:s.H=H) (hr:rawL s res=some ys) (hp:Zjn H ys=some xs) (ht:ZaW xs=r):∃ xs,resL s res=some xs∧ZaW xs=r:=by
 subst hs
 exact ⟨xs,by rw [Zni hr,hp],ht⟩
theorem ZbJ {H:List HO}:Zjn H []=some []:=rfl
theorem ZaJ {H:List HO} {x x':AV} {xs xs':List AV} (h1:ZiT H x=some x') (h2:Zjn H xs=some xs'):Zjn H (x::xs)=some (x'::xs'):=by
 simp only [Zjn,h1,Option.bind_some,h2,Option.map_some]
theorem Zkv {H:List HO}:ZjL H []=some []:=rfl
theorem Zbg {H:List HO} {x x':AV} {xs xs':List AV} (h1:Znm H x=some x') (h2:ZjL H xs=some xs'):ZjL H (x::xs)=some (x'::xs'):=by
 simp only [ZjL,h1,Option.bind_some,h2,Option.map_some]
theorem Zkt {H:List HO} {cs cs':List AV} (h:ZjL H cs=some cs'):ZiT H (.agg cs)=some (.agg cs'):=by
 simp only [ZiT,h,Option.map_some]
theorem Zre:frzS [] s=some s:=rfl
theorem Zqo {t:Nat} {ts:List Nat} {a x:AV} {H H1:List HO} {s0:St} (hs:s.H=H) (hg:ZlP s t=a) (hf:frzV H a=some (x,H1)) (h:frzS ts ⟨s.fr,s.bx,H1⟩=some s0):frzS (t::ts) s=some s0:=by
 subst hs hg
 simp only [frzS,hf,Option.bind_some,h]
theorem Zc6 {a b:IC} {Q:Exit→St→Prop} (ks:List Nat) (R:St→Prop) (h1:vc P n a (normR fun s=>R (Zeu ks s)) s) (h2:∀ s',R s'→vc P n b Q s'):vc P n (.seq a (.kp ks b)) Q s:=by
 refine Zcf a (fun e s' h => ?_) h1
 obtain ⟨rfl,h⟩:=h
 exact h2 _ h
def Unr (P:Program) (n:Nat) (a:IC) (Q:Exit→St→Prop):Nat→St→Prop
 | 0,_=>False
 | m+1,s=>vc P n a (ZhQ (Unr P n a Q m) Q) s
theorem ZmZ {a:IC} {Q:Exit→St→Prop} (m:Nat) (h:Unr P n a Q m s):vc P n (.loop a) Q s:=by
 have key:∃ e sF,RunD P n a .normal e sF m s∧Q e sF:=by
  induction m generalizing s with
  | zero=>exact h.elim
  | succ m ih =>
   obtain ⟨e1,s1,h1,h2⟩:=vcd a (show vc P n a (ZhQ (Unr P n a Q m) Q) s from h)
   cases e1 with
   | normal =>
    obtain ⟨e,sF,h3,h4⟩:=ih h2
    exact ⟨e,sF,⟨.normal,s1,h1,.inl ⟨rfl,h3⟩⟩,h4⟩
   | _=>exact ⟨_,s1,⟨_,s1,h1,.inr ⟨by simp,rfl,rfl⟩⟩,h2⟩
 obtain ⟨e,sF,h1,h2⟩:=key
 exact ⟨e,sF,h1.loop,h2⟩
theorem ZcN {a:IC} {Q:Exit→St→Prop} {m:Nat} (h:vc P n a (ZhQ (Unr P n a Q m) Q) s):Unr P n a Q (m+1) s:=h
end
end Go.Eng

