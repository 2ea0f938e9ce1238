/- Part of the proof; written by a program out of the texts in wip/. -/
import Derived.Test.YthipedbbcjemhaaGreatPlanCoversE31
import Derived.Laws.IdiomRangeMap
set_option linter.unusedVariables false
set_option linter.unusedSimpArgs false
namespace Go.Eng
open Go
def itL:LC:=⟨[],1,fun _ _=>True,true⟩
section
variable {P:Program}
theorem Zn4 (w:World) (ty:TypeId) (r bm since:Nat) (seen:Array Nat) (es:Array MapEntry) (clock:Nat) (hr:w.heap[r]? = some (.mapIter (some bm) since seen clock)) (hb:w.heap[bm]? = some (.map es clock))
  (hold:∀ x ∈ es.toList,x.born<since) (hsc:since≤clock) :
  ((leftOf es seen).size=0∧(Instr.next (.pointer (some ⟨r,0,none⟩)) false ty).run P w = .ok (.tuple #[.bool false]) w) ∨
  ∃ e ∈ (leftOf es seen).toList,∃ w1:World,(w1=w∨w1=w.drew)∧(Instr.next (.pointer (some ⟨r,0,none⟩)) false ty).run P w = .ok (.tuple #[.bool true,e.key,e.val]) (w1.putObj r (.mapIter (some bm) since (seen.push e.born) clock)):=by
 simp only [Instr.next,getObj,Sem.run_bind,Sem.run,hr,hb,Result.andThen,next_test_false seen es since clock hold hsc,Bool.false_eq_true,if_false]
 unfold leftOf
 have hmem:∀ x ∈ (Array.filter (fun e => !seen.contains e.born) es).toList,x.born<since:=fun x hx=>hold x (by simp at hx ⊢;exact hx.1)
 generalize Array.filter (fun e => !seen.contains e.born) es=L at hmem ⊢
 have e1:L.filter (fun x=>decide (x.born<since))=L:=Array.filter_eq_self.2 (fun x hx=>by simpa using hmem x (by simpa using hx))
 have e2:L.filter (fun x=>decide (x.born ≥ since)) = #[]:=by
  rw [Array.filter_eq_empty_iff]
  intro x hx
  have:=hmem x (by simpa using hx)
  simp
  omega
 simp only [e1,e2,Array.append_empty]
 by_cases h0:L.size=0
 ·left
  have:L = #[]:=Array.eq_empty_of_size_eq_zero h0
  subst this
  refine ⟨rfl,?_⟩
  simp [choose,Sem.run,Question.forced]
 ·right
  have hne:L.isEmpty=false:=by simp [Array.isEmpty,h0]
  simp only [hne,Bool.false_eq_true,if_false,Array.empty_append,Array.size_map]
  have hch:∃ (j:Nat) (w1:World),j<L.size∧(w1=w∨w1=w.drew)∧(choose (Question.mapNext L.size)).run P w = .ok j w1:=by
   by_cases hf:L.size≤1
   ·exact ⟨0,w,by omega,.inl rfl,by simp [choose,Sem.run,Question.forced,hf]⟩
   ·exact ⟨_,w.drew,Nat.mod_lt _ (by omega),.inr rfl,by
     simp only [choose,Sem.run,Question.forced,decide_eq_true_eq,hf,if_false,Question.cut]
     rfl⟩
  obtain ⟨j,w1,hj,hal,hrun⟩:=hch
  refine ⟨L[j],by simp,w1,hal,?_⟩
  have hr1:w1.heap[r]? = some (.mapIter (some bm) since seen clock):=by
   rcases hal with rfl | rfl
   ·exact hr
   ·exact hr
  simp only [hrun,Array.getElem?_map,Array.getElem?_eq_getElem hj,Option.map_some,Sem.run_bind,setObj,Sem.run,hr1,Result.andThen]
  rfl
theorem Znf (w:World) (r bm since:Nat) (seen:Array Nat) (es:Array MapEntry) (clock:Nat) (e:MapEntry) (hr:w.heap[r]? = some (.mapIter (some bm) since (seen.push e.born) clock)) (hb:w.heap[bm]? = some (.map es clock)) (he:e ∈ es.toList)
  (hn:(es.toList.map (·.born)).Nodup):(Instr.entry (.pointer (some ⟨r,0,none⟩))).run P w = .ok (.tuple #[e.key,e.val]) w:=by
 have hf:es.find? (·.born==e.born)=some e:=by rw [← Array.find?_toList];exact find_born e es.toList hn he
 simp only [Instr.entry,getObj,Sem.run_bind,Sem.run,hr,hb,Result.andThen,Array.back?_push,bne_self_eq_false,Bool.false_eq_true,if_false,hf]
 rfl
theorem Zd9 {w:World} {r:Nat} {o:Obj} (h:w.heap[r]? = some o):w.putObj r o=w:=by
 unfold World.putObj
 have:w.heap.setIfInBounds r o=w.heap:=by
  apply Array.ext_getElem?
  intro i
  rw [Array.getElem?_setIfInBounds]
  by_cases e:r=i
  ·subst e
   rw [if_pos rfl,h]
   have hlt:=(Array.getElem?_eq_some_iff.1 h).1
   simp [hlt]
  ·rw [if_neg e]
 rw [this]
end
section
variable {P:Program} {k:K0} {n:Nat} {g:G} {s:St} {a:Act} {w:World}
theorem Rel.setOb (h:Rel k n g s a w) {id l:Nat} {L:LC} {fr:List (Nat × AV)} {st st':LS} {x o':Obj} (hH:s.H[id]? = some (.lp L fr st)) (hρ:g.ρ[id]? = some l) (hr:w.heap[l]? = some x)
  (hx1:∀ vs e f,x ≠ .cells vs e f) (hx2:∀ r,x ≠ .loop r) (hx3:∀ d,x ≠ .deferred d)
  (ho:Zam (cx k g s.H w) (cx k g (s.H.set id (.lp L fr st')) (w.putObj l o'))→HoR (cx k g (s.H.set id (.lp L fr st')) (w.putObj l o')) l (.lp L fr st')) :
  Rel k n g ⟨s.fr,s.bx,s.H.set id (.lp L fr st')⟩ a (w.putObj l o'):=by
 have u:Off w (w.putObj l o') l:=.put _ (fun vs e f h=>by rw [hr] at h;exact hx1 _ _ _ (Option.some.inj h))
 have hget:=getElem?_set' (y:=HO.lp L fr st') hH
 have hlt:l<w.heap.size:=(Array.getElem?_eq_some_iff.1 hr).1
 have hl:Zam (cx k g s.H w) (cx k g (s.H.set id (.lp L fr st')) (w.putObj l o')) :=
  {stay:=fun a x ho hc=>by
    refine ⟨u.cell hc,ho.1,ho.2.1,fun j hj => ?_⟩
    obtain ⟨sz,ver,rows,h1,h2⟩:=ho.2.2 j hj
    refine ⟨sz,ver,rows,?_,h2⟩
    rw [hget,if_neg (fun e=>by subst e;rw [hH] at h1;cases h1)]
    exact h1
   arr:=fun j sz ver frz rows e=>by
    have e':s.H[j]? = some (.arr sz ver frz rows):=e
    refine ⟨ver,frz,rows,?_,Nat.le_refl _,fun _=>⟨Nat.le_refl _,rfl,fun b vs _ hb=>⟨vs,u.blk hb,rfl⟩⟩⟩
    show (s.H.set id _)[j]? = _
    rw [hget,if_neg (fun e1=>by subst e1;rw [hH] at e';cases e')];exact e'
   cells:=fun j cs e=>by
    have e':s.H[j]? = some (.cells cs):=e
    refine ⟨⟨cs,?_⟩,rfl⟩
    show (s.H.set id _)[j]? = _
    rw [hget,if_neg (fun e1=>by subst e1;rw [hH] at e';cases e')];exact e'
   lp:=fun j L' fr' st1 e=>by
    have e':s.H[j]? = some (.lp L' fr' st1):=e
    refine ⟨?_,rfl⟩
    by_cases hj:id=j
    ·subst hj
     rw [hH] at e'
     cases e'
     exact ⟨st',by show (s.H.set id _)[id]? = _;rw [hget,if_pos rfl]⟩
    ·exact ⟨st1,by show (s.H.set id _)[j]? = _;rw [hget,if_neg hj];exact e'⟩ }
 have hobj:∀ b,b ≠ l→∀ o,w.heap[b]? = some o→(w.putObj l o').heap[b]? = some o:=fun b hb o ho=>(u.block b hb).trans ho
 exact
  {defers:=h.defers.mono fun D _ hD=>hobj D (fun e=>by subst e;rw [hr] at hD;exact hx3 _ (Option.some.inj hD)) _ hD
   rnd:=fun l' hl'=>by
    obtain ⟨r1,h1⟩:=h.rnd l' hl'
    exact ⟨r1,hobj l' (fun e=>by subst e;rw [hr] at h1;exact hx2 _ (Option.some.inj h1)) _ h1⟩
   tsz:=h.tsz
   slots:=fun t=>Zau hl (fun _ _ e=>e) (h.tops t) (h.slots t)
   tops:=h.tops
   boxes:=fun t cs e=>let ⟨b,hb,hr'⟩:=h.boxes t cs e; ⟨b,hb,hr'.later hl (hobj b (fun e=>by
    subst e;obtain ⟨_,vs,⟨et,hr'⟩,_⟩:=hr';rw [show w.heap[b]? = _ from hr'] at hr;exact hx1 _ _ _ (Option.some.inj hr).symm))⟩
   boxed:=h.boxed
   heap:=fun j o e=>by
    simp only [hget] at e
    by_cases hj:id=j
    ·subst hj
     simp only [if_true,Option.some.injEq] at e
     subst e
     exact ⟨l,hρ,ho hl⟩
    ·simp only [hj,if_false] at e
     obtain ⟨b,hb,hr'⟩:=h.heap j o e
     exact ⟨b,hb,hr'.later hl (hobj b (fun e=>hj (h.inj id j l hρ (by rw [← e];exact hb))))⟩
   len:=by simp [h.len]
   inj:=h.inj
   binj:=h.binj
   apart:=h.apart
   own:=h.own
   keep:=h.keep.off u (h.own id l hρ)
   hist:=h.hist.trans hl }
theorem Rel.theOb (h:Rel k n g s a w) {id:Nat} {L:LC} {fr:List (Nat × AV)} {st:LS} (hH:s.H[id]? = some (.lp L fr st)) {v:Value} (hv:VR (cx k g s.H w) (.map id) v) :
  L.mpk=true∧∃ b,g.ρ[id]? = some b∧v=mapV L b∧MpR (cx k g s.H w) b st:=by
 rw [VR] at hv
 obtain ⟨L',fr',st',b,h1,h2,h3,h4⟩:=hv
 have h1':s.H[id]? = some (.lp L' fr' st'):=h1
 rw [hH] at h1'
 cases h1'
 obtain ⟨b',hb',hq⟩:=h.heap id _ hH
 have h3':g.ρ[id]? = some b:=h3
 rw [h3'] at hb'
 cases hb'
 rcases hq with ⟨q,_⟩ | ⟨_,q⟩
 ·rw [h2] at q;cases q
 ·exact ⟨h2,b,h3',h4,q⟩
def hIt (H:List HO) (id:Nat) (L:LC) (fr:List (Nat × AV)) (kn:Nat) (es:Ent) (bs:List Nat) (clock:Nat) (seen:List Nat):List HO :=
 H.set id (.lp L fr (.mps kn es bs clock))++[.lp itL [] (.it id clock seen clock)]
def hEnd (H:List HO):List HO:=H++[.lp itL [] .itd]
structure ItOK (es:Ent) (bs:List Nat) (clock:Nat):Prop where
 len:bs.length=es.length
 nd:bs.Nodup
 lt:∀ x ∈ bs,x<clock
theorem Rel.range (h:Rel k n g s a w) {o:Oper} {d:Nat} {xs:List IX} (hc:Zja P n o (some d) .range xs=true) {id kn:Nat} {L:LC} {fr:List (Nat × AV)} {es:Ent} (hx:xs.map (ev s.fr)=[.map id]) (hH:s.H[id]? = some (.lp L fr (.mp kn es))) (hn:L.n=0) :
  ∃ bs clock,ItOK es bs clock∧Did P k n ⟨Eng.put s.fr d (.map s.H.length),s.bx,hIt s.H id L fr kn es bs clock []⟩ a w o:=by
 simp only [Zja,Bool.and_eq_true,decide_eq_true_eq] at hc
 obtain ⟨⟨hd,hdn⟩,hc⟩:=hc
 split at hc
 ·rename_i t X hop
  simp only [Bool.and_eq_true] at hc
  obtain ⟨hc1,hc2⟩:=hc
  have hv:=ZkE h hc2 hx
  simp only [List.map_cons,List.map_nil] at hv
  rw [VRL] at hv
  obtain ⟨v,vs,e,hv,_⟩:=hv
  simp only [List.cons.injEq] at e
  obtain ⟨e,_⟩:=e
  obtain ⟨hmk,b,hb,ev1,hok,hlen,ents,clock,q1,q2,q3,q4⟩:=h.theMp hH hv hn
  have q1':w.heap[b]? = some (.map ents clock):=q1
  split at hc1
  rotate_left
  ·cases hc1
  rename_i kt et hu
  have hlen2:(ents.toList.map (·.born)).length=es.length:=by
   have:=congrArg List.length q3
   simpa using this
  refine ⟨ents.toList.map (·.born),clock,⟨hlen2,q2.2.1,fun x hx=>by
   obtain ⟨y,hy,rfl⟩:=List.mem_map.1 hx
   exact q2.1 y hy⟩,?_⟩
  have h1:Rel k n g ⟨s.fr,s.bx,s.H.set id (.lp L fr (.mps kn es (ents.toList.map (·.born)) clock))⟩ a w:=by
   have:=h.setOb (o':=.map ents clock) (st':=.mps kn es (ents.toList.map (·.born)) clock) hH hb q1' (by simp) (by simp) (by simp) (fun hl=>by
    rw [Zd9 q1'] at hl ⊢
    exact .inr ⟨hmk,hok,hlen,ents,q1',q2,q3,VRL.later hl _ _ (ZH hok) q4,rfl⟩)
   rwa [Zd9 q1'] at this
  have hid:id<s.H.length:=(List.getElem?_eq_some_iff.1 hH).1
  obtain ⟨h2,hl2⟩:=h1.newObjG (o:=.lp itL [] (.it id clock [] clock)) (.mapIter (some b) clock #[] clock) (by
   refine .inr ⟨rfl,b,L,fr,.mps kn es (ents.toList.map (·.born)) clock,?_,?_,World.alloc_heap_new w _⟩
   ·show (s.H.set id _++[_])[id]? = _
    rw [List.getElem?_append_left (by simpa using hid),List.getElem?_set_self hid]
   ·show (g.ρ++[_])[id]? = _
    rw [List.getElem?_append_left (by rw [h.len];exact hid)]
    exact hb)
  refine ⟨.pointer (some ⟨w.heap.size,0,none⟩),w.alloc (.mapIter (some b) clock #[] clock),⟨g.ρ++[w.heap.size],g.β⟩,.inl ?_,?_⟩
  ·have hrun:=run_range_map (P:=P) w t kt et b ents clock hu q1'
   have e0:a.eval X = .map (some b):=by rw [e,ev1]
   simp only [execOp,hop,e0,Sem.run_bind,hrun,Result.andThen_ok,Sem.run_pure]
  ·rw [hd]
   refine h2.putO (d:=some d) hdn ?_ rfl
   rw [VR]
   refine ⟨itL,[],.it id clock [] clock,w.heap.size,?_,rfl,?_,rfl⟩
   ·show (s.H.set id _++[_])[s.H.length]? = _
    rw [List.getElem?_append_right (by simp)];simp
   ·show (g.ρ++[_])[s.H.length]? = _
    rw [← h.len];simp
 ·cases hc
theorem Rel.theMps (h:Rel k n g s a w) {id:Nat} {L:LC} {fr:List (Nat × AV)} {kn:Nat} {es:Ent} {bs:List Nat} {clock:Nat} (hH:s.H[id]? = some (.lp L fr (.mps kn es bs clock))) :
  L.mpk=true∧∃ b,g.ρ[id]? = some b∧MpR (cx k g s.H w) b (.mps kn es bs clock):=by
 obtain ⟨b,hb,hq⟩:=h.heap id _ hH
 rcases hq with ⟨_,q⟩ | ⟨hm,q⟩
 ·obtain ⟨_,r,_,_,_,_,_,q⟩:=q
  exact q.elim
 ·exact ⟨hm,b,hb,q⟩
theorem Rel.next (h:Rel k n g s a w) {o:Oper} {d:Nat} {xs:List IX} (hc:Zja P n o (some d) .next xs=true) {id j kn:Nat} {L:LC} {fr:List (Nat × AV)} {es:Ent} {bs:List Nat} {clock:Nat} {seen:List Nat}
  (hx:xs.map (ev s.fr)=[.map j]) (hH:s.H[id]? = some (.lp L fr (.mps kn es bs clock))) (hJ:s.H[j]? = some (.lp itL [] (.it id clock seen clock))) :
  ((∀ x ∈ bs,x ∈ seen)∧Did P k n ⟨Eng.put s.fr d (.tup [.p (.bool false)]),s.bx,s.H⟩ a w o) ∨
  ∃ i,∃ hi:i<bs.length,bs[i] ∉ seen∧Did P k n ⟨Eng.put s.fr d (.tup [.p (.bool true),.any,.any]),s.bx,s.H.set j (.lp itL [] (.it id clock (seen++[bs[i]]) clock))⟩ a w o:=by
 simp only [Zja,Bool.and_eq_true,decide_eq_true_eq] at hc
 obtain ⟨⟨hd,hdn⟩,hc⟩:=hc
 split at hc
 ·rename_i X str hop
  simp only [Bool.and_eq_true,Bool.not_eq_true'] at hc
  obtain ⟨rfl,hc2⟩:=hc
  have hv:=ZkE h hc2 hx
  simp only [List.map_cons,List.map_nil] at hv
  rw [VRL] at hv
  obtain ⟨v,vs,e,hv,_⟩:=hv
  simp only [List.cons.injEq] at e
  obtain ⟨e,_⟩:=e
  obtain ⟨_,b,hb,ev1,bm,L1,fr1,st1,i1,i2,i3⟩:=h.theOb hJ hv
  obtain ⟨hmk,bm',hbm,hok,hlen,ents,q1,q2,q3,q4,q5⟩:=h.theMps hH
  have:bm'=bm:=by have:=(show g.ρ[id]? = _ from i2).symm.trans hbm;simpa using this.symm
  subst this
  have q1':w.heap[bm']? = some (.map ents clock):=q1
  have i3':w.heap[b]? = some (.mapIter (some bm') clock seen.toArray clock):=i3
  have e0:a.eval X = .pointer (some ⟨b,0,none⟩):=by rw [e,ev1];rfl
  rcases Zn4 (P:=P) w o.type b bm' clock seen.toArray ents clock i3' q1' q2.1 (Nat.le_refl _) with ⟨h0,hrun⟩ | ⟨en,he,w1,hw1,hrun⟩
  ·left
   refine ⟨fun x hx => ?_,.tuple #[.bool false],w,g,.inl ?_,?_⟩
   ·rw [← q5] at hx
    obtain ⟨y,hy,rfl⟩:=List.mem_map.1 hx
    by_cases hs:y.born ∈ seen
    ·exact hs
    ·have:y ∈ leftOf ents seen.toArray:=by
      unfold leftOf
      rw [Array.mem_filter]
      refine ⟨Array.mem_toList_iff.1 hy,?_⟩
      simpa using hs
     have hpos:=Array.size_pos_of_mem this
     omega
   ·simp only [execOp,hop,e0,Sem.run_bind,hrun,Result.andThen_ok,Sem.run_pure]
   ·rw [hd]
    refine h.putO (d:=some d) hdn ?_ rfl
    rw [VR]
    exact ⟨[.bool false],rfl,by rw [VRL];exact ⟨_,_,rfl,by rw [VR,PR],by rw [VRL]⟩⟩
  ·right
   obtain ⟨he1,he2⟩:=mem_left he
   have hbn:en.born ∈ bs:=by rw [← q5];exact List.mem_map.2 ⟨en,he1,rfl⟩
   obtain ⟨i,hi,hie⟩:=List.getElem_of_mem hbn
   refine ⟨i,hi,?_,.tuple #[.bool true,en.key,en.val],w1.putObj b (.mapIter (some bm') clock (seen.toArray.push en.born) clock),g,.inl ?_,?_⟩
   ·rw [hie];simpa using he2
   ·simp only [execOp,hop,e0,Sem.run_bind,hrun,Result.andThen_ok,Sem.run_pure]
   ·have h1:Rel k n g s a w1:=by
     rcases hw1 with rfl | rfl
     ·exact h
     ·exact h.grow (Grow.drew w)
    have i4:w1.heap[b]? = some (.mapIter (some bm') clock seen.toArray clock):=by
     rcases hw1 with rfl | rfl
     ·exact i3'
     ·exact i3'
    have hlt:=(Array.getElem?_eq_some_iff.1 i4).1
    have hid:id ≠ j:=fun e=>by subst e;rw [hH] at hJ;cases hJ
    have h2:=h1.setOb (o':=.mapIter (some bm') clock (seen.toArray.push en.born) clock) (st':=.it id clock (seen++[bs[i]]) clock) hJ hb i4 (by simp) (by simp) (by simp) (fun hl=>by
     refine .inr ⟨rfl,bm',L,fr,.mps kn es bs clock,?_,hbm,?_⟩
     ·show (s.H.set j _)[id]? = _
      rw [List.getElem?_set_ne (Ne.symm hid)];exact hH
     ·show (w1.putObj b _).heap[b]? = _
      rw [World.putObj_heap_same hlt,hie]
      simp)
    rw [hd]
    refine h2.putO (d:=some d) hdn ?_ rfl
    rw [VR]
    exact ⟨[.bool true,en.key,en.val],rfl,by rw [VRL];exact ⟨_,_,rfl,by rw [VR,PR],by rw [VRL];exact ⟨_,_,rfl,by rw [VR];trivial,by rw [VRL];exact ⟨_,_,rfl,by rw [VR];trivial,by rw [VRL]⟩⟩⟩⟩
 ·cases hc
theorem ZrA {c:Cx}:∀ {xs:List AV} {vs:List Value},VRL c xs vs→∀ (i:Nat) x,xs[i]? = some x→∃ v,vs[i]? = some v∧VR c x v
 | [],_,_,i,x,h=>by simp at h
 | y::ys,vs,h,i,x,hi=>by
  rw [VRL] at h
  obtain ⟨v,us,rfl,h1,h2⟩:=h
  cases i with
  | zero=>simp only [List.getElem?_cons_zero,Option.some.injEq] at hi;subst hi;exact ⟨v,rfl,h1⟩
  | succ i=>exact ZrA h2 i x (by simpa using hi)
theorem Zpt (kn:Nat) (ks:List Int):ZX (keyA kn ks)=true:=by
 unfold keyA
 split
 ·rfl
 ·simp only [ZX]
  induction ks with
  | nil=>rfl
  | cons x xs ih=>simpa [ZX.noLocL,ZX] using ih
theorem keyV_VR (c:Cx) (kn:Nat) (ks:List Int):VR c (keyA kn ks) (keyV kn ks):=by
 unfold keyA keyV
 split
 ·rw [VR,PR]
 ·rw [VR];exact ⟨_,rfl,ZjY ks⟩
theorem ZqU {d:Nat} {xs:List IX} {id j kn i x:Nat} {L:LC} {fr:List (Nat × AV)} {es:Ent} {bs:List Nat} {clock:Nat} {seen:List Nat} {p:List Int × AV} (hi:es[i]? = some p) (hb:bs[i]? = some x) (hv:ZcQ p.2=true)
  (hx:xs.map (ev s.fr)=[.map j]) (hH:s.H[id]? = some (.lp L fr (.mps kn es bs clock))) (hJ:s.H[j]? = some (.lp itL [] (.it id clock (seen++[x]) clock))) :
  ZI P (.sp (some d) .entry xs) s ⟨Eng.put s.fr d (.tup [keyA kn p.1,p.2]),s.bx,s.H⟩:=by
 have hno:ZX (.tup [keyA kn p.1,p.2])=true:=by
  have h2:ZX p.2=true:=by
   have:noLocL [p.2]=true:=ZH (by simp [ZO,hv])
   simpa [ZX.noLocL] using this
  simp [ZX,ZX.noLocL,Zpt,h2]
 refine ZpU hno ?_ rfl
 intro k n g t a w o d' ys hys hHt h hc
 rw [hx] at hys
 rw [← hHt] at hH hJ ⊢
 simp only [Zja,Bool.and_eq_true,decide_eq_true_eq] at hc
 obtain ⟨⟨hd,hdn⟩,hc⟩:=hc
 split at hc
 ·rename_i X hop
  have hv:=ZkE h hc hys
  simp only [List.map_cons,List.map_nil] at hv
  rw [VRL] at hv
  obtain ⟨v,vs,e,hv,_⟩:=hv
  simp only [List.cons.injEq] at e
  obtain ⟨e,_⟩:=e
  obtain ⟨_,b,hb',ev1,bm,L1,fr1,st1,i1,i2,i3⟩:=h.theOb hJ hv
  obtain ⟨hmk,bm',hbm,hok,hlen,ents,q1,q2,q3,q4,q5⟩:=h.theMps hH
  have:bm'=bm:=by have:=(show g.ρ[id]? = _ from i2).symm.trans hbm;simpa using this.symm
  subst this
  have q1':w.heap[bm']? = some (.map ents clock):=q1
  have e0:a.eval X = .pointer (some ⟨b,0,none⟩):=by rw [e,ev1];rfl
  have hlt:i<ents.toList.length:=by
   have h1:=(List.getElem?_eq_some_iff.1 hi).1
   have:=congrArg List.length q3
   simp only [List.length_map] at this
   omega
  have hborn:ents.toList[i].born=x:=by
   have:=congrArg (·[i]?) q5
   simp only [List.getElem?_map,List.getElem?_eq_getElem hlt,Option.map_some] at this
   rw [hb] at this
   exact Option.some.inj this
  have hkey:ents.toList[i].key=keyV kn p.1:=by
   have:=congrArg (·[i]?) q3
   simp only [List.getElem?_map,List.getElem?_eq_getElem hlt,Option.map_some,hi] at this
   exact Option.some.inj this
  have hval:VR (cx k g t.H w) p.2 ents.toList[i].val:=by
   obtain ⟨u,hu,hr⟩:=ZrA q4 i p.2 (by rw [List.getElem?_map,hi];rfl)
   rw [List.getElem?_map,List.getElem?_eq_getElem hlt] at hu
   simp only [Option.map_some,Option.some.injEq] at hu
   rw [hu];exact hr
  have i3':w.heap[b]? = some (.mapIter (some bm') clock (seen.toArray.push ents.toList[i].born) clock):=by
   rw [hborn]
   have:(seen.toArray.push x)=(seen++[x]).toArray:=by simp
   rw [this];exact i3
  have hrun:=Znf (P:=P) w b bm' clock seen.toArray ents clock ents.toList[i] i3' q1' (List.getElem_mem hlt) q2.2.1
  refine ⟨.tuple #[ents.toList[i].key,ents.toList[i].val],w,g,.inl ?_,?_⟩
  ·simp only [execOp,hop,e0,Sem.run_bind,hrun,Result.andThen_ok,Sem.run_pure]
  ·rw [hd]
   refine h.putO hdn ?_ (ZM hno)
   rw [VR]
   exact ⟨[ents.toList[i].key,ents.toList[i].val],rfl,by rw [VRL];exact ⟨_,_,rfl,by rw [hkey];exact keyV_VR _ _ _,by rw [VRL];exact ⟨_,_,rfl,hval,by rw [VRL]⟩⟩⟩
 ·cases hc
end
section
variable {P:Program} {n:Nat}
theorem EvI.seq2 {x y:IC} {Q:Exit→St→Prop} {s:St} (h:EvI P n x s (ZhQ (fun s'=>EvI P n y s' Q) Q)):EvI P n (.seq x y) s Q:=by
 intro c hc k g a w hr
 cases c<;>simp only [chkC,Bool.false_eq_true,Bool.and_eq_true] at hc
 rename_i c1 c2
 refine wpIn_seq (wpIn_mono (h c1 hc.1 k g a w hr) ?_)
 rintro e a' w' ⟨s',g',h1,h2⟩
 cases e with
 | normal=>exact h2 c2 hc.2 k g' a' w' h1
 | _=>exact ⟨s',g',h1,h2⟩
theorem EvI.block2 {id:Nat} {x:IC} {Q:Exit→St→Prop} {s:St} (h:EvI P n x s (Zdw id Q)):EvI P n (.block id x) s Q:=by
 intro c hc k g a w hr
 cases c<;>simp only [chkC,Bool.false_eq_true,Bool.and_eq_true,decide_eq_true_eq] at hc
 rename_i id' c1
 obtain ⟨rfl,hc⟩:=hc
 refine wpIn_block (wpIn_mono (h c1 hc k g a w hr) ?_)
 rintro e a' w' ⟨s',g',h1,h2⟩
 cases e with
 | exit j =>
  simp only [Zdw] at h2
  simp only [Exit.inBlock]
  split
  ·rename_i e;rw [if_pos e] at h2;exact ⟨s',g',h1,h2⟩
  ·rename_i e;rw [if_neg e] at h2;exact ⟨s',g',h1,h2⟩
 | _=>exact ⟨s',g',h1,h2⟩
theorem EvI.loop2 {b:IC} {Q:Exit→St→Prop} {α:Type} (R:α→St→Prop) (μ:α→Nat) (round:∀ x s,R x s→EvI P n b s (ZhQ (fun s'=>∃ y,R y s'∧μ y<μ x) Q)) (x:α) (s:St) (h:R x s):EvI P n (.loop b) s Q:=by
 intro c hc k g a w hr
 cases c<;>simp only [chkC,Bool.false_eq_true] at hc
 rename_i c1
 refine Zh7 (R:=fun x a w=>∃ s g,R x s∧Rel k n g s a w) μ (fun x a w h => ?_) x a w ⟨s,g,h,hr⟩
 obtain ⟨s,g,hx,hr⟩:=h
 refine wpIn_mono (round x s hx c1 hc k g a w hr) ?_
 rintro e a' w' ⟨s',g',h1,h2⟩
 cases e with
 | normal =>
  obtain ⟨y,hy,hlt⟩:=h2
  exact ⟨y,⟨s',g',hy,h1⟩,hlt⟩
 | _=>exact ⟨s',g',h1,h2⟩
theorem Ziv {ops:Array Oper}:∀ {l:List Oper} {i1 i2:List IOp},Zcp P n ops l (i1++i2)=true→∃ l1 l2,l=l1++l2∧Zcp P n ops l1 i1=true∧Zcp P n ops l2 i2=true
 | l,[],i2,h=>⟨[],l,rfl,rfl,h⟩
 | [],x::i1,i2,h=>by simp [Zcp] at h
 | o::l,x::i1,i2,h=>by
  simp only [List.cons_append,Zcp,Bool.and_eq_true] at h
  obtain ⟨l1,l2,rfl,h1,h2⟩:=Ziv h.2
  exact ⟨o::l1,l2,rfl,by simp only [Zcp,Bool.and_eq_true];exact ⟨h.1,h1⟩,h2⟩
section
variable {k:K0} {ops:Array Oper} {r:Option Nat} {Q:Exit→Act→World→Prop}
theorem ZoG:∀ (os:List Oper) (ios:List IOp) (os2:List Oper) (st:Nat) {g:G} {s s':St} {a:Act} {w:World},(∀ j,(os++os2)[j]? = ops[st+j]?)→Zcp P n ops os ios=true→Rel k n g s a w→Za P ios s s' →
  (∀ g' a' w',Rel k n g' s' a' w'→wpOpsIn (FR r) 0 P ops Q (List.range' (st+os.length) os2.length) a' w')→wpOpsIn (FR r) 0 P ops Q (List.range' st (os++os2).length) a w
 | [],[],os2,st,g,s,s',a,w,_,_,h,hp,hK=>by
  simp only [Za] at hp
  subst hp
  simpa using hK g a w h
 | o::os,io::ios,os2,st,g,s,s',a,w,hos,hc,h,hp,hK=>by
  simp only [Za] at hp
  obtain ⟨s1,h1,h2⟩:=hp
  simp only [Zcp,Bool.and_eq_true] at hc
  have h0:=hos 0
  simp only [List.cons_append,List.getElem?_cons_zero,Nat.add_zero] at h0
  simp only [List.cons_append,List.length_cons,List.range'_succ]
  rw [wpOpsIn_cons]
  refine ZmA h h0.symm hc.1 h1 r (fun g' a' w' h3 => ?_)
  refine ZoG os ios os2 (st+1) (fun j=>by have:=hos (j+1);simpa [Nat.add_assoc,Nat.add_comm 1 j] using this) hc.2 h3 h2 (fun g2 a2 w2 h4 => ?_)
  have:=hK g2 a2 w2 h4
  rwa [List.length_cons,show st+(os.length+1)=st+1+os.length by omega] at this
 | [],_::_,_,_,_,_,_,_,_,_,hc,_,_,_=>by simp [Zcp] at hc
 | _::_,[],_,_,_,_,_,_,_,_,hc,_,_,_=>by simp [Zcp] at hc
theorem op_nd {g:G} {a:Act} {w:World} {i:Nat} {o:Oper} {io:IOp} (hi:ops[i]? = some o) (hc:ZnP P n ops o io=true) (hg:io.g=none) {R:St→Prop} (hd:∃ s',R s'∧Did P k n s' a w o) {K:Act→World→Prop}
  (hK:∀ s' g' a' w',R s'→Rel k n g' s' a' w'→K a' w'):wpOpIn (FR r) 0 P ops Q i K a w:=by
 simp only [ZnP,Bool.and_eq_true] at hc
 obtain ⟨⟨hgo,hc⟩,hnd⟩:=hc
 obtain ⟨s',hR,hd⟩:=hd
 unfold wpOpIn
 rw [hi]
 simp only
 have hog:o.guard=none:=by
  unfold Zom at hgo
  rw [hg] at hgo
  split at hgo
  ·assumption
  ·rename_i e;cases e
  ·cases hgo
 rw [if_pos (by simp [Region.wanted,hog])]
 exact Oper.wpIn_of_wp r (ZkI hnd) (hd.wp fun g' a' w' h=>hK s' g' a' w' hR h)
end
theorem EvI.regND {pre post:List IOp} {nd:IOp} {keep:List Nat} {s s0:St} {Q:Exit→St→Prop} (R:St→Prop) (hp:Za P pre s s0) (hg:nd.g=none)
  (hnd:∀ k g a w o,Rel k n g s0 a w→ZaM P n o nd.i=true→∃ s1,R s1∧Did P k n s1 a w o) (hpost:∀ s1,R s1→∃ s2,Za P post s1 s2∧Q .normal (Zeu keep s2)):EvI P n (.reg (pre++nd::post) keep) s Q:=by
 intro c hc k g a w hr
 cases c<;>simp only [chkC,Bool.false_eq_true,Bool.and_eq_true,Bool.not_eq_true'] at hc
 rename_i id ops draw
 obtain ⟨rfl,hc⟩:=hc
 obtain ⟨l1,l2,he,h1,h2⟩:=Ziv hc
 cases l2 with
 | nil=>simp [Zcp] at h2
 | cons o l2 =>
  simp only [Zcp,Bool.and_eq_true] at h2
  refine wpIn_region ?_
  have hget:∀ j,(l1++o::l2)[j]? = ops[0+j]?:=fun j=>by rw [← he];simp
  have hlen:(l1++o::l2).length=ops.size:=by rw [← he];simp
  have:=ZoG (r:=k.rd) (Q:=fun e a' w'=>∃ s' g',Rel k n g' s' a' w'∧Q e s') l1 pre (o::l2) 0 hget h1 hr hp (fun g' a' w' h3=>by
   simp only [List.length_cons,List.range'_succ,Nat.zero_add]
   rw [wpOpsIn_cons]
   have hci:ZaM P n o nd.i=true:=by
    have:=h2.1
    simp only [ZnP,Bool.and_eq_true] at this
    exact this.1.2
   have ho:ops[l1.length]? = some o:=by have:=hget l1.length;simpa using this.symm
   refine op_nd (g:=g') ho h2.1 hg (R:=R) (hnd k g' a' w' o h3 hci) (fun s1 g2 a2 w2 hR h4 => ?_)
   obtain ⟨s2,hp2,hq⟩:=hpost s1 hR
   refine ZkD l2 post (l1.length+1) (fun j => ?_) h2.2 h4 hp2 (fun g3 a3 w3 h5 => ?_)
   ·have:=hget (l1.length+1+j)
    rw [List.getElem?_append_right (by omega)] at this
    simpa [show l1.length+1+j - l1.length=j+1 by omega] using this
   ·obtain ⟨g4,h6⟩:=h5.keepOnly keep
    exact ⟨_,g4,h6,hq⟩)
  rw [hlen,← List.range_eq_range'] at this
  exact this
theorem ZpE {id:Nat} {G G':Exit→St→Prop} (hf:∀ e s,G e s→G' e s):∀ e s,Zdw id G e s→Zdw id G' e s:=by
 intro e s h
 cases e with
 | exit q =>
  have h:(if q=id then G .normal s else G (.exit q) s):=h
  show (if q=id then G' .normal s else G' (.exit q) s)
  by_cases e:q=id
  ·rw [if_pos e] at h ⊢;exact hf _ _ h
  ·rw [if_neg e] at h ⊢;exact hf _ _ h
 | normal=>exact hf _ _ h
 | ret=>exact hf _ _ h
 | goto l=>exact hf _ _ h
 | panic c=>exact hf _ _ h
 | outgrown=>exact hf _ _ h
theorem Znv:∀ (z bs:List Nat),z.Nodup→(∀ x ∈ z,x ∈ bs)→z.length≤bs.length
 | [],_,_,_=>Nat.zero_le _
 | x::z,bs,hn,hs=>by
  have hx:=hs x (by simp)
  have hn':=List.nodup_cons.1 hn
  have:=Znv z (bs.erase x) hn'.2 (fun y hy=>(List.mem_erase_of_ne (fun e=>by subst e;exact hn'.1 hy)).2 (hs y (by simp [hy])))
  rw [List.length_erase_of_mem hx] at this
  have hpos:=List.length_pos_of_mem hx
  simp only [List.length_cons]
  omega
theorem ZlJ {α:Type} (A:List α) (x y:α):(A++[x]).set A.length y=A++[y]:=by
 rw [List.set_append_right _ _ (Nat.le_refl _),Nat.sub_self];rfl
theorem Rel.itEnd {k:K0} {g:G} {fr0:List (Nat × AV)} {bx:List (Nat × List AV)} {H:List HO} {a:Act} {w:World} {id kn:Nat} {L:LC} {fr:List (Nat × AV)} {es:Ent} {bs:List Nat} {clock:Nat} {seen:List Nat} (hH:H[id]? = some (.lp L fr (.mp kn es)))
  (h:Rel k n g ⟨fr0,bx,hIt H id L fr kn es bs clock seen⟩ a w):Rel k n g ⟨fr0,bx,hEnd H⟩ a w:=by
 have hid:id<H.length:=(List.getElem?_eq_some_iff.1 hH).1
 have hm:(hIt H id L fr kn es bs clock seen)[id]? = some (.lp L fr (.mps kn es bs clock)):=by
  unfold hIt
  rw [List.getElem?_append_left (by simpa using hid),List.getElem?_set_self hid]
 obtain ⟨hmk,b,hb,hq⟩:=h.theMps hm
 obtain ⟨hok,hlen,ents,q1,q2,q3,q4,q5⟩:=hq
 have q1':w.heap[b]? = some (.map ents clock):=q1
 have h1:=h.setOb (o':=.map ents clock) (st':=.mp kn es) hm hb q1' (by simp) (by simp) (by simp) (fun hl=>by
  rw [Zd9 q1'] at hl ⊢
  exact .inr ⟨hmk,hok,hlen,ents,clock,q1',q2,q3,VRL.later hl _ _ (ZH hok) q4⟩)
 rw [Zd9 q1'] at h1
 have e1:(hIt H id L fr kn es bs clock seen).set id (.lp L fr (.mp kn es))=H++[.lp itL [] (.it id clock seen clock)]:=by
  unfold hIt
  rw [List.set_append_left _ _ (by simpa using hid),List.set_set]
  congr 1
  apply List.ext_getElem?
  intro j
  rw [List.getElem?_set]
  by_cases e:id=j
  ·subst e;rw [if_pos rfl,if_pos hid,hH]
  ·rw [if_neg e]
 simp only [e1] at h1
 have hj:(H++[HO.lp itL [] (.it id clock seen clock)])[H.length]? = some (.lp itL [] (.it id clock seen clock)):=by simp
 obtain ⟨b2,hb2,hq2⟩:=h1.heap H.length _ hj
 rcases hq2 with ⟨q,_⟩ | ⟨_,hq2⟩
 ·cases q
 ·obtain ⟨bm,L1,fr1,st1,i1,i2,i3⟩:=hq2
  have i3':w.heap[b2]? = some (.mapIter (some bm) clock seen.toArray clock):=i3
  have h2:=h1.setOb (o':=.mapIter (some bm) clock seen.toArray clock) (st':=.itd) hj hb2 i3' (by simp) (by simp) (by simp) (fun hl=>by
   rw [Zd9 i3']
   exact .inr ⟨rfl,_,_,_,_,i3'⟩)
  rw [Zd9 i3'] at h2
  simp only [ZlJ] at h2
  exact h2
def Zq8 (pre:List IOp) (d:Nat) (x:IX) (k1:List Nat) (out tn tm:Nat) (k2 k3 k4:List Nat) (nxt:Nat) (rest:IC):IC :=
 .seq (.reg (pre++⟨none,.sp (some d) .range [x],[],none⟩::[]) k1) (.block out (.loop (.seq (.reg ([]++⟨none,.sp (some tn) .next [.t d],[],none⟩::[⟨none,.val tm (.ext 0) [.t tn],[],none⟩]) k2)
  (.seq (.cond (.t tm) .skip (.kp k4 (.exit out))) (.kp k3 (.block nxt rest))))))
def Zfy (k1:List Nat) (s0:St) (d:Nat):List (Nat × AV):=ZkL k1 (put s0.fr d (.map s0.H.length))
def ZgF (k1:List Nat) (s0:St):List (Nat × List AV):=ZnE k1 s0.bx
def ZpS (k1 k2 k3:List Nat) (s0:St) (d tn tm:Nat) (H:List HO):St :=
 Zeu k3 (Zhf (.t tm) (Zeu k2 ⟨put (put (Zfy k1 s0 d) tn (.tup [.p (.bool true),.any,.any])) tm (.p (.bool true)),ZgF k1 s0,H⟩))
def ZpT (k1 k2 k4:List Nat) (s0:St) (d tn tm:Nat) (H:List HO):St :=
 Zeu k4 (Zhf (.t tm) (Zeu k2 ⟨put (put (Zfy k1 s0 d) tn (.tup [.p (.bool false)])) tm (.p (.bool false)),ZgF k1 s0,H⟩))
theorem Zqb {pre:List IOp} {d:Nat} {x:IX} {k1:List Nat} {out tn tm:Nat} {k2 k3 k4:List Nat} {nxt:Nat} {rest:IC} {s s0:St} {id kn:Nat} {L:LC} {fr:List (Nat × AV)} {es:Ent} (bad:Nat→Bool) {sF:List (Nat × AV)} {bF:List (Nat × List AV)}
  (hp:Za P pre s s0) (hx:ev s0.fr x = .map id) (hH:s0.H[id]? = some (.lp L fr (.mp kn es))) (hn:L.n=0) (hd:get (Zfy k1 s0 d) d = .map s0.H.length) (hk2:k2.elem tm=true) (hne:tn ≠ tm)
  (hbody:∀ i (p:List Int × AV),es[i]? = some p→∀ (bs:List Nat) (clock:Nat) (seen:List Nat) (y:Nat),bs[i]? = some y→vc P n rest (Zdw nxt fun e s'=>if bad i=true then e = .ret∧s'=⟨sF,bF,hIt s0.H id L fr kn es bs clock (seen++[y])⟩ else e = .normal∧s'=⟨Zfy k1 s0 d,ZgF k1 s0,hIt s0.H id L fr kn es bs clock (seen++[y])⟩)
   (ZpS k1 k2 k3 s0 d tn tm (hIt s0.H id L fr kn es bs clock (seen++[y]))))
  {Q:Exit→St→Prop} (hQ:if (List.range es.length).any bad=true then Q .ret ⟨sF,bF,hEnd s0.H⟩ else Q .normal (ZpT k1 k2 k4 s0 d tn tm (hEnd s0.H))):EvX P n (Zq8 pre d x k1 out tn tm k2 k3 k4 nxt rest) s Q:=by
 have hid:id<s0.H.length:=(List.getElem?_eq_some_iff.1 hH).1
 have main:EvI P n (Zq8 pre d x k1 out tn tm k2 k3 k4 nxt rest) s (fun e s'=>∃ bs clock seen,(if (List.range es.length).any bad=true then e = .ret∧s'=⟨sF,bF,hIt s0.H id L fr kn es bs clock seen⟩ else e = .normal∧s'=ZpT k1 k2 k4 s0 d tn tm (hIt s0.H id L fr kn es bs clock seen))):=by
  unfold Zq8
  refine EvI.seq2 (EvI.regND (fun s1=>∃ bs clock,ItOK es bs clock∧s1=⟨put s0.fr d (.map s0.H.length),s0.bx,hIt s0.H id L fr kn es bs clock []⟩) hp rfl (fun k g a w o h hc => ?_) ?_)
  ·obtain ⟨bs,clock,h1,h2⟩:=h.range (xs:=[x]) (by simpa only [ZaM] using hc) (by rw [List.map_cons,hx];rfl) hH hn
   exact ⟨_,⟨bs,clock,h1,rfl⟩,h2⟩
  rintro s1 ⟨bs,clock,hit,rfl⟩
  refine ⟨_,rfl,?_⟩
  show EvI P n _ ⟨Zfy k1 s0 d,ZgF k1 s0,hIt s0.H id L fr kn es bs clock []⟩ _
  refine EvI.block2 (EvI.loop2 (fun (seen:List Nat) s=>s=⟨Zfy k1 s0 d,ZgF k1 s0,hIt s0.H id L fr kn es bs clock seen⟩∧seen.Nodup∧(∀ y ∈ seen,y ∈ bs)∧∀ i y:Nat,bs[i]? = some y→y ∈ seen→bad i=false) (fun seen=>bs.length - seen.length) ?_ [] _ ⟨rfl,by simp,by simp,by simp⟩)
  rintro seen s ⟨rfl,hnd,hsub,hgood⟩
  have hm:(hIt s0.H id L fr kn es bs clock seen)[id]? = some (.lp L fr (.mps kn es bs clock)):=by
   unfold hIt
   rw [List.getElem?_append_left (by simpa using hid),List.getElem?_set_self hid]
  have hj:(hIt s0.H id L fr kn es bs clock seen)[s0.H.length]? = some (.lp itL [] (.it id clock seen clock)):=by
   unfold hIt
   rw [List.getElem?_append_right (by simp)];simp
  have hset:∀ y,(hIt s0.H id L fr kn es bs clock seen).set s0.H.length (.lp itL [] (.it id clock (seen++[y]) clock))=hIt s0.H id L fr kn es bs clock (seen++[y]):=fun y=>by
   unfold hIt
   simp
  refine EvI.seq2 (EvI.regND (fun s1=>((∀ y ∈ bs,y ∈ seen)∧s1=⟨put (Zfy k1 s0 d) tn (.tup [.p (.bool false)]),ZgF k1 s0,hIt s0.H id L fr kn es bs clock seen⟩) ∨
   ∃ i y:Nat,bs[i]? = some y∧y ∉ seen∧s1=⟨put (Zfy k1 s0 d) tn (.tup [.p (.bool true),.any,.any]),ZgF k1 s0,hIt s0.H id L fr kn es bs clock (seen++[y])⟩) (s0:=⟨Zfy k1 s0 d,ZgF k1 s0,hIt s0.H id L fr kn es bs clock seen⟩) rfl rfl (fun k g a w o h hc => ?_) ?_)
  ·rcases h.next (xs:=[.t d]) (by simpa only [ZaM] using hc) (by rw [List.map_cons];show [get (Zfy k1 s0 d) d]=_;rw [hd]) hm hj with ⟨h1,h2⟩ | ⟨i,hi,h1,h2⟩
   ·exact ⟨_,.inl ⟨h1,rfl⟩,h2⟩
   ·refine ⟨_,.inr ⟨i,bs[i],List.getElem?_eq_getElem hi,h1,rfl⟩,?_⟩
    have:=h2
    simp only [hset] at this
    exact this
  have hkeep:∀ (f:List (Nat × AV)) (b:List (Nat × List AV)) (H:List HO) (v:AV),get (ZkL k2 (put f tm v)) tm=v:=fun f b H v=>by
   rw [ZkS,hk2,if_pos rfl,Zao,if_pos rfl]
  rintro s1 (⟨hall,rfl⟩ | ⟨i,y,hi,hnew,rfl⟩)
  ·refine ⟨⟨put (put (Zfy k1 s0 d) tn (.tup [.p (.bool false)])) tm (.p (.bool false)),ZgF k1 s0,hIt s0.H id L fr kn es bs clock seen⟩,⟨_,⟨rfl,?_⟩,rfl⟩,?_⟩
   ·simp only [ZI,Z5,List.map_cons,List.map_nil,ev,Zao,if_true,Z7]
    rfl
   ·show EvI P n _ (Zeu k2 _) _
    refine Zt _ _ _ ?_
    refine sq ?_
    show (match get (ZkL k2 _) tm with | .p (.bool t)=>_ | _=>False)
    rw [hkeep _ [] []]
    simp only [Bool.false_eq_true,if_false]
    refine kq (xq (tx (tx (Eng.bx ?_))))
    refine ⟨bs,clock,seen,?_⟩
    rw [if_neg]
    ·exact ⟨rfl,rfl⟩
    ·rw [Bool.not_eq_true,Bool.eq_false_iff]
     intro hc
     obtain ⟨i,hi,hb⟩:=List.any_eq_true.1 hc
     have hlt:i<bs.length:=by rw [hit.len];exact List.mem_range.1 hi
     have:=hgood i bs[i] (List.getElem?_eq_getElem hlt) (hall _ (List.getElem_mem hlt))
     rw [this] at hb
     cases hb
  ·refine ⟨⟨put (put (Zfy k1 s0 d) tn (.tup [.p (.bool true),.any,.any])) tm (.p (.bool true)),ZgF k1 s0,hIt s0.H id L fr kn es bs clock (seen++[y])⟩,⟨_,⟨rfl,?_⟩,rfl⟩,?_⟩
   ·simp only [ZI,Z5,List.map_cons,List.map_nil,ev,Zao,if_true,Z7]
    rfl
   ·show EvI P n _ (Zeu k2 _) _
    have hib:i<es.length:=by
     have:=(List.getElem?_eq_some_iff.1 hi).1
     rw [hit.len] at this
     exact this
    refine Zt _ _ _ ?_
    refine sq ?_
    show (match get (ZkL k2 _) tm with | .p (.bool t)=>_ | _=>False)
    rw [hkeep _ [] []]
    simp only [if_true]
    show vc P n rest (Zdw nxt _) (ZpS k1 k2 k3 s0 d tn tm (hIt s0.H id L fr kn es bs clock (seen++[y])))
    refine Zcf rest ?_ (hbody i es[i] (List.getElem?_eq_getElem hib) bs clock seen y hi)
    have fin:∀ e s',(if bad i=true then e = .ret∧s'=⟨sF,bF,hIt s0.H id L fr kn es bs clock (seen++[y])⟩ else e = .normal∧s'=⟨Zfy k1 s0 d,ZgF k1 s0,hIt s0.H id L fr kn es bs clock (seen++[y])⟩) →
      ZhQ (fun s'=>∃ z:List Nat,(s'=⟨Zfy k1 s0 d,ZgF k1 s0,hIt s0.H id L fr kn es bs clock z⟩∧z.Nodup∧(∀ y ∈ z,y ∈ bs)∧∀ i y:Nat,bs[i]? = some y→y ∈ z→bad i=false)∧bs.length - z.length<bs.length - seen.length)
       (Zdw out fun e s'=>∃ bs clock seen,(if (List.range es.length).any bad=true then e = .ret∧s'=⟨sF,bF,hIt s0.H id L fr kn es bs clock seen⟩ else e = .normal∧s'=ZpT k1 k2 k4 s0 d tn tm (hIt s0.H id L fr kn es bs clock seen))) e s':=by
     intro e s' h
     by_cases hb:bad i=true
     ·rw [if_pos hb] at h
      obtain ⟨rfl,rfl⟩:=h
      show ∃ bs clock seen,_
      refine ⟨bs,clock,seen++[y],?_⟩
      rw [if_pos (List.any_eq_true.2 ⟨i,List.mem_range.2 hib,hb⟩)]
      exact ⟨rfl,rfl⟩
     ·rw [if_neg hb] at h
      obtain ⟨rfl,rfl⟩:=h
      have hnd':(seen++[y]).Nodup:=by
       rw [List.nodup_append]
       refine ⟨hnd,by simp,fun a ha b hb' => ?_⟩
       simp only [List.mem_singleton] at hb'
       subst hb'
       intro e;subst e;exact hnew ha
      have hsub':∀ z ∈ seen++[y],z ∈ bs:=fun z hz=>by
       rcases List.mem_append.1 hz with h | h
       ·exact hsub z h
       ·simp only [List.mem_singleton] at h;subst h;exact List.mem_of_getElem? hi
      have hle:(seen++[y]).length≤bs.length:=Znv _ _ hnd' hsub'
      refine ⟨seen++[y],⟨rfl,hnd',hsub',fun j z hj hz => ?_⟩,?_⟩
      ·rcases List.mem_append.1 hz with h | h
       ·exact hgood j z hj h
       ·simp only [List.mem_singleton] at h
        subst h
        have:i=j:=by
         obtain ⟨h1,e1⟩:=List.getElem?_eq_some_iff.1 hi
         obtain ⟨h2,e2⟩:=List.getElem?_eq_some_iff.1 hj
         exact (List.getElem_inj hit.nd).1 (e1.trans e2.symm)
        subst this
        simpa using hb
      ·rw [List.length_append,List.length_singleton] at hle ⊢
       omega
    exact ZpE fin
 by_cases hb:(List.range es.length).any bad=true
 ·rw [if_pos hb] at hQ
  refine ⟨.ret,_,?_,hQ⟩
  intro c hc k g a w hr
  refine wpIn_mono (main c hc k g a w hr) ?_
  rintro e a' w' ⟨s',g',h1,bs,clock,seen,h2⟩
  rw [if_pos hb] at h2
  obtain ⟨rfl,rfl⟩:=h2
  exact ⟨_,g',Rel.itEnd hH h1,rfl,rfl⟩
 ·rw [if_neg hb] at hQ
  refine ⟨.normal,_,?_,hQ⟩
  intro c hc k g a w hr
  refine wpIn_mono (main c hc k g a w hr) ?_
  rintro e a' w' ⟨s',g',h1,bs,clock,seen,h2⟩
  rw [if_neg hb] at h2
  obtain ⟨rfl,rfl⟩:=h2
  exact ⟨_,g',Rel.itEnd hH h1,rfl,rfl⟩
end
end Go.Eng

