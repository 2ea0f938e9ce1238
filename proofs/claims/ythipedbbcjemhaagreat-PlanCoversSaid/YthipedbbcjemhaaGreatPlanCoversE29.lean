/- Part of the proof; written by a program out of the texts in wip/. -/
import Derived.Test.YthipedbbcjemhaaGreatPlanCoversE28
import Derived.Laws.StructEq
set_option linter.unusedVariables false
set_option linter.unusedSimpArgs false
namespace Go.Eng
open Go Go.MapKept
abbrev Ent:=List (List Int × AV)
def Zhz (es:Ent) (ks:List Int):Option AV:=(es.find? (fun p=>decide (p.1=ks))).map (·.2)
def mset (es:Ent) (ks:List Int) (v:AV):Ent:=match es with
 | []=>[(ks,v)]
 | p::r=>if p.1=ks then (ks,v)::r else p::mset r ks v
def keyA (kn:Nat) (ks:List Int):AV:=if kn=0 then .p (.int .i64 (ks.headD 0)) else .agg (ks.map fun n=>.p (.int .i64 n))
def fEnt:Ent→List MapEntry→List Int→Nat→Option (Nat × Value)
 | p::es,e::ents,ks,i=>if p.1=ks then some (i,e.val) else fEnt es ents ks (i+1)
 | _,_,_,_=>none
theorem Zqg {c:Cx} {kn:Nat} {ks:List Int} {v:Value} (h:VR c (keyA kn ks) v):v=keyV kn ks:=by
 unfold keyA at h
 unfold keyV
 split at h
 ·rename_i e;rw [if_pos e];exact Zcd h
 ·rename_i e
  rw [if_neg e]
  rw [VR] at h
  obtain ⟨vs,rfl,h⟩:=h
  congr 1
  have:vs=ks.map (Value.int .i64):=by
   clear e
   induction ks generalizing vs with
   | nil=>rw [List.map_nil,VRL] at h;exact h
   | cons x xs ih =>
    rw [List.map_cons,VRL] at h
    obtain ⟨u,us,rfl,h1,h2⟩:=h
    rw [Zcd h1,ih us h2];rfl
  rw [this]
theorem ZjY {c:Cx}:∀ (ks:List Int),VRL c (ks.map fun n=>.p (.int .i64 n)) (ks.map (Value.int .i64))
 | []=>by simp [VRL]
 | x::xs=>by rw [List.map_cons,List.map_cons,VRL];exact ⟨_,_,rfl,Zc5 _ _,ZjY xs⟩
theorem Zjv:∀ (as bs:List Int),as.length=bs.length→∀ ks:List Bool,ks=as.map (fun _=>true) →
  Zbw ks (as.map fun n=>.p (.int .i64 n)) (bs.map fun n=>.p (.int .i64 n))=some (decide (as=bs))
 | [],[],_,ks,e=>by subst e;rfl
 | a::as,b::bs,h,ks,e=>by
  subst e
  have:=Zjv as bs (by simpa using h) _ rfl
  simp only [List.map_cons,Zbw,if_true,this,Option.map_some]
  congr 1
  by_cases h1:a=b<;>by_cases h2:as=bs<;>simp [h1,h2]
 | [],_::_,h,_,_=>by simp at h
 | _::_,[],h,_,_=>by simp at h
section
variable {P:Program}
theorem Zjs {w:World} {kk:IntKind}:∀ (es:Ent) (ents:List MapEntry) (ks:List Int) (i:Nat),ents.map (·.key)=es.map (fun p=>keyV 0 p.1)→(∀ p ∈ es,p.1.length=1)→ks.length=1 →
  Instr.findNow (.int kk) (keyV 0 ks) ents i=some (fEnt es ents ks i)
 | [],[],ks,i,_,_,_=>rfl
 | p::es,e::ents,ks,i,h,hl,hk=>by
  simp only [List.map_cons,List.cons.injEq] at h
  obtain ⟨x,hx⟩:=List.length_eq_one_iff.1 hk
  obtain ⟨y,hy⟩:=List.length_eq_one_iff.1 (hl p (by simp))
  have ih:=Zjs (w:=w) (kk:=kk) es ents ks (i+1) h.2 (fun q hq=>hl q (by simp [hq])) hk
  unfold Instr.findNow fEnt
  rw [h.1]
  subst hx
  rw [hy]
  simp only [keyV,if_true,List.headD_cons,Instr.sameNow]
  by_cases e1:y=x
  ·subst e1;simp
  ·have e2:(x==y)=false:=by simp [Ne.symm e1]
   have e3:¬ ([y]=[x]):=by simp [e1]
   rw [if_neg e3,e2]
   exact ih
 | [],_::_,_,_,h,_,_=>by simp at h
 | _::_,[],_,_,h,_,_=>by simp at h
theorem Zfz {w:World} {kt:TypeId} {kn:Nat} (h0:kn ≠ 0) {ks0:List Bool} (hq:eqOK P kt ks0=true) (hks:ks0.length=kn) (ht:∀ b ∈ ks0,b=true) :
  ∀ (es:Ent) (ents:List MapEntry) (ks:List Int) (i:Nat),ents.map (·.key)=es.map (fun p=>keyV kn p.1)→(∀ p ∈ es,p.1.length=kn)→ks.length=kn →
  (Instr.findAsking kt (keyV kn ks) ents i).run P w = .ok (fEnt es ents ks i) w
 | [],[],ks,i,_,_,_=>rfl
 | p::es,e::ents,ks,i,h,hl,hk=>by
  simp only [List.map_cons,List.cons.injEq] at h
  have ih:=Zfz (w:=w) h0 hq hks ht es ents ks (i+1) h.2 (fun q hq=>hl q (by simp [hq])) hk
  have hp:=hl p (by simp)
  have hks0:ks0=ks.map (fun _=>true):=by
   refine List.ext_getElem (by simp [hks,hk]) fun j h1 h2 => ?_
   simp [ht _ (List.getElem_mem h1)]
  have hrun:(Op.equal kt (keyV kn ks) (keyV kn p.1)).run P w = .ok (decide (ks=p.1)) w:=by
   simp only [keyV,if_neg h0]
   exact ZhH (c:=⟨fun _=>True,w,[],[],noB⟩) hq (Zjv ks p.1 (by rw [hk,hp]) ks0 hks0) (ZjY ks) (ZjY p.1)
  unfold Instr.findAsking fEnt
  rw [h.1]
  simp only [Sem.run_bind,hrun,Result.andThen_ok]
  by_cases e1:p.1=ks
  ·rw [if_pos e1];simp [e1]
  ·have e2:¬ ks=p.1:=fun e=>e1 e.symm
   rw [if_neg e1];simp only [e2,decide_false,Bool.false_eq_true,if_false];exact ih
 | [],_::_,_,_,h,_,_=>by simp at h
 | _::_,[],_,_,h,_,_=>by simp at h
theorem ZkK {kt:TypeId} {kn:Nat} (h:Zoh P kt kn=true):(kn=0∧∃ kk,P.underlying kt=some (.int kk)) ∨
  (kn ≠ 0∧∃ fs ks0,P.underlying kt=some (.struct fs)∧eqOK P kt ks0=true∧ks0.length=kn∧(∀ b ∈ ks0,b=true)∧ZcL P 0 fs.toList ks0=true):=by
 unfold Zoh at h
 split at h
 ·rename_i kk hu;exact .inl ⟨by simpa using h,kk,hu⟩
 ·rename_i fs hu
  simp only [Bool.and_eq_true,decide_eq_true_eq] at h
  obtain ⟨⟨⟨h1,h2⟩,_⟩,h3⟩:=h
  refine .inr ⟨h2,fs,_,hu,h3,by simp [h1],by simp,?_⟩
  simp only [eqOK,Bool.and_eq_true,hu] at h3
  exact h3.1.1
 ·cases h
theorem Zle {fs:Array Field} {a b:Value}:Instr.sameNow (.struct fs) a b=none:=by
 unfold Instr.sameNow;rfl
theorem ZhG {w:World} {kt:TypeId} {kn:Nat} (h:Zoh P kt kn=true) {es:Ent} {ents:List MapEntry} {ks:List Int} (he:ents.map (·.key)=es.map (fun p=>keyV kn p.1)) (hl:∀ p ∈ es,p.1.length=klen kn) (hk:ks.length=klen kn) :
  (Instr.findKey kt (keyV kn ks) ents).run P w = .ok (fEnt es ents ks 0) w:=by
 rcases ZkK h with ⟨rfl,kk,hu⟩ | ⟨h0,fs,ks0,hu,hq,hks,ht,_⟩
 ·unfold Instr.findKey
  simp only [Sem.run_bind,run_underlying hu,Result.andThen_ok,Zjs (w:=w) es ents ks 0 he hl hk]
  rfl
 ·have hkl:klen kn=kn:=by simp [klen,h0]
  rw [hkl] at hl hk
  have hask:=Zfz (w:=w) h0 hq hks ht es ents ks 0 he hl hk
  unfold Instr.findKey
  simp only [Sem.run_bind,run_underlying hu,Result.andThen_ok]
  cases ents with
  | nil =>
   cases es with
   | nil=>rfl
   | cons=>simp at he
  | cons e ents =>
   unfold Instr.findNow
   rw [Zle]
   exact hask
theorem Zk1 {w:World} {m:Nat} {b0:Bool}:∀ (fs:List Field) (ks0:List Bool) (off:Nat) (cs:Array Value) (ks:List Int),ZcL P off fs ks0=true→(∀ b ∈ ks0,b=true)→cs.toList.drop off=ks.map (Value.int .i64)→ks.length=ks0.length →
  (forIn fs PUnit.unit fun f (_:PUnit)=>(do
    if f.name ≠ "_" then
     let x ← part f.type cs f.offset
     Instr.checkKey b0 (m+1) f.type x
     pure (ForInStep.yield PUnit.unit)
    else pure (ForInStep.yield PUnit.unit):Sem _)).run P w = .ok PUnit.unit w
 | [],ks0,off,cs,ks,_,_,_,_=>rfl
 | f::fs,k::ks0,off,cs,x::ks,hf,ht,hc,hl=>by
  simp only [ZcL,Bool.and_eq_true,Bool.not_eq_true',decide_eq_true_eq,beq_eq_false_iff_ne] at hf
  obtain ⟨⟨⟨hn,ho⟩,hk⟩,hf⟩:=hf
  obtain rfl:k=true:=ht k (by simp)
  have hxo:cs[f.offset]? = some (.int .i64 x):=by
   have:=congrArg (·[0]?) hc
   simpa [ho] using this
  have hx':cs.toList.drop (off+1)=ks.map (Value.int .i64):=by
   have:=congrArg List.tail hc
   simpa using this
  have ih:=Zk1 (w:=w) (m:=m) (b0:=b0) fs ks0 (off+1) cs ks hf (fun b hb=>ht b (by simp [hb])) hx' (by simpa using hl)
  cases hty:P.underlying f.type with
  | none=>simp [hty] at hk
  | some T =>
   cases T<;>simp [hty] at hk
   rename_i kk
   have hpl:P.plainKey f.type=true:=by simp [Program.plainKey,hty]
   have h1:=run_part_plain (P:=P) w hpl hxo
   simp only [List.forIn_cons,Sem.run_bind,hn,ne_eq,not_false_eq_true,if_true,h1,Result.andThen_ok,Instr.checkKey,run_underlying hty,Sem.run_pure]
   exact ih
 | _::_,[],_,_,_,hf,_,_,_=>by simp [ZcL] at hf
 | _::_,_::_,_,_,[],_,_,_,hl=>by simp at hl
theorem ZgS {w:World} {kt:TypeId} {kn:Nat} (h:Zoh P kt kn=true) {ks:List Int} (hk:ks.length=klen kn) (b:Bool) (m:Nat) :
  (Instr.checkKey b (m+2) kt (keyV kn ks)).run P w = .ok () w:=by
 rcases ZkK h with ⟨rfl,kk,hu⟩ | ⟨h0,fs,ks0,hu,hq,hks,ht,hfl⟩
 ·simp [Instr.checkKey,run_underlying hu,keyV]
 ·have hkl:ks.length=ks0.length:=by rw [hk,hks];simp [klen,h0]
  have:=Zk1 (w:=w) (m:=m) (b0:=b) fs.toList ks0 0 (ks.map (Value.int .i64)).toArray ks hfl ht (by simp) hkl
  unfold Instr.checkKey
  simp only [Sem.run_bind,run_underlying hu,Result.andThen_ok,keyV,if_neg h0]
  rw [← Array.forIn_toList]
  simp only [ne_eq,ite_not,bind_pure_comp] at this ⊢
  rw [this]
  rfl
theorem Zrb {kn:Nat} {a b:List Int} (ha:a.length=klen kn) (hb:b.length=klen kn) (h:keyV kn a=keyV kn b):a=b:=by
 unfold keyV klen at *
 split at h
 ·rename_i e
  rw [if_pos e] at ha hb
  obtain ⟨x,rfl⟩:=List.length_eq_one_iff.1 ha
  obtain ⟨y,rfl⟩:=List.length_eq_one_iff.1 hb
  simpa using h
 ·simp only [Value.agg.injEq] at h
  have h2:=congrArg Array.toList h
  simp only [List.toList_toArray] at h2
  refine List.map_inj_right (fun x y e => ?_) |>.1 h2
  simpa using e
theorem Zid:∀ (ks:List Int) (n:Nat),((ks.map (Value.int .i64)).zip (ks.map (Value.int .i64))).all (fun (x,y)=>Instr.sameBits n x y)=true
 | [],_=>rfl
 | x::xs,n=>by
  simp only [List.map_cons,List.zip_cons_cons,List.all_cons,Bool.and_eq_true]
  exact ⟨by simp [Instr.sameBits],Zid xs n⟩
theorem Znc (kn:Nat) (ks:List Int) (n:Nat):Instr.sameBits (n+1) (keyV kn ks) (keyV kn ks)=true:=by
 unfold keyV
 split
 ·simp [Instr.sameBits]
 ·have:=Zid ks n
  simp only [Instr.sameBits,beq_self_eq_true,Bool.true_and,List.toList_toArray]
  exact this
theorem Znd {w:World} (kn:Nat) (ks:List Int):(Instr.keyThatStays (keyV kn ks) (keyV kn ks)).run P w = .ok (keyV kn ks) w:=by
 simp [Instr.keyThatStays,Znc kn ks 9999]
theorem ZkX {c:Cx}:∀ {es:Ent} {ents:List MapEntry} {ks:List Int} {i:Nat},es.length=ents.length→fEnt es ents ks i=none→Zhz es ks=none∧(∀ p ∈ es,p.1 ≠ ks)∧∀ v,mset es ks v=es++[(ks,v)]
 | [],[],ks,i,_,_=>⟨rfl,by simp,fun _=>rfl⟩
 | p::es,e::ents,ks,i,hl,h=>by
  unfold fEnt at h
  split at h
  ·cases h
  ·rename_i hne
   obtain ⟨h1,h2,h3⟩:=ZkX (c:=c) (es:=es) (ents:=ents) (by simpa using hl) h
   refine ⟨?_,?_,fun v => ?_⟩
   ·simp only [Zhz,List.find?_cons,hne,decide_false] at h1 ⊢;exact h1
   ·intro q hq
    rcases List.mem_cons.1 hq with rfl | hq
    ·exact hne
    ·exact h2 q hq
   ·simp only [mset,if_neg hne,h3 v,List.cons_append]
 | [],_::_,_,_,hl,_=>by simp at hl
 | _::_,[],_,_,hl,_=>by simp at hl
theorem ZkW {c:Cx}:∀ {es:Ent} {ents:List MapEntry} {ks:List Int} {i j:Nat} {u:Value},VRL c (es.map (·.2)) (ents.map (·.val))→fEnt es ents ks i=some (j,u) →
  ∃ x q e,Zhz es ks=some x∧VR c x u∧j=i+q∧es[q]? = some (ks,x)∧ents[q]? = some e∧∀ v,mset es ks v=es.set q (ks,v)
 | p::es,e::ents,ks,i,j,u,hv,h=>by
  simp only [List.map_cons] at hv
  rw [VRL] at hv
  obtain ⟨u0,us,e1,hv1,hv2⟩:=hv
  simp only [List.cons.injEq] at e1
  obtain ⟨rfl,rfl⟩:=e1
  unfold fEnt at h
  split at h
  ·rename_i hp
   simp only [Option.some.injEq,Prod.mk.injEq] at h
   obtain ⟨rfl,rfl⟩:=h
   refine ⟨p.2,0,e,?_,hv1,rfl,?_,rfl,fun v => ?_⟩
   ·simp [Zhz,List.find?_cons,hp]
   ·simp [← hp]
   ·simp [mset,hp]
  ·rename_i hp
   obtain ⟨x,q,e',h1,h2,h3,h4,h5,h6⟩:=ZkW (es:=es) (ents:=ents) hv2 h
   refine ⟨x,q+1,e',?_,h2,by omega,by simpa using h4,by simpa using h5,fun v => ?_⟩
   ·simp only [Zhz,List.find?_cons,hp,decide_false] at h1 ⊢;exact h1
   ·simp [mset,hp,h6 v]
 | [],_,_,_,_,_,_,h=>by simp [fEnt] at h
 | _::_,[],_,_,_,_,_,h=>by simp [fEnt] at h
theorem Zq5 {kn:Nat} {es:Ent} {ks:List Int} {v:AV} (h:∀ p ∈ es,p.1.length=klen kn) (hk:ks.length=klen kn):∀ p ∈ mset es ks v,p.1.length=klen kn:=by
 induction es with
 | nil=>simpa [mset] using hk
 | cons p r ih =>
  unfold mset
  intro q hq
  split at hq
  ·rcases List.mem_cons.1 hq with rfl | hq
   ·exact hk
   ·exact h q (by simp [hq])
  ·rcases List.mem_cons.1 hq with rfl | hq
   ·exact h _ (by simp)
   ·exact ih (fun p hp=>h p (by simp [hp])) q hq
theorem mset_ok {es:Ent} {ks:List Int} {v:AV} (h:ZO (es.map (·.2))=true) (hv:ZcQ v=true):ZO ((mset es ks v).map (·.2))=true:=by
 induction es with
 | nil=>simp [mset,ZO,hv]
 | cons p r ih =>
  simp only [List.map_cons,ZO,Bool.and_eq_true] at h
  unfold mset
  split
  ·simp only [List.map_cons,ZO,hv,h.2,Bool.and_self]
  ·simp only [List.map_cons,ZO,h.1,ih h.2,Bool.and_self]
def mapL:LC:=⟨[],0,fun _ _=>True,true⟩
end
section
variable {P:Program} {k:K0} {n:Nat} {g:G} {s:St} {a:Act} {w:World}
theorem Rel.setMp (h:Rel k n g s a w) {id l:Nat} {L:LC} {fr:List (Nat × AV)} {st st':LS} {es:Array MapEntry} {m:Nat} {o':Obj} (hH:s.H[id]? = some (.lp L fr st)) (hρ:g.ρ[id]? = some l) (hr:w.heap[l]? = some (.map es m))
  (ho:Zam (cx k g s.H w) (cx k g (s.H.set id (.lp L fr st')) (w.putObj l o'))→HoR (cx k g (s.H.set id (.lp L fr st')) (w.putObj l o')) l (.lp L fr st')) :
  Rel k n g ⟨s.fr,s.bx,s.H.set id (.lp L fr st')⟩ a (w.putObj l o'):=by
 have u:Off w (w.putObj l o') l:=.put _ (fun vs e f h=>by rw [hr] at h;cases h)
 have hget:=getElem?_set' (y:=HO.lp L fr st') hH
 have hlt:l<w.heap.size:=(Array.getElem?_eq_some_iff.1 hr).1
 have hl:Zam (cx k g s.H w) (cx k g (s.H.set id (.lp L fr st')) (w.putObj l o')) :=
  {stay:=fun a x ho hc=>by
    refine ⟨u.cell hc,ho.1,ho.2.1,fun j hj => ?_⟩
    obtain ⟨sz,ver,rows,h1,h2⟩:=ho.2.2 j hj
    refine ⟨sz,ver,rows,?_,h2⟩
    rw [hget,if_neg (fun e=>by subst e;rw [hH] at h1;cases h1)]
    exact h1
   arr:=fun j sz ver frz rows e=>by
    have e':s.H[j]? = some (.arr sz ver frz rows):=e
    refine ⟨ver,frz,rows,?_,Nat.le_refl _,fun _=>⟨Nat.le_refl _,rfl,fun b vs _ hb=>⟨vs,u.blk hb,rfl⟩⟩⟩
    show (s.H.set id _)[j]? = _
    rw [hget,if_neg (fun e1=>by subst e1;rw [hH] at e';cases e')];exact e'
   cells:=fun j cs e=>by
    have e':s.H[j]? = some (.cells cs):=e
    refine ⟨⟨cs,?_⟩,rfl⟩
    show (s.H.set id _)[j]? = _
    rw [hget,if_neg (fun e1=>by subst e1;rw [hH] at e';cases e')];exact e'
   lp:=fun j L' fr' st1 e=>by
    have e':s.H[j]? = some (.lp L' fr' st1):=e
    refine ⟨?_,rfl⟩
    by_cases hj:id=j
    ·subst hj
     rw [hH] at e'
     cases e'
     exact ⟨st',by show (s.H.set id _)[id]? = _;rw [hget,if_pos rfl]⟩
    ·exact ⟨st1,by show (s.H.set id _)[j]? = _;rw [hget,if_neg hj];exact e'⟩ }
 have hobj:∀ b,b ≠ l→∀ o,w.heap[b]? = some o→(w.putObj l o').heap[b]? = some o:=fun b hb o ho=>(u.block b hb).trans ho
 exact
  {defers:=h.defers.mono fun D _ hD=>hobj D (fun e=>by subst e;rw [hr] at hD;cases hD) _ hD
   rnd:=fun l' hl'=>by
    obtain ⟨r1,h1⟩:=h.rnd l' hl'
    exact ⟨r1,hobj l' (fun e=>by subst e;rw [hr] at h1;cases h1) _ h1⟩
   tsz:=h.tsz
   slots:=fun t=>Zau hl (fun _ _ e=>e) (h.tops t) (h.slots t)
   tops:=h.tops
   boxes:=fun t cs e=>let ⟨b,hb,hr'⟩:=h.boxes t cs e; ⟨b,hb,hr'.later hl (hobj b (fun e=>by
    subst e;obtain ⟨_,vs,⟨et,hr'⟩,_⟩:=hr';rw [show w.heap[b]? = _ from hr'] at hr;cases hr))⟩
   boxed:=h.boxed
   heap:=fun j o e=>by
    simp only [hget] at e
    by_cases hj:id=j
    ·subst hj
     simp only [if_true,Option.some.injEq] at e
     subst e
     exact ⟨l,hρ,ho hl⟩
    ·simp only [hj,if_false] at e
     obtain ⟨b,hb,hr'⟩:=h.heap j o e
     exact ⟨b,hb,hr'.later hl (hobj b (fun e=>hj (h.inj id j l hρ (by rw [← e];exact hb))))⟩
   len:=by simp [h.len]
   inj:=h.inj
   binj:=h.binj
   apart:=h.apart
   own:=h.own
   keep:=h.keep.off u (h.own id l hρ)
   hist:=h.hist.trans hl }
theorem ZpU {q:SpK} {s s':St} {d:Option Nat} {xs:List IX} {v:AV} {H':List HO} (hv:ZX v=true)
  (h:∀ (k:K0) (n:Nat) (g:G) (t:St) (a:Act) (w:World) (o:Oper) (d:Option Nat) (ys:List IX),ys.map (ev t.fr)=xs.map (ev s.fr)→t.H=s.H→Rel k n g t a w→Zja P n o d q ys=true→Did P k n ⟨Eng.putO t.fr d v,t.bx,H'⟩ a w o)
  (hs:s'=⟨Eng.putO s.fr d v,s.bx,H'⟩):ZI P (.sp d q xs) s s':=⟨v,H',⟨hv,h⟩,hs⟩
theorem ZkE (h:Rel k n g s a w) {X:List Operand} {xs:List IX} {ys:List AV} (hm:Z3 X xs=true) (he:xs.map (ev s.fr)=ys):VRL (cx k g s.H w) ys (X.map a.eval):=by
 rw [← he];exact ZQ h hm
theorem ZqQ {s s':St} {d:Option Nat} (kn:Nat) (hs:s'=⟨Eng.putO s.fr d (.map s.H.length),s.bx,s.H++[.lp mapL [] (.mp kn [])]⟩):ZI P (.sp d .mkMap []) s s':=by
 refine ZpU rfl ?_ hs
 intro k n g t a w o d ys _ hH h hc
 rw [← hH]
 simp only [Zja,Bool.and_eq_true,decide_eq_true_eq] at hc
 obtain ⟨⟨hd,hdn⟩,hc⟩:=hc
 split at hc
 ·rename_i ty hop
  have ho:HoR (cx k ⟨g.ρ++[w.heap.size],g.β⟩ (t.H++[.lp mapL [] (.mp kn [])]) (w.alloc (.map #[] 0))) w.heap.size (.lp mapL [] (.mp kn [])) :=
   .inr ⟨rfl,rfl,(by simp),#[],0,World.alloc_heap_new w _,stamped_empty 0,rfl,(by simp [VRL])⟩
  obtain ⟨h1,hl⟩:=h.newObjG (o:=.lp mapL [] (.mp kn [])) (.map #[] 0) ho
  refine ⟨.map (some w.heap.size),w.alloc (.map #[] 0),⟨g.ρ++[w.heap.size],g.β⟩,.inl ?_,?_⟩
  ·simp [execOp,hop,Instr.makeMap]
  rw [hd]
  refine h1.putO hdn ?_ rfl
  rw [VR]
  refine ⟨mapL,[],.mp kn [],w.heap.size,?_,rfl,?_,rfl⟩
  ·show (t.H++[_])[t.H.length]? = _;simp
  ·show (g.ρ++[_])[t.H.length]? = _;rw [← h.len];simp
 ·cases hc
def mres (ok:Bool) (es:Ent) (ks:List Int) (zero:AV):AV:=if ok then .tup [(Zhz es ks).getD zero,.p (.bool (Zhz es ks).isSome)] else (Zhz es ks).getD zero
theorem Rel.theMp (h:Rel k n g s a w) {id:Nat} {L:LC} {fr:List (Nat × AV)} {kn:Nat} {es:Ent} (hH:s.H[id]? = some (.lp L fr (.mp kn es))) {v:Value} (hv:VR (cx k g s.H w) (.map id) v) (hn:L.n=0) :
  L.mpk=true∧∃ b,g.ρ[id]? = some b∧v = .map (some b)∧MpR (cx k g s.H w) b (.mp kn es):=by
 rw [VR] at hv
 obtain ⟨L',fr',st',b,h1,h2,h3,h4⟩:=hv
 have h1':s.H[id]? = some (.lp L' fr' st'):=h1
 rw [hH] at h1'
 cases h1'
 obtain ⟨b',hb',hq⟩:=h.heap id _ hH
 have h3':g.ρ[id]? = some b:=h3
 rw [h3'] at hb'
 cases hb'
 rcases hq with ⟨q,_⟩ | ⟨_,q⟩
 ·rw [h2] at q;cases q
 ·exact ⟨h2,b,h3',by rw [h4,mapV,if_pos hn],q⟩
theorem Zm8 {s s':St} {d:Option Nat} {xs:List IX} {id kn:Nat} {L:LC} {fr:List (Nat × AV)} {es:Ent} {ks:List Int} {ok:Bool} {zero r:AV} (hy:xs.map (ev s.fr)=[.map id,keyA kn ks])
  (hH:s.H[id]? = some (.lp L fr (.mp kn es))) (hk:ks.length=klen kn) (hr:r=mres ok es ks zero) (hno:ZX r=true) (hs:s'=⟨Eng.putO s.fr d r,s.bx,s.H⟩) (hn:L.n=0:=by rfl):ZI P (.sp d (.mapGet kn ok zero) xs) s s':=by
 refine ZpU hno ?_ hs
 intro k n g t a w o d ys hys hHt h hc
 rw [hy] at hys
 rw [← hHt] at hH ⊢
 simp only [Zja,Bool.and_eq_true,decide_eq_true_eq] at hc
 obtain ⟨⟨hd,hdn⟩,hc⟩:=hc
 split at hc
 ·rename_i ty X Y ok' hop
  simp only [Bool.and_eq_true,decide_eq_true_eq] at hc
  obtain ⟨⟨rfl,hty⟩,hm⟩:=hc
  split at hty
  ·rename_i kt et hu
   simp only [Bool.and_eq_true] at hty
   obtain ⟨hkey,hz⟩:=hty
   obtain ⟨u1,u2,e,v1,v2⟩:=ZeG (ZkE h hm hys)
   simp only [List.map_cons,List.map_nil,List.cons.injEq,and_true] at e
   have e2:=Zqg v2
   obtain ⟨_,b,hb,e1,hok,hlen,ents,clock,q1,q2,q3,q4⟩:=h.theMp hH v1 hn
   have hz':∃ z,(zeroValue et).run P w = .ok z w∧VR (cx k g t.H w) zero z:=by
    split at hz
    ·rename_i i hi
     split at hz
     ·rename_i z hz0
      exact ⟨z,by simp [zeroValue,typeInfo,hi,hz0],(Zhw hz).1⟩
     ·cases hz
    ·cases hz
   obtain ⟨z,hz1,hz2⟩:=hz'
   have hgo:(getObj b).run P w = .ok (.map ents clock) w:=MapKept.run_getObj_map (w:=w) q1
   have hck:=ZgS (w:=w) hkey hk ents.isEmpty 9998
   have hfk:=ZhG (w:=w) hkey q3 hlen hk
   have hrun:∀ u:Value,u=(match fEnt es ents.toList ks 0 with
     | some (_,v)=>if ok then Value.tuple #[v,.bool true] else v
     | none=>if ok then Value.tuple #[z,.bool false] else z)→(execOp a.eval o).run P w = .ok (.value u) w:=by
    intro u hu'
    simp only [execOp,hop,e.1,e.2,e1,e2,Instr.lookup,Sem.run_bind,run_underlying hu,Result.andThen_ok,hgo,hck,hfk,Sem.run_pure]
    subst hu'
    cases hf:fEnt es ents.toList ks 0 with
    | none=>cases ok<;>simp [hz1]
    | some p=>cases ok<;>simp
   have hlen2:es.length=ents.toList.length:=by
    have:=congrArg List.length q3
    simpa using this.symm
   refine ⟨_,w,g,.inl (hrun _ rfl),?_⟩
   rw [hd]
   refine h.putO hdn ?_ (ZM hno)
   subst hr
   cases hf:fEnt es ents.toList ks 0 with
   | none =>
    obtain ⟨m1,_,_⟩:=ZkX (c:=cx k g t.H w) hlen2 hf
    unfold mres
    rw [m1]
    cases ok
    ·exact hz2
    ·simp only [if_true]
     rw [VR]
     exact ⟨[z,.bool false],rfl,by rw [VRL];exact ⟨_,_,rfl,hz2,by rw [VRL];exact ⟨_,_,rfl,Zdk _,by rw [VRL]⟩⟩⟩
   | some p =>
    obtain ⟨j,u⟩:=p
    obtain ⟨x,q,e',m1,m2,_⟩:=ZkW q4 hf
    unfold mres
    rw [m1]
    cases ok
    ·exact m2
    ·simp only [if_true]
     rw [VR]
     exact ⟨[u,.bool true],rfl,by rw [VRL];exact ⟨_,_,rfl,m2,by rw [VRL];exact ⟨_,_,rfl,Zdk _,by rw [VRL]⟩⟩⟩
  ·cases hty
 ·cases hc
theorem ZqC {c:Cx}:∀ {xs:List AV} {us:List Value} (q:Nat) {x:AV} {u:Value},VRL c xs us→VR c x u→VRL c (xs.set q x) (us.set q u)
 | [],us,q,x,u,h,_=>by rw [VRL] at h;subst h;simp [VRL]
 | y::ys,us,q,x,u,h,hx=>by
  rw [VRL] at h
  obtain ⟨v,vs,rfl,h1,h2⟩:=h
  cases q with
  | zero=>rw [List.set_cons_zero,List.set_cons_zero,VRL];exact ⟨_,_,rfl,hx,h2⟩
  | succ q=>rw [List.set_cons_succ,List.set_cons_succ,VRL];exact ⟨_,_,rfl,h1,ZqC q h2 hx⟩
theorem ZmG {α:Type} (f:α→α) (y:α) (es:Array α) (q:Nat) (hq:∀ e,es[q]? = some e→f e=y):(es.modify q f).toList=es.toList.set q y:=by
 apply List.ext_getElem?
 intro j
 rw [List.getElem?_set,Array.getElem?_toList,Array.getElem?_modify,Array.getElem?_toList]
 by_cases e:q=j
 ·subst e
  simp only [if_true]
  by_cases hlt:q<es.size
  ·have:=hq es[q] (Array.getElem?_eq_getElem hlt)
   simp [hlt,this]
  ·simp [hlt]
 ·simp [e]
theorem Zm7 {s s':St} {xs:List IX} {id kn:Nat} {L:LC} {fr:List (Nat × AV)} {es:Ent} {ks:List Int} {v:AV} (hy:xs.map (ev s.fr)=[.map id,keyA kn ks,v])
  (hH:s.H[id]? = some (.lp L fr (.mp kn es))) (hk:ks.length=klen kn) (hok:ZcQ v=true) (hs:s'=⟨s.fr,s.bx,s.H.set id (.lp L fr (.mp kn (mset es ks v)))⟩) (hn:L.n=0:=by rfl):ZI P (.sp none (.mapSet kn) xs) s s':=by
 refine ZpU (v:=.any) (d:=none) rfl ?_ hs
 intro k n g t a w o d ys hys hHt h hc
 rw [hy] at hys
 rw [← hHt] at hH ⊢
 simp only [Zja,Bool.and_eq_true,decide_eq_true_eq] at hc
 obtain ⟨⟨hd,hdn⟩,hc⟩:=hc
 have main:∀ (ty:TypeId) (X Y Z:Operand),((execOp a.eval o)=(do Instr.mapUpdate ty (a.eval X) (a.eval Y) (a.eval Z);pure .skip)) →
   ((match P.underlying ty with | some (.map kt _)=>Zoh P kt kn | _=>false)&&Z3 [X,Y,Z] ys)=true→Did P k n ⟨Eng.putO t.fr d .any,t.bx,t.H.set id (.lp L fr (.mp kn (mset es ks v)))⟩ a w o:=by
  intro ty X Y Z hop hc
  simp only [Bool.and_eq_true] at hc
  obtain ⟨hty,hm⟩:=hc
  split at hty
  ·rename_i kt et hu
   obtain ⟨u1,u2,u3,e,v1,v2,v3⟩:=Ziz (ZkE h hm hys)
   simp only [List.map_cons,List.map_nil,List.cons.injEq,and_true] at e
   have e2:=Zqg v2
   obtain ⟨hmk,b,hb,e1,hokc,hlen,ents,clock,q1,q2,q3,q4⟩:=h.theMp hH v1 hn
   have q1':w.heap[b]? = some (.map ents clock):=q1
   have hgo:(getObj b).run P w = .ok (.map ents clock) w:=MapKept.run_getObj_map (w:=w) q1
   have hck:=ZgS (w:=w) hty hk false 9998
   have hfk:=ZhG (w:=w) hty q3 hlen hk
   have hlen2:es.length=ents.toList.length:=by
    have:=congrArg List.length q3
    simpa using this.symm
   have hlt:b<w.heap.size:=(Array.getElem?_eq_some_iff.1 q1').1
   have fin:∀ (ents':Array MapEntry) (clock':Nat),(execOp a.eval o).run P w = .ok .skip (w.putObj b (.map ents' clock'))→Stamped ents' clock'→ents'.toList.map (·.key)=(mset es ks v).map (fun p=>keyV kn p.1) →
     VRL (cx k g t.H w) ((mset es ks v).map (·.2)) (ents'.toList.map (·.val))→Did P k n ⟨Eng.putO t.fr d .any,t.bx,t.H.set id (.lp L fr (.mp kn (mset es ks v)))⟩ a w o:=by
    intro ents' clock' hrun hst hkeys hvals
    have hokm:=mset_ok (ks:=ks) hokc hok
    have h1:=h.setMp (o':=.map ents' clock') (st':=.mp kn (mset es ks v)) hH hb q1' (fun hl=>.inr ⟨hmk,hokm,Zq5 hlen hk,ents',clock',World.putObj_heap_same hlt,hst,hkeys,VRL.later hl _ _ (ZH hokm) hvals⟩)
    refine ⟨undef,_,g,.inr ⟨hrun,rfl⟩,?_⟩
    rw [hd]
    exact h1.putO hdn (by simp [VR]) rfl
   cases hf:fEnt es ents.toList ks 0 with
   | none =>
    obtain ⟨_,m2,m3⟩:=ZkX (c:=cx k g t.H w) hlen2 hf
    refine fin (ents.push { key:=keyV kn ks,val:=u3,born:=clock }) (clock+1) ?_ (stamped_push q2 fun x hx e3 => ?_) ?_ ?_
    ·rw [hop]
     simp only [e.1,e.2.1,e.2.2,e1,e2,Instr.mapUpdate,Sem.run_bind,run_underlying hu,Result.andThen_ok,hgo,hck,hfk,hf,run_setObj_map _ q1',Sem.run_pure]
     rfl
    ·obtain ⟨i,hi,e4⟩:=List.getElem_of_mem hx
     have e5:(ents.toList.map (·.key))[i]? = some (keyV kn ks):=by rw [List.getElem?_map,List.getElem?_eq_getElem hi,Option.map_some,e4,e3]
     rw [q3,List.getElem?_map] at e5
     cases e6:es[i]? with
     | none=>rw [e6] at e5;cases e5
     | some p =>
      rw [e6,Option.map_some,Option.some.injEq] at e5
      have hp:=List.mem_of_getElem? e6
      exact m2 p hp (Zrb (hlen p hp) hk e5)
    ·rw [m3];simp [q3]
    ·rw [m3]
     simp only [List.map_append,List.map_cons,List.map_nil,Array.toList_push]
     exact Zf3 q4 (by rw [VRL];exact ⟨_,_,rfl,v3,by rw [VRL]⟩)
   | some p =>
    obtain ⟨j,u⟩:=p
    obtain ⟨x,q,e',m1,m2,m3,m4,m5,m6⟩:=ZkW q4 hf
    have hj:j=q:=by omega
    subst hj
    have m5':ents[j]? = some e':=by rw [← Array.getElem?_toList];exact m5
    have hkey:e'.key=keyV kn ks:=by
     have e5:(ents.toList.map (·.key))[j]? = some e'.key:=by rw [List.getElem?_map,m5,Option.map_some]
     rw [q3,List.getElem?_map,m4,Option.map_some,Option.some.injEq] at e5
     exact e5.symm
    have hmod:(ents.modify j fun e=>{ e with key:=keyV kn ks,val:=u3 }).toList=ents.toList.set j { e' with key:=keyV kn ks,val:=u3 } :=
     ZmG _ _ _ _ (fun e0 he0=>by rw [m5'] at he0;cases he0;rfl)
    refine fin (ents.modify j fun e=>{ e with key:=keyV kn ks,val:=u3 }) clock ?_ (stamped_modify q2 _ _ (fun _ _=>rfl) (fun e0 _ he0=>by rw [m5'] at he0;cases he0;exact hkey.symm)) ?_ ?_
    ·rw [hop]
     simp only [e.1,e.2.1,e.2.2,e1,e2,Instr.mapUpdate,Sem.run_bind,run_underlying hu,Result.andThen_ok,hgo,hck,hfk,hf,m5',Option.map_some,Option.getD_some,hkey,Znd,run_setObj_map _ q1',Sem.run_pure]
     rfl
    ·rw [hmod,m6,List.map_set,List.map_set,q3]
    ·rw [hmod,m6,List.map_set,List.map_set]
     exact ZqC j q4 v3
  ·cases hty
 split at hc
 ·rename_i ty X Y Z hop
  exact main ty X Y Z (by simp [execOp,hop]) hc
 ·rename_i ty X Y Z hop
  exact main ty X Y Z (by simp [execOp,hop]) hc
 ·cases hc
end
end Go.Eng

