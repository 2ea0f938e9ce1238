/- Part of the proof; written by a program out of the texts in wip/. -/
import Derived.Test.YthipedbbcjemhaaGreatPlanCoversE2
import Derived.MapKept
set_option linter.unusedVariables false
set_option linter.unusedSimpArgs false
namespace Go.Eng
open Go
structure K0 where
 ok0:Addr→Prop
 w0:World
 D:Nat→Prop
 ρ0:List Nat
 H0:List HO
 rd:Option Nat
structure G where
 ρ:List Nat
 β:Nat→Option Nat
def okOf (k:K0) (H:List HO) (g:G) (a:Addr):Prop :=
 (k.ok0 a∨k.w0.heap.size≤a.block∨k.D a.block)∧(∀ t,g.β t ≠ some a.block) ∧
 ∀ (id:Nat),g.ρ[id]? = some a.block→∃ sz ver rows,H[id]? = some (.arr sz ver true rows)∧a.off<rows.length * sz
def cx (k:K0) (g:G) (H:List HO) (w:World):Cx:=⟨okOf k H g,w,H,g.ρ,g.β⟩
def BoxR (c:Cx) (b:Nat) (cs:List AV):Prop:=ZO cs=true∧∃ vs,c.blk b vs∧VRL c cs vs.toList
def ArrR (c:Cx) (b sz:Nat) (rows:List (List PC)):Prop :=
 ∃ vs,c.blk b vs∧rows.length * sz≤vs.size∧∀ (i:Nat) r,rows[i]? = some r→r.length=sz∧∀ (j:Nat) x,r[j]? = some x→∃ u,vs[i * sz+j]? = some u∧PR c.ok c.w x u
def StR:LS→Loop→Prop
 | .ready,r=>r.state = .ready∧r.pending=none
 | .busy,r=>r.state = .busy
 | .dead,_=>True
 | .done c,r=>r.state = .done∧r.pending=some c
 | .mp ..,_=>False
 | .mps ..,_=>False
 | .it ..,_=>False
 | .itd,_=>False
def keyV (kn:Nat) (ks:List Int):Value:=if kn=0 then .int .i64 (ks.headD 0) else .agg (ks.map (Value.int .i64)).toArray
def klen (kn:Nat):Nat:=if kn=0 then 1 else kn
def MpR (c:Cx) (b:Nat):LS→Prop
 | .mp ka es=>ZO (es.map (·.2))=true∧(∀ p ∈ es,p.1.length=klen ka)∧∃ ents clock,c.w.heap[b]? = some (.map ents clock)∧MapKept.Stamped ents clock ∧
   ents.toList.map (·.key)=es.map (fun p=>keyV ka p.1)∧VRL c (es.map (·.2)) (ents.toList.map (·.val))
 | .mps ka es bs clock=>ZO (es.map (·.2))=true∧(∀ p ∈ es,p.1.length=klen ka)∧∃ ents,c.w.heap[b]? = some (.map ents clock)∧MapKept.Stamped ents clock ∧
   ents.toList.map (·.key)=es.map (fun p=>keyV ka p.1)∧VRL c (es.map (·.2)) (ents.toList.map (·.val))∧ents.toList.map (·.born)=bs
 | .it m since seen last=>∃ bm L fr st,c.H[m]? = some (.lp L fr st)∧c.ρ[m]? = some bm∧c.w.heap[b]? = some (.mapIter (some bm) since seen.toArray last)
 | .itd=>∃ m x y z,c.w.heap[b]? = some (.mapIter m x y z)
 | _=>False
def LpR (c:Cx) (b:Nat) (L:LC) (fr:List (Nat × AV)) (st:LS):Prop :=
 (∀ t,ZX (get fr t)=true)∧∃ r:Loop,c.w.heap[b]? = some (.loop r)∧r.params.toList=L.ps∧L.ok r.assign r.body∧r.tmps.size=L.n ∧
  (∀ t,VR c (get fr t) (r.tmps.getD t undef))∧StR st r
def HoR (c:Cx) (b:Nat):HO→Prop
 | .lp L fr st=>(L.mpk=false∧LpR c b L fr st)∨(L.mpk=true∧MpR c b st)
 | .arr sz _ _ rows=>ArrR c b sz rows
 | .cells cs=>BoxR c b cs
def top:AV→Bool
 | .loc .. => true
 | v=>ZX v
structure Keep (D:Nat→Prop) (w w':World):Prop where
 os:w'.os=w.os
 tape:w'.tape=w.tape
 output:w'.output=w.output
 size:w.heap.size≤w'.heap.size
 block:∀ k,k<w.heap.size→¬ D k→w'.heap[k]? = w.heap[k]?
theorem Keep.refl (D:Nat→Prop) (w:World):Keep D w w:=⟨rfl,rfl,rfl,Nat.le_refl _,fun _ _ _=>rfl⟩
theorem Zam.refl (c:Cx):Zam c c :=
 {stay:=fun _ _ ho hc=>⟨hc,ho⟩
  arr:=fun _ _ ver frz rows e=>⟨ver,frz,rows,e,Nat.le_refl _,fun _=>⟨Nat.le_refl _,rfl,fun _ vs _ hb=>⟨vs,hb,rfl⟩⟩⟩
  cells:=fun _ cs e=>⟨⟨cs,e⟩,rfl⟩
  lp:=fun _ _ _ st e=>⟨⟨st,e⟩,rfl⟩ }
theorem Zam.trans {c c' c'':Cx} (h:Zam c c') (h':Zam c' c''):Zam c c'' :=
 {stay:=fun a u ho hc=>let ⟨h1,h2⟩:=h.stay a u ho hc;h'.stay a u h2 h1
  arr:=fun id sz ver frz rows e=>by
   obtain ⟨v1,f1,r1,e1,l1,s1⟩:=h.arr id sz ver frz rows e
   obtain ⟨v2,f2,r2,e2,l2,s2⟩:=h'.arr id sz v1 f1 r1 e1
   refine ⟨v2,f2,r2,e2,by omega,fun e => ?_⟩
   obtain ⟨a1,a2,a3⟩:=s1 (by omega)
   obtain ⟨b1,b2,b3⟩:=s2 (by omega)
   refine ⟨by omega,b2.trans a2,fun b vs hb hblk => ?_⟩
   obtain ⟨vs1,c1,c2⟩:=a3 b vs hb hblk
   obtain ⟨vs2,d1,d2⟩:=b3 b vs1 (a2.trans hb) c1
   exact ⟨vs2,d1,d2.trans c2⟩
  cells:=fun id cs e=>by
   obtain ⟨⟨cs1,e1⟩,h1⟩:=h.cells id cs e
   obtain ⟨h2,h3⟩:=h'.cells id cs1 e1
   exact ⟨h2,h3.trans h1⟩
  lp:=fun id L fr st e=>by
   obtain ⟨⟨st1,e1⟩,h1⟩:=h.lp id L fr st e
   obtain ⟨h2,h3⟩:=h'.lp id L fr st1 e1
   exact ⟨h2,h3.trans h1⟩ }
def noB:Nat→Option Nat:=fun _=>none
def ZlA (w0 w:World) (ds:List Deferred):Prop :=
 ∃ ms:List Nat,ds=ms.map (fun D=>{ target:=.collected D,args := #[] })∧ms.Nodup∧∀ D ∈ ms,w0.heap.size≤D∧w.heap[D]? = some (.deferred (some []))
theorem ZlA.mono {w0 w w':World} {ds:List Deferred} (h:ZlA w0 w ds) (hw:∀ D,w0.heap.size≤D→w.heap[D]? = some (.deferred (some []))→w'.heap[D]? = some (.deferred (some []))):ZlA w0 w' ds:=by
 obtain ⟨ms,e,h1,h2⟩:=h
 exact ⟨ms,e,h1,fun D hD=>⟨(h2 D hD).1,hw D (h2 D hD).1 (h2 D hD).2⟩⟩
structure Rel (k:K0) (n:Nat) (g:G) (s:St) (a:Act) (w:World):Prop where
 defers:ZlA k.w0 w a.defers
 rnd:∀ l,k.rd=some l→∃ r,w.heap[l]? = some (.loop r)
 tsz:a.tmps.size=n
 slots:∀ t,VR (cx k g s.H w) (get s.fr t) (a.tmps.getD t undef)
 tops:∀ t,top (get s.fr t)=true
 boxes:∀ t cs,bget s.bx t=some cs→∃ b,g.β t=some b∧BoxR (cx k g s.H w) b cs
 boxed:∀ t b,g.β t=some b→(∃ cs,bget s.bx t=some cs)∧k.w0.heap.size≤b
 heap:∀ (id:Nat) o,s.H[id]? = some o→∃ b,g.ρ[id]? = some b∧HoR (cx k g s.H w) b o
 len:g.ρ.length=s.H.length
 inj:∀ (i j b:Nat),g.ρ[i]? = some b→g.ρ[j]? = some b→i=j
 binj:∀ t u b,g.β t=some b→g.β u=some b→t=u
 apart:∀ (t i b:Nat),g.β t=some b→g.ρ[i]? ≠ some b
 own:∀ (i b:Nat),g.ρ[i]? = some b→k.w0.heap.size≤b∨k.D b
 keep:Keep k.D k.w0 w
 hist:Zam (cx k ⟨k.ρ0,noB⟩ k.H0 k.w0) (cx k g s.H w)
theorem Zao (fr:List (Nat × AV)) (d t:Nat) (v:AV):get (put fr d v) t=if d=t then v else get fr t:=by
 induction fr with
 | nil=>simp [put,get]
 | cons p r ih =>
  obtain ⟨u,x⟩:=p
  simp only [put]
  by_cases h1:d<u
  ·simp only [h1,if_true,get]
  ·by_cases h2:d=u
   ·subst h2
    simp only [Nat.lt_irrefl,if_false,if_true,get]
    by_cases h3:d=t<;>simp [h3]
   ·simp only [h1,h2,if_false,get,ih]
    by_cases h3:u=t
    ·subst h3;simp [h2]
    ·simp [h3]
theorem ZbR (fr:List (Nat × List AV)) (d t:Nat) (v:List AV):bget (bput fr d v) t=if d=t then some v else bget fr t:=by
 induction fr with
 | nil=>simp [bput,bget]
 | cons p r ih =>
  obtain ⟨u,x⟩:=p
  simp only [bput]
  by_cases h1:d<u
  ·simp only [h1,if_true,bget]
  ·by_cases h2:d=u
   ·subst h2
    simp only [Nat.lt_irrefl,if_false,if_true,bget]
    by_cases h3:d=t<;>simp [h3]
   ·simp only [h1,h2,if_false,bget,ih]
    by_cases h3:u=t
    ·subst h3;simp [h2]
    ·simp [h3]
theorem Zc3 (d:Nat) (fr:List (Nat × AV)) (t:Nat) :
  get (ZeB d fr) t=match get fr t with
   | .loc t' o=>if t'=d then .any else .loc t' o
   | v=>v:=by
 induction fr with
 | nil=>simp [ZeB,get]
 | cons p r ih =>
  obtain ⟨u,v⟩:=p
  by_cases h:u=t
  ·subst h
   cases v<;>simp only [ZeB,get,if_true]
   split<;>simp [get]
  ·cases v<;>simp only [ZeB,get,h,if_false,ih]
   split<;>simp only [get,h,if_false,ih]
theorem ZkS (ks:List Nat) (fr:List (Nat × AV)) (t:Nat):get (ZkL ks fr) t=if ks.elem t then get fr t else .any:=by
 induction fr with
 | nil=>simp [ZkL,get]
 | cons p r ih =>
  obtain ⟨u,v⟩:=p
  simp only [ZkL]
  by_cases h:ks.elem u=true
  ·rw [if_pos h]
   simp only [get]
   by_cases e:u=t
   ·subst e;rw [if_pos rfl,if_pos h,if_pos rfl]
   ·rw [if_neg e,ih,if_neg e]
  ·rw [if_neg h,ih]
   by_cases e:u=t
   ·subst e;rw [if_neg h,if_neg h]
   ·simp only [get,if_neg e]
theorem Zl1 (ks:List Nat) (fr:List (Nat × List AV)) (t:Nat):bget (ZnE ks fr) t=if ks.elem t then bget fr t else none:=by
 induction fr with
 | nil=>simp [ZnE,bget]
 | cons p r ih =>
  obtain ⟨u,v⟩:=p
  simp only [ZnE]
  by_cases h:ks.elem u=true
  ·rw [if_pos h]
   simp only [bget]
   by_cases e:u=t
   ·subst e;rw [if_pos rfl,if_pos h,if_pos rfl]
   ·rw [if_neg e,ih,if_neg e]
  ·rw [if_neg h,ih]
   by_cases e:u=t
   ·subst e;rw [if_neg h,if_neg h]
   ·simp only [bget,if_neg e]
theorem ZnY {c c':Cx} (hβ:∀ t b,c'.β t=some b→c.β t=some b) {t o:Nat} {v:Value} (h:VR c (.loc t o) v):VR c' (.loc t o) v:=by
 rw [VR] at h ⊢
 obtain ⟨b,e,hb⟩:=h
 exact ⟨b,e,fun b' hb'=>hb b' (hβ t b' hb')⟩
theorem Zau {c c':Cx} (h:Zam c c') (hβ:∀ t b,c'.β t=some b→c.β t=some b) {x:AV} {v:Value} (ht:top x=true) (hv:VR c x v):VR c' x v:=by
 cases x with
 | loc t o=>exact ZnY hβ hv
 | _=>exact VR.later h _ _ (by simpa [top] using ht) hv
theorem Zl0 {c c':Cx} {b:Nat} (hb:∀ o,c.w.heap[b]? = some o→c'.w.heap[b]? = some o) {vs:Array Value} (h:c.blk b vs):c'.blk b vs :=
 let ⟨e,h⟩:=h; ⟨e,hb _ h⟩
theorem BoxR.later {c c':Cx} (h:Zam c c') {b:Nat} {cs:List AV} (hb:∀ o,c.w.heap[b]? = some o→c'.w.heap[b]? = some o) (hv:BoxR c b cs):BoxR c' b cs:=by
 obtain ⟨h1,vs,h2,h3⟩:=hv
 exact ⟨h1,vs,Zl0 hb h2,VRL.later h cs _ (ZH h1) h3⟩
theorem ArrR.later {c c':Cx} (h:Zam c c') {b sz:Nat} {rows:List (List PC)} (hb:∀ o,c.w.heap[b]? = some o→c'.w.heap[b]? = some o) (hv:ArrR c b sz rows):ArrR c' b sz rows:=by
 obtain ⟨vs,h1,h2,h3⟩:=hv
 refine ⟨vs,Zl0 hb h1,h2,fun i r hi=>⟨(h3 i r hi).1,fun j x hj => ?_⟩⟩
 obtain ⟨u,hu,hp⟩:=(h3 i r hi).2 j x hj
 exact ⟨u,hu,PR.mono h.stay x u hp⟩
theorem LpR.later {c c':Cx} (h:Zam c c') {b:Nat} {L:LC} {fr:List (Nat × AV)} {st:LS} (hb:∀ o,c.w.heap[b]? = some o→c'.w.heap[b]? = some o) (hv:LpR c b L fr st):LpR c' b L fr st:=by
 obtain ⟨h0,r,h1,h2,h3,h5,h6,h7⟩:=hv
 exact ⟨h0,r,hb _ h1,h2,h3,h5,fun t=>VR.later h _ _ (h0 t) (h6 t),h7⟩
theorem MpR.later {c c':Cx} (h:Zam c c') {b:Nat} {st:LS} (hb:∀ o,c.w.heap[b]? = some o→c'.w.heap[b]? = some o) (hv:MpR c b st):MpR c' b st:=by
 cases st with
 | mp ka es =>
  obtain ⟨h0,hk,ents,clock,h1,h2,h3,h4⟩:=hv
  exact ⟨h0,hk,ents,clock,hb _ h1,h2,h3,VRL.later h _ _ (ZH h0) h4⟩
 | mps ka es bs clock =>
  obtain ⟨h0,hk,ents,h1,h2,h3,h4,h5⟩:=hv
  exact ⟨h0,hk,ents,hb _ h1,h2,h3,VRL.later h _ _ (ZH h0) h4,h5⟩
 | it m since seen last =>
  obtain ⟨bm,L,fr,st,h1,h2,h3⟩:=hv
  obtain ⟨⟨st',g1⟩,g2⟩:=h.lp m L fr st h1
  exact ⟨bm,L,fr,st',g1,by rw [g2];exact h2,hb _ h3⟩
 | itd=>obtain ⟨m,x,y,z,h1⟩:=hv;exact ⟨m,x,y,z,hb _ h1⟩
 | _=>exact hv
theorem HoR.later {c c':Cx} (h:Zam c c') {b:Nat} {o:HO} (hb:∀ o,c.w.heap[b]? = some o→c'.w.heap[b]? = some o) (hv:HoR c b o):HoR c' b o:=by
 cases o with
 | arr sz ver frz rows=>exact ArrR.later h hb hv
 | cells cs=>exact BoxR.later h hb hv
 | lp L fr st=>exact hv.imp (fun ⟨e,hv⟩=>⟨e,LpR.later h hb hv⟩) (fun ⟨e,hv⟩=>⟨e,MpR.later h hb hv⟩)
theorem HoR.obj {c:Cx} {b:Nat} {o:HO} (hv:HoR c b o):∃ x,c.w.heap[b]? = some x:=by
 cases o with
 | arr sz ver frz rows=>obtain ⟨vs,⟨e,hr⟩,_⟩:=hv;exact ⟨_,hr⟩
 | cells cs=>obtain ⟨_,vs,⟨e,hr⟩,_⟩:=hv;exact ⟨_,hr⟩
 | lp L fr st =>
  rcases hv with ⟨_,_,r,hr,_⟩ | ⟨_,hv⟩
  ·exact ⟨_,hr⟩
  ·cases st with
   | mp ka es=>obtain ⟨_,_,ents,clock,hr,_⟩:=hv;exact ⟨_,hr⟩
   | mps ka es bs clock=>obtain ⟨_,_,ents,hr,_⟩:=hv;exact ⟨_,hr⟩
   | it m since seen last=>obtain ⟨_,_,_,_,_,_,hr⟩:=hv;exact ⟨_,hr⟩
   | itd=>obtain ⟨_,_,_,_,hr⟩:=hv;exact ⟨_,hr⟩
   | _=>exact hv.elim
theorem HoR.lt {c:Cx} {b:Nat} {o:HO} (hv:HoR c b o):b<c.w.heap.size:=let ⟨_,h⟩:=hv.obj; (Array.getElem?_eq_some_iff.1 h).1
theorem HoR.kind {c:Cx} {b:Nat} {o:HO} {x:Obj} (hv:HoR c b o) (hx:c.w.heap[b]? = some x):(∃ vs e f,x = .cells vs e f)∨(∃ r,x = .loop r∧∃ L fr st,o = .lp L fr st∧L.mpk=false)∨(∃ es n,x = .map es n)∨∃ m a b c,x = .mapIter m a b c:=by
 cases o with
 | arr sz ver frz rows=>obtain ⟨vs,⟨e,hr⟩,_⟩:=hv;rw [hr] at hx;exact .inl ⟨_,_,_,(Option.some.inj hx).symm⟩
 | cells cs=>obtain ⟨_,vs,⟨e,hr⟩,_⟩:=hv;rw [hr] at hx;exact .inl ⟨_,_,_,(Option.some.inj hx).symm⟩
 | lp L fr st =>
  rcases hv with ⟨hm,_,r,hr,_⟩ | ⟨_,hv⟩
  ·rw [hr] at hx;exact .inr (.inl ⟨_,(Option.some.inj hx).symm,L,fr,st,rfl,hm⟩)
  ·cases st with
   | mp ka es=>obtain ⟨_,_,ents,clock,hr,_⟩:=hv;rw [hr] at hx;exact .inr (.inr (.inl ⟨_,_,(Option.some.inj hx).symm⟩))
   | mps ka es bs clock=>obtain ⟨_,_,ents,hr,_⟩:=hv;rw [hr] at hx;exact .inr (.inr (.inl ⟨_,_,(Option.some.inj hx).symm⟩))
   | it m since seen last=>obtain ⟨_,_,_,_,_,_,hr⟩:=hv;rw [hr] at hx;exact .inr (.inr (.inr ⟨_,_,_,_,(Option.some.inj hx).symm⟩))
   | itd=>obtain ⟨_,_,_,_,hr⟩:=hv;rw [hr] at hx;exact .inr (.inr (.inr ⟨_,_,_,_,(Option.some.inj hx).symm⟩))
   | _=>exact hv.elim
theorem cx_β (k:K0) (g:G) (H:List HO) (w:World):(cx k g H w).β=g.β:=rfl
section
variable {k:K0} {n:Nat} {g:G} {s:St} {a:Act} {w:World}
theorem Zov (a:Act) (d t:Nat) (v:Value) (h:d<a.tmps.size):(a.put (some d) v).tmps.getD t undef=if d=t then v else a.tmps.getD t undef:=by
 simp only [Act.put,Array.getD_eq_getD_getElem?]
 by_cases e:d=t
 ·subst e;simp [h]
 ·simp [e,Array.getElem?_setIfInBounds_ne e]
theorem Rel.put (h:Rel k n g s a w) {d:Nat} (hd:d<n) {r:AV} {u:Value} (hr:VR (cx k g s.H w) r u) (ht:top r=true) :
  Rel k n g { s with fr:=put s.fr d r } (a.put (some d) u) w :=
 {h with
  defers:=h.defers
  tsz:=by simp [Act.put,h.tsz]
  slots:=fun t=>by
   rw [Zao,Zov a d t u (by rw [h.tsz];exact hd)]
   by_cases e:d=t
   ·simp only [e,if_true];exact hr
   ·simp only [e,if_false];exact h.slots t
  tops:=fun t=>by
   rw [Zao]
   by_cases e:d=t
   ·simp only [e,if_true];exact ht
   ·simp only [e,if_false];exact h.tops t }
theorem Rel.keepOnly (h:Rel k n g s a w) (ks:List Nat):∃ g',Rel k n g' ⟨ZkL ks s.fr,ZnE ks s.bx,s.H⟩ a w:=by
 let g':G:=⟨g.ρ,fun t=>if ks.elem t then g.β t else none⟩
 have hβ:∀ t b,g'.β t=some b→g.β t=some b:=fun t b e=>by
  simp only [g'] at e
  split at e
  ·exact e
  ·cases e
 have hl:Zam (cx k g s.H w) (cx k g' s.H w) :=
  {stay:=fun a u ho hc=>⟨hc,ho.1,fun t e=>ho.2.1 t (hβ t _ e),ho.2.2⟩
   arr:=fun id sz ver frz rows e=>⟨ver,frz,rows,e,Nat.le_refl _,fun _=>⟨Nat.le_refl _,rfl,fun b vs _ hb=>⟨vs,hb,rfl⟩⟩⟩
   cells:=fun id cs e=>⟨⟨cs,e⟩,rfl⟩
   lp:=fun _ _ _ st e=>⟨⟨st,e⟩,rfl⟩ }
 refine ⟨g',?_⟩
 exact
  {defers:=h.defers
   rnd:=h.rnd
   tsz:=h.tsz
   slots:=fun t=>by
    simp only [ZkS]
    split
    ·exact Zau hl hβ (h.tops t) (h.slots t)
    ·simp [VR]
   tops:=fun t=>by
    simp only [ZkS]
    split
    ·exact h.tops t
    ·rfl
   boxes:=fun t cs e=>by
    simp only [Zl1] at e
    split at e
    ·rename_i hk
     obtain ⟨b,hb,hr⟩:=h.boxes t cs e
     exact ⟨b,by simp only [g',hk,if_true];exact hb,hr.later hl (fun _ hb=>hb)⟩
    ·cases e
   boxed:=fun t b e=>by
    simp only [g'] at e
    split at e
    ·rename_i hk
     obtain ⟨⟨cs,hc⟩,hb⟩:=h.boxed t b e
     exact ⟨⟨cs,by simp only [Zl1,hk,if_true];exact hc⟩,hb⟩
    ·cases e
   heap:=fun id o e=>by
    obtain ⟨b,hb,hr⟩:=h.heap id o e
    exact ⟨b,hb,hr.later hl (fun _ hb=>hb)⟩
   len:=h.len
   inj:=h.inj
   binj:=fun t u b e1 e2=>h.binj t u b (hβ _ _ e1) (hβ _ _ e2)
   apart:=fun t i b e=>h.apart t i b (hβ _ _ e)
   own:=h.own
   keep:=h.keep
   hist:=h.hist.trans hl }
end
end Go.Eng

