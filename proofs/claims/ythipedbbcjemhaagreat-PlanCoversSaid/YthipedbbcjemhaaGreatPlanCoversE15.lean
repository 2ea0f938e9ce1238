/- Part of the proof; written by a program out of the texts in wip/. -/
import Derived.Test.YthipedbbcjemhaaGreatPlanCoversE14
set_option linter.unusedVariables false
set_option linter.unusedSimpArgs false
namespace Go.Eng
open Go
def ZgE (P:Program):List ResultVar→List RV→Bool
 | [],[]=>true
 | .tmp t::r,.tmp t'::r'=>decide (t=t')&&ZgE P r r'
 | .cell t ty::r,.cell t' m isA::r'=>decide (t=t')&&ZcA P ty m&&ZmS P ty isA&&ZgE P r r'
 | _,_=>false
def chkF (P:Program) (f:Nat) (F:IFn):Bool:=match P.funcs[f]? with
 | some fn=>(match fn.body with
  | some c=>chkC P fn.ntmps c F.body&&ZgE P fn.results.toList F.res&&decide (F.nargs≤fn.ntmps)&&decide (fn.ntmps=F.nt) && !(fn.name == "runtime.NumGoroutine")
  | none=>false)
 | none=>false
@[reducible] def endQ (R:St→Prop):Exit→St→Prop
 | .normal,s | .ret,s=>R s
 | _,_=>False
def resF (tmps:Array Value):ResultVar→Sem Value
 | .tmp t=>pure (tmps.getD t undef)
 | .cell a t=>do loadVar t (← asAddr (tmps.getD a undef))
theorem ZiQ (fn:Func) (tmps:Array Value):results fn tmps=(do let vs ← fn.results.mapM (resF tmps);pure (if h:vs.size=1 then vs[0] else .tuple vs)):=rfl
section
variable {P:Program} {k:K0} {n:Nat} {g:G} {s:St} {a:Act} {w:World}
theorem Zi6:∀ (args:List AV) (i t:Nat),get (Zhg args i) t=if i≤t then (args[t - i]?).getD .any else .any
 | [],i,t=>by simp [Zhg,get]
 | v::vs,i,t=>by
  simp only [Zhg,get]
  by_cases h:i=t
  ·subst h;simp
  ·rw [if_neg h,Zi6 vs (i+1) t]
   by_cases h1:i≤t
   ·rw [if_pos (by omega),if_pos h1,show t - i=(t - (i+1))+1 by omega,List.getElem?_cons_succ]
   ·rw [if_neg (by omega),if_neg h1]
theorem ZkY {ok0:Addr→Prop} {ρ:List Nat} {H:List HO} {args:List AV} {vs:List Value} (hr:HR (k0 ok0 ρ H w) ρ H w) (hv:VRL (cx (k0 ok0 ρ H w) ⟨ρ,noB⟩ H w) args vs) (hno:noLocL args=true) (hn:args.length≤n) :
  Rel (k0 ok0 ρ H w) n ⟨ρ,noB⟩ ⟨Zhg args 0,[],H⟩ { tmps:=vs.toArray++Array.replicate (n - vs.toArray.size) undef,defers:=[] } w :=
 have hl:=hv.length
 {defers:=⟨[],rfl,List.nodup_nil,fun D h=>(by cases h)⟩
  rnd:=fun l h=>(by cases h)
  tsz:=by simp;omega
  slots:=fun t=>by
   simp only [Zi6,Nat.zero_le,if_true,Nat.sub_zero]
   cases ht:args[t]? with
   | none=>simp [VR]
   | some x =>
    have hlt:=(List.getElem?_eq_some_iff.1 ht).1
    have hlt':t<vs.length:=by omega
    have:(vs.toArray++Array.replicate (n - vs.toArray.size) undef).getD t undef=vs[t]:=by
     rw [Array.getD_eq_getD_getElem?,Array.getElem?_append_left (by simpa using hlt')]
     simp [hlt']
    rw [this]
    exact (Zd0.1 hv).2 t x _ ht (List.getElem?_eq_getElem hlt')
  tops:=fun t=>by
   simp only [Zi6,Nat.zero_le,if_true,Nat.sub_zero]
   cases ht:args[t]? with
   | none=>rfl
   | some x=>exact ZM (Zbb.1 hno x (List.mem_of_getElem? ht))
  boxes:=fun t cs e=>by simp [bget] at e
  boxed:=fun t b e=>by cases e
  heap:=hr.heap
  len:=hr.len
  inj:=hr.inj
  binj:=fun t u b e=>by cases e
  apart:=fun t i b e=>by cases e
  own:=hr.own
  keep:=hr.keep
  hist:=Zam.refl _ }
theorem ZgZ (h:Rel k n g s a w):∀ {rs:List ResultVar} {is:List RV} {xs:List AV},ZgE P rs is=true→rawL s is=some xs →
  ∃ us:List Value,(rs.mapM (m:=Sem) (resF a.tmps)).run P w = .ok us w∧VRL (cx k g s.H w) xs us
 | [],[],xs,_,hx=>by
  simp only [rawL,Option.some.injEq] at hx
  subst hx
  exact ⟨[],rfl,by rw [VRL]⟩
 | .tmp t::rs,.tmp t'::is,xs,hc,hx=>by
  simp only [ZgE,Bool.and_eq_true,decide_eq_true_eq] at hc
  obtain ⟨rfl,hc⟩:=hc
  simp only [rawL,rawV,Option.bind_some] at hx
  cases hr:rawL s is with
  | none=>simp [hr] at hx
  | some ys =>
   simp only [hr,Option.map_some,Option.some.injEq] at hx
   subst hx
   obtain ⟨us,h1,h2⟩:=ZgZ h hc hr
   refine ⟨a.tmps.getD t undef::us,?_,by rw [VRL];exact ⟨_,_,rfl,h.slots t,h2⟩⟩
   rw [List.mapM_cons]
   simp only [Sem.run_bind,resF,Sem.run_pure,Result.andThen_ok,h1]
 | .cell p ty::rs,.cell p' m isA::is,xs,hc,hx=>by
  simp only [ZgE,Bool.and_eq_true,decide_eq_true_eq] at hc
  obtain ⟨⟨⟨rfl,hsz⟩,hag⟩,hc⟩:=hc
  simp only [rawL,rawV] at hx
  cases hrd:rd s.bx s.H m (get s.fr p) with
  | none=>simp [hrd] at hx
  | some cs =>
   simp only [hrd,Option.bind_some] at hx
   cases hmk:mk isA cs with
   | none=>simp [hmk] at hx
   | some r =>
    simp only [hmk,Option.bind_some] at hx
    cases hr:rawL s is with
    | none=>simp [hr] at hx
    | some ys =>
     simp only [hr,Option.map_some,Option.some.injEq] at hx
     subst hx
     obtain ⟨us,h1,h2⟩:=ZgZ h hc hr
     obtain ⟨A,vs,e,v1,v2,v3,v4⟩:=ZoA h hrd (h.slots p)
     have hone:isA=false→m=1:=fun e=>by
      have:=ZoJ hmk e
      rw [← v2,v1.length];exact this
     have hload:=Zkg (P:=P) (w:=w) hsz hag v2 hone v4
     refine ⟨_::us,?_,by rw [VRL];exact ⟨_,_,rfl,Zq7 hmk v1,h2⟩⟩
     have hf:(resF a.tmps (.cell p ty)).run P w = .ok (if isA then .agg vs.toArray else vs.getD 0 undef) w:=by
      simp only [resF,Sem.run_bind,e,asAddr,Sem.run_pure,Result.andThen_ok,hload]
     rw [List.mapM_cons]
     simp only [Sem.run_bind,hf,Sem.run_pure,Result.andThen_ok,h1]
 | [],_::_,_,hc,_=>by simp [ZgE] at hc
 | .tmp _::_,[],_,hc,_=>by simp [ZgE] at hc
 | .cell _ _::_,[],_,hc,_=>by simp [ZgE] at hc
 | .tmp _::_,.cell .. :: _,_,hc,_=>by simp [ZgE] at hc
 | .cell _ _::_,.tmp _::_,_,hc,_=>by simp [ZgE] at hc
theorem Zmb {c:Cx} {xs:List AV} {us:List Value} (h:VRL c xs us):VR c (ZaW xs) (if h:us.toArray.size=1 then us.toArray[0] else .tuple us.toArray):=by
 unfold ZaW
 split
 ·obtain ⟨v,rfl,h'⟩:=ZdZ h
  simpa using h'
 ·rename_i hne
  have hl:=h.length
  rw [dif_neg]
  ·rw [VR];exact ⟨us,rfl,h⟩
  ·intro e
   simp only [List.size_toArray] at e
   rw [hl] at e
   match xs,e with
   | [v],_=>exact hne v rfl
theorem Zn5 (h:Rel k n g s a w) {fn:Func} {is:List RV} {xs:List AV} (hc:ZgE P fn.results.toList is=true) (hx:rawL s is=some xs) :
  ∃ v,(results fn a.tmps).run P w = .ok v w∧VR (cx k g s.H w) (ZaW xs) v:=by
 obtain ⟨us,h1,h2⟩:=ZgZ (P:=P) h hc hx
 refine ⟨_,?_,Zmb h2⟩
 rw [ZiQ]
 have hm:(fn.results.mapM (m:=Sem) (resF a.tmps)).run P w = .ok us.toArray w:=by
  rw [← Array.toArray_toList (xs:=fn.results),List.mapM_toArray,Sem.run_map]
  rw [h1]
  rfl
 simp only [Sem.run_bind,hm,Result.andThen_ok,Sem.run_pure]
theorem Rel.noBoxes (h:Rel k n g s a w):Zam (cx k g s.H w) (cx k ⟨g.ρ,noB⟩ s.H w) :=
 {stay:=fun a u ho hc=>⟨hc,ho.1,fun t e=>(by cases e),ho.2.2⟩
  arr:=fun id sz ver frz rows e=>⟨ver,frz,rows,e,Nat.le_refl _,fun _=>⟨Nat.le_refl _,rfl,fun b vs _ hb=>⟨vs,hb,rfl⟩⟩⟩
  cells:=fun id cs e=>⟨⟨cs,e⟩,rfl⟩
  lp:=fun _ _ _ st e=>⟨⟨st,e⟩,rfl⟩ }
theorem Rel.toHR (h:Rel k n g s a w):HR k g.ρ s.H w :=
 {heap:=fun id o e=>let ⟨b,hb,hr⟩:=h.heap id o e; ⟨b,hb,hr.later h.noBoxes fun _ hb=>hb⟩
  len:=h.len
  inj:=h.inj
  own:=h.own
  keep:=h.keep }
structure Off (w w':World) (D:Nat):Prop where
 os:w'.os=w.os
 tape:w'.tape=w.tape
 output:w'.output=w.output
 size:w'.heap.size=w.heap.size
 block:∀ i,i ≠ D→w'.heap[i]? = w.heap[i]?
 no:∀ vs e f,w.heap[D]? ≠ some (.cells vs e f)
theorem Off.put {w:World} {D:Nat} (o:Obj) (h:∀ vs e f,w.heap[D]? ≠ some (.cells vs e f)):Off w (w.putObj D o) D :=
 ⟨rfl,rfl,rfl,World.putObj_size,fun i hi=>World.putObj_heap_other hi,h⟩
theorem Off.cell {w w':World} {D:Nat} (u:Off w w' D) {a:Addr} {x:Value} (hc:w.cell? a=some x):w'.cell? a=some x:=by
 rw [World.cell?_of_block (u.block a.block (fun e => ?_))];exact hc
 subst e
 unfold World.cell? at hc
 split at hc
 ·rename_i c e f h;exact u.no c e f h
 ·cases hc
theorem Off.blk {H H':List HO} {g g':G} {w w':World} {D:Nat} (u:Off w w' D) {b:Nat} {vs:Array Value} (hb:(cx k g H w).blk b vs):(cx k g' H' w').blk b vs:=by
 obtain ⟨e,hb⟩:=hb
 exact ⟨e,(u.block b (fun e'=>by subst e';exact u.no _ _ _ hb)).trans hb⟩
theorem Keep.off {D0:Nat→Prop} {w0 w w':World} {b:Nat} (h:Keep D0 w0 w) (u:Off w w' b) (hb:w0.heap.size≤b∨D0 b):Keep D0 w0 w' :=
 ⟨u.os.trans h.os,u.tape.trans h.tape,u.output.trans h.output,by rw [u.size];exact h.size,fun i hi hD=>by
  rw [u.block i (fun e=>by subst e;rcases hb with hb | hb;omega;exact hD hb)]
  exact h.block i hi hD⟩
theorem Zqe {w':World} {D:Nat} (u:Off w w' D) (g:G) (H:List HO):Zam (cx k g H w) (cx k g H w') :=
 {stay:=fun a x ho hc=>⟨u.cell hc,ho⟩
  arr:=fun id sz ver frz rows e=>⟨ver,frz,rows,e,Nat.le_refl _,fun _=>⟨Nat.le_refl _,rfl,fun b vs _ hb=>⟨vs,u.blk hb,rfl⟩⟩⟩
  cells:=fun id cs e=>⟨⟨cs,e⟩,rfl⟩
  lp:=fun _ _ _ st e=>⟨⟨st,e⟩,rfl⟩ }
theorem Rel.close1 (h:Rel k n g s a w) {D:Nat} {ms:List Nat} (hd:a.defers=(D::ms).map (fun D=>{ target:=.collected D,args := #[] })) :
  (Instr.takeDeferred D).run P w = .ok [] (w.putObj D (.deferred none))∧Rel k n g s { a with defers:=ms.map (fun D=>{ target:=.collected D,args := #[] }) } (w.putObj D (.deferred none)):=by
 obtain ⟨ms',e,hn,hm⟩:=h.defers
 have hms:ms'=D::ms:=by
  rw [hd] at e
  have hinj:Function.Injective (fun D:Nat=>({ target:=.collected D,args := #[] }:Deferred)):=fun x y h=>by simpa using h
  exact ((List.map_inj_right (fun x y h=>hinj h)).1 e).symm
 subst hms
 obtain ⟨hge,hD⟩:=hm D (by simp)
 refine ⟨run_takeDeferred hD,?_⟩
 have u:Off w (w.putObj D (.deferred none)) D:=.put _ (fun vs e f h=>by rw [hD] at h;cases h)
 have hl:=Zqe (k:=k) u g s.H
 have hobj:∀ b,b ≠ D→∀ o,w.heap[b]? = some o→(w.putObj D (.deferred none)).heap[b]? = some o:=fun b hb o ho=>(u.block b hb).trans ho
 exact
  {defers:=⟨ms,rfl,(List.nodup_cons.1 hn).2,fun D' hD'=>⟨(hm D' (by simp [hD'])).1,hobj D' (fun e=>by subst e;exact (List.nodup_cons.1 hn).1 hD') _ (hm D' (by simp [hD'])).2⟩⟩
   rnd:=fun l hl=>let ⟨r,hr⟩:=h.rnd l hl; ⟨r,hobj l (fun e=>by subst e;rw [hD] at hr;cases hr) _ hr⟩
   tsz:=h.tsz
   slots:=fun t=>Zau hl (fun _ _ e=>e) (h.tops t) (h.slots t)
   tops:=h.tops
   boxes:=fun t cs e=>let ⟨b,hb,hr⟩:=h.boxes t cs e; ⟨b,hb,hr.later hl (hobj b (fun e=>by
    subst e;obtain ⟨_,vs,⟨et,hr⟩,_⟩:=hr;rw [show w.heap[b]? = _ from hr] at hD;cases hD))⟩
   boxed:=h.boxed
   heap:=fun id o e=>let ⟨b,hb,hr⟩:=h.heap id o e; ⟨b,hb,hr.later hl (hobj b (fun e=>by subst e;exact h.notDeferred hb hD))⟩
   len:=h.len
   inj:=h.inj
   binj:=h.binj
   apart:=h.apart
   own:=h.own
   keep:=h.keep.off u (.inl hge)
   hist:=h.hist.trans hl }
theorem Rel.leaves {fn:Func} {R:Ending→World→Prop}:∀ (ms:List Nat) {a:Act} {w:World},Rel k n g s a w→a.defers=ms.map (fun D=>{ target:=.collected D,args := #[] }) →
  (∀ w',Rel k n g s { a with defers:=[] } w'→∃ v,(results fn a.tmps).run P w' = .ok v w'∧R (.returned v) w')→LeavesInM (FR none) 0 P fn a.tmps R a.defers .returning w
 | [],a,w,h,hd,hR=>by
  rw [hd]
  have:a={ a with defers:=[] }:=by cases a;simp at hd;simp [hd]
  exact hR w (this ▸ h)
 | D::ms,a,w,h,hd,hR=>by
  obtain ⟨h1,h2⟩:=h.close1 (P:=P) hd
  have:=Rel.leaves (fn:=fn) (R:=R) ms h2 rfl (fun w' h'=>hR w' h')
  rw [hd,List.map_cons]
  exact ⟨by simp,.inl ⟨D,_,rfl,h1,this⟩⟩
theorem Rel.leavesAll {fn:Func} {R:Ending→World→Prop} (h:Rel k n g s a w) (hR:∀ w',Rel k n g s { a with defers:=[] } w'→∃ v,(results fn a.tmps).run P w' = .ok v w'∧R (.returned v) w') :
  LeavesInM (FR none) 0 P fn a.tmps R a.defers .returning w:=by
 obtain ⟨ms,e,_⟩:=h.defers
 exact Rel.leaves ms h e hR
theorem ZmU {f:Nat} {F:IFn} (hk:chkF P f F=true) {args:List AV} {H H':List HO} {r:AV} (hl:args.length=F.nargs) (hno:noLocL args=true) (hr:ZX r=true)
  (h:EvI P F.nt F.body ⟨Zhg args 0,[],H⟩ (endQ fun s'=>∃ xs,rawL s' F.res=some xs∧ZaW xs=r∧s'.H=H')):Zbe P f args H r H':=by
 unfold chkF at hk
 split at hk
 ·rename_i fn hf
  split at hk
  ·rename_i c hb
   simp only [Bool.and_eq_true,decide_eq_true_eq,Bool.not_eq_true'] at hk
   obtain ⟨⟨⟨⟨hc,hres⟩,hna⟩,hnt⟩,hname⟩:=hk
   refine ⟨⟨fn,hf,by rw [hb];rfl,hname⟩,hr,fun ok0 ρ w vs hhr hv => ?_⟩
   have hrel:=ZkY (n:=fn.ntmps) hhr hv hno (by omega)
   refine ZmP (r:=none) (m:=0) (callsIn_of_wp_marks hf hb trivial (wpIn_mono (h c (by rw [← hnt];exact hc) _ _ _ _ (by rw [← hnt];exact hrel)) ?_))
   rintro e a' w' ⟨s',g',h1,h2⟩
   have key:(∃ xs,rawL s' F.res=some xs∧ZaW xs=r∧s'.H=H')→LeavesInM (FR none) 0 P fn a'.tmps (fun e w'=>∃ v' ρ',e = .returned v'∧HR (k0 ok0 ρ H w) ρ' H' w'∧VR (cx (k0 ok0 ρ H w) ⟨ρ',noB⟩ H' w') r v' ∧
     Zam (cx (k0 ok0 ρ H w) ⟨ρ,noB⟩ H w) (cx (k0 ok0 ρ H w) ⟨ρ',noB⟩ H' w')) a'.defers .returning w':=by
    rintro ⟨xs,x1,rfl,rfl⟩
    refine h1.leavesAll fun w2 h2 => ?_
    obtain ⟨v,v1,v2⟩:=Zn5 h2 hres x1
    exact ⟨v,v1,v,g'.ρ,rfl,h2.toHR,VR.later h2.noBoxes _ _ hr v2,h2.hist.trans h2.noBoxes⟩
   cases e with
   | normal=>exact key h2
   | ret=>exact key h2
   | _=>exact h2.elim
  ·cases hk
 ·cases hk
theorem Zkw {ok0:Addr→Prop} {w0:World} (h:Rel (k0 ok0 [] [] w0) n g s a w) {x r:AV} {v:Value} (hp:Znm s.H x=some r) (hv:VR (cx (k0 ok0 [] [] w0) g s.H w) x v) :
  VR (cx (k0 ok0 [] [] w0) ⟨[],noB⟩ [] w) r v∧Zha r=true:=by
 have hst:Stay (okOf (k0 ok0 [] [] w0) s.H g) (okOf (k0 ok0 [] [] w0) [] ⟨[],noB⟩) w w:=fun a u ho hc=>⟨hc,ho.1,fun t e=>(by cases e),fun id e=>by simp at e⟩
 unfold Znm at hp
 split at hp
 ·simp only [Option.some.injEq] at hp
  subst hp
  exact ⟨VR.weak1 (Ziy hst rfl hv),rfl⟩
 ·simp only [Option.some.injEq] at hp
  subst hp
  exact ⟨Ziy hst rfl hv,rfl⟩
 ·rename_i sz id ver off len
  split at hp
  ·rename_i sz' ver' frz rows hH
   split at hp
   ·rename_i hcond
    obtain ⟨rfl,rfl⟩:=hcond
    cases hs:sub off len rows with
    | none=>simp [hs] at hp
    | some r0 =>
     simp only [hs,Option.map_some,Option.some.injEq] at hp
     subst hp
     refine ⟨?_,rfl⟩
     obtain ⟨h1,hl,hv2,_⟩:=Zhs (x:=.osl sz' id ver' off len) (x':=.p (.sl sz' false r0)) (H':=s.H.set id (.arr sz' ver' true rows)) h (by simp [frz1,hH,hs]) hv
     exact Ziy (c:=cx (k0 ok0 [] [] w0) g (s.H.set id (.arr sz' ver' true rows)) w) (c':=cx (k0 ok0 [] [] w0) ⟨[],noB⟩ [] w) (fun a u ho hc=>⟨hc,ho.1,fun t e=>(by cases e),fun id e=>by simp at e⟩) rfl hv2
   ·cases hp
  ·cases hp
 ·cases hp
theorem Zku {ok0:Addr→Prop} {w0:World} (h:Rel (k0 ok0 [] [] w0) n g s a w):∀ {xs rs:List AV} {vs:List Value},ZjL s.H xs=some rs→VRL (cx (k0 ok0 [] [] w0) g s.H w) xs vs →
  VRL (cx (k0 ok0 [] [] w0) ⟨[],noB⟩ [] w) rs vs∧Zg9 rs=true
 | [],rs,vs,hp,hv=>by
  simp only [ZjL,Option.some.injEq] at hp
  subst hp
  rw [VRL] at hv ⊢
  exact ⟨hv,rfl⟩
 | x::xs,rs,vs,hp,hv=>by
  simp only [ZjL] at hp
  cases h1:Znm s.H x with
  | none=>simp [h1] at hp
  | some y =>
   simp only [h1,Option.bind_some] at hp
   cases h2:ZjL s.H xs with
   | none=>simp [h2] at hp
   | some ys =>
    simp only [h2,Option.map_some,Option.some.injEq] at hp
    subst hp
    rw [VRL] at hv
    obtain ⟨u,us,rfl,v1,v2⟩:=hv
    obtain ⟨a1,a2⟩:=Zkw h h1 v1
    obtain ⟨b1,b2⟩:=Zku h h2 v2
    exact ⟨by rw [VRL];exact ⟨u,us,rfl,a1,b1⟩,by simp [Zg9,a2,b2]⟩
theorem Zn8 {ok0:Addr→Prop} {w0:World} (h:Rel (k0 ok0 [] [] w0) n g s a w) {x r:AV} {v:Value} (hp:ZiT s.H x=some r) (hv:VR (cx (k0 ok0 [] [] w0) g s.H w) x v) :
  VR (cx (k0 ok0 [] [] w0) ⟨[],noB⟩ [] w) r v∧Zhb r=true:=by
 unfold ZiT at hp
 split at hp
 ·rename_i cs
  cases h1:ZjL s.H cs with
  | none=>simp [h1] at hp
  | some rs =>
   simp only [h1,Option.map_some,Option.some.injEq] at hp
   subst hp
   rw [VR] at hv
   obtain ⟨vs,rfl,hv⟩:=hv
   obtain ⟨a1,a2⟩:=Zku h h1 hv
   exact ⟨by rw [VR];exact ⟨vs,rfl,a1⟩,by simpa [Zhb] using a2⟩
 ·obtain ⟨a1,a2⟩:=Zkw h hp hv
  refine ⟨a1,?_⟩
  cases r<;>simp_all [Zhb,Zha]
theorem Zq0 {is:List RV} {rs:List AV} (h:resL s is=some rs):∃ xs,rawL s is=some xs∧xs.length=rs.length∧∀ (j:Nat) x r,xs[j]? = some x→rs[j]? = some r→ZiT s.H x=some r:=by
 induction is generalizing rs with
 | nil=>simp only [resL,Option.some.injEq] at h;subst h;exact ⟨[],rfl,rfl,by simp⟩
 | cons i is ih =>
  simp only [resL] at h
  cases h1:resV s i with
  | none=>simp [h1] at h
  | some y =>
   simp only [h1,Option.bind_some] at h
   cases h2:resL s is with
   | none=>simp [h2] at h
   | some ys =>
    simp only [h2,Option.map_some,Option.some.injEq] at h
    subst h
    obtain ⟨xs,a1,a2,a3⟩:=ih h2
    have:∃ x,rawV s i=some x∧ZiT s.H x=some y:=by
     cases i with
     | tmp t=>exact ⟨get s.fr t,rfl,h1⟩
     | cell t m b =>
      simp only [resV] at h1
      cases h3:(rd s.bx s.H m (get s.fr t)).bind (mk b) with
      | none=>simp [h3] at h1
      | some x=>exact ⟨x,h3,by simpa [h3] using h1⟩
    obtain ⟨x,x1,x2⟩:=this
    refine ⟨x::xs,by simp [rawL,x1,a1],by simp [a2],fun j x' r' hx hr => ?_⟩
    cases j with
    | zero=>simp at hx hr;subst hx hr;exact x2
    | succ j=>exact a3 j x' r' (by simpa using hx) (by simpa using hr)
theorem ZD {f:Nat} {F:IFn} (hk:chkF P f F=true) {args:List AV} {r:AV} (hl:args.length=F.nargs) (hpa:Zgr args=true)
  (h:EvI P F.nt F.body ⟨Zhg args 0,[],[]⟩ (endQ fun s'=>∃ xs,resL s' F.res=some xs∧ZaW xs=r)) (hpr:Zgm r=true):Zac P f args r:=by
 refine ⟨hpr,hpa,?_⟩
 unfold chkF at hk
 split at hk
 ·rename_i fn hf
  split at hk
  ·rename_i c hb
   simp only [Bool.and_eq_true,decide_eq_true_eq,Bool.not_eq_true'] at hk
   obtain ⟨⟨⟨⟨hc,hres⟩,hna⟩,hnt⟩,hname⟩:=hk
   have hno:ZX r=true:=by
    cases r with
    | tup vs=>simpa [ZX] using Zek (by simpa [Zgm] using hpr)
    | _=>exact ZlK (by simpa [Zgm] using hpr)
   refine ⟨⟨fn,hf,by rw [hb];rfl,hname⟩,hno,fun ok0 ρ w vs hhr hv => ?_⟩
   have hρ:ρ=[]:=List.eq_nil_of_length_eq_zero hhr.len
   subst hρ
   have hrel:=ZkY (n:=fn.ntmps) hhr hv (Zek hpa) (by omega)
   refine ZmP (r:=none) (m:=0) (callsIn_of_wp_marks hf hb trivial (wpIn_mono (h c (by rw [← hnt];exact hc) _ _ _ _ (by rw [← hnt];exact hrel)) ?_))
   rintro e a' w' ⟨s',g',h1,h2⟩
   have key:(∃ xs,resL s' F.res=some xs∧ZaW xs=r)→LeavesInM (FR none) 0 P fn a'.tmps (fun e w'=>∃ v' ρ',e = .returned v'∧HR (k0 ok0 [] [] w) ρ' [] w'∧VR (cx (k0 ok0 [] [] w) ⟨ρ',noB⟩ [] w') r v' ∧
     Zam (cx (k0 ok0 [] [] w) ⟨[],noB⟩ [] w) (cx (k0 ok0 [] [] w) ⟨ρ',noB⟩ [] w')) a'.defers .returning w':=by
    rintro ⟨rs,x1,rfl⟩
    obtain ⟨xs,y1,y2,y3⟩:=Zq0 x1
    refine h1.leavesAll fun w2 h2' => ?_
    have hkp:∀ i,i<w.heap.size→w2.heap[i]? = w.heap[i]?:=fun i hi=>h2'.keep.block i hi (fun ⟨j,hj⟩=>by simp at hj)
    have hg:Grow w w2:=⟨h2'.keep.os,h2'.keep.tape,h2'.keep.output,h2'.keep.size,hkp⟩
    obtain ⟨us,h3,h4⟩:=ZgZ (P:=P) h2' hres y1
    have h5:VRL (cx (k0 ok0 [] [] w) ⟨[],noB⟩ [] w2) rs us:=by
     rw [Zd0] at h4 ⊢
     refine ⟨by omega,fun j r u hr hu => ?_⟩
     have hjl:j<xs.length:=by rw [y2];exact (List.getElem?_eq_some_iff.1 hr).1
     have hx:=List.getElem?_eq_getElem hjl
     exact (Zn8 h2' (y3 j _ r hx hr) (h4.2 j _ u hx hu)).1
    refine ⟨_,?_,_,[],rfl,?_,Zmb h5,ZdI hg []⟩
    ·rw [ZiQ]
     have hm:(fn.results.mapM (m:=Sem) (resF a'.tmps)).run P w2 = .ok us.toArray w2:=by
      rw [← Array.toArray_toList (xs:=fn.results),List.mapM_toArray,Sem.run_map,h3]
      rfl
     simp only [Sem.run_bind,hm,Result.andThen_ok,Sem.run_pure]
    ·exact
      {heap:=fun id o e=>by simp at e
       len:=rfl
       inj:=fun i j b e=>by simp at e
       own:=fun i b e=>by simp at e
       keep:=h2'.keep }
   cases e with
   | normal=>exact key h2
   | ret=>exact key h2
   | _=>exact h2.elim
  ·cases hk
 ·cases hk
end
end Go.Eng

