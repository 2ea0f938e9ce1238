/- Part of the proof; written by a program out of the texts in wip/. -/
import Derived.Test.YthipedbbcjemhaaGreatPlanCoversE21
set_option linter.unusedVariables false
set_option linter.unusedSimpArgs false
namespace Go.Eng
open Go
def FrOK (fr:List (Nat × AV)):List (Nat × AV)→Prop
 | []=>True
 | (t,v)::r=>get fr t=v∧ZX v=true∧FrOK fr r
theorem FrOK.get {fr:List (Nat × AV)}:∀ {fr0:List (Nat × AV)},FrOK fr fr0→∀ t,ZX (get fr0 t)=true∧(get fr0 t = .any∨get fr0 t=get fr t)
 | [],_,t=>⟨rfl,.inl rfl⟩
 | (u,v)::r,h,t=>by
  obtain ⟨h1,h2,h3⟩:=h
  simp only [Eng.get]
  by_cases e:u=t
  ·subst e;rw [if_pos rfl];exact ⟨h2,.inr h1.symm⟩
  ·rw [if_neg e];exact FrOK.get h3 t
def Zjm (fr:List (Nat × AV)):List Nat→List AV→List (Nat × AV)
 | t::ts,v::vs=>Zjm (put fr t v) ts vs
 | _,_=>fr
section
variable {P:Program} {k:K0} {n:Nat} {g:G} {s:St} {a:Act} {w:World}
theorem getElem?_set' {α:Type} {l:List α} {i:Nat} {x y:α} (h:l[i]? = some x) (j:Nat):(l.set i y)[j]? = if i=j then some y else l[j]?:=by
 have hlt:=(List.getElem?_eq_some_iff.1 h).1
 rw [List.getElem?_set]
 by_cases e:i=j
 ·subst e;simp [hlt]
 ·simp [e]
theorem Rel.setLp (h:Rel k n g s a w) {id l:Nat} {L:LC} {fr:List (Nat × AV)} {st st':LS} {r r':Loop} (hH:s.H[id]? = some (.lp L fr st)) (hρ:g.ρ[id]? = some l) (hr:w.heap[l]? = some (.loop r))
  (hs:r'.params=r.params∧r'.assign=r.assign∧r'.body=r.body∧r'.tmps=r.tmps) (hst:StR st' r') :
  Rel k n g ⟨s.fr,s.bx,s.H.set id (.lp L fr st')⟩ a (w.putObj l (.loop r'))∧Zam (cx k g s.H w) (cx k g (s.H.set id (.lp L fr st')) (w.putObj l (.loop r'))):=by
 have u:Off w (w.putObj l (.loop r')) l:=.put _ (fun vs e f h=>by rw [hr] at h;cases h)
 have hget:=getElem?_set' (y:=HO.lp L fr st') hH
 have hlt:l<w.heap.size:=(Array.getElem?_eq_some_iff.1 hr).1
 have hl:Zam (cx k g s.H w) (cx k g (s.H.set id (.lp L fr st')) (w.putObj l (.loop r'))) :=
  {stay:=fun a x ho hc=>by
    refine ⟨u.cell hc,ho.1,ho.2.1,fun j hj => ?_⟩
    obtain ⟨sz,ver,rows,h1,h2⟩:=ho.2.2 j hj
    refine ⟨sz,ver,rows,?_,h2⟩
    rw [hget,if_neg (fun e=>by subst e;rw [hH] at h1;cases h1)]
    exact h1
   arr:=fun j sz ver frz rows e=>by
    have e':s.H[j]? = some (.arr sz ver frz rows):=e
    refine ⟨ver,frz,rows,?_,Nat.le_refl _,fun _=>⟨Nat.le_refl _,rfl,fun b vs _ hb=>⟨vs,u.blk hb,rfl⟩⟩⟩
    show (s.H.set id _)[j]? = _
    rw [hget,if_neg (fun e1=>by subst e1;rw [hH] at e';cases e')];exact e'
   cells:=fun j cs e=>by
    have e':s.H[j]? = some (.cells cs):=e
    refine ⟨⟨cs,?_⟩,rfl⟩
    show (s.H.set id _)[j]? = _
    rw [hget,if_neg (fun e1=>by subst e1;rw [hH] at e';cases e')];exact e'
   lp:=fun j L' fr' st1 e=>by
    have e':s.H[j]? = some (.lp L' fr' st1):=e
    refine ⟨?_,rfl⟩
    by_cases hj:id=j
    ·subst hj
     rw [hH] at e'
     cases e'
     exact ⟨st',by show (s.H.set id _)[id]? = _;rw [hget,if_pos rfl]⟩
    ·exact ⟨st1,by show (s.H.set id _)[j]? = _;rw [hget,if_neg hj];exact e'⟩ }
 refine ⟨?_,hl⟩
 have hobj:∀ b,b ≠ l→∀ o,w.heap[b]? = some o→(w.putObj l (.loop r')).heap[b]? = some o:=fun b hb o ho=>(u.block b hb).trans ho
 exact
  {defers:=h.defers.mono fun D _ hD=>hobj D (fun e=>by subst e;rw [hr] at hD;cases hD) _ hD
   rnd:=fun l' hl'=>by
    obtain ⟨r1,h1⟩:=h.rnd l' hl'
    by_cases e:l'=l
    ·subst e;exact ⟨r',World.putObj_heap_same hlt⟩
    ·exact ⟨r1,hobj l' e _ h1⟩
   tsz:=h.tsz
   slots:=fun t=>Zau hl (fun _ _ e=>e) (h.tops t) (h.slots t)
   tops:=h.tops
   boxes:=fun t cs e=>let ⟨b,hb,hr'⟩:=h.boxes t cs e; ⟨b,hb,hr'.later hl (hobj b (fun e=>by
    subst e;obtain ⟨_,vs,⟨et,hr'⟩,_⟩:=hr';rw [show w.heap[b]? = _ from hr'] at hr;cases hr))⟩
   boxed:=h.boxed
   heap:=fun j o e=>by
    simp only [hget] at e
    by_cases hj:id=j
    ·subst hj
     simp only [if_true,Option.some.injEq] at e
     subst e
     obtain ⟨b,hb,hq⟩:=h.heap id _ hH
     rw [hρ] at hb
     cases hb
     obtain ⟨hm,h0,r1,q1,q2,q3,q5,q6,q7⟩:L.mpk=false∧LpR (cx k g s.H w) l L fr st:=hq.resolve_right fun ⟨_,hq⟩=>by
      cases st with
      | mp ka es=>obtain ⟨_,_,ents,clock,hq,_⟩:=hq;rw [show w.heap[l]? = _ from hq] at hr;cases hr
      | mps ka es bs clock=>obtain ⟨_,_,ents,hq,_⟩:=hq;rw [show w.heap[l]? = _ from hq] at hr;cases hr
      | it m since seen last=>obtain ⟨_,_,_,_,_,_,hq⟩:=hq;rw [show w.heap[l]? = _ from hq] at hr;cases hr
      | itd=>obtain ⟨_,_,_,_,hq⟩:=hq;rw [show w.heap[l]? = _ from hq] at hr;cases hr
      | _=>exact hq
     have:r1=r:=by have:=(show w.heap[l]? = _ from q1).symm.trans hr;simpa using this
     subst this
     refine ⟨l,hρ,.inl ⟨hm,h0,r',World.putObj_heap_same hlt,by rw [hs.1];exact q2,by rw [hs.2.1,hs.2.2.1];exact q3,by rw [hs.2.2.2];exact q5,fun t => ?_,hst⟩⟩
     rw [hs.2.2.2]
     exact VR.later hl _ _ (h0 t) (q6 t)
    ·simp only [hj,if_false] at e
     obtain ⟨b,hb,hr'⟩:=h.heap j o e
     exact ⟨b,hb,hr'.later hl (hobj b (fun e=>hj (h.inj id j l hρ (by rw [← e];exact hb))))⟩
   len:=by simp [h.len]
   inj:=h.inj
   binj:=h.binj
   apart:=h.apart
   own:=h.own
   keep:=h.keep.off u (h.own id l hρ)
   hist:=h.hist.trans hl }
theorem Rel.lpMk (h:Rel k n g s a w) {id:Nat} {L:LC} {fr:List (Nat × AV)} {st:LS} (hH:s.H[id]? = some (.lp L fr st)) (hst:∀ ka es,st ≠ .mp ka es) (hst2:∀ ka es bs c,st ≠ .mps ka es bs c:=by simp) (hst3:∀ a b c d,st ≠ .it a b c d:=by simp) (hst4:st ≠ .itd:=by simp):L.mpk=false:=by
 obtain ⟨l,hl,h0⟩:=h.heap id _ hH
 rcases h0 with ⟨h0,_⟩ | ⟨_,h0⟩
 ·exact h0
 ·cases st with
  | mp ka es=>exact absurd rfl (hst ka es)
  | mps ka es bs c=>exact absurd rfl (hst2 ka es bs c)
  | it a b c d=>exact absurd rfl (hst3 a b c d)
  | itd=>exact absurd rfl hst4
  | _=>exact h0.elim
theorem Rel.theLp (h:Rel k n g s a w) {id:Nat} {L:LC} {fr:List (Nat × AV)} {st:LS} (hH:s.H[id]? = some (.lp L fr st)) (hm:L.mpk=false):∃ l r,g.ρ[id]? = some l∧w.heap[l]? = some (.loop r)∧LpR (cx k g s.H w) l L fr st∧StR st r:=by
 obtain ⟨l,hl,hq⟩:=h.heap id _ hH
 have h0:LpR (cx k g s.H w) l L fr st:=hq.elim (fun q=>q.2) (fun q=>by rw [hm] at q;cases q.1)
 have h0':=h0
 obtain ⟨_,r,h1,_,_,_,_,h2⟩:=h0'
 exact ⟨l,r,hl,h1,h0,h2⟩
theorem Rel.callL (h:Rel k n g s a w) {f:Nat} {args:List AV} {r:AV} {H':List HO} {vs:List Value} (hc:Zbe P f args s.H r H') (hargs:VRL (cx k g s.H w) args vs) (hno:noLocL args=true)
  {R:Ending→World→Prop} (hR:∀ g' v w',Rel k n g' ⟨s.fr,s.bx,H'⟩ a w'→Zam (cx k g s.H w) (cx k g' H' w')→R (.returned v) w'):Calls P f vs.toArray w R:=by
 obtain ⟨_,hr0,hc⟩:=hc
 refine (hc (okOf k s.H g) g.ρ w vs h.hr (VRL.later h.laterCall args vs hno hargs)).mono ?_
 rintro e w' ⟨v,ρ',rfl,h1,h2,h3⟩
 obtain ⟨h4,h5⟩:=h.back h1 h3
 exact hR _ _ _ h4 ((h.laterCall.trans h3).trans h5)
theorem Rel.mark (h:Rel k n g s a w):Rel k n g s { a with defers:={ target:=.collected w.heap.size,args := #[] }::a.defers } (w.alloc (.deferred (some []))):=by
 have hg:=Grow.alloc w (.deferred (some []))
 have h1:=h.grow hg
 obtain ⟨ms,e,hn,hm⟩:=h.defers
 refine { h1 with defers:=⟨w.heap.size::ms,by rw [e];rfl,List.nodup_cons.2 ⟨fun hD => ?_,hn⟩,fun D hD => ?_⟩ }
 ·have:=(Array.getElem?_eq_some_iff.1 (hm _ hD).2).1
  omega
 ·rcases List.mem_cons.1 hD with rfl | hD
  ·exact ⟨h.keep.size,World.alloc_heap_new w _⟩
  ·exact ⟨(hm D hD).1,Zdy hg (hm D hD).2⟩
theorem Rel.enterLoop (h:Rel k n g s a w) {fr0:List (Nat × AV)} (hfr:FrOK s.fr fr0) (fn:FuncId) (ps:Array Tmp) (assign body:Code) {L:LC} (hL1:L.ps=ps.toList) (hL2:L.n=n) (hL3:L.ok assign body) (hmk:L.mpk=false) :
  ∃ l mark w1 g1,(Instr.enterLoop fn a.tmps ps assign body k.rd).run P w = .ok (l,mark) w1∧g1.ρ[s.H.length]? = some l ∧
   Rel k n g1 ⟨s.fr,s.bx,s.H++[.lp L fr0 .ready]⟩ { a with defers:=mark++a.defers } w1∧Zam (cx k g s.H w) (cx k g1 (s.H++[.lp L fr0 .ready]) w1):=by
 have key:∀ (w0:World) (a0:Act) (rec:Loop),a0.tmps=a.tmps→rec.params=ps→rec.assign=assign→rec.body=body→rec.tmps=a.tmps→rec.state = .ready→rec.pending=none→Rel k n g s a0 w0 →
   Rel k n ⟨g.ρ++[w0.heap.size],g.β⟩ ⟨s.fr,s.bx,s.H++[.lp L fr0 .ready]⟩ a0 (w0.alloc (.loop rec)) ∧
    Zam (cx k g s.H w0) (cx k ⟨g.ρ++[w0.heap.size],g.β⟩ (s.H++[.lp L fr0 .ready]) (w0.alloc (.loop rec))):=by
  intro w0 a0 rec e0 e1 e2 e3 e4 e5 e6 h0
  have hl:=h0.laterNewG (o:=.lp L fr0 .ready) (.loop rec)
  refine h0.newObjG (.loop rec) (.inl ⟨hmk,fun t=>(hfr.get t).1,rec,World.alloc_heap_new w0 _,by rw [e1,hL1],by rw [e2,e3];exact hL3,by rw [e4,← e0,hL2];exact h0.tsz,fun t => ?_,e5,e6⟩)
  rcases (hfr.get t).2 with e | e
  ·rw [e];simp [VR]
  ·have:=h0.slots t
   rw [e0,← e4,← e] at this
   exact VR.later hl _ _ (hfr.get t).1 this
 cases hrd:k.rd with
 | none =>
  have hm:=h.mark
  obtain ⟨h1,h2⟩:=key (w.alloc (.deferred (some []))) { a with defers:={ target:=.collected w.heap.size,args := #[] }::a.defers } { state:=.ready,pending:=none,fn,tmps:=a.tmps,params:=ps,assign,body,defers:=w.heap.size } rfl rfl rfl rfl rfl rfl rfl hm
  refine ⟨_,_,_,_,run_enterLoop_outer fn a.tmps ps assign body,?_,h1,(ZdI (Grow.alloc w _) s.H).trans h2⟩
  show (g.ρ++[_])[s.H.length]? = _
  rw [← h.len]
  simp
 | some l0 =>
  obtain ⟨r0,hr0⟩:=h.rnd l0 hrd
  obtain ⟨h1,h2⟩:=key w a { state:=.ready,pending:=none,fn,tmps:=a.tmps,params:=ps,assign,body,defers:=r0.defers } rfl rfl rfl rfl rfl rfl rfl h
  refine ⟨w.heap.size,[],_,_,?_,?_,h1,h2⟩
  ·unfold Instr.enterLoop
   simp only [Sem.run_bind,run_getLoop hr0,run_newObj_alloc,Result.andThen,Sem.run_pure]
  ·show (g.ρ++[_])[s.H.length]? = _
   rw [← h.len]
   simp
def outQ (Q:Exit→St→Prop) (s:St):LS→Prop
 | .ready=>Q .normal s
 | .done .ret=>Q .ret s
 | .done (.exit id)=>Q (.exit id) s
 | _=>False
theorem EvI.rangeF {x:IX} {ps:List Nat} {ia ib:IC} {s:St} {Q:Exit→St→Prop} {gf:Nat} {cap:List AV} (fr0:List (Nat × AV)) (hfr:FrOK s.fr fr0) (hx:ev s.fr x = .fn gf [] cap)
  {L:LC} (hL:L=⟨ps,n,fun a b=>chkC P n a ia=true∧chkC P n b ib=true,false⟩) (hcall:(∀ t ∈ ps,t<n) →
   ∃ args H1 r H2 st,frzL (s.H++[.lp L fr0 .ready]) (.yl s.H.length::cap)=some (args,H1)∧Zbe P gf args H1 r H2∧H2[s.H.length]? = some (.lp L fr0 st) ∧
    outQ Q ⟨s.fr,s.bx,H2.set s.H.length (.lp L fr0 .dead)⟩ st):EvI P n (.rangeF x ps ia ib) s Q:=by
 intro c hc k g a w hr
 cases c<;>simp only [chkC,Bool.false_eq_true,Bool.and_eq_true,decide_eq_true_eq,List.all_eq_true] at hc
 rename_i G PS A B
 obtain ⟨⟨⟨⟨hG,hps⟩,hlt⟩,hA⟩,hB⟩:=hc
 obtain ⟨args,H1,r,H2,st,hf,hac,hH2,hQ⟩:=hcall hlt
 refine wpIn_rangeFunc fun fn _ => ?_
 obtain ⟨l,mark,w1,g1,he,hρ,h1,hl1⟩:=hr.enterLoop (P:=P) hfr fn PS A B (L:=L) (by rw [hL];exact hps.symm) (by rw [hL]) (by rw [hL];exact ⟨hA,hB⟩) (by rw [hL])
 have hvf:=Zbx hr hG
 have htf:=Zi2 hr hG
 rw [hx] at hvf htf
 simp only [top,ZX,Bool.and_eq_true] at htf
 have hvf1:=VR.later hl1 _ _ (by simp only [ZX,Bool.and_eq_true];exact htf) hvf
 rw [VR] at hvf1
 obtain ⟨us1,us2,e,hv1,hv2⟩:=hvf1
 rw [VRL] at hv1
 subst hv1
 have hargs:VRL (cx k g1 (s.H++[.lp L fr0 .ready]) w1) (.yl s.H.length::cap) (.func (.yield l) #[] #[]::us2):=by
  rw [VRL]
  refine ⟨_,us2,rfl,?_,hv2⟩
  rw [VR]
  exact ⟨L,fr0,.ready,l,(by simp [cx]),hρ,rfl⟩
 obtain ⟨r1,l2,v1,n1⟩:=Zi8 (s:=⟨s.fr,s.bx,s.H++[.lp L fr0 .ready]⟩) _ h1 hf (fun y hy=>by
  rcases List.mem_cons.1 hy with rfl | hy
  ·rfl
  ·exact ZM (Zbb.1 htf.2 y hy)) hargs
 refine ⟨l,mark,w1,{ target:=.fn (.func gf) us2.toArray,args := #[.func (.yield l) #[] #[]] },w1,gf,(.func (.yield l) #[] #[]::us2).toArray,w1,he,?_,fun _ _=>trivial,?_,fun h=>(by cases h),?_⟩
 ·have hcst:∀ v,a.eval (.const v)=v:=fun _=>rfl
  have e':a.eval G = .func (.func gf) #[] us2.toArray:=e
  simp [resolve,e',Deferred.ofValue,Sem.run_bind,Sem.run_pure,Result.andThen_ok,hcst]
 ·simp only [invoke]
  rw [Zeq hac.1]
  congr 2
  apply Array.ext'
  simp
 ·refine ZlZ (r1.callL hac v1 n1 ?_)
  intro g' v w' h2 hl3
  have hρ':g'.ρ[s.H.length]? = some l:=by
   have hl4:=l2.trans hl3
   have:=(hl4.lp s.H.length L fr0 .ready (by simp [cx])).2
   exact this.trans hρ
  obtain ⟨l',rr,e1,e2,_,e4⟩:=h2.theLp hH2 (by rw [hL])
  have:l'=l:=by have:=(show g'.ρ[s.H.length]? = _ from e1).symm.trans hρ';simpa using this
  subst this
  have hnb:rr.state ≠ .busy:=by
   cases st with
   | ready=>rw [e4.1];simp
   | busy=>simp [outQ] at hQ
   | dead=>simp [outQ] at hQ
   | mp=>simp [outQ] at hQ
   | mps=>simp [outQ] at hQ
   | it=>simp [outQ] at hQ
   | itd=>simp [outQ] at hQ
   | done c=>rw [e4.1];simp
  have hend:=run_endLoop (P:=P) e2 hnb
  have h3:=(h2.setLp (st':=.dead) (r':={ rr with state:=.exhausted }) hH2 e1 e2 ⟨rfl,rfl,rfl,rfl⟩ trivial).1
  cases st with
  | ready=>exact ⟨none,_,by rw [← e4.2];exact hend,⟨_,g',h3,hQ⟩⟩
  | busy=>simp [outQ] at hQ
  | dead=>simp [outQ] at hQ
  | mp=>simp [outQ] at hQ
  | mps=>simp [outQ] at hQ
  | it=>simp [outQ] at hQ
  | itd=>simp [outQ] at hQ
  | done c =>
   cases c with
   | ret=>exact ⟨some .ret,_,by rw [← e4.2];exact hend,wpIn_ret ⟨_,g',h3,hQ⟩⟩
   | exit id=>exact ⟨some (.exit id),_,by rw [← e4.2];exact hend,wpIn_exit ⟨_,g',h3,hQ⟩⟩
   | _=>simp [outQ] at hQ
def ZgQ (tmps:Array Value):List Nat→List Value→Array Value
 | t::ts,v::vs=>ZgQ (tmps.setIfInBounds t v) ts vs
 | _,_=>tmps
theorem Zpb (tmps:Array Value) (ps:List Nat) (vs:List Value):(List.zip ps vs).foldl (fun t (p:Nat × Value)=>t.setIfInBounds p.1 p.2) tmps=ZgQ tmps ps vs:=by
 induction ps generalizing tmps vs with
 | nil=>rfl
 | cons p ps ih =>
  cases vs with
  | nil=>rfl
  | cons v vs=>simp only [List.zip_cons_cons,List.foldl_cons,ZgQ];exact ih _ _
theorem Zn3 (tmps:Array Value) (ps:List Nat) (vs:List Value):(ZgQ tmps ps vs).size=tmps.size:=by
 induction ps generalizing tmps vs with
 | nil=>cases vs<;>rfl
 | cons p ps ih=>cases vs with
  | nil=>rfl
  | cons v vs=>simp only [ZgQ];rw [ih];simp
theorem Zjl {c:Cx}:∀ (ts:List Nat) {fr:List (Nat × AV)} {tmps:Array Value} {args:List AV} {vs:List Value},(∀ t,ZX (get fr t)=true)→(∀ t,VR c (get fr t) (tmps.getD t undef))→noLocL args=true→VRL c args vs →
  (∀ t ∈ ts,t<tmps.size)→∀ t,ZX (get (Zjm fr ts args) t)=true∧VR c (get (Zjm fr ts args) t) ((ZgQ tmps ts vs).getD t undef)
 | [],fr,tmps,args,vs,h0,h1,_,_,_,t=>by
  have e1:Zjm fr [] args=fr:=by cases args<;>rfl
  have e2:ZgQ tmps [] vs=tmps:=by cases vs<;>rfl
  rw [e1,e2];exact ⟨h0 t,h1 t⟩
 | u::ts,fr,tmps,[],vs,h0,h1,_,hv,_,t=>by
  rw [VRL] at hv
  subst hv
  exact ⟨h0 t,h1 t⟩
 | u::ts,fr,tmps,x::xs,vs,h0,h1,hno,hv,hlt,t=>by
  rw [VRL] at hv
  obtain ⟨v,vs',rfl,hv1,hv2⟩:=hv
  simp only [noLocL,ZX.noLocL,Bool.and_eq_true] at hno
  simp only [Zjm,ZgQ]
  refine Zjl ts (fun t => ?_) (fun t => ?_) hno.2 hv2 (fun t ht=>by simpa using hlt t (by simp [ht])) t
  ·rw [Zao]
   split
   ·exact hno.1
   ·exact h0 t
  ·rw [Zao]
   have hu:=hlt u (by simp)
   by_cases e:u=t
   ·subst e;rw [if_pos rfl];simp [Array.getD_eq_getD_getElem?,hu];exact hv1
   ·rw [if_neg e]
    have:=h1 t
    rwa [Array.getD_eq_getD_getElem?,← Array.getElem?_setIfInBounds_ne (xs:=tmps) (a:=v) e,← Array.getD_eq_getD_getElem?] at this
def Zoz (id:Nat) (L:LC) (fr0:List (Nat × AV)) (b:Bool) (H':List HO):Exit→St→Prop
 | .normal,s=>b=true∧s.H[id]? = some (.lp L fr0 .busy)∧H'=s.H.set id (.lp L fr0 .ready)
 | .ret,s=>b=false∧s.H[id]? = some (.lp L fr0 .busy)∧H'=s.H.set id (.lp L fr0 (.done .ret))
 | .exit j,s=>b=false∧s.H[id]? = some (.lp L fr0 .busy)∧H'=s.H.set id (.lp L fr0 (.done (.exit j)))
 | _,_=>False
theorem HR.rd {k:K0} {x:Option Nat} {ρ:List Nat} {H:List HO} {w:World} (h:HR { k with rd:=x } ρ H w):HR k ρ H w :=
 {heap:=h.heap,len:=h.len,inj:=h.inj,own:=h.own,keep:=h.keep }
theorem ZqI {id:Nat} {args:List AV} {H H':List HO} {L:LC} {fr0:List (Nat × AV)} {ia ib:IC} {b:Bool} (hH:H[id]? = some (.lp L fr0 .ready)) (hps:args.length=L.ps.length) (hlt:∀ t ∈ L.ps,t<L.n) (hno:noLocL args=true)
  (hok:∀ a b,L.ok a b→chkC P L.n a ia=true∧chkC P L.n b ib=true)
  (h:EvI P L.n ia ⟨Zjm fr0 L.ps args,[],H⟩ (ZhQ (fun s1=>s1.H[id]? = some (.lp L fr0 .ready)∧EvI P L.n ib ⟨s1.fr,s1.bx,s1.H.set id (.lp L fr0 .busy)⟩ (Zoz id L fr0 b H')) (fun _ _=>False))) :
  Zhh P id args H b H':=by
 intro ok0 ρ w vs l hhr hv hρ
 obtain ⟨l',hl',hq⟩:=hhr.heap id _ hH
 obtain ⟨_,h0,r,q1,q2,q3,q5,q6,q7⟩:=hq.resolve_right fun ⟨_,q⟩=>q
 obtain ⟨ha,hb⟩:=hok _ _ q3
 rw [hρ] at hl'
 cases hl'
 have hvl:=hv.length
 have hps':vs.toArray.size=r.params.size:=by
  have:r.params.toList.length=L.ps.length:=by rw [q2]
  simp only [Array.length_toList] at this
  simp;omega
 refine ⟨r.fn,_,r.assign,r.body,run_yield q1 hps',?_⟩
 refine roundIn_of_wpIn (F:=FR none) trivial ?_
 have hk0:cx ({ k0 ok0 ρ H w with rd:=some l }:K0) ⟨ρ,noB⟩ H w=cx (k0 ok0 ρ H w) ⟨ρ,noB⟩ H w:=rfl
 have htm:(r.params.zip vs.toArray).foldl (fun tmps (x:Nat × Value)=>tmps.setIfInBounds x.1 x.2) r.tmps=ZgQ r.tmps L.ps vs:=by
  rw [← Array.foldl_toList,Array.toList_zip,q2]
  exact Zpb _ _ _
 have hsl:=Zjl (c:=cx (k0 ok0 ρ H w) ⟨ρ,noB⟩ H w) L.ps h0 q6 hno hv (fun t ht=>by rw [q5];exact hlt t ht)
 have hrel:Rel ({ k0 ok0 ρ H w with rd:=some l }:K0) L.n ⟨ρ,noB⟩ ⟨Zjm fr0 L.ps args,[],H⟩ { tmps:=ZgQ r.tmps L.ps vs,defers:=[] } w :=
  {defers:=⟨[],rfl,List.nodup_nil,fun D h=>(by cases h)⟩
   rnd:=fun l' e=>by cases e;exact ⟨r,q1⟩
   tsz:=by rw [Zn3];exact q5
   slots:=fun t=>(hsl t).2
   tops:=fun t=>ZM (hsl t).1
   boxes:=fun t cs e=>by simp [bget] at e
   boxed:=fun t b e=>by cases e
   heap:=hhr.heap
   len:=hhr.len
   inj:=hhr.inj
   binj:=fun t u b e=>by cases e
   apart:=fun t i b e=>by cases e
   own:=hhr.own
   keep:=hhr.keep
   hist:=Zam.refl _ }
 have htm':(Array.foldl (fun tmps (x:Tmp × Value)=>match x with | (t,a)=>tmps.setIfInBounds t a) r.tmps (r.params.zip vs.toArray))=ZgQ r.tmps L.ps vs:=htm
 rw [htm']
 refine wpIn_mono (h _ ha ({ k0 ok0 ρ H w with rd:=some l }:K0) ⟨ρ,noB⟩ _ w hrel) ?_
 rintro e a1 w1 ⟨s1,g1,h1,h2⟩
 cases e with
 | normal =>
  obtain ⟨hH1,h2⟩:=h2
  obtain ⟨l1,r1,e1,e2,_,e4⟩:=h1.theLp hH1 (h1.lpMk hH1 (by intro _ _ e;cases e))
  have:l1=l:=by
   have:=(h1.hist.lp id L fr0 .ready hH).2
   have:=(show g1.ρ[id]? = ρ[id]? from this)
   rw [e1,hρ] at this;simpa using this
  subst this
  refine ⟨_,run_beginRound e2 e4.1,?_⟩
  obtain ⟨h3,_⟩:=h1.setLp (st':=.busy) (r':={ r1 with state:=.busy }) hH1 e1 e2 ⟨rfl,rfl,rfl,rfl⟩ rfl
  refine wpIn_mono (h2 _ hb ({ k0 ok0 ρ H w with rd:=some l1 }:K0) g1 a1 _ h3) ?_
  rintro e a2 w2 ⟨s2,g2,h4,h5⟩
  have key:∀ (jump:Option Code) (st:LS),s2.H[id]? = some (.lp L fr0 .busy)→H'=s2.H.set id (.lp L fr0 st)→b=jump.isNone→(∀ r:Loop,StR st { r with state:=if jump.isNone then .ready else .done,pending:=jump }) →
    ∃ v w',(Instr.endRound l1 jump).run P w2 = .ok v w'∧∃ ρ',Ending.returned v = .returned (.bool b)∧HR (k0 ok0 ρ H w) ρ' H' w'∧Zam (cx (k0 ok0 ρ H w) ⟨ρ,noB⟩ H w) (cx (k0 ok0 ρ H w) ⟨ρ',noB⟩ H' w'):=by
   intro jump st g0 gH gb gst
   obtain ⟨l2,r2,f1,f2,_,_⟩:=h4.theLp g0 (h4.lpMk g0 (by intro _ _ e;cases e))
   have:l2=l1:=by
    have:=(h4.hist.lp id L fr0 .ready hH).2
    have:=(show g2.ρ[id]? = ρ[id]? from this)
    rw [f1,hρ] at this;simpa using this
   subst this
   obtain ⟨h6,_⟩:=h4.setLp (st':=st) (r':={ r2 with state:=if jump.isNone then .ready else .done,pending:=jump }) g0 f1 f2 ⟨rfl,rfl,rfl,rfl⟩ (gst r2)
   refine ⟨_,_,run_endRound jump f2,g2.ρ,by rw [gb],?_,?_⟩
   ·rw [gH];exact HR.rd h6.toHR
   ·rw [gH];exact h6.hist.trans h6.noBoxes
  cases e with
  | normal=>exact key none .ready h5.2.1 h5.2.2 h5.1 (fun r=>⟨rfl,rfl⟩)
  | ret=>exact key (some .ret) (.done .ret) h5.2.1 h5.2.2 h5.1 (fun r=>⟨rfl,rfl⟩)
  | exit j=>exact key (some (.exit j)) (.done (.exit j)) h5.2.1 h5.2.2 h5.1 (fun r=>⟨rfl,rfl⟩)
  | _=>exact h5.elim
 | _=>exact h2.elim
end
end Go.Eng

