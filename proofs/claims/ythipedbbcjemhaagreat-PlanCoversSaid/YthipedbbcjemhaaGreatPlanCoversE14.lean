/- Part of the proof; written by a program out of the texts in wip/. -/
import Derived.Test.YthipedbbcjemhaaGreatPlanCoversE13
import Derived.ScopeJumps
import Derived.RangeFuncLeaves
set_option linter.unusedVariables false
set_option linter.unusedSimpArgs false
namespace Go.Eng
open Go
def chkC (P:Program) (n:Nat):Code→IC→Bool
 | .skip,.skip=>true
 | .region _ ops draw,.reg ios _ => !draw&&Zcp P n ops ops.toList ios
 | .region _ ops draw,.regD ios _=>draw&&Zcp P n ops ops.toList (srtL ios)&&P.follows .mixedOrders&&ZoT ops ios
 | .region _ ops draw,.regF fs ios _=>draw&&Zcp P n ops ops.toList (srtL ios)&&P.follows .mixedOrders&&ZoT ops ios&&fs.all fun t=>decide (t<n)||decide (1000000≤t)
 | .seq a b,.seq a' b'=>chkC P n a a'&&chkC P n b b'
 | .cond x a b,.cond x' a' b'=>Zdu x x'&&chkC P n a a'&&chkC P n b b'
 | .block id a,.block id' a'=>decide (id=id')&&chkC P n a a'
 | .loop a,.loop a'=>chkC P n a a'
 | .exit id,.exit id'=>decide (id=id')
 | .scope a,.scope a'=>chkC P n a a'
 | .label l,.label l'=>decide (l=l')
 | .goto l,.goto l'=>decide (l=l')
 | .ret,.ret=>true
 | c,.kp _ a=>chkC P n c a
 | c,.box a=>chkC P n c a
 | .region id ops draw,.pu _ a=>chkC P n (.region id ops draw) a
 | .rangeFunc g ps a b,.rangeF x ps' a' b'=>Zdu g x&&decide (ps.toList=ps')&&ps'.all (fun t=>decide (t<n))&&chkC P n a a'&&chkC P n b b'
 | _,_=>false
def ZpA (t:Nat):List (Nat × AV)→List (Nat × AV)
 | []=>[]
 | (u,v)::r=>if u=t then ZpA t r else (u,v)::ZpA t r
def Zhf (x:IX) (s:St):St:=match x with
 | .t n=>⟨ZpA n s.fr,s.bx,s.H⟩
 | .k _=>s
def Zeu (ks:List Nat) (s:St):St:=⟨ZkL ks s.fr,ZnE ks s.bx,s.H⟩
theorem ZnI (t:Nat) (fr:List (Nat × AV)) (x:Nat):get (ZpA t fr) x=if t=x then .any else get fr x:=by
 induction fr with
 | nil=>simp [ZpA,get]
 | cons p r ih =>
  obtain ⟨u,v⟩:=p
  simp only [ZpA]
  by_cases h:u=t
  ·subst h
   simp only [if_true,ih,get]
   by_cases e:u=x<;>simp [e]
  ·simp only [h,if_false,get,ih]
   by_cases e:u=x
   ·subst e;simp [Ne.symm h]
   ·simp [e]
def Ev (P:Program) (n:Nat) (c:Code) (s:St) (Q:Exit→St→Prop):Prop :=
 ∀ k g a w,Rel k n g s a w→c.wpIn (FR k.rd) 0 P (fun e a' w'=>∃ s' g',Rel k n g' s' a' w'∧Q e s') a w
def EvI (P:Program) (n:Nat) (ic:IC) (s:St) (Q:Exit→St→Prop):Prop:=∀ c,chkC P n c ic=true→Ev P n c s Q
def EvX (P:Program) (n:Nat) (ic:IC) (s:St) (Q:Exit→St→Prop):Prop:=∃ e s',EvI P n ic s (fun e1 s1=>e1=e∧s1=s')∧Q e s'
@[reducible] def ZhQ (next:St→Prop) (Q:Exit→St→Prop):Exit→St→Prop
 | .normal,s=>next s
 | e,s=>Q e s
@[reducible] def Zdw (id:Nat) (Q:Exit→St→Prop):Exit→St→Prop
 | .exit id',s=>if id'=id then Q .normal s else Q (.exit id') s
 | e,s=>Q e s
def ZoW (d:Nat):List (Nat × AV)→Bool
 | []=>true
 | (u,v)::r=>(match v with
  | .loc t _=>decide (u=d)||decide (t ≠ d)
  | _=>true)&&ZoW d r
theorem ZnO {d:Nat} {fr:List (Nat × AV)} (h:ZoW d fr=true):Zjh d fr:=by
 intro u o hu e
 induction fr with
 | nil=>simp [get] at e
 | cons p r ih =>
  obtain ⟨u',v⟩:=p
  simp only [ZoW,Bool.and_eq_true] at h
  simp only [get] at e
  split at e
  ·rename_i hq
   subst e
   have:=h.1
   simp only [Bool.or_eq_true,decide_eq_true_eq] at this
   rcases this with h1 | h1
   ·omega
   ·exact h1 rfl
  ·exact ih h.2 e
def Zke (fr:List (Nat × AV)):List IOp→Bool
 | []=>true
 | o::os=>(match newD o.i with
  | some d=>ZoW d fr
  | none=>true)&&Zke fr os
def Zmi (ops:List IOp) (fr:List (Nat × AV)):Prop:=Zke fr ops=true
theorem Zkd {ops:List IOp} {fr:List (Nat × AV)} (h:Zmi ops fr):∀ o ∈ ops,∀ d,newD o.i=some d→Zjh d fr:=by
 unfold Zmi at h
 induction ops with
 | nil=>simp
 | cons o os ih =>
  simp only [Zke,Bool.and_eq_true] at h
  intro o' ho' d hd
  rcases List.mem_cons.1 ho' with rfl | ho'
  ·have:=h.1;rw [hd] at this;exact ZnO this
  ·exact ih h.2 o' ho' d hd
def ZlP (s:St) (t:Nat):AV:=if t<1000000 then get s.fr t else .agg ((bget s.bx (t - 1000000)).getD [])
def frzS:List Nat→St→Option St
 | [],s=>some s
 | t::ts,s=>(frzV s.H (ZlP s t)).bind fun (x,H)=>frzS ts ⟨s.fr,s.bx,H⟩
def Zpd:List Nat→St→Option St
 | [],s=>some s
 | t::ts,s=>if t<1000000 then (frzV s.H (get s.fr t)).bind fun (x,H)=>Zpd ts ⟨put s.fr t x,s.bx,H⟩
  else match bget s.bx (t - 1000000) with
   | some cs=>(frzC s.H cs).bind fun (xs,H)=>if ZO xs=true then Zpd ts ⟨s.fr,bput s.bx (t - 1000000) xs,H⟩ else none
   | none=>none
@[reducible] def puQ (fs:List Nat) (Q:Exit→St→Prop):Exit→St→Prop
 | .normal,s=>∃ s',Zpd fs s=some s'∧Q .normal s'
 | e,s=>Q e s
def vc (P:Program) (n:Nat):IC→(Exit→St→Prop)→St→Prop
 | .skip,Q,s=>Q .normal s
 | .reg ops keep,Q,s=>∃ s',Za P ops s s'∧Q .normal (Zeu keep s')
 | .regD ops keep,Q,s=>Zmi ops s.fr∧∃ s',Za P ops s s'∧Q .normal (Zeu keep s')
 | .regF fs ops keep,Q,s=>∃ s0,frzS fs s=some s0∧Zmi ops s0.fr∧∃ s',Za P ops s0 s'∧Q .normal (Zeu keep s')
 | .seq a b,Q,s=>vc P n a (ZhQ (vc P n b Q) Q) s
 | .cond x a b,Q,s=>match ev s.fr x with
  | .p (.bool t)=>if t=true then vc P n a Q (Zhf x s) else vc P n b Q (Zhf x s)
  | _=>False
 | .block id a,Q,s=>vc P n a (Zdw id Q) s
 | .loop a,Q,s=>EvX P n (.loop a) s Q
 | .exit id,Q,s=>Q (.exit id) s
 | .scope a,Q,s=>EvX P n (.scope a) s Q
 | .label _,Q,s=>Q .normal s
 | .goto l,Q,s=>Q (.goto l) s
 | .ret,Q,s=>Q .ret s
 | .kp ks a,Q,s=>vc P n a Q (Zeu ks s)
 | .pu fs a,Q,s=>vc P n a (puQ fs Q) s
 | .rangeF x ps a b,Q,s=>EvX P n (.rangeF x ps a b) s Q
 | .box a,Q,s=>EvX P n a s Q
section
variable {P:Program} {n:Nat}
theorem Rel.drop {k:K0} {g:G} {s:St} {a:Act} {w:World} (h:Rel k n g s a w) (x:IX):Rel k n g (Zhf x s) a w:=by
 cases x with
 | k v=>exact h
 | t m =>
  exact { h with
   slots:=fun t=>by
    simp only [Zhf,ZnI]
    split
    ·simp [VR]
    ·exact h.slots t
   tops:=fun t=>by
    simp only [Zhf,ZnI]
    split
    ·rfl
    ·exact h.tops t }
theorem Zqn {k:K0} {g:G} {s:St} {a:Act} {w:World} (h:Rel k n g s a w) (t:Nat):top (ZlP s t)=true∧∃ v,VR (cx k g s.H w) (ZlP s t) v:=by
 unfold ZlP
 split
 ·exact ⟨h.tops t,_,h.slots t⟩
 ·cases hb:bget s.bx (t - 1000000) with
  | none=>exact ⟨rfl,.agg #[],by simp only [Option.getD_none];rw [VR];exact ⟨[],rfl,by simp [VRL]⟩⟩
  | some cs =>
   obtain ⟨b,_,hok,vs,_,hv⟩:=h.boxes _ cs hb
   exact ⟨ZM (by simpa [ZX] using ZH hok),.agg vs,by rw [VR];exact ⟨vs.toList,by simp,hv⟩⟩
theorem ZlQ {k:K0} {g:G} {a:Act} {w:World}:∀ (ts:List Nat) {s s':St},Rel k n g s a w→frzS ts s=some s'→Rel k n g s' a w
 | [],s,s',h,e=>by
  simp only [frzS,Option.some.injEq] at e
  exact e ▸ h
 | t::ts,s,s',h,e=>by
  simp only [frzS] at e
  cases h1:frzV s.H (ZlP s t) with
  | none=>simp [h1] at e
  | some p =>
   obtain ⟨x,H1⟩:=p
   simp only [h1,Option.bind_some] at e
   obtain ⟨ht,v,hv⟩:=Zqn h t
   obtain ⟨r1,l1,v1,n1⟩:=Zi7 h h1 ht hv
   exact ZlQ ts r1 e
theorem Rel.reSlot {k:K0} {g:G} {s:St} {a:Act} {w:World} (h:Rel k n g s a w) {t:Nat} {x:AV} (hv:VR (cx k g s.H w) x (a.tmps.getD t undef)) (ht:top x=true):Rel k n g ⟨Eng.put s.fr t x,s.bx,s.H⟩ a w :=
 {h with
  slots:=fun u=>by
   simp only [Zao]
   split
   ·rename_i e;subst e;exact hv
   ·exact h.slots u
  tops:=fun u=>by
   simp only [Zao]
   split
   ·exact ht
   ·exact h.tops u }
theorem Rel.reBox {k:K0} {g:G} {s:St} {a:Act} {w:World} (h:Rel k n g s a w) {t:Nat} {cs xs:List AV} (hb:bget s.bx t=some cs) (hok:ZO xs=true) (hv:∃ b vs,g.β t=some b∧(cx k g s.H w).blk b vs∧VRL (cx k g s.H w) xs vs.toList) :
  Rel k n g ⟨s.fr,bput s.bx t xs,s.H⟩ a w :=
 {h with
  boxes:=fun u ys e=>by
   simp only [ZbR] at e
   by_cases he:t=u
   ·subst he
    simp only [if_true,Option.some.injEq] at e
    subst e
    obtain ⟨b,vs,h1,h2,h3⟩:=hv
    exact ⟨b,h1,hok,vs,h2,h3⟩
   ·rw [if_neg he] at e
    exact h.boxes u ys e
  boxed:=fun u b e=>by
   obtain ⟨⟨ys,hy⟩,h2⟩:=h.boxed u b e
   refine ⟨?_,h2⟩
   simp only [ZbR]
   by_cases he:t=u
   ·exact ⟨xs,by rw [if_pos he]⟩
   ·exact ⟨ys,by rw [if_neg he];exact hy⟩ }
theorem ZhY {k:K0} {g:G} {a:Act} {w:World}:∀ (ts:List Nat) {s s':St},Rel k n g s a w→Zpd ts s=some s'→Rel k n g s' a w
 | [],s,s',h,e=>by
  simp only [Zpd,Option.some.injEq] at e
  exact e ▸ h
 | t::ts,s,s',h,e=>by
  simp only [Zpd] at e
  split at e
  ·cases h1:frzV s.H (get s.fr t) with
   | none=>simp [h1] at e
   | some p =>
    obtain ⟨x,H1⟩:=p
    simp only [h1,Option.bind_some] at e
    obtain ⟨r1,l1,v1,n1⟩:=Zi7 h h1 (h.tops t) (h.slots t)
    exact ZhY ts (r1.reSlot v1 (ZM n1)) e
  ·split at e
   ·rename_i cs hb
    cases h1:frzC s.H cs with
    | none=>simp [h1] at e
    | some p =>
     obtain ⟨xs,H1⟩:=p
     simp only [h1,Option.bind_some] at e
     split at e
     ·rename_i hok
      obtain ⟨b,hb1,hoc,vs0,hblk,hv0⟩:=h.boxes _ cs hb
      have hno:=ZH hoc
      obtain ⟨r1,_,v1,_⟩:=Zi9 cs h h1 hno hv0
      exact ZhY ts (r1.reBox (cs:=cs) hb hok ⟨b,vs0,hb1,hblk,v1⟩) e
     ·cases e
   ·cases e
theorem EvI.mono {ic:IC} {s:St} {Q Q':Exit→St→Prop} (h:EvI P n ic s Q) (hq:∀ e s,Q e s→Q' e s):EvI P n ic s Q' :=
 fun c hc k g a w hr=>wpIn_mono (h c hc k g a w hr) fun e a' w' ⟨s',g',h1,h2⟩=>⟨s',g',h1,hq e s' h2⟩
theorem EvX.mono {ic:IC} {s:St} {Q Q':Exit→St→Prop} (h:EvX P n ic s Q) (hq:∀ e s,Q e s→Q' e s):EvX P n ic s Q' :=
 let ⟨e,s',h1,h2⟩:=h; ⟨e,s',h1,hq e s' h2⟩
theorem EvX.toI {ic:IC} {s:St} {Q:Exit→St→Prop} (h:EvX P n ic s Q):EvI P n ic s Q:=by
 obtain ⟨e,s',h1,h2⟩:=h
 exact h1.mono fun e1 s1 ⟨a,b⟩=>by subst a b;exact h2
theorem Zt:∀ (ic:IC) (Q:Exit→St→Prop) (s:St),vc P n ic Q s→EvI P n ic s Q
 | .skip,Q,s,h=>by
  intro c hc k g a w hr
  cases c<;>simp only [chkC,Bool.false_eq_true] at hc
  exact wpIn_skip ⟨s,g,hr,h⟩
 | .reg ios keep,Q,s,h=>by
  intro c hc k g a w hr
  cases c<;>simp only [chkC,Bool.false_eq_true,Bool.and_eq_true,Bool.not_eq_true'] at hc
  rename_i id ops draw
  obtain ⟨rfl,hc⟩:=hc
  simp only [vc] at h
  obtain ⟨s',hp,hq⟩:=h
  exact Znj hr hc hp _ fun g' a' w' h1=>let ⟨g2,h2⟩:=h1.keepOnly keep; ⟨_,g2,h2,hq⟩
 | .regD ios keep,Q,s,h=>by
  intro c hc k g a w hr
  cases c<;>simp only [chkC,Bool.false_eq_true,Bool.and_eq_true] at hc
  rename_i id ops draw
  obtain ⟨⟨⟨rfl,hc⟩,hm⟩,hd⟩:=hc
  simp only [vc] at h
  obtain ⟨hst,s',hp,hq⟩:=h
  exact ZlV hm hr hc hd (Zkd hst) hp fun g' t a' w' e h1=>let ⟨g2,h2⟩:=(h1.eqv e.symm).keepOnly keep; ⟨_,g2,h2,hq⟩
 | .regF fs ios keep,Q,s,h=>by
  intro c hc k g a w hr
  cases c<;>simp only [chkC,Bool.false_eq_true,Bool.and_eq_true,List.all_eq_true,decide_eq_true_eq] at hc
  rename_i id ops draw
  obtain ⟨⟨⟨⟨rfl,hc⟩,hm⟩,hd⟩,hf⟩:=hc
  simp only [vc] at h
  obtain ⟨s0,h0,hst,s',hp,hq⟩:=h
  exact ZlV hm (ZlQ fs hr h0) hc hd (Zkd hst) hp fun g' t a' w' e h1=>let ⟨g2,h2⟩:=(h1.eqv e.symm).keepOnly keep; ⟨_,g2,h2,hq⟩
 | .seq x y,Q,s,h=>by
  intro c hc k g a w hr
  cases c<;>simp only [chkC,Bool.false_eq_true,Bool.and_eq_true] at hc
  rename_i c1 c2
  simp only [vc] at h
  refine wpIn_seq (wpIn_mono (Zt x _ s h c1 hc.1 k g a w hr) ?_)
  rintro e a' w' ⟨s',g',h1,h2⟩
  cases e with
  | normal=>exact Zt y Q s' h2 c2 hc.2 k g' a' w' h1
  | _=>exact ⟨s',g',h1,h2⟩
 | .cond x y z,Q,s,h=>by
  intro c hc k g a w hr
  cases c<;>simp only [chkC,Bool.false_eq_true,Bool.and_eq_true] at hc
  rename_i X c1 c2
  simp only [vc] at h
  split at h
  ·rename_i t hx
   have hv:=Zbx hr hc.1.1
   rw [hx] at hv
   have ht:=Zjd hv
   cases t with
   | true =>
    simp only [if_true] at h
    exact wpIn_cond_true ht (Zt y Q _ h c1 hc.1.2 k g a w (hr.drop x))
   | false =>
    simp only [Bool.false_eq_true,if_false] at h
    exact wpIn_cond_false ht (Zt z Q _ h c2 hc.2 k g a w (hr.drop x))
  ·exact h.elim
 | .block id x,Q,s,h=>by
  intro c hc k g a w hr
  cases c<;>simp only [chkC,Bool.false_eq_true,Bool.and_eq_true,decide_eq_true_eq] at hc
  rename_i id' c1
  obtain ⟨rfl,hc⟩:=hc
  simp only [vc] at h
  refine wpIn_block (wpIn_mono (Zt x _ s h c1 hc k g a w hr) ?_)
  rintro e a' w' ⟨s',g',h1,h2⟩
  cases e with
  | exit j =>
   simp only [Zdw] at h2
   simp only [Exit.inBlock]
   split
   ·rename_i e;rw [if_pos e] at h2;exact ⟨s',g',h1,h2⟩
   ·rename_i e;rw [if_neg e] at h2;exact ⟨s',g',h1,h2⟩
  | _=>exact ⟨s',g',h1,h2⟩
 | .loop x,Q,s,h=>EvX.toI h
 | .rangeF ..,Q,s,h=>EvX.toI h
 | .box a,Q,s,h=>fun c hc=>EvX.toI h c (by cases c<;>simpa only [chkC] using hc)
 | .exit id,Q,s,h=>by
  intro c hc k g a w hr
  cases c<;>simp only [chkC,Bool.false_eq_true,decide_eq_true_eq] at hc
  subst hc
  exact wpIn_exit ⟨s,g,hr,h⟩
 | .scope x,Q,s,h=>EvX.toI h
 | .label l,Q,s,h=>by
  intro c hc k g a w hr
  cases c<;>simp only [chkC,Bool.false_eq_true] at hc
  exact wpIn_label ⟨s,g,hr,h⟩
 | .goto l,Q,s,h=>by
  intro c hc k g a w hr
  cases c<;>simp only [chkC,Bool.false_eq_true,decide_eq_true_eq] at hc
  subst hc
  exact wpIn_goto ⟨s,g,hr,h⟩
 | .ret,Q,s,h=>by
  intro c hc k g a w hr
  cases c<;>simp only [chkC,Bool.false_eq_true] at hc
  exact wpIn_ret ⟨s,g,hr,h⟩
 | .kp ks x,Q,s,h=>by
  intro c hc k g a w hr
  have hc':chkC P n c x=true:=by cases c<;>simpa only [chkC] using hc
  obtain ⟨g2,h2⟩:=hr.keepOnly ks
  exact Zt x Q _ h c hc' k g2 a w h2
 | .pu fs x,Q,s,h=>by
  intro c hc k g a w hr
  have hc':chkC P n c x=true:=by cases c<;>simp only [chkC,Bool.false_eq_true] at hc;exact hc
  refine wpIn_mono (Zt x _ _ h c hc' k g a w hr) ?_
  rintro e a' w' ⟨s',g',h1,h2⟩
  cases e with
  | normal=>obtain ⟨s2,h3,h4⟩:=h2;exact ⟨s2,g',ZhY fs h1 h3,h4⟩
  | _=>exact ⟨s',g',h1,h2⟩
theorem Zh7 {F:Fence} {m:Nat} {c:Code} {Q:Exit→Act→World→Prop} {α:Type} (R:α→Act→World→Prop) (μ:α→Nat)
  (round:∀ x a w,R x a w→c.wpIn F m P (Exit.then (fun a' w'=>∃ y,R y a' w'∧μ y<μ x) Q) a w) (x:α) (a:Act) (w:World) (h:R x a w):(Code.loop c).wpIn F m P Q a w:=by
 intro b k cs hro hb hr
 have key:∀ i x a w,μ x=i→R x a w→∃ e a' w',Q e a' w'∧ArrivesIn (Machine.fenced P F) P (lone (b.atR a (.code c :: .inLoop c::k)) cs w) b k cs e a' w':=by
  intro i
  induction i using Nat.strongRecOn with
  | _ i ih =>
   intro x a w hm hI
   obtain ⟨e,a₁,w₁,hq,harr⟩:=round x a w hI b (.inLoop c::k) cs hro hb hr
   cases e with
   | normal =>
    obtain ⟨y,hI₁,hlt⟩:=hq
    obtain ⟨e₂,a₂,w₂,hq₂,harr₂⟩:=ih (μ y) (hm ▸ hlt) y a₁ w₁ rfl hI₁
    exact ⟨e₂,a₂,w₂,hq₂,.of_steps (StepsIn.trans harr (.one (fenced_calm hb hr rfl) stepR_inLoop)) harr₂⟩
   | exit id=>exact ⟨_,a₁,w₁,hq,.pass (x:=.inLoop c) rfl (fun _ _=>.inl (by simp)) harr⟩
   | goto l=>exact ⟨_,a₁,w₁,hq,.pass (x:=.inLoop c) rfl (fun _ _=>.inl (by simp)) harr⟩
   | ret=>exact ⟨_,a₁,w₁,hq,.pass (x:=.inLoop c) rfl (fun _ _=>.inl (by simp)) harr⟩
   | panic ch=>exact ⟨_,a₁,w₁,hq,.pass (x:=.inLoop c) rfl (fun _ _=>.inl (by simp)) harr⟩
   | outgrown=>exact ⟨_,a₁,w₁,hq,.pass (x:=.inLoop c) rfl (fun _ _=>.inl (by simp)) harr⟩
 obtain ⟨e,a',w',hq,harr⟩:=key _ x a w rfl h
 exact ⟨e,a',w',hq,.of_steps (.one (fenced_calm hb hr rfl) stepR_loop) harr⟩
@[reducible] def ZmC (Q:Exit→St→Prop):Exit→St→Prop
 | .goto _,_=>False
 | e,s=>Q e s
theorem Zd5 {b:Frame} {a:Act} {k:List Item} {cs:List Frame} {w:World} {c:Code}:step P (lone (b.atR a (.code (.scope c)::k)) cs w) = .next (lone (b.atR a (.code c :: .inScope c::k)) cs w) :=
 step_lone_go (by simp [stepG,stepG.exec,Frame.atR])
theorem Zmg {b:Frame} {a:Act} {k:List Item} {cs:List Frame} {w:World} {c:Code}:step P (lone (b.atR a (.inScope c::k)) cs w) = .next (lone (b.atR a k) cs w) :=
 step_lone_go (by simp [stepG,stepG.exec,Frame.atR])
theorem Zju (id:Nat) (c:Code) (k:List Item):exitTo id (.inScope c::k)=exitTo id k:=by simp [exitTo]
theorem ZhP {F:Fence} {m:Nat} {c:Code} {Q:Exit→Act→World→Prop} {a:Act} {w:World} (h:c.wpIn F m P (fun e a w=>(∀ l,e ≠ .goto l)∧Q e a w) a w):(Code.scope c).wpIn F m P Q a w:=by
 intro b k cs hro hb hr
 obtain ⟨e,a₁,w₁,⟨hne,hq⟩,harr⟩:=h b (.inScope c::k) cs hro hb hr
 have h0:(lone (b.atR a (.code (.scope c)::k)) cs w).fenced P F:=fenced_calm hb hr rfl
 cases e with
 | normal=>exact ⟨.normal,a₁,w₁,hq,.head h0 Zd5 (StepsIn.trans harr (.one (fenced_calm hb hr rfl) Zmg))⟩
 | exit id=>exact ⟨.exit id,a₁,w₁,hq,fun k' hk=>.head h0 Zd5 (harr.1 k' (by rw [Zju];exact hk)),fun h1 h2=>let ⟨k₁,h3,h4⟩:=harr.2 h1 (by rw [Zju];exact h2); ⟨k₁,h3,.head h0 Zd5 h4⟩⟩
 | goto l'=>exact absurd rfl (hne l')
 | ret=>exact ⟨_,a₁,w₁,hq,.of_steps (.one h0 Zd5) harr⟩
 | panic ch=>exact ⟨_,a₁,w₁,hq,.of_steps (.one h0 Zd5) harr⟩
 | outgrown=>exact ⟨_,a₁,w₁,hq,.of_steps (.one h0 Zd5) harr⟩
theorem EvI.scope0 {b:IC} {Q:Exit→St→Prop} {s:St} (h:vc P n b (ZmC Q) s):EvI P n (.scope b) s Q:=by
 intro c hc k g a w hr
 cases c<;>simp only [chkC,Bool.false_eq_true] at hc
 rename_i c1
 refine ZhP (wpIn_mono (Zt b _ _ h c1 hc k g a w hr) ?_)
 rintro e a' w' ⟨s',g',h1,h2⟩
 cases e with
 | goto l=>exact h2.elim
 | _=>exact ⟨fun _ e=>(by cases e),s',g',h1,h2⟩
end
end Go.Eng

