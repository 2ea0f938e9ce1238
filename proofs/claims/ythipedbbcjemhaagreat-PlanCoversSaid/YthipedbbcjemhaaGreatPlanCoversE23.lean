/- Part of the proof; written by a program out of the texts in wip/. -/
import Derived.Test.YthipedbbcjemhaaGreatPlanCoversE22
set_option linter.unusedVariables false
set_option linter.unusedSimpArgs false
namespace Go.Eng
open Go
section
variable {H H' H'':List HO}
theorem HP.append:∀ {a b:List Z8},HP H (a++b)↔HP H a∧HP H b∧∀ i ∈ a,∀ j ∈ b,∀ id,Occ i id→¬ Occ j id
 | [],b=>by simp [HP]
 | i::a,b=>by
  rw [List.cons_append,HP,HP,HP.append]
  constructor
  ·rintro ⟨h1,h2,h3,h4,h5⟩
   refine ⟨⟨h1,fun id ho j hj=>h2 id ho j (by simp [hj]),h3⟩,h4,fun x hx j hj id hxo => ?_⟩
   rcases List.mem_cons.1 hx with rfl | hx
   ·exact h2 id hxo j (by simp [hj])
   ·exact h5 x hx j hj id hxo
  ·rintro ⟨⟨h1,h2,h3⟩,h4,h5⟩
   refine ⟨h1,fun id ho j hj => ?_,h3,h4,fun x hx=>h5 x (by simp [hx])⟩
   rcases List.mem_append.1 hj with hj | hj
   ·exact h2 id ho j hj
   ·exact h5 i (by simp) j hj id ho
theorem HP.now {items:List Z8} (h:HP H items):HP H items:=h
structure Fp (H H':List HO) (fp fp':List Z8):Prop where
 size:H.length≤H'.length
 same:∀ id,id<H.length→(∀ i ∈ fp,¬ Occ i id)→H'[id]? = H[id]?
 now:HP H' fp'
 occ:∀ i' ∈ fp',∀ id,Occ i' id→(∃ i ∈ fp,Occ i id)∨H.length≤id
theorem Fp.refl {fp:List Z8} (h:HP H fp):Fp H H fp fp:=⟨Nat.le_refl _,fun _ _ _=>rfl,h,fun i hi id ho=>.inl ⟨i,hi,ho⟩⟩
theorem Fp.trans {a b c:List Z8} (h:Fp H H' a b) (h':Fp H' H'' b c):Fp H H'' a c :=
 {size:=Nat.le_trans h.size h'.size
  same:=fun id hlt hn=>by
   rw [h'.same id (Nat.lt_of_lt_of_le hlt h.size) (fun i hi ho => ?_),h.same id hlt hn]
   rcases h.occ i hi id ho with ⟨j,hj,hjo⟩ | hge
   ·exact hn j hj hjo
   ·omega
  now:=h'.now
  occ:=fun i hi id ho=>by
   rcases h'.occ i hi id ho with ⟨j,hj,hjo⟩ | hge
   ·exact h.occ j hj id hjo
   ·right;have:=h.size;omega }
theorem Fp.rest {fp fp' rest:List Z8} (h:HP H (fp++rest)) (hf:Fp H H' fp fp'):HP H' (fp'++rest):=by
 obtain ⟨h1,h2,h3⟩:=HP.append.1 h
 refine HP.append.2 ⟨hf.now,h2.same fun j hj id ho=>hf.same id ((h2.lies j hj).lt id ho) (fun i hi hio=>h3 i hi j hj id hio ho),fun i' hi' j hj id hio hjo => ?_⟩
 rcases hf.occ i' hi' id hio with ⟨i,hi,ho⟩ | hge
 ·exact h3 i hi j hj id ho hjo
 ·have:=(h2.lies j hj).lt id hjo;omega
theorem HP.swap {a b:List Z8} (h:HP H (a++b)):HP H (b++a):=by
 obtain ⟨h1,h2,h3⟩:=HP.append.1 h
 exact HP.append.2 ⟨h2,h1,fun i hi j hj id ho hj'=>h3 j hj i hi id hj' ho⟩
theorem Fp.beside {own fp fp':List Z8} (h:HP H (own++fp)) (hf:Fp H H' fp fp'):HP H' (own++fp'):=(hf.rest h.swap).swap
theorem Fp.more {fp fp' rest:List Z8} (h:HP H (fp++rest)) (hf:Fp H H' fp fp'):Fp H H' (fp++rest) (fp'++rest) :=
 {size:=hf.size
  same:=fun id hlt hn=>hf.same id hlt fun i hi=>hn i (by simp [hi])
  now:=hf.rest h
  occ:=fun i hi id ho=>by
   rcases List.mem_append.1 hi with hi | hi
   ·rcases hf.occ i hi id ho with ⟨j,hj,hjo⟩ | hge
    ·exact .inl ⟨j,by simp [hj],hjo⟩
    ·exact .inr hge
   ·exact .inl ⟨i,by simp [hi],ho⟩ }
end
section
variable {P:Program} {n:Nat} {s:St}
theorem Zgl:∀ {xs:List AV},ZO xs=true→ZO (weakL xs)=true
 | [],_=>rfl
 | x::xs,h=>by
  simp only [ZO,Bool.and_eq_true] at h
  simp only [weakL,ZO,Bool.and_eq_true]
  refine ⟨?_,Zgl h.2⟩
  cases x<;>simp_all [weak1,ZcQ]
theorem Rel.weakC {k:K0} {g:G} {a:Act} {w:World} (h:Rel k n g s a w) {id:Nat} {cs:List AV} (hH:s.H[id]? = some (.cells cs)):Rel k n g ⟨s.fr,s.bx,s.H.set id (.cells (weakL cs))⟩ a w:=by
 have hget:=getElem?_set' (y:=HO.cells (weakL cs)) hH
 have hl:Zam (cx k g s.H w) (cx k g (s.H.set id (.cells (weakL cs))) w) :=
  {stay:=fun a x ho hc=>by
    refine ⟨hc,ho.1,ho.2.1,fun j hj => ?_⟩
    obtain ⟨sz,ver,rows,h1,h2⟩:=ho.2.2 j hj
    refine ⟨sz,ver,rows,?_,h2⟩
    rw [hget,if_neg (fun e=>by subst e;rw [hH] at h1;cases h1)]
    exact h1
   arr:=fun j sz ver frz rows e=>by
    have e':s.H[j]? = some (.arr sz ver frz rows):=e
    refine ⟨ver,frz,rows,?_,Nat.le_refl _,fun _=>⟨Nat.le_refl _,rfl,fun b vs _ hb=>⟨vs,hb,rfl⟩⟩⟩
    show (s.H.set id _)[j]? = _
    rw [hget,if_neg (fun e1=>by subst e1;rw [hH] at e';cases e')];exact e'
   cells:=fun j cs' e=>by
    have e':s.H[j]? = some (.cells cs'):=e
    refine ⟨?_,rfl⟩
    by_cases hj:id=j
    ·exact ⟨weakL cs,by show (s.H.set id _)[j]? = _;rw [hget,if_pos hj]⟩
    ·exact ⟨cs',by show (s.H.set id _)[j]? = _;rw [hget,if_neg hj];exact e'⟩
   lp:=fun j L fr st e=>by
    have e':s.H[j]? = some (.lp L fr st):=e
    refine ⟨⟨st,?_⟩,rfl⟩
    show (s.H.set id _)[j]? = _
    rw [hget,if_neg (fun e1=>by subst e1;rw [hH] at e';cases e')];exact e' }
 exact
  {h with
   slots:=fun t=>Zau hl (fun _ _ e=>e) (h.tops t) (h.slots t)
   boxes:=fun t cs e=>let ⟨b,hb,hr⟩:=h.boxes t cs e; ⟨b,hb,hr.later hl fun _ hb=>hb⟩
   heap:=fun j o e=>by
    simp only [hget] at e
    by_cases hj:id=j
    ·subst hj
     simp only [if_true,Option.some.injEq] at e
     subst e
     obtain ⟨b,hb,h1,vs,h2,h3⟩:=h.heap id _ hH
     exact ⟨b,hb,Zgl h1,vs,h2,VRL.later hl _ _ (ZH (Zgl h1)) h3.weakL⟩
    ·simp only [hj,if_false] at e
     obtain ⟨b,hb,hr⟩:=h.heap j o e
     exact ⟨b,hb,hr.later hl fun _ hb=>hb⟩
   len:=by simp [h.len]
   hist:=h.hist.trans hl }
theorem Zlb {f:Nat} {F:IFn} (hk:chkF P f F=true) {args:List AV} {H:List HO} {r:AV} (K:List HO→Prop) (hl:args.length=F.nargs) (hno:noLocL args=true) (hr:ZX r=true)
  (h:vc P F.nt F.body (endQ fun s'=>∃ xs,rawL s' F.res=some xs∧ZaW xs=r∧K s'.H) ⟨Zhg args 0,[],H⟩):∃ H',Zbe P f args H r H'∧K H':=by
 obtain ⟨e,s',h1,h2⟩:=vcd _ h
 have key:(∃ xs,rawL s' F.res=some xs∧ZaW xs=r∧K s'.H)→(e = .normal∨e = .ret)→∃ H',Zbe P f args H r H'∧K H':=by
  rintro ⟨xs,x1,x2,x3⟩ he
  refine ⟨s'.H,ZmU hk hl hno hr (Zt _ _ _ (Zcf _ (fun e1 s1 q => ?_) h1)),x3⟩
  obtain ⟨q1,q2⟩:=q
  subst q1 q2
  rcases he with rfl | rfl
  ·exact ⟨xs,x1,x2,rfl⟩
  ·exact ⟨xs,x1,x2,rfl⟩
 cases e with
 | normal=>exact key h2 (.inl rfl)
 | ret=>exact key h2 (.inr rfl)
 | _=>exact h2.elim
theorem Zjc {f:Nat} {F:IFn} (hk:chkF P f F=true) {args:List AV} {H:List HO} (K:AV→List HO→Prop) (hK:∀ r H,K r H→ZX r=true) (hl:args.length=F.nargs) (hno:noLocL args=true)
  (h:vc P F.nt F.body (endQ fun s'=>∃ xs,rawL s' F.res=some xs∧K (ZaW xs) s'.H) ⟨Zhg args 0,[],H⟩):∃ r H',Zbe P f args H r H'∧K r H':=by
 obtain ⟨e,s',h1,h2⟩:=vcd _ h
 have key:(∃ xs,rawL s' F.res=some xs∧K (ZaW xs) s'.H)→(e = .normal∨e = .ret)→∃ r H',Zbe P f args H r H'∧K r H':=by
  rintro ⟨xs,x1,x3⟩ he
  refine ⟨ZaW xs,s'.H,ZmU hk hl hno (hK _ _ x3) (Zt _ _ _ (Zcf _ (fun e1 s1 q => ?_) h1)),x3⟩
  obtain ⟨q1,q2⟩:=q
  subst q1 q2
  rcases he with rfl | rfl
  ·exact ⟨xs,x1,rfl,rfl⟩
  ·exact ⟨xs,x1,rfl,rfl⟩
 cases e with
 | normal=>exact key h2 (.inl rfl)
 | ret=>exact key h2 (.inr rfl)
 | _=>exact h2.elim
def ZpJ (H:List HO) (id:Nat):List HO:=match H[id]? with
 | some (.cells cs)=>H.set id (.cells (weakL cs))
 | _=>H
def weakH (ids:List Nat) (H:List HO):List HO:=ids.foldl ZpJ H
def wS (ids:List Nat) (s:St):St:=⟨s.fr,s.bx,weakH ids s.H⟩
theorem Rel.weakH {k:K0} {g:G} {a:Act} {w:World}:∀ (ids:List Nat) {s:St},Rel k n g s a w→Rel k n g (wS ids s) a w
 | [],s,h=>h
 | id::ids,s,h=>by
  have h1:Rel k n g ⟨s.fr,s.bx,ZpJ s.H id⟩ a w:=by
   unfold ZpJ
   split
   ·rename_i cs hH;exact h.weakC hH
   ·exact h
  exact Rel.weakH ids h1
theorem EvI.weak {ic:IC} {Q:Exit→St→Prop} (ids:List Nat) (h:EvI P n ic s (fun e s'=>Q e (wS ids s'))):EvI P n ic s Q:=fun c hc k g a w hr =>
 wpIn_mono (h c hc k g a w hr) fun e a' w' ⟨s',g',h1,h2⟩=>⟨wS ids s',g',h1.weakH ids,h2⟩
theorem outQ_is {Q:Exit→St→Prop} {S:St} {st:LS} (h:outQ Q S st):∃ e,outQ (isQ e S) S st∧Q e S:=by
 cases st with
 | ready=>exact ⟨.normal,⟨rfl,rfl⟩,h⟩
 | busy=>exact h.elim
 | dead=>exact h.elim
 | mp=>exact h.elim
 | mps=>exact h.elim
 | it=>exact h.elim
 | itd=>exact h.elim
 | done c =>
  cases c with
  | ret=>exact ⟨.ret,⟨rfl,rfl⟩,h⟩
  | exit id=>exact ⟨.exit id,⟨rfl,rfl⟩,h⟩
  | _=>exact h.elim
def lcOf (P:Program) (n:Nat) (ps:List Nat) (ia ib:IC):LC:=⟨ps,n,fun a b=>chkC P n a ia=true∧chkC P n b ib=true,false⟩
theorem ZpN {x:IX} {ps:List Nat} {ia ib:IC} {Q:Exit→St→Prop} {gf:Nat} {cap:List AV} (fr0:List (Nat × AV)) (hfr:FrOK s.fr fr0) (hx:ev s.fr x = .fn gf [] cap)
  (hcall:∃ args H1 r H2 st,frzL (s.H++[.lp (lcOf P n ps ia ib) fr0 .ready]) (.yl s.H.length::cap)=some (args,H1)∧Zbe P gf args H1 r H2∧H2[s.H.length]? = some (.lp (lcOf P n ps ia ib) fr0 st) ∧
    outQ Q ⟨s.fr,s.bx,H2.set s.H.length (.lp (lcOf P n ps ia ib) fr0 .dead)⟩ st):vc P n (.rangeF x ps ia ib) Q s:=by
 obtain ⟨args,H1,r,H2,st,h1,h2,h3,h4⟩:=hcall
 obtain ⟨e,h5,h6⟩:=outQ_is h4
 exact ⟨e,_,EvI.rangeF fr0 hfr hx (L:=lcOf P n ps ia ib) rfl (fun _=>⟨args,H1,r,H2,st,h1,h2,h3,h5⟩),h6⟩
theorem ZgL {id:Nat} {args:List AV} {H:List HO} {ps:List Nat} {fr0:List (Nat × AV)} {ia ib:IC} (b:Bool) (K:List HO→Prop) (hH:H[id]? = some (.lp (lcOf P n ps ia ib) fr0 .ready)) (hps:args.length=ps.length) (hlt:∀ t ∈ ps,t<n)
  (hno:noLocL args=true)
  (h:vc P n ia (normR fun s1=>s1.H[id]? = some (.lp (lcOf P n ps ia ib) fr0 .ready)∧vc P n ib (fun e s2=>∃ H',Zoz id (lcOf P n ps ia ib) fr0 b H' e s2∧K H') ⟨s1.fr,s1.bx,s1.H.set id (.lp (lcOf P n ps ia ib) fr0 .busy)⟩) ⟨Zjm fr0 ps args,[],H⟩) :
  ∃ H',Zhh P id args H b H'∧K H':=by
 obtain ⟨e1,s1,h1,rfl,hH1,h2⟩:=vcd _ h
 obtain ⟨e2,s2,h3,H',h4,h5⟩:=vcd _ h2
 refine ⟨H',ZqI (L:=lcOf P n ps ia ib) hH hps hlt hno (fun a b h=>h) (ia:=ia) (ib:=ib) ?_,h5⟩
 refine (Zt _ _ _ h1).mono fun e s ⟨x,y⟩ => ?_
 subst x y
 refine ⟨hH1,(Zt _ _ _ h3).mono fun e s ⟨x,y⟩ => ?_⟩
 subst x y
 exact h4
theorem Zmk {d:Option Nat} {fx:IX} {xs:List IX} {id:Nat} {ys args:List AV} {b:Bool} {H H1 H':List HO} (hs:s.H=H) (hf:ev s.fr fx = .yl id) (hy:xs.map (ev s.fr)=ys) (hz:frzL H ys=some (args,H1)) (hc:Zhh P id args H1 b H') :
  ZI P (.callY d fx xs) s ⟨putO s.fr d (.p (.bool b)),s.bx,H'⟩:=by
 subst hs hy
 exact ⟨id,args,H1,b,H',hf,hz,hc,rfl⟩
end
end Go.Eng

