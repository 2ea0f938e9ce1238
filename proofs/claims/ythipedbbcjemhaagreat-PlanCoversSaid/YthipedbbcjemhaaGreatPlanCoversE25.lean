/- Part of the proof; written by a program out of the texts in wip/. -/
import Derived.Test.YthipedbbcjemhaaGreatPlanCoversE24
set_option linter.unusedVariables false
set_option linter.unusedSimpArgs false
namespace Go.Eng
open Go
def stAt (l:List LS) (e:Nat):LS:=l.getD e .dead
def ZgK {V:Type} (body:V→Option (V × Nat)) (s:V × Nat):Option ((V × Nat) × Bool) :=
 if s.2=0 then (body s.1).map (fun r=>(r,r.2==0)) else none
def ZdL {V:Type} (body:V→Option V) (s:V):Option (V × Bool):=(body s).map (fun r=>(r,true))
theorem Zj1 {V:Type} {body:V→Option (V × Nat)} {s:V × Nat} {r:(V × Nat) × Bool} (h:ZgK body s=some r):s.2=0∧∃ q,body s.1=some q∧r=(q,q.2==0):=by
 unfold ZgK at h
 split at h
 ·rename_i h0
  refine ⟨h0,?_⟩
  cases hb:body s.1 with
  | none=>rw [hb] at h;cases h
  | some q=>rw [hb] at h;exact ⟨q,rfl,by simpa using h.symm⟩
 ·cases h
theorem ZhO {V:Type} {body:V→Option V} {s:V} {r:V × Bool} (h:ZdL body s=some r):∃ q,body s=some q∧r=(q,true):=by
 unfold ZdL at h
 cases hb:body s with
 | none=>rw [hb] at h;cases h
 | some q=>rw [hb] at h;exact ⟨q,rfl,by simpa using h.symm⟩
section
variable {H0 H H':List HO} {f0 items own its its':List Z8}
theorem Fp.tail (h:Fp H0 H f0 (own++its)):HP H its:=(HP.append.1 h.now).2.1
theorem Fp.callT (h:Fp H0 H f0 (own++its)) (hf:Fp H H' its its'):Fp H0 H' f0 (own++its'):=by
 refine h.trans ?_
 exact
  {size:=hf.size
   same:=fun id hlt hn=>hf.same id hlt fun i hi=>hn i (by simp [hi])
   now:=hf.beside h.now
   occ:=fun i hi id ho=>by
    rcases List.mem_append.1 hi with hi | hi
    ·exact .inl ⟨i,by simp [hi],ho⟩
    ·rcases hf.occ i hi id ho with ⟨j,hj,hjo⟩ | hge
     ·exact .inl ⟨j,by simp [hj],hjo⟩
     ·exact .inr hge }
theorem HP.after {a b:List Z8} (h:HP H a) (hf:Fp H H' a b):HP H' b:=hf.now
theorem Fp.setLp {k id:Nat} {L:LC} {fr:List (Nat × AV)} {st:LS} (hF:Fp H0 H f0 items) (hk:items[k]? = some (.lp id L fr st)) (st':LS):Fp H0 (H.set id (.lp L fr st')) f0 (items.set k (.lp id L fr st')):=by
 have hid:H[id]? = some (.lp L fr st):=hF.get k hk
 have hlt:=(List.getElem?_eq_some_iff.1 hid).1
 refine hF.step hk (by simp [Lies,hlt]) (fun id' e=>.inl e) (fun id' hl ho => ?_) (by simp)
 rw [List.getElem?_set_ne]
 intro e;subst e;exact ho rfl
end
section
variable {P:Program} {n:Nat} {s:St} {H0:List HO} {f0 items:List Z8}
theorem ZkP {ib:IC} {Q:Exit→St→Prop} {k id:Nat} {L:LC} {fr0:List (Nat × AV)} (hF:Fp H0 s.H f0 items) (hk:items[k]? = some (.lp id L fr0 .ready))
  (h:∀ H6,Fp H0 H6 f0 (items.set k (.lp id L fr0 .busy))→vc P n ib Q ⟨s.fr,s.bx,H6⟩) :
  Exit.normal = .normal∧s.H[id]? = some (.lp L fr0 .ready)∧vc P n ib Q ⟨s.fr,s.bx,s.H.set id (.lp L fr0 .busy)⟩ :=
 ⟨rfl,hF.get k hk,h _ (hF.setLp hk .busy)⟩
def ZmK:Exit→Option (Bool × LS)
 | .normal=>some (true,.ready)
 | .ret=>some (false,.done .ret)
 | .exit j=>some (false,.done (.exit j))
 | _=>none
theorem rb_done {K:List HO→Prop} {k id:Nat} {L:LC} {fr0:List (Nat × AV)} {e:Exit} {b:Bool} (st:LS) (hF:Fp H0 s.H f0 items) (hk:items[k]? = some (.lp id L fr0 .busy)) (he:ZmK e=some (b,st))
  (h:∀ H6,Fp H0 H6 f0 (items.set k (.lp id L fr0 st))→K H6):∃ H',Zoz id L fr0 b H' e s∧K H':=by
 refine ⟨_,?_,h _ (hF.setLp hk st)⟩
 have hg:s.H[id]? = some (.lp L fr0 .busy):=hF.get k hk
 cases e with
 | normal=>simp only [ZmK,Option.some.injEq,Prod.mk.injEq] at he;obtain ⟨rfl,rfl⟩:=he;exact ⟨rfl,hg,rfl⟩
 | ret=>simp only [ZmK,Option.some.injEq,Prod.mk.injEq] at he;obtain ⟨rfl,rfl⟩:=he;exact ⟨rfl,hg,rfl⟩
 | exit j=>simp only [ZmK,Option.some.injEq,Prod.mk.injEq] at he;obtain ⟨rfl,rfl⟩:=he;exact ⟨rfl,hg,rfl⟩
 | _=>cases he
theorem Zmz {Q:Exit→St→Prop} {S:St} {sts:List LS} {x k:Nat} {e:Exit} (hx:(x==k)=true) (he:(ZmK e).map (·.2)=some (stAt sts k)) (h:Q e S):outQ Q S (stAt sts x):=by
 obtain rfl:=eq_of_beq hx
 cases e with
 | normal=>simp only [ZmK,Option.map_some,Option.some.injEq] at he;rw [← he];exact h
 | ret=>simp only [ZmK,Option.map_some,Option.some.injEq] at he;rw [← he];exact h
 | exit j=>simp only [ZmK,Option.map_some,Option.some.injEq] at he;rw [← he];exact h
 | _=>cases he
theorem Zh9 {x:IX} {ps:List Nat} {ia ib:IC} {Q:Exit→St→Prop} {gf:Nat} {cap:List AV} (fr0:List (Nat × AV)) (hfr:FrOK s.fr fr0) (hx:ev s.fr x = .fn gf [] cap)
  (hfz:∀ H,frzL H (.yl s.H.length::cap)=some (.yl s.H.length::cap,H)) {capT cells0 rest:List Z8} (hp:HP s.H (capT++(cells0++rest)))
  {σ:Type} (T:σ→List Z8→Prop) (s0 s1:σ) (hT0:T s0 (cells0++[.lp s.H.length (lcOf P n ps ia ib) fr0 .ready]))
  (hit:∀ H its,T s0 its→HP H (capT++its)→∃ H' its',Zbe P gf (.yl s.H.length::cap) H (.tup []) H'∧T s1 its'∧Fp H H' (capT++its) (capT++its'))
  (hend:∀ its',T s1 its'→∃ cells' st,its'=cells'++[.lp s.H.length (lcOf P n ps ia ib) fr0 st]∧∀ H2,Fp s.H H2 (capT++(cells0++rest)) (capT++(cells'++rest))→outQ Q ⟨s.fr,s.bx,H2⟩ st) :
  vc P n (.rangeF x ps ia ib) Q s:=by
 have h1:Fp s.H (s.H++[.lp (lcOf P n ps ia ib) fr0 .ready]) (capT++(cells0++rest)) (.lp s.H.length (lcOf P n ps ia ib) fr0 .ready::(capT++(cells0++rest))) :=
  (Fp.refl hp).new (by simp [Lies]) (fun id e=>by cases e;rfl)
 have hperm:∀ {H:List HO} {a:Z8} {u v w:List Z8},HP H (a::(u++(v++w)))→HP H ((u++(v++[a]))++w):=by
  intro H a u v w h
  have h':HP H ([a]++(u++(v++w))):=h
  obtain ⟨ha,huvw,hd1⟩:=HP.append.1 h'
  obtain ⟨hu,hvw,hd2⟩:=HP.append.1 huvw
  obtain ⟨hv,hw,hd3⟩:=HP.append.1 hvw
  refine HP.append.2 ⟨HP.append.2 ⟨hu,HP.append.2 ⟨hv,ha,fun i hi j hj id ho hjo => ?_⟩,fun i hi j hj id ho hjo => ?_⟩,hw,fun i hi j hj id ho hjo => ?_⟩
  ·exact hd1 j hj i (by simp [hi]) id hjo ho
  ·rcases List.mem_append.1 hj with hj | hj
   ·exact hd2 i hi j (by simp [hj]) id ho hjo
   ·exact hd1 j hj i (by simp [hi]) id hjo ho
  ·rcases List.mem_append.1 hi with hi | hi
   ·exact hd2 i hi j (by simp [hj]) id ho hjo
   ·rcases List.mem_append.1 hi with hi | hi
    ·exact hd3 i hi j hj id ho hjo
    ·exact hd1 i hi j (by simp [hj]) id ho hjo
 have h2:=hperm h1.now
 obtain ⟨H',its',hc,hT',hf⟩:=hit _ _ hT0 (HP.append.1 h2).1
 obtain ⟨cells',st,rfl,hq⟩:=hend its' hT'
 have h3:=hf.more h2
 have h4:HP H' ((capT++(cells'++[.lp s.H.length (lcOf P n ps ia ib) fr0 st]))++rest):=h3.now
 have hl:H'[s.H.length]? = some (.lp (lcOf P n ps ia ib) fr0 st):=h4.lies (.lp s.H.length (lcOf P n ps ia ib) fr0 st) (by simp)
 have hlt:=(List.getElem?_eq_some_iff.1 hl).1
 refine ZpN fr0 hfr hx ⟨_,_,_,H',st,hfz _,hc,hl,hq _ ?_⟩
 have hother:∀ i,i ∈ capT++(cells'++rest)→∀ id,Occ i id→id ≠ s.H.length:=by
  intro i hi id ho e
  subst e
  obtain ⟨ha,hb,hd⟩:=HP.append.1 h4
  obtain ⟨hc1,hc2,hd2⟩:=HP.append.1 ha
  obtain ⟨he1,he2,hd3⟩:=HP.append.1 hc2
  have hlo:Occ (.lp s.H.length (lcOf P n ps ia ib) fr0 st) s.H.length:=rfl
  rcases List.mem_append.1 hi with hi | hi
  ·exact hd2 i hi (.lp s.H.length (lcOf P n ps ia ib) fr0 st) (by simp) _ ho hlo
  ·rcases List.mem_append.1 hi with hi | hi
   ·exact hd3 i hi (.lp s.H.length (lcOf P n ps ia ib) fr0 st) (by simp) _ ho hlo
   ·exact hd (.lp s.H.length (lcOf P n ps ia ib) fr0 st) (by simp) i hi _ hlo ho
 have hbig:HP H' (capT++(cells'++rest)):=by
  obtain ⟨ha,hb,hd⟩:=HP.append.1 h4
  obtain ⟨hc1,hc2,hd2⟩:=HP.append.1 ha
  obtain ⟨he1,he2,hd3⟩:=HP.append.1 hc2
  refine HP.append.2 ⟨hc1,HP.append.2 ⟨he1,hb,fun i hi j hj=>hd i (by simp [hi]) j hj⟩,fun i hi j hj => ?_⟩
  rcases List.mem_append.1 hj with hj | hj
  ·exact hd2 i hi j (by simp [hj])
  ·exact hd i (by simp [hi]) j hj
 have hsz:s.H.length<H'.length:=hlt
 exact
  {size:=by simp;omega
   same:=fun id hid hn=>by
    rw [List.getElem?_set_ne (by omega),h3.same id (by simp;omega) (fun i hi ho => ?_),List.getElem?_append_left hid]
    rcases List.mem_append.1 hi with hi | hi
    ·rcases List.mem_append.1 hi with hi | hi
     ·exact hn i (by simp [hi]) ho
     ·rcases List.mem_append.1 hi with hi | hi
      ·exact hn i (by simp [hi]) ho
      ·simp only [List.mem_singleton] at hi;subst hi;have:s.H.length=id:=ho;omega
    ·exact hn i (by simp [hi]) ho
   now:=hbig.same fun i hi id ho=>List.getElem?_set_ne (fun e=>hother i hi id ho e.symm)
   occ:=fun i hi id ho=>by
    by_cases hge:s.H.length≤id
    ·exact .inr hge
    ·have hmem:i ∈ (capT++(cells'++[.lp s.H.length (lcOf P n ps ia ib) fr0 st]))++rest:=by
      rcases List.mem_append.1 hi with hi | hi
      ·simp [hi]
      ·rcases List.mem_append.1 hi with hi | hi<;>simp [hi]
     rcases h3.occ i hmem id ho with ⟨j,hj,hjo⟩ | h5
     ·refine .inl ⟨j,?_,hjo⟩
      rcases List.mem_append.1 hj with hj | hj
      ·rcases List.mem_append.1 hj with hj | hj
       ·simp [hj]
       ·rcases List.mem_append.1 hj with hj | hj
        ·simp [hj]
        ·simp only [List.mem_singleton] at hj;subst hj;have:s.H.length=id:=hjo;omega
      ·simp [hj]
     ·simp at h5;omega }
theorem ZiZ {Q:Exit→St→Prop} {S:St} (h:Q .normal S):outQ Q S .ready:=h
theorem FrOK.nil {fr:List (Nat × AV)}:FrOK fr []:=trivial
theorem FrOK.cons {fr r:List (Nat × AV)} {t:Nat} {v:AV} (h1:Eng.get fr t=v) (h2:ZX v=true) (h3:FrOK fr r):FrOK fr ((t,v)::r):=⟨h1,h2,h3⟩
theorem ZoE:rawL s []=some []:=rfl
theorem ZoD {r:RV} {rs:List RV} {v:AV} {ys:List AV} (h:rawV s r=some v) (h2:rawL s rs=some ys):rawL s (r::rs)=some (v::ys):=by simp [rawL,h,h2]
theorem ZoC {t m id off:Nat} {isA:Bool} {cs c:List AV} {v:AV} (hp:get s.fr t = .ptr id off) (hl:Lies s.H (.cel id cs)) (hs:sub off m cs=some c) (hm:mk isA c=some v):rawV s (.cell t m isA)=some v:=by
 have hl':s.H[id]? = some (.cells cs):=hl
 simp [rawV,hp,rd,hl',hs,hm]
theorem ZfQ {x y:IX} {m:Nat} {v p:AV} {cs:List AV} {H H':List HO} (hcs:cellsOf v=cs) (hH:s.H=H) (hx:ev s.fr x=p) (hy:ev s.fr y=v) (hok:decide (cs.length=m)&&ZO cs=true) (hw:∀ bx,wrt bx H cs p=some ⟨bx,H'⟩) :
  ZI P (.store x y m) s ⟨s.fr,s.bx,H'⟩:=by
 subst hcs
 exact Zaw hH hx hy hok hw
end
end Go.Eng

