/- Part of the proof; written by a program out of the texts in wip/. -/
import Derived.Test.YthipedbbcjemhaaGreatPlanCoversE27
set_option linter.unusedVariables false
set_option linter.unusedSimpArgs false
namespace Go.Eng
open Go
theorem passC_nil' {fl:List Bool} {H:List HO}:Zil fl H []=some ([],H):=rfl
theorem Zbj {b:Bool} {fl:List Bool} {H H1 H2:List HO} {x x':AV} {xs xs':List AV} (h1:ZkC b H x=some (x',H1)) (h2:Zil fl H1 xs=some (xs',H2)):Zil (b::fl) H (x::xs)=some (x'::xs',H2):=by
 simp only [Zil,List.headD_cons,List.tail_cons,h1,Option.bind_some,h2,Option.map_some]
theorem Zdr {H:List HO} {c:AV} (h:ZX c=true):ZkC true H c=some (c,H):=by simp [ZkC,h]
theorem Zg3 {H H1:List HO} {c x:AV} (h:frz1 H c=some (x,H1)):ZkC false H c=some (x,H1):=by simpa [ZkC] using h
theorem Zg2 {fl:List Bool} {H H':List HO} {cs cs':List AV} (h:Zil fl H cs=some (cs',H')):Zlv fl H (.agg cs)=some (.agg cs',H'):=by simp only [Zlv,h,Option.map_some]
theorem Za2 {H H':List HO} {x x':AV} (h:frzV H x=some (x',H')):Zlv [] H x=some (x',H'):=by rw [Znp];exact h
theorem passL_nil' {fl:List (List Bool)} {H:List HO}:ZiY fl H []=some ([],H):=rfl
theorem Zag {b:List Bool} {fl:List (List Bool)} {H H1 H2:List HO} {x x':AV} {xs xs':List AV} (h1:Zlv b H x=some (x',H1)) (h2:ZiY fl H1 xs=some (xs',H2)):ZiY (b::fl) H (x::xs)=some (x'::xs',H2):=by
 simp only [ZiY,List.headD_cons,List.tail_cons,h1,Option.bind_some,h2,Option.map_some]
theorem Zds {H:List HO} {a:AV} {sz:Nat} {frz:Bool} {rows:List (List PC)} (h:Lies H (.arr a sz frz rows)):ZX a=true:=by
 rcases ZjS h with rfl | ⟨_,_,rfl⟩<;>rfl
section
variable {P:Program} {n:Nat} {s:St}
theorem Zf9 {d:Option Nat} {f:Nat} {xs:List IX} {ys args:List AV} {r:AV} {H H1 H':List HO} (hs:s.H=H) (hy:xs.map (ev s.fr)=ys) (fl:List (List Bool)) (hf:ZiY fl H ys=some (args,H1)) (hc:Zbe P f args H1 r H'):ZI P (.call d f xs) s ⟨putO s.fr d r,s.bx,H'⟩:=by
 subst hs hy
 exact ⟨args,H1,r,H',⟨fl,hf⟩,hc,rfl⟩
theorem Zh4 {f:Nat} {F:IFn} (hk:chkF P f F=true) {args:List AV} {H:List HO} (ids:List Nat) (K:AV→List HO→Prop) (hK:∀ r H,K r H→ZX r=true) (hl:args.length=F.nargs) (hno:noLocL args=true)
  (h:vc P F.nt F.body (endQ fun s'=>∃ xs,rawL (wS ids s') F.res=some xs∧K (ZaW xs) (weakH ids s'.H)) ⟨Zhg args 0,[],H⟩):∃ r H',Zbe P f args H r H'∧K r H':=by
 obtain ⟨e,s',h1,h2⟩:=vcd _ h
 have key:(∃ xs,rawL (wS ids s') F.res=some xs∧K (ZaW xs) (weakH ids s'.H))→(e = .normal∨e = .ret)→∃ r H',Zbe P f args H r H'∧K r H':=by
  rintro ⟨xs,x1,x3⟩ he
  refine ⟨ZaW xs,weakH ids s'.H,ZmU hk hl hno (hK _ _ x3) (EvI.weak ids (Zt _ _ _ (Zcf _ (fun e1 s1 q => ?_) h1))),x3⟩
  obtain ⟨q1,q2⟩:=q
  subst q1 q2
  rcases he with rfl | rfl
  ·exact ⟨xs,x1,rfl,rfl⟩
  ·exact ⟨xs,x1,rfl,rfl⟩
 cases e with
 | normal=>exact key h2 (.inl rfl)
 | ret=>exact key h2 (.inr rfl)
 | _=>exact h2.elim
theorem Zbz {f:Nat} {F:IFn} (hk:chkF P f F=true) {args:List AV} {H H':List HO} {r:AV} (hl:args.length=F.nargs) (hno:noLocL args=true) (hr:ZX r=true)
  (h:EvI P F.nt F.body ⟨Zhg args 0,[],H⟩ (endQ fun s'=>∃ xs,rawL s' F.res=some xs∧ZaW (weakVs xs)=r∧s'.H=H')):Zbe P f args H r H':=by
 unfold chkF at hk
 split at hk
 ·rename_i fn hf
  split at hk
  ·rename_i c hb
   simp only [Bool.and_eq_true,decide_eq_true_eq,Bool.not_eq_true'] at hk
   obtain ⟨⟨⟨⟨hc,hres⟩,hna⟩,hnt⟩,hname⟩:=hk
   refine ⟨⟨fn,hf,by rw [hb];rfl,hname⟩,hr,fun ok0 ρ w vs hhr hv => ?_⟩
   have hrel:=ZkY (n:=fn.ntmps) hhr hv hno (by omega)
   refine ZmP (r:=none) (m:=0) (callsIn_of_wp_marks hf hb trivial (wpIn_mono (h c (by rw [← hnt];exact hc) _ _ _ _ (by rw [← hnt];exact hrel)) ?_))
   rintro e a' w' ⟨s',g',h1,h2⟩
   have key:(∃ xs,rawL s' F.res=some xs∧ZaW (weakVs xs)=r∧s'.H=H')→LeavesInM (FR none) 0 P fn a'.tmps (fun e w'=>∃ v' ρ',e = .returned v'∧HR (k0 ok0 ρ H w) ρ' H' w'∧VR (cx (k0 ok0 ρ H w) ⟨ρ',noB⟩ H' w') r v' ∧
     Zam (cx (k0 ok0 ρ H w) ⟨ρ,noB⟩ H w) (cx (k0 ok0 ρ H w) ⟨ρ',noB⟩ H' w')) a'.defers .returning w':=by
    rintro ⟨xs,x1,rfl,rfl⟩
    refine h1.leavesAll fun w2 h2 => ?_
    obtain ⟨us,u1,u2⟩:=ZgZ (P:=P) h2 hres x1
    refine ⟨_,?_,_,g'.ρ,rfl,h2.toHR,VR.later h2.noBoxes _ _ hr (Zmb u2.weakVs),h2.hist.trans h2.noBoxes⟩
    rw [ZiQ]
    have hm:(fn.results.mapM (m:=Sem) (resF a'.tmps)).run P w2 = .ok us.toArray w2:=by
     rw [← Array.toArray_toList (xs:=fn.results),List.mapM_toArray,Sem.run_map,u1]
     rfl
    simp only [Sem.run_bind,hm,Result.andThen_ok,Sem.run_pure]
   cases e with
   | normal=>exact key h2
   | ret=>exact key h2
   | _=>exact h2.elim
  ·cases hk
 ·cases hk
theorem Za4 {res:List RV} {r:AV} {H:List HO} (h:(rawL s res).map (fun xs=>ZaW (weakVs xs))=some r) (hH:s.H=H):∃ xs,rawL s res=some xs∧ZaW (weakVs xs)=r∧s.H=H:=by
 cases hs:rawL s res with
 | none=>rw [hs] at h;cases h
 | some xs=>rw [hs] at h;exact ⟨xs,rfl,by simpa using h,hH⟩
theorem ZmX {α:Type} {l r:List α} {sz:Nat} {f:Bool} {k k' k'':IntKind} {lo hi:Int} (enc:α→List PC) (h:subI l lo hi=some r) :
  Z7 (.slice sz true true true) [.p (.sl sz f (l.map enc)),.p (.int k lo),.p (.int k' hi),.p (.int k'' hi)]=some (.p (.sl sz true (r.map enc))):=by
 obtain ⟨h1,h2,h3,h4,h5⟩:=ZpP enc h
 have h0:0≤hi:=by omega
 simp only [Z7,ZhF,Zey,if_true,if_pos h1,if_pos h0,Option.bind_some]
 rw [if_pos ⟨rfl,by omega,by simp;omega,trivial,trivial,fun _=>trivial⟩,h5]
end
end Go.Eng
namespace Go.Eng
open Go
theorem Zo3 {H:List HO}:FrzC H [] []:=by rw [FrzC]
theorem Zco {H:List HO} {c x:AV} {cs xs:List AV} (h1:frz1 H c=some (x,H)) (h2:FrzC H cs xs):FrzC H (c::cs) (x::xs):=by rw [FrzC];exact ⟨x,xs,rfl,h1,h2⟩
theorem Zo2 {H:List HO} {cs xs:List AV} (h:FrzC H cs xs):FrzQ H (.agg cs) (.agg xs):=⟨xs,rfl,h⟩
theorem Zrt {H:List HO}:FrzL H [] []:=by rw [FrzL]
theorem Zn0 {H:List HO} {c x:AV} {cs xs:List AV} (h1:FrzQ H c x) (h2:FrzL H cs xs):FrzL H (c::cs) (x::xs):=by rw [FrzL];exact ⟨x,xs,rfl,h1,h2⟩
section
variable {P:Program} {s:St}
theorem ZqV {d f:Nat} {xs:List IX} {ys args:List AV} {r:AV} {H:List HO} (hs:s.H=H) (hy:xs.map (ev s.fr)=ys) (hf:FrzL H ys args) (hc:Zac P f args r):ZI P (.callQ d f xs) s ⟨put s.fr d r,s.bx,s.H⟩:=by
 subst hs hy
 exact ⟨args,r,hf,hc,rfl⟩
end
theorem Zrf {H:List HO} {id sz ver:Nat} {f:Bool} {rows:List (List PC)} (hid:H[id]? = some (.arr sz ver f rows)) {b x:AV} (h:frz1 H b=some (x,H)) :
  frz1 (H.set id (.arr sz ver true rows)) b=some (x,H.set id (.arr sz ver true rows)):=by
 have hlt:=ZnH hid
 unfold frz1 at h ⊢
 split at h
 ·simp only [Option.some.injEq,Prod.mk.injEq] at h;simp [h.1]
 ·simp only [Option.some.injEq,Prod.mk.injEq] at h;simp [h.1]
 ·simp only [Option.some.injEq,Prod.mk.injEq] at h;simp [h.1]
 ·split at h
  ·rename_i hc;simp only [Option.some.injEq,Prod.mk.injEq] at h;simp [hc,h.1]
  ·cases h
 ·simp only [Option.some.injEq,Prod.mk.injEq] at h;simp [h.1]
 ·simp only [Option.some.injEq,Prod.mk.injEq] at h;simp [h.1]
 ·rename_i sz0 id0 ver0 off len
  split at h
  ·rename_i sz' ver' frz rows' hH
   split at h
   ·rename_i hc
    cases hs:sub off len rows' with
    | none=>simp [hs] at h
    | some r =>
     simp only [hs,Option.map_some,Option.some.injEq,Prod.mk.injEq] at h
     by_cases e:id=id0
     ·subst e
      rw [hid] at hH
      simp only [Option.some.injEq,HO.arr.injEq] at hH
      obtain ⟨rfl,rfl,rfl,rfl⟩:=hH
      have:(H.set id (.arr sz ver true rows))[id]? = some (.arr sz ver true rows):=by simp [hlt]
      simp only [this]
      rw [if_pos hc]
      obtain ⟨rfl,rfl⟩:=hc
      simp only [hs,Option.map_some,Option.some.injEq,Prod.mk.injEq]
      exact ⟨h.1,by rw [List.set_set]⟩
     ·have:(H.set id (.arr sz ver true rows))[id0]? = some (.arr sz' ver' frz rows'):=by rw [List.getElem?_set_ne e];exact hH
      simp only [this]
      rw [if_pos hc]
      simp only [hs,Option.map_some,Option.some.injEq,Prod.mk.injEq]
      exact ⟨h.1,by rw [List.set_comm _ _ e,h.2]⟩
   ·cases h
  ·cases h
 ·cases h
theorem HP.frzd {α:Type} {H:List HO} {items:List Z8} {k:Nat} {a:AV} {sz:Nat} {frz:Bool} {l:List α} (enc:α→List PC) (hH:HP H items) (hk:items[k]? = some (.arr a sz frz (l.map enc))) :
  ∃ H',frzV H a=some (.p (.sl sz false (l.map enc)),H')∧frz1 H' a=some (.p (.sl sz false (l.map enc)),H')∧(∀ b x,frz1 H b=some (x,H)→frz1 H' b=some (x,H'))∧HP H' (items.set k (.arr a sz true (l.map enc))):=by
 rcases hH.get k hk with ⟨rfl,hl⟩ | ⟨id,ver,rfl,f,hf,hid⟩
 ·refine ⟨H,by rw [hl];rfl,by rw [hl];rfl,fun _ _ h=>h,?_⟩
  exact hH.replace hk (.inl ⟨rfl,hl⟩) (fun id ⟨_,_,_,_,e⟩=>by cases e) (fun _ _ _=>rfl)
 ·have hlt:=ZnH hid
  have e1:frz1 H (.osl sz id ver 0 (l.map enc).length)=some (.p (.sl sz false (l.map enc)),H.set id (.arr sz ver true (l.map enc))):=by
   simp only [frz1,hid,and_self,if_true,sub,Nat.zero_add,Nat.le_refl,List.drop_zero,List.take_length,Option.map_some]
  have hid':(H.set id (.arr sz ver true (l.map enc)))[id]? = some (.arr sz ver true (l.map enc)):=by simp [hlt]
  refine ⟨H.set id (.arr sz ver true (l.map enc)),e1,?_,fun b x h=>Zrf hid h,?_⟩
  ·simp only [frz1,hid',and_self,if_true,sub,Nat.zero_add,Nat.le_refl,List.drop_zero,List.take_length,Option.map_some,List.set_set]
  ·refine hH.replace hk (.inr ⟨id,ver,by simp,true,by simp,by simp [hlt]⟩) (fun id' ⟨_,_,_,_,e⟩=>by cases e;exact .inl ⟨sz,ver,0,_,rfl⟩) (fun id' hl' ho => ?_)
   rw [List.getElem?_set_ne]
   intro e;subst e;exact ho ⟨sz,ver,0,_,rfl⟩
end Go.Eng

