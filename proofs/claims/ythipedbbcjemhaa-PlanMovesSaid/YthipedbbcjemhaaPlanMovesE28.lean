/- Part of the proof; written by a program out of the texts in wip/. -/
import Derived.Test.YthipedbbcjemhaaPlanMovesE27
set_option linter.unusedVariables false
set_option linter.unusedSimpArgs false
namespace Go.Eng
open Go
theorem ZeP {H H':List HO} {x x':AV} (h:frzV H x=some (x',H')):Zj5 [] H x=some (x',H'):=by rw [Zj4];exact h
theorem passL_nil' {fl:List (List Bool)} {H:List HO}:Zgw fl H []=some ([],H):=rfl
theorem ZdZ {b:List Bool} {fl:List (List Bool)} {H H1 H2:List HO} {x x':AV} {xs xs':List AV} (h1:Zj5 b H x=some (x',H1)) (h2:Zgw fl H1 xs=some (xs',H2)):Zgw (b::fl) H (x::xs)=some (x'::xs',H2):=by
 simp only [Zgw,List.headD_cons,List.tail_cons,h1,Option.bind_some,h2,Option.map_some]
section
variable {P:Program} {n:Nat} {s:St}
theorem Zk3 {d:Option Nat} {f:Nat} {xs:List IX} {ys args:List AV} {r:AV} {H H1 H':List HO} (hs:s.H=H) (hy:xs.map (ev s.fr)=ys) (fl:List (List Bool)) (hf:Zgw fl H ys=some (args,H1)) (hc:Zas P f args H1 r H'):ZB P (.call d f xs) s ⟨putO s.fr d r,s.bx,H'⟩:=by
 subst hs hy
 exact ⟨args,H1,r,H',⟨fl,hf⟩,hc,rfl⟩
theorem Zip {f:Nat} {F:IFn} (hk:chkF P f F=true) {args:List AV} {H:List HO} (ids:List Nat) (K:AV→List HO→Prop) (hK:∀ r H,K r H→ZK r=true) (hl:args.length=F.nargs) (hno:noLocL args=true)
  (h:vc P F.nt F.body (endQ fun s'=>∃ xs,rawL (wS ids s') F.res=some xs∧K (ZaD xs) (weakH ids s'.H)) ⟨Ze2 args 0,[],H⟩):∃ r H',Zas P f args H r H'∧K r H':=by
 obtain ⟨e,s',h1,h2⟩:=vcd _ h
 have key:(∃ xs,rawL (wS ids s') F.res=some xs∧K (ZaD xs) (weakH ids s'.H))→(e = .normal∨e = .ret)→∃ r H',Zas P f args H r H'∧K r H':=by
  rintro ⟨xs,x1,x3⟩ he
  refine ⟨ZaD xs,weakH ids s'.H,ZjC hk hl hno (hK _ _ x3) (EvI.weak ids (Zr _ _ _ (ZaX _ (fun e1 s1 q => ?_) h1))),x3⟩
  obtain ⟨q1,q2⟩:=q
  subst q1 q2
  rcases he with rfl | rfl
  ·exact ⟨xs,x1,rfl,rfl⟩
  ·exact ⟨xs,x1,rfl,rfl⟩
 cases e with
 | normal=>exact key h2 (.inl rfl)
 | ret=>exact key h2 (.inr rfl)
 | _=>exact h2.elim
theorem ZaF {f:Nat} {F:IFn} (hk:chkF P f F=true) {args:List AV} {H H':List HO} {r:AV} (hl:args.length=F.nargs) (hno:noLocL args=true) (hr:ZK r=true)
  (h:EvI P F.nt F.body ⟨Ze2 args 0,[],H⟩ (endQ fun s'=>∃ xs,rawL s' F.res=some xs∧ZaD (weakVs xs)=r∧s'.H=H')):Zas P f args H r H':=by
 unfold chkF at hk
 split at hk
 ·rename_i fn hf
  split at hk
  ·rename_i c hb
   simp only [Bool.and_eq_true,decide_eq_true_eq,Bool.not_eq_true'] at hk
   obtain ⟨⟨⟨⟨hc,hres⟩,hna⟩,hnt⟩,hname⟩:=hk
   refine ⟨⟨fn,hf,by rw [hb];rfl,hname⟩,hr,fun ok0 ρ w vs hhr hv => ?_⟩
   have hrel:=Zii (n:=fn.ntmps) hhr hv hno (by omega)
   refine Zjz (r:=none) (m:=0) (callsIn_of_wp_marks hf hb trivial (wpIn_mono (h c (by rw [← hnt];exact hc) _ _ _ _ (by rw [← hnt];exact hrel)) ?_))
   rintro e a' w' ⟨s',g',h1,h2⟩
   have key:(∃ xs,rawL s' F.res=some xs∧ZaD (weakVs xs)=r∧s'.H=H')→LeavesInM (FR none) 0 P fn a'.tmps (fun e w'=>∃ v' ρ',e = .returned v'∧HR (k0 ok0 ρ H w) ρ' H' w'∧VR (cx (k0 ok0 ρ H w) ⟨ρ',noB⟩ H' w') r v' ∧
     ZZ (cx (k0 ok0 ρ H w) ⟨ρ,noB⟩ H w) (cx (k0 ok0 ρ H w) ⟨ρ',noB⟩ H' w')) a'.defers .returning w':=by
    rintro ⟨xs,x1,rfl,rfl⟩
    refine h1.leavesAll fun w2 h2 => ?_
    obtain ⟨us,u1,u2⟩:=ZeN (P:=P) h2 hres x1
    refine ⟨_,?_,_,g'.ρ,rfl,h2.toHR,VR.later h2.noBoxes _ _ hr (Zi3 u2.weakVs),h2.hist.trans h2.noBoxes⟩
    rw [Zgr]
    have hm:(fn.results.mapM (m:=Sem) (resF a'.tmps)).run P w2 = .ok us.toArray w2:=by
     rw [← Array.toArray_toList (xs:=fn.results),List.mapM_toArray,Sem.run_map,u1]
     rfl
    simp only [Sem.run_bind,hm,Result.andThen_ok,Sem.run_pure]
   cases e with
   | normal=>exact key h2
   | ret=>exact key h2
   | _=>exact h2.elim
  ·cases hk
 ·cases hk
theorem Zai {res:List RV} {r:AV} {H:List HO} (h:(rawL s res).map (fun xs=>ZaD (weakVs xs))=some r) (hH:s.H=H):∃ xs,rawL s res=some xs∧ZaD (weakVs xs)=r∧s.H=H:=by
 cases hs:rawL s res with
 | none=>rw [hs] at h;cases h
 | some xs=>rw [hs] at h;exact ⟨xs,rfl,by simpa using h,hH⟩
theorem ZjF {α:Type} {l r:List α} {sz:Nat} {f:Bool} {k k' k'':IntKind} {lo hi:Int} (enc:α→List PC) (h:subI l lo hi=some r) :
  ZQ (.slice sz true true true) [.p (.sl sz f (l.map enc)),.p (.int k lo),.p (.int k' hi),.p (.int k'' hi)]=some (.p (.sl sz true (r.map enc))):=by
 obtain ⟨h1,h2,h3,h4,h5⟩:=Zl1 enc h
 have h0:0≤hi:=by omega
 simp only [ZQ,Zfr,ZcJ,if_true,if_pos h1,if_pos h0,Option.bind_some]
 rw [if_pos ⟨rfl,by omega,by simp;omega,trivial,trivial,fun _=>trivial⟩,h5]
end
end Go.Eng
namespace Go.Eng
open Go
section
variable {P:Program} {s:St}
end
end Go.Eng

