/- Part of the proof; written by a program out of the texts in wip/. -/
import Derived.Test.YthipedbbcjemhaaGreatPlanCoversE15
set_option linter.unusedVariables false
set_option linter.unusedSimpArgs false
namespace Go.Eng
open Go
abbrev Zn1:=Nat→List AV→List HO→Option (AV × List HO)
def Zmh (call:Zn1) (i:Ins) (s:St):Option St :=
 match i with
 | .call d f xs=>(frzL s.H (xs.map (ev s.fr))).bind fun (args,H1)=>(call f args H1).map fun (r,H2)=>⟨putO s.fr d r,s.bx,H2⟩
 | .callP d f xs=>if Zgr (weakVs (xs.map (ev s.fr))) then (call f (weakVs (xs.map (ev s.fr))) []).bind fun (r,H2)=>if H2.isEmpty&&Zgm r then some ⟨put s.fr d r,s.bx,s.H⟩ else none else none
 | .callV d fx xs=>match ev s.fr fx with
  | .fn f first cap=>(frzL s.H (first++xs.map (ev s.fr)++cap)).bind fun (args,H1)=>(call f args H1).map fun (r,H2)=>⟨putO s.fr d r,s.bx,H2⟩
  | _=>none
 | i=>Z5 i s
def opF (call:Zn1) (o:IOp) (s:St):Option St :=
 match o.g with
 | none=>if bnOK o s.fr=true then Zmh call o.i s else none
 | some (t,want)=>match get s.fr t with
  | .p (.bool b)=>if b=want then (if bnOK o s.fr=true then Zmh call o.i s else none) else some ⟨putO s.fr (dstI o.i) (.nl .unit),s.bx,s.H⟩
  | .nl .unit=>some ⟨putO s.fr (dstI o.i) (.nl .unit),s.bx,s.H⟩
  | _=>none
def opsF (call:Zn1):List IOp→St→Option St
 | [],s=>some s
 | o::os,s=>(opF call o s).bind (opsF call os)
section
variable {P:Program} {n N:Nat}
def Zj0 (P:Program) (call:Zn1):Prop:=∀ f args H r H',call f args H=some (r,H')→Zbe P f args H r H'
theorem Zkc {call:Zn1} (hc:Zj0 P call) {i:Ins} {s s':St} (h:Zmh call i s=some s'):ZI P i s s':=by
 cases i with
 | call d f xs =>
  simp only [Zmh] at h
  cases h1:frzL s.H (xs.map (ev s.fr)) with
  | none=>simp [h1] at h
  | some p =>
   obtain ⟨args,H1⟩:=p
   simp only [h1,Option.bind_some] at h
   cases h2:call f args H1 with
   | none=>simp [h2] at h
   | some q =>
    obtain ⟨r,H2⟩:=q
    simp only [h2,Option.map_some,Option.some.injEq] at h
    exact ⟨args,H1,r,H2,.frz h1,hc _ _ _ _ _ h2,h.symm⟩
 | callP d f xs =>
  simp only [Zmh] at h
  split at h
  ·rename_i hp
   cases h2:call f (weakVs (xs.map (ev s.fr))) [] with
   | none=>simp [h2] at h
   | some q =>
    obtain ⟨r,H2⟩:=q
    simp only [h2,Option.bind_some] at h
    split at h
    ·rename_i hcond
     simp only [Bool.and_eq_true,List.isEmpty_iff] at hcond
     obtain ⟨rfl,hpr⟩:=hcond
     simp only [Option.some.injEq] at h
     exact ⟨r,⟨hpr,hp,hc _ _ _ _ _ h2⟩,h.symm⟩
    ·cases h
  ·cases h
 | callV d fx xs =>
  simp only [Zmh] at h
  split at h
  ·rename_i f first cap h0
   cases h1:frzL s.H (first++xs.map (ev s.fr)++cap) with
   | none=>rw [h1] at h;cases h
   | some p =>
    obtain ⟨args,H1⟩:=p
    simp only [h1,Option.bind_some] at h
    cases h2:call f args H1 with
    | none=>simp [h2] at h
    | some q =>
     obtain ⟨r,H2⟩:=q
     simp only [h2,Option.map_some,Option.some.injEq] at h
     exact ⟨f,first,cap,args,H1,r,H2,h0,.frz h1,hc _ _ _ _ _ h2,h.symm⟩
  ·cases h
 | callY d fx xs=>simp [Zmh,Z5] at h
 | callQ d f xs=>simp [Zmh,Z5] at h
 | sp d q xs=>simp [Zmh,Z5] at h
 | _=>exact h
theorem Zp5 {call:Zn1} (hc:Zj0 P call) {o:IOp} {s s':St} (h:opF call o s=some s'):AOp P o s s':=by
 unfold opF at h
 unfold AOp
 split at h
 ·rename_i hg
  rw [hg]
  split at h
  ·rename_i hb;exact ⟨hb,Zkc hc h⟩
  ·cases h
 ·rename_i t want hg
  rw [hg]
  simp only
  split at h
  ·rename_i b hget
   rw [hget]
   simp only
   split at h
   ·rename_i hb
    rw [if_pos hb]
    split at h
    ·rename_i hbn;exact ⟨hbn,Zkc hc h⟩
    ·cases h
   ·rename_i hb;rw [if_neg hb];simp only [Option.some.injEq] at h;exact h.symm
  ·rename_i hget
   rw [hget]
   simp only [Option.some.injEq] at h
   exact h.symm
  ·cases h
theorem ZlI {call:Zn1} (hc:Zj0 P call):∀ {os:List IOp} {s s':St},opsF call os s=some s'→Za P os s s'
 | [],s,s',h=>by simp only [opsF,Option.some.injEq] at h;exact h.symm
 | o::os,s,s',h=>by
  simp only [opsF] at h
  cases h1:opF call o s with
  | none=>simp [h1] at h
  | some s1=>simp only [h1,Option.bind_some] at h;exact ⟨s1,Zp5 hc h1,ZlI hc h⟩
theorem EvI.loopR {b:IC} {Q:Exit→St→Prop} {α:Type} (R:α→St→Prop) (μ:α→Nat)
  (round:∀ x s,R x s→EvI P n b s (ZhQ (fun s'=>∃ y,R y s'∧μ y<μ x) Q)) (x:α) (s:St) (h:R x s):EvI P n (.loop b) s Q:=by
 intro c hc k g a w hr
 cases c<;>simp only [chkC,Bool.false_eq_true] at hc
 rename_i c1
 refine Zh7 (R:=fun x a w=>∃ s,R x s∧∃ g,Rel k n g s a w) μ (fun x a w h => ?_) x a w ⟨s,h,g,hr⟩
 obtain ⟨s,hx,g,hr⟩:=h
 refine wpIn_mono (round x s hx c1 hc k g a w hr) ?_
 rintro e a' w' ⟨s',g',h1,h2⟩
 cases e with
 | normal =>
  obtain ⟨y,hy,hlt⟩:=h2
  exact ⟨y,⟨s',hy,g',h1⟩,hlt⟩
 | _=>exact ⟨s',g',h1,h2⟩
end
end Go.Eng

