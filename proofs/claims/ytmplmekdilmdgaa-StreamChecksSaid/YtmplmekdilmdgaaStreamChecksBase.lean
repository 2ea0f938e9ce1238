/- Part of the proof; written by a program out of the texts in wip/. -/
import Derived.Test.YtmplmekdilmdgaaStreamChecksSh
namespace Go.Sh
open Go Go.Eng
theorem Z5 {x:Int} (h : -9223372036854775808≤x) (h2:x≤9223372036854775807):w64 x=x:=by
 unfold w64 IntKind.wrap
 simp only [IntKind.bits,IntKind.signed]
 by_cases h0:0≤x
 ·have:x % (2 ^ 64:Int)=x:=Int.emod_eq_of_lt h0 (by omega)
  simp only [this]
  rw [if_neg]
  simp;omega
 ·have:x % (2 ^ 64:Int)=x+2 ^ 64:=by
   rw [← Int.add_emod_right]
   exact Int.emod_eq_of_lt (by omega) (by omega)
  simp only [this]
  rw [if_pos]
  ·omega
  ·simp;omega
theorem Zkv {σ ρ:Type} (body:σ→Option (σ ⊕ ρ)) (m:Nat) (x:σ):Z2 body (m+1) x=match body x with
  | none=>none
  | some (.inl y)=>Z2 body m y
  | some (.inr r)=>some r:=rfl
theorem Zdp {σ ρ:Type} {body:σ→Option (σ ⊕ ρ)} {m:Nat} {x y:σ} (h:body x=some (.inl y)):Z2 body (m+1) x=Z2 body m y:=by rw [Zkv,h]
theorem Zbr {σ ρ:Type} {body:σ→Option (σ ⊕ ρ)} {m:Nat} {x:σ} {r:ρ} (h:body x=some (.inr r)):Z2 body (m+1) x=some r:=by rw [Zkv,h]
theorem Zfd {σ ρ:Type} {body:σ→Option (σ ⊕ ρ)} (I:σ→Prop) (μ:σ→Nat) (Post:ρ→Prop)
  (step:∀ x,I x→(∃ y,body x=some (.inl y)∧I y∧μ y<μ x)∨(∃ r,body x=some (.inr r)∧Post r)):∀ (N:Nat) (x:σ),I x→μ x<N→∃ r,Z2 body N x=some r∧Post r
 | 0,x,_,h=>by omega
 | N+1,x,hI,h=>by
  rcases step x hI with ⟨y,h1,h2,h3⟩ | ⟨r,h1,h2⟩
  ·rw [Zdp h1]
   exact Zfd I μ Post step N y h2 (by omega)
  ·exact ⟨r,by rw [Zbr h1],h2⟩
theorem idx_nat {α:Type} (l:List α) (k:Nat):idx l (k:Int)=l[k]?:=by
 unfold idx
 rw [if_pos (by omega)]
 rfl
theorem Zkw {α:Type} {l:List α} {i:Int} (h0:0≤i) (h:i.toNat<l.length):idx l i=some l[i.toNat]:=by
 unfold idx
 rw [if_pos h0]
 exact List.getElem?_eq_getElem h
theorem Zo2 {a b:Int} (h:b ≠ 0):remI a b=some (a.tmod b):=by unfold remI;rw [if_neg h]
theorem Zo4 {k:IntKind} {a b:Int} (h:b ≠ 0):quoI k a b=some (k.wrap (a.tdiv b)):=by unfold quoI;rw [if_neg h]
theorem Zjz {ρ:Type} {q:Nat→Bool} {P:Nat} {body:Int→Option (Int ⊕ ρ)} {bad:ρ} {good:Nat→ρ} (hstep:∀ k:Nat,k<P→body (k:Int)=if q k=true then some (.inr (good k)) else some (.inl ((k+1:Nat):Int)))
  (hend:body (P:Int)=some (.inr bad)):∀ (n N k:Nat),P - k=n→k≤P→n<N→Z2 body N (k:Int)=some (match (List.range' k n).find? q with | some j=>good j | none=>bad):=by
 intro n
 induction n with
 | zero =>
  intro N k hn hk hN
  have:k=P:=by omega
  subst this
  cases N with
  | zero=>omega
  | succ N=>rw [Zbr hend];simp
 | succ n ih =>
  intro N k hn hk hN
  cases N with
  | zero=>omega
  | succ N =>
   have hlt:k<P:=by omega
   rw [List.range'_succ,List.find?_cons]
   by_cases hp:q k=true
   ·rw [Zbr (by rw [hstep k hlt,if_pos hp])]
    simp [hp]
   ·rw [Zdp (by rw [hstep k hlt,if_neg hp]),ih N (k+1) (by omega) (by omega) (by omega)]
    simp [hp]
end Go.Sh

