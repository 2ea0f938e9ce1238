/- Part of the proof; written by a program out of the texts in wip/. -/
import Derived.Test.YthipedbbcjemhaaGreatPlanCoversSh
import Derived.Test.YthipedbbcjemhaaGreatPlanCoversRd
namespace Go.Sh
open Go Go.Eng
theorem ZP {x:Int} (h : -9223372036854775808≤x) (h2:x≤9223372036854775807):w64 x=x:=by
 unfold w64 IntKind.wrap
 simp only [IntKind.bits,IntKind.signed]
 by_cases h0:0≤x
 ·have:x % (2 ^ 64:Int)=x:=Int.emod_eq_of_lt h0 (by omega)
  simp only [this]
  rw [if_neg]
  simp;omega
 ·have:x % (2 ^ 64:Int)=x+2 ^ 64:=by
   rw [← Int.add_emod_right]
   exact Int.emod_eq_of_lt (by omega) (by omega)
  simp only [this]
  rw [if_pos]
  ·omega
  ·simp;omega
theorem ZlN {σ ρ:Type} (body:σ→Option (σ ⊕ ρ)) (m:Nat) (x:σ):Z2 body (m+1) x=match body x with
  | none=>none
  | some (.inl y)=>Z2 body m y
  | some (.inr r)=>some r:=rfl
theorem Zb5 {σ ρ:Type} {body:σ→Option (σ ⊕ ρ)} {m:Nat} {x y:σ} (h:body x=some (.inl y)):Z2 body (m+1) x=Z2 body m y:=by rw [ZlN,h]
theorem ZaH {σ ρ:Type} {body:σ→Option (σ ⊕ ρ)} {m:Nat} {x:σ} {r:ρ} (h:body x=some (.inr r)):Z2 body (m+1) x=some r:=by rw [ZlN,h]
theorem Zb4 {σ ρ:Type} {body:σ→Option (σ ⊕ ρ)} (I:σ→Prop) (μ:σ→Nat) (Post:ρ→Prop)
  (step:∀ x,I x→(∃ y,body x=some (.inl y)∧I y∧μ y<μ x)∨(∃ r,body x=some (.inr r)∧Post r)):∀ (N:Nat) (x:σ),I x→μ x<N→∃ r,Z2 body N x=some r∧Post r
 | 0,x,_,h=>by omega
 | N+1,x,hI,h=>by
  rcases step x hI with ⟨y,h1,h2,h3⟩ | ⟨r,h1,h2⟩
  ·rw [Zb5 h1]
   exact Zb4 I μ Post step N y h2 (by omega)
  ·exact ⟨r,by rw [ZaH h1],h2⟩
theorem Zhc {α:Type} (l:List α) (k:Nat):idx l (k:Int)=l[k]?:=by
 unfold idx
 rw [if_pos (by omega)]
 rfl
theorem ZlO {α:Type} {l:List α} {i:Int} (h0:0≤i) (h:i.toNat<l.length):idx l i=some l[i.toNat]:=by
 unfold idx
 rw [if_pos h0]
 exact List.getElem?_eq_getElem h
theorem Zmp {a b:Int} (h:b ≠ 0):remI a b=some (a.tmod b):=by unfold remI;rw [if_neg h]
theorem ZjQ {k:IntKind} {a b:Int} (h:b ≠ 0):quoI k a b=some (k.wrap (a.tdiv b)):=by unfold quoI;rw [if_neg h]
theorem ZnN {α:Type} {l:List α} {k:Nat} (h:k<l.length):l.drop k=l[k]::l.drop (k+1):=List.drop_eq_getElem_cons h
theorem ZnF {α ρ:Type} {l:List α} {p:α→Bool} {body:Int→Option (Int ⊕ ρ)} {bad fin:ρ} (hstep:∀ (k:Nat) (h:k<l.length),body (k:Int)=if p l[k]=true then some (.inl ((k+1:Nat):Int)) else some (.inr bad))
  (hend:body (l.length:Int)=some (.inr fin)):∀ (n N k:Nat),l.length - k=n→k≤l.length→n<N→Z2 body N (k:Int)=some (if (l.drop k).all p then fin else bad):=by
 intro n
 induction n with
 | zero =>
  intro N k hn hk hN
  have:k=l.length:=by omega
  subst this
  cases N with
  | zero=>omega
  | succ N=>rw [ZaH hend];simp
 | succ n ih =>
  intro N k hn hk hN
  cases N with
  | zero=>omega
  | succ N =>
   have hlt:k<l.length:=by omega
   rw [ZnN hlt,List.all_cons]
   by_cases hp:p l[k]=true
   ·rw [Zb5 (by rw [hstep k hlt,if_pos hp]),ih N (k+1) (by omega) (by omega) (by omega)]
    simp [hp]
   ·rw [ZaH (by rw [hstep k hlt,if_neg hp])]
    simp [hp]
theorem ZkN {ρ:Type} {q:Nat→Bool} {P:Nat} {body:Int→Option (Int ⊕ ρ)} {bad:ρ} {good:Nat→ρ} (hstep:∀ k:Nat,k<P→body (k:Int)=if q k=true then some (.inr (good k)) else some (.inl ((k+1:Nat):Int)))
  (hend:body (P:Int)=some (.inr bad)):∀ (n N k:Nat),P - k=n→k≤P→n<N→Z2 body N (k:Int)=some (match (List.range' k n).find? q with | some j=>good j | none=>bad):=by
 intro n
 induction n with
 | zero =>
  intro N k hn hk hN
  have:k=P:=by omega
  subst this
  cases N with
  | zero=>omega
  | succ N=>rw [ZaH hend];simp
 | succ n ih =>
  intro N k hn hk hN
  cases N with
  | zero=>omega
  | succ N =>
   have hlt:k<P:=by omega
   rw [List.range'_succ,List.find?_cons]
   by_cases hp:q k=true
   ·rw [ZaH (by rw [hstep k hlt,if_pos hp])]
    simp [hp]
   ·rw [Zb5 (by rw [hstep k hlt,if_neg hp]),ih N (k+1) (by omega) (by omega) (by omega)]
    simp [hp]
end Go.Sh

set_option linter.unusedVariables false
set_option linter.unusedSimpArgs false
namespace Go.Sh
open Go Go.Eng
def VSpan (s:ZF):Prop:=1≤s.Period∧s.Period≤960∧0≤s.From∧s.From<s.Period∧1≤s.Long∧s.Long≤s.Period
instance (s:ZF):Decidable (VSpan s):=by unfold VSpan;infer_instance
theorem ZjG (N:Nat) (s:ZF):Zcs N s=some (if VSpan s then 0 else 330):=by
 unfold Zcs
 by_cases h:VSpan s
 ·rw [if_pos h]
  unfold VSpan at h
  rw [if_neg (by simp;omega),if_neg (by simp;omega)]
 ·rw [if_neg h]
  unfold VSpan at h
  by_cases h1:((decide (s.Period<1))||((decide (s.Period > 960))||((decide (s.From<0))||(decide (s.From ≥ s.Period)))))=true
  ·rw [if_pos h1]
  ·rw [if_neg h1,if_pos]
   simp at h1 ⊢
   omega
theorem ZjC (M:Nat):∀ (b N a:Nat),b<N→Z2 (fun x:Int × Int=>Zb7 M x.1 x.2) N ((a:Int),(b:Int))=some (Nat.gcd a b:Int):=by
 intro b
 induction b using Nat.strongRecOn with
 | _ b ih =>
  intro N a hN
  cases N with
  | zero=>omega
  | succ N =>
   by_cases hb:b=0
   ·subst hb
    rw [ZaH (r:=(a:Int))]
    ·simp
    ·simp [Zb7]
   ·have hlt:=Nat.mod_lt a (Nat.pos_of_ne_zero hb)
    rw [Zb5 (y:=((b:Int),((a % b:Nat):Int)))]
    ·rw [ih (a % b) hlt N b (by omega)]
     rw [Nat.gcd_comm a b,Nat.gcd_rec b a,Nat.gcd_comm (a % b) b]
    ·simp only [Zb7]
     rw [if_pos (by simp;omega),Zmp (by omega),Option.bind_some,Int.tmod_eq_emod_of_nonneg (by omega)]
     rfl
theorem Zlm {N:Nat} {a b:Int} (ha:0≤a) (hb:0≤b) (hN:b.toNat<N):Zd7 N a b=some (Nat.gcd a.toNat b.toNat:Int):=by
 unfold Zd7
 have:=ZjC N b.toNat N a.toNat hN
 rw [Int.toNat_of_nonneg ha,Int.toNat_of_nonneg hb] at this
 rw [this]
 rfl
def gP (a b:ZF):Int:=(Nat.gcd a.Period.toNat b.Period.toNat:Int)
def SepD (a b:ZF) (d:Int):Prop:=a.Long≤d % gP a b∧d % gP a b≤gP a b - b.Long
instance (a b:ZF) (d:Int):Decidable (SepD a b d):=by unfold SepD;infer_instance
end Go.Sh

set_option linter.unusedVariables false
set_option linter.unusedSimpArgs false
namespace Go.Sh
open Go Go.Eng
theorem VSpan.bounds {s:ZF} (h:VSpan s):1≤s.Period∧s.Period≤960∧0≤s.From∧s.From<s.Period∧1≤s.Long∧s.Long≤s.Period:=h
end Go.Sh
