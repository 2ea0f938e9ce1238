/- Part of the proof; written by a program out of the texts in wip/. -/
import Derived.Test.YthipedbbcjemhaaPlanChecksSh
import Derived.Test.YthipedbbcjemhaaPlanChecksRd
namespace Go.Sh
open Go Go.Eng
theorem Zcf {x:Int} (h : -9223372036854775808≤x) (h2:x≤9223372036854775807):w64 x=x:=by
 unfold w64 IntKind.wrap
 simp only [IntKind.bits,IntKind.signed]
 by_cases h0:0≤x
 ·have:x % (2 ^ 64:Int)=x:=Int.emod_eq_of_lt h0 (by omega)
  simp only [this]
  rw [if_neg]
  simp;omega
 ·have:x % (2 ^ 64:Int)=x+2 ^ 64:=by
   rw [← Int.add_emod_right]
   exact Int.emod_eq_of_lt (by omega) (by omega)
  simp only [this]
  rw [if_pos]
  ·omega
  ·simp;omega
theorem ZiQ {σ ρ:Type} (body:σ→Option (σ ⊕ ρ)) (m:Nat) (x:σ):Zai body (m+1) x=match body x with
  | none=>none
  | some (.inl y)=>Zai body m y
  | some (.inr r)=>some r:=rfl
theorem ZcL {σ ρ:Type} {body:σ→Option (σ ⊕ ρ)} {m:Nat} {x y:σ} (h:body x=some (.inl y)):Zai body (m+1) x=Zai body m y:=by rw [ZiQ,h]
theorem ZbH {σ ρ:Type} {body:σ→Option (σ ⊕ ρ)} {m:Nat} {x:σ} {r:ρ} (h:body x=some (.inr r)):Zai body (m+1) x=some r:=by rw [ZiQ,h]
theorem ZjD {σ ρ:Type} {body:σ→Option (σ ⊕ ρ)} (I:σ→Prop) (μ:σ→Nat) (Post:ρ→Prop)
  (step:∀ x,I x→(∃ y,body x=some (.inl y)∧I y∧μ y<μ x)∨(∃ r,body x=some (.inr r)∧Post r)):∀ (N:Nat) (x:σ),I x→μ x<N→∃ r,Zai body N x=some r∧Post r
 | 0,x,_,h=>by omega
 | N+1,x,hI,h=>by
  rcases step x hI with ⟨y,h1,h2,h3⟩ | ⟨r,h1,h2⟩
  ·rw [ZcL h1]
   exact ZjD I μ Post step N y h2 (by omega)
  ·exact ⟨r,by rw [ZbH h1],h2⟩
theorem Ze6 {α:Type} (l:List α) (k:Nat):idx l (k:Int)=l[k]?:=by
 unfold idx
 rw [if_pos (by omega)]
 rfl
theorem Zib {α:Type} {l:List α} {i:Int} (h0:0≤i) (h:i.toNat<l.length):idx l i=some l[i.toNat]:=by
 unfold idx
 rw [if_pos h0]
 exact List.getElem?_eq_getElem h
theorem Zdd {a b:Int} (h:b ≠ 0):remI a b=some (a.tmod b):=by unfold remI;rw [if_neg h]
theorem ZmN {k:IntKind} {a b:Int} (h:b ≠ 0):quoI k a b=some (k.wrap (a.tdiv b)):=by unfold quoI;rw [if_neg h]
theorem Zik {α:Type} {l:List α} {k:Nat} (h:k<l.length):l.drop k=l[k]::l.drop (k+1):=List.drop_eq_getElem_cons h
theorem Zkn {α ρ:Type} {l:List α} {p:α→Bool} {body:Int→Option (Int ⊕ ρ)} {bad fin:ρ} (hstep:∀ (k:Nat) (h:k<l.length),body (k:Int)=if p l[k]=true then some (.inl ((k+1:Nat):Int)) else some (.inr bad))
  (hend:body (l.length:Int)=some (.inr fin)):∀ (n N k:Nat),l.length - k=n→k≤l.length→n<N→Zai body N (k:Int)=some (if (l.drop k).all p then fin else bad):=by
 intro n
 induction n with
 | zero =>
  intro N k hn hk hN
  have:k=l.length:=by omega
  subst this
  cases N with
  | zero=>omega
  | succ N=>rw [ZbH hend];simp
 | succ n ih =>
  intro N k hn hk hN
  cases N with
  | zero=>omega
  | succ N =>
   have hlt:k<l.length:=by omega
   rw [Zik hlt,List.all_cons]
   by_cases hp:p l[k]=true
   ·rw [ZcL (by rw [hstep k hlt,if_pos hp]),ih N (k+1) (by omega) (by omega) (by omega)]
    simp [hp]
   ·rw [ZbH (by rw [hstep k hlt,if_neg hp])]
    simp [hp]
end Go.Sh

set_option linter.unusedVariables false
set_option linter.unusedSimpArgs false
namespace Go.Sh
open Go Go.Eng
def VSpan (s:Zt):Prop:=1≤s.Period∧s.Period≤960∧0≤s.From∧s.From<s.Period∧1≤s.Long∧s.Long≤s.Period
instance (s:Zt):Decidable (VSpan s):=by unfold VSpan;infer_instance
theorem Zhj (N:Nat) (s:Zt):Zbg N s=some (if VSpan s then 0 else 330):=by
 unfold Zbg
 by_cases h:VSpan s
 ·rw [if_pos h]
  unfold VSpan at h
  rw [if_neg (by simp;omega),if_neg (by simp;omega)]
 ·rw [if_neg h]
  unfold VSpan at h
  by_cases h1:((decide (s.Period<1))||((decide (s.Period > 960))||((decide (s.From<0))||(decide (s.From ≥ s.Period)))))=true
  ·rw [if_pos h1]
  ·rw [if_neg h1,if_pos]
   simp at h1 ⊢
   omega
theorem Zhf (M:Nat):∀ (b N a:Nat),b<N→Zai (fun x:Int × Int=>ZaV M x.1 x.2) N ((a:Int),(b:Int))=some (Nat.gcd a b:Int):=by
 intro b
 induction b using Nat.strongRecOn with
 | _ b ih =>
  intro N a hN
  cases N with
  | zero=>omega
  | succ N =>
   by_cases hb:b=0
   ·subst hb
    rw [ZbH (r:=(a:Int))]
    ·simp
    ·simp [ZaV]
   ·have hlt:=Nat.mod_lt a (Nat.pos_of_ne_zero hb)
    rw [ZcL (y:=((b:Int),((a % b:Nat):Int)))]
    ·rw [ih (a % b) hlt N b (by omega)]
     rw [Nat.gcd_comm a b,Nat.gcd_rec b a,Nat.gcd_comm (a % b) b]
    ·simp only [ZaV]
     rw [if_pos (by simp;omega),Zdd (by omega),Option.bind_some,Int.tmod_eq_emod_of_nonneg (by omega)]
     rfl
theorem ZiA {N:Nat} {a b:Int} (ha:0≤a) (hb:0≤b) (hN:b.toNat<N):Zcx N a b=some (Nat.gcd a.toNat b.toNat:Int):=by
 unfold Zcx
 have:=Zhf N b.toNat N a.toNat hN
 rw [Int.toNat_of_nonneg ha,Int.toNat_of_nonneg hb] at this
 rw [this]
 rfl
theorem Zjb {a d:Int} (hd:0<d) (ha:0≤a):a.tmod d=0↔d.toNat ∣ a.toNat:=by
 rw [Int.tmod_eq_emod_of_nonneg ha]
 constructor
 ·intro h
  have h1:d ∣ a:=Int.dvd_of_emod_eq_zero h
  rw [← Int.toNat_of_nonneg ha,← Int.toNat_of_nonneg (show 0≤d by omega)] at h1
  exact Int.natCast_dvd_natCast.1 h1
 ·intro h
  have:((d.toNat:Nat):Int) ∣ ((a.toNat:Nat):Int):=Int.natCast_dvd_natCast.2 h
  rw [Int.toNat_of_nonneg ha,Int.toNat_of_nonneg (by omega)] at this
  exact Int.emod_eq_zero_of_dvd this
def gP (a b:Zt):Int:=(Nat.gcd a.Period.toNat b.Period.toNat:Int)
def SepD (a b:Zt) (d:Int):Prop:=a.Long≤d % gP a b∧d % gP a b≤gP a b - b.Long
instance (a b:Zt) (d:Int):Decidable (SepD a b d):=by unfold SepD;infer_instance
end Go.Sh

set_option linter.unusedVariables false
set_option linter.unusedSimpArgs false
namespace Go.Sh
open Go Go.Eng
theorem VSpan.bounds {s:Zt} (h:VSpan s):1≤s.Period∧s.Period≤960∧0≤s.From∧s.From<s.Period∧1≤s.Long∧s.Long≤s.Period:=h
end Go.Sh
