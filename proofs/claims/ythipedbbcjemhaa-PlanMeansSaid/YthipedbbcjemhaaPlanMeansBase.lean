/- Part of the proof; written by a program out of the texts in wip/. -/
import Derived.Test.YthipedbbcjemhaaPlanMeansSh
import Derived.Test.YthipedbbcjemhaaPlanMeansRd
namespace Go.Sh
open Go Go.Eng
theorem ZbR {x:Int} (h : -9223372036854775808≤x) (h2:x≤9223372036854775807):w64 x=x:=by
 unfold w64 IntKind.wrap
 simp only [IntKind.bits,IntKind.signed]
 by_cases h0:0≤x
 ·have:x % (2 ^ 64:Int)=x:=Int.emod_eq_of_lt h0 (by omega)
  simp only [this]
  rw [if_neg]
  simp;omega
 ·have:x % (2 ^ 64:Int)=x+2 ^ 64:=by
   rw [← Int.add_emod_right]
   exact Int.emod_eq_of_lt (by omega) (by omega)
  simp only [this]
  rw [if_pos]
  ·omega
  ·simp;omega
theorem ZiJ {σ ρ:Type} (body:σ→Option (σ ⊕ ρ)) (m:Nat) (x:σ):Zac body (m+1) x=match body x with
  | none=>none
  | some (.inl y)=>Zac body m y
  | some (.inr r)=>some r:=rfl
theorem ZcJ {σ ρ:Type} {body:σ→Option (σ ⊕ ρ)} {m:Nat} {x y:σ} (h:body x=some (.inl y)):Zac body (m+1) x=Zac body m y:=by rw [ZiJ,h]
theorem Zbn {σ ρ:Type} {body:σ→Option (σ ⊕ ρ)} {m:Nat} {x:σ} {r:ρ} (h:body x=some (.inr r)):Zac body (m+1) x=some r:=by rw [ZiJ,h]
theorem Zee {σ ρ:Type} {body:σ→Option (σ ⊕ ρ)} (I:σ→Prop) (μ:σ→Nat) (Post:ρ→Prop)
  (step:∀ x,I x→(∃ y,body x=some (.inl y)∧I y∧μ y<μ x)∨(∃ r,body x=some (.inr r)∧Post r)):∀ (N:Nat) (x:σ),I x→μ x<N→∃ r,Zac body N x=some r∧Post r
 | 0,x,_,h=>by omega
 | N+1,x,hI,h=>by
  rcases step x hI with ⟨y,h1,h2,h3⟩ | ⟨r,h1,h2⟩
  ·rw [ZcJ h1]
   exact Zee I μ Post step N y h2 (by omega)
  ·exact ⟨r,by rw [Zbn h1],h2⟩
theorem ZfI {α:Type} (l:List α) (k:Nat):idx l (k:Int)=l[k]?:=by
 unfold idx
 rw [if_pos (by omega)]
 rfl
theorem Zmo {α:Type} {l:List α} {i:Int} (h0:0≤i) (h:i.toNat<l.length):idx l i=some l[i.toNat]:=by
 unfold idx
 rw [if_pos h0]
 exact List.getElem?_eq_getElem h
theorem Zci {a b:Int} (h:b ≠ 0):remI a b=some (a.tmod b):=by unfold remI;rw [if_neg h]
theorem ZmW {k:IntKind} {a b:Int} (h:b ≠ 0):quoI k a b=some (k.wrap (a.tdiv b)):=by unfold quoI;rw [if_neg h]
theorem Zkq {α:Type} {l:List α} {k:Nat} (h:k<l.length):l.drop k=l[k]::l.drop (k+1):=List.drop_eq_getElem_cons h
theorem ZmI {a b:Int} (hb:0<b):(a.tmod b+b).tmod b=a % b:=by
 have h1:0≤a.tmod b+b:=by have:=Int.lt_tmod_of_pos a hb;omega
 rw [Int.tmod_eq_emod_of_nonneg h1,Int.add_emod_right]
 rw [Int.tmod_eq_emod]
 split
 ·simp
 ·have:(b.natAbs:Int)=b:=by omega
  rw [this]
  simp
theorem Zkj {α ρ:Type} {l:List α} {p:α→Bool} {body:Int→Option (Int ⊕ ρ)} {bad fin:ρ} (hstep:∀ (k:Nat) (h:k<l.length),body (k:Int)=if p l[k]=true then some (.inl ((k+1:Nat):Int)) else some (.inr bad))
  (hend:body (l.length:Int)=some (.inr fin)):∀ (n N k:Nat),l.length - k=n→k≤l.length→n<N→Zac body N (k:Int)=some (if (l.drop k).all p then fin else bad):=by
 intro n
 induction n with
 | zero =>
  intro N k hn hk hN
  have:k=l.length:=by omega
  subst this
  cases N with
  | zero=>omega
  | succ N=>rw [Zbn hend];simp
 | succ n ih =>
  intro N k hn hk hN
  cases N with
  | zero=>omega
  | succ N =>
   have hlt:k<l.length:=by omega
   rw [Zkq hlt,List.all_cons]
   by_cases hp:p l[k]=true
   ·rw [ZcJ (by rw [hstep k hlt,if_pos hp]),ih N (k+1) (by omega) (by omega) (by omega)]
    simp [hp]
   ·rw [Zbn (by rw [hstep k hlt,if_neg hp])]
    simp [hp]
end Go.Sh

set_option linter.unusedVariables false
set_option linter.unusedSimpArgs false
namespace Go.Sh
open Go Go.Eng
def VSpan (s:Zs):Prop:=1≤s.Period∧s.Period≤960∧0≤s.From∧s.From<s.Period∧1≤s.Long∧s.Long≤s.Period
instance (s:Zs):Decidable (VSpan s):=by unfold VSpan;infer_instance
theorem ZcS (N:Nat) (s:Zs):Zbe N s=some (if VSpan s then 0 else 330):=by
 unfold Zbe
 by_cases h:VSpan s
 ·rw [if_pos h]
  unfold VSpan at h
  rw [if_neg (by simp;omega),if_neg (by simp;omega)]
 ·rw [if_neg h]
  unfold VSpan at h
  by_cases h1:((decide (s.Period<1))||((decide (s.Period > 960))||((decide (s.From<0))||(decide (s.From ≥ s.Period)))))=true
  ·rw [if_pos h1]
  ·rw [if_neg h1,if_pos]
   simp at h1 ⊢
   omega
theorem Zit (N:Nat) {a b:Int} (hb:0<b) (hb2:b≤1000000):Zdi N a b=some (a % b):=by
 unfold Zdi
 have h1:=Int.lt_tmod_of_pos a hb
 have h2:=Int.tmod_lt_of_pos a hb
 rw [Zci (by omega),Option.bind_some,ZbR (by omega) (by omega),Zci (by omega),Option.bind_some,ZmI hb]
theorem Zg7 (M:Nat):∀ (b N a:Nat),b<N→Zac (fun x:Int × Int=>ZaV M x.1 x.2) N ((a:Int),(b:Int))=some (Nat.gcd a b:Int):=by
 intro b
 induction b using Nat.strongRecOn with
 | _ b ih =>
  intro N a hN
  cases N with
  | zero=>omega
  | succ N =>
   by_cases hb:b=0
   ·subst hb
    rw [Zbn (r:=(a:Int))]
    ·simp
    ·simp [ZaV]
   ·have hlt:=Nat.mod_lt a (Nat.pos_of_ne_zero hb)
    rw [ZcJ (y:=((b:Int),((a % b:Nat):Int)))]
    ·rw [ih (a % b) hlt N b (by omega)]
     rw [Nat.gcd_comm a b,Nat.gcd_rec b a,Nat.gcd_comm (a % b) b]
    ·simp only [ZaV]
     rw [if_pos (by simp;omega),Zci (by omega),Option.bind_some,Int.tmod_eq_emod_of_nonneg (by omega)]
     rfl
theorem Zft {N:Nat} {a b:Int} (ha:0≤a) (hb:0≤b) (hN:b.toNat<N):Zcs N a b=some (Nat.gcd a.toNat b.toNat:Int):=by
 unfold Zcs
 have:=Zg7 N b.toNat N a.toNat hN
 rw [Int.toNat_of_nonneg ha,Int.toNat_of_nonneg hb] at this
 rw [this]
 rfl
theorem Zi3 {a d:Int} (hd:0<d) (ha:0≤a):a.tmod d=0↔d.toNat ∣ a.toNat:=by
 rw [Int.tmod_eq_emod_of_nonneg ha]
 constructor
 ·intro h
  have h1:d ∣ a:=Int.dvd_of_emod_eq_zero h
  rw [← Int.toNat_of_nonneg ha,← Int.toNat_of_nonneg (show 0≤d by omega)] at h1
  exact Int.natCast_dvd_natCast.1 h1
 ·intro h
  have:((d.toNat:Nat):Int) ∣ ((a.toNat:Nat):Int):=Int.natCast_dvd_natCast.2 h
  rw [Int.toNat_of_nonneg ha,Int.toNat_of_nonneg (by omega)] at this
  exact Int.emod_eq_zero_of_dvd this
def gP (a b:Zs):Int:=(Nat.gcd a.Period.toNat b.Period.toNat:Int)
theorem Zlj {a b:Zs} (ha:1≤a.Period):0<gP a b:=by
 have:0<Nat.gcd a.Period.toNat b.Period.toNat:=Nat.gcd_pos_of_pos_left _ (by omega)
 unfold gP;omega
theorem gP_le {a b:Zs} (ha:1≤a.Period):gP a b≤a.Period:=by
 have:=Nat.le_of_dvd (by omega:0<a.Period.toNat) (Nat.gcd_dvd_left a.Period.toNat b.Period.toNat)
 unfold gP;omega
theorem ZkU {a b:Zs} (ha:1≤a.Period):gP a b ∣ a.Period:=by
 have:=Int.natCast_dvd_natCast.2 (Nat.gcd_dvd_left a.Period.toNat b.Period.toNat)
 rwa [Int.toNat_of_nonneg (by omega)] at this
theorem Zkm {a b:Zs} (hb:1≤b.Period):gP a b ∣ b.Period:=by
 have:=Int.natCast_dvd_natCast.2 (Nat.gcd_dvd_right a.Period.toNat b.Period.toNat)
 rwa [Int.toNat_of_nonneg (by omega)] at this
def SepD (a b:Zs) (d:Int):Prop:=a.Long≤d % gP a b∧d % gP a b≤gP a b - b.Long
instance (a b:Zs) (d:Int):Decidable (SepD a b d):=by unfold SepD;infer_instance
theorem sep_iff {al bl d g:Int} (hg:0<g) (ha:1≤al) (hb:1≤bl):(∀ x,1 - bl≤x→x<al→(d - x) % g ≠ 0)↔(al≤d % g∧d % g≤g - bl):=by
 have h0:=Int.emod_nonneg d (show g ≠ 0 by omega)
 have h1:=Int.emod_lt_of_pos d hg
 have hd:=Int.mul_ediv_add_emod d g
 constructor
 ·intro h
  constructor
  ·rcases Int.lt_or_le (d % g) al with hlt | hle
   ·exfalso
    refine h (d % g) (by omega) hlt ?_
    have:d - d % g=g * (d / g):=by omega
    rw [this]
    exact Int.mul_emod_right _ _
   ·exact hle
  ·rcases Int.lt_or_le (g - bl) (d % g) with hlt | hle
   ·exfalso
    refine h (d % g - g) (by omega) (by omega) ?_
    have:d - (d % g - g)=g * (d / g+1):=by rw [Int.mul_add];omega
    rw [this]
    exact Int.mul_emod_right _ _
   ·exact hle
 ·rintro ⟨h2,h3⟩ x hx1 hx2 hx
  obtain ⟨q,hq⟩:=Int.dvd_of_emod_eq_zero hx
  have e:d % g - x=g * (q - d / g):=by rw [Int.mul_sub];omega
  generalize q - d / g=k at e
  rcases Int.lt_trichotomy k 0 with hk | hk | hk
  ·have:g * k≤g * (-1):=Int.mul_le_mul_of_nonneg_left (by omega) (by omega)
   omega
  ·subst hk;omega
  ·have:g * 1≤g * k:=Int.mul_le_mul_of_nonneg_left (by omega) (by omega)
   omega
end Go.Sh

set_option linter.unusedVariables false
set_option linter.unusedSimpArgs false
namespace Go.Sh
open Go Go.Eng
theorem VSpan.bounds {s:Zs} (h:VSpan s):1≤s.Period∧s.Period≤960∧0≤s.From∧s.From<s.Period∧1≤s.Long∧s.Long≤s.Period:=h
theorem gP_comm (a b:Zs):gP a b=gP b a:=by unfold gP;rw [Nat.gcd_comm]
theorem ZhH {N:Nat} (hN:2000≤N) {a b:Zs} (ha:VSpan a) (hb:VSpan b):ZcG N a b=some (a.Long,gP a b - b.Long,gP a b):=by
 obtain ⟨a1,a2,a3,a4,a5,a6⟩:=ha
 obtain ⟨b1,b2,b3,b4,b5,b6⟩:=hb
 have hg0:0<gP a b:=Zlj a1
 have hg1:gP a b≤a.Period:=gP_le a1
 unfold ZcG
 rw [Zft (by omega) (by omega) (by omega),Option.bind_some]
 show some (a.Long,w64 (gP a b - b.Long),gP a b)=_
 rw [ZbR (by omega) (by omega)]
theorem Zg9 {N:Nat} (hN:2000≤N) {a b:Zs} (ha:VSpan a) (hb:VSpan b):Zcf N a b=some (decide (SepD a b (b.From - a.From))):=by
 have hr:=ZhH hN ha hb
 obtain ⟨a1,a2,a3,a4,a5,a6⟩:=ha
 obtain ⟨b1,b2,b3,b4,b5,b6⟩:=hb
 have hg0:0<gP a b:=Zlj a1
 have hg1:gP a b≤a.Period:=gP_le a1
 unfold Zcf
 by_cases h:((a.Period==b.Period)&&((a.From==b.From)&&((a.Long==b.Long)&&true)))=true
 ·rw [if_pos h]
  simp only [Bool.and_eq_true,beq_iff_eq,and_true] at h
  symm
  simp only [Option.some.injEq,decide_eq_false_iff_not]
  unfold SepD
  rw [h.2.1,Int.sub_self,Int.zero_emod]
  omega
 ·rw [if_neg h,hr]
  simp only [Option.bind_some]
  rw [ZbR (by omega) (by omega),Zit N hg0 (by omega)]
  simp only [Option.bind_some,Option.some.injEq]
  rw [Bool.eq_iff_iff,decide_eq_true_iff]
  simp only [Bool.and_eq_true,decide_eq_true_eq,SepD]
theorem Zhd {N:Nat} (hN:2000≤N) (a b:Zs):Zch N a b=some (if VSpan a∧VSpan b then (decide (SepD a b (b.From - a.From)),0) else (false,330)):=by
 unfold Zch
 rw [ZcS,ZcS]
 simp only [Option.bind_some]
 by_cases ha:VSpan a
 ·by_cases hb:VSpan b
  ·simp only [ha,hb,if_true,and_self,bne_self_eq_false,Bool.false_eq_true,if_false,Zg9 hN ha hb,Option.bind_some]
  ·simp [ha,hb]
 ·simp [ha]
end Go.Sh
