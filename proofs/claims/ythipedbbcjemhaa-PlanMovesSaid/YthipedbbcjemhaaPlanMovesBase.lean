/- Part of the proof; written by a program out of the texts in wip/. -/
import Derived.Test.YthipedbbcjemhaaPlanMovesSh
import Derived.Test.YthipedbbcjemhaaPlanMovesRd
namespace Go.Sh
open Go Go.Eng
theorem Zb7 {x:Int} (h : -9223372036854775808≤x) (h2:x≤9223372036854775807):w64 x=x:=by
 unfold w64 IntKind.wrap
 simp only [IntKind.bits,IntKind.signed]
 by_cases h0:0≤x
 ·have:x % (2 ^ 64:Int)=x:=Int.emod_eq_of_lt h0 (by omega)
  simp only [this]
  rw [if_neg]
  simp;omega
 ·have:x % (2 ^ 64:Int)=x+2 ^ 64:=by
   rw [← Int.add_emod_right]
   exact Int.emod_eq_of_lt (by omega) (by omega)
  simp only [this]
  rw [if_pos]
  ·omega
  ·simp;omega
theorem ZiM {σ ρ:Type} (body:σ→Option (σ ⊕ ρ)) (m:Nat) (x:σ):Zaf body (m+1) x=match body x with
  | none=>none
  | some (.inl y)=>Zaf body m y
  | some (.inr r)=>some r:=rfl
theorem ZcG {σ ρ:Type} {body:σ→Option (σ ⊕ ρ)} {m:Nat} {x y:σ} (h:body x=some (.inl y)):Zaf body (m+1) x=Zaf body m y:=by rw [ZiM,h]
theorem Zbk {σ ρ:Type} {body:σ→Option (σ ⊕ ρ)} {m:Nat} {x:σ} {r:ρ} (h:body x=some (.inr r)):Zaf body (m+1) x=some r:=by rw [ZiM,h]
theorem Zfe {σ ρ:Type} {body:σ→Option (σ ⊕ ρ)} (I:σ→Prop) (μ:σ→Nat) (Post:ρ→Prop)
  (step:∀ x,I x→(∃ y,body x=some (.inl y)∧I y∧μ y<μ x)∨(∃ r,body x=some (.inr r)∧Post r)):∀ (N:Nat) (x:σ),I x→μ x<N→∃ r,Zaf body N x=some r∧Post r
 | 0,x,_,h=>by omega
 | N+1,x,hI,h=>by
  rcases step x hI with ⟨y,h1,h2,h3⟩ | ⟨r,h1,h2⟩
  ·rw [ZcG h1]
   exact Zfe I μ Post step N y h2 (by omega)
  ·exact ⟨r,by rw [Zbk h1],h2⟩
theorem ZfL {α:Type} (l:List α) (k:Nat):idx l (k:Int)=l[k]?:=by
 unfold idx
 rw [if_pos (by omega)]
 rfl
theorem Zmm {α:Type} {l:List α} {i:Int} (h0:0≤i) (h:i.toNat<l.length):idx l i=some l[i.toNat]:=by
 unfold idx
 rw [if_pos h0]
 exact List.getElem?_eq_getElem h
theorem Zcy {a b:Int} (h:b ≠ 0):remI a b=some (a.tmod b):=by unfold remI;rw [if_neg h]
theorem ZmV {k:IntKind} {a b:Int} (h:b ≠ 0):quoI k a b=some (k.wrap (a.tdiv b)):=by unfold quoI;rw [if_neg h]
theorem Zkp {α:Type} {l:List α} {k:Nat} (h:k<l.length):l.drop k=l[k]::l.drop (k+1):=List.drop_eq_getElem_cons h
theorem ZmH {a b:Int} (hb:0<b):(a.tmod b+b).tmod b=a % b:=by
 have h1:0≤a.tmod b+b:=by have:=Int.lt_tmod_of_pos a hb;omega
 rw [Int.tmod_eq_emod_of_nonneg h1,Int.add_emod_right]
 rw [Int.tmod_eq_emod]
 split
 ·simp
 ·have:(b.natAbs:Int)=b:=by omega
  rw [this]
  simp
theorem Zki {α ρ:Type} {l:List α} {p:α→Bool} {body:Int→Option (Int ⊕ ρ)} {bad fin:ρ} (hstep:∀ (k:Nat) (h:k<l.length),body (k:Int)=if p l[k]=true then some (.inl ((k+1:Nat):Int)) else some (.inr bad))
  (hend:body (l.length:Int)=some (.inr fin)):∀ (n N k:Nat),l.length - k=n→k≤l.length→n<N→Zaf body N (k:Int)=some (if (l.drop k).all p then fin else bad):=by
 intro n
 induction n with
 | zero =>
  intro N k hn hk hN
  have:k=l.length:=by omega
  subst this
  cases N with
  | zero=>omega
  | succ N=>rw [Zbk hend];simp
 | succ n ih =>
  intro N k hn hk hN
  cases N with
  | zero=>omega
  | succ N =>
   have hlt:k<l.length:=by omega
   rw [Zkp hlt,List.all_cons]
   by_cases hp:p l[k]=true
   ·rw [ZcG (by rw [hstep k hlt,if_pos hp]),ih N (k+1) (by omega) (by omega) (by omega)]
    simp [hp]
   ·rw [Zbk (by rw [hstep k hlt,if_neg hp])]
    simp [hp]
end Go.Sh

set_option linter.unusedVariables false
set_option linter.unusedSimpArgs false
namespace Go.Sh
open Go Go.Eng
def VSpan (s:Zs):Prop:=1≤s.Period∧s.Period≤960∧0≤s.From∧s.From<s.Period∧1≤s.Long∧s.Long≤s.Period
instance (s:Zs):Decidable (VSpan s):=by unfold VSpan;infer_instance
theorem ZcP (N:Nat) (s:Zs):Zbb N s=some (if VSpan s then 0 else 330):=by
 unfold Zbb
 by_cases h:VSpan s
 ·rw [if_pos h]
  unfold VSpan at h
  rw [if_neg (by simp;omega),if_neg (by simp;omega)]
 ·rw [if_neg h]
  unfold VSpan at h
  by_cases h1:((decide (s.Period<1))||((decide (s.Period > 960))||((decide (s.From<0))||(decide (s.From ≥ s.Period)))))=true
  ·rw [if_pos h1]
  ·rw [if_neg h1,if_pos]
   simp at h1 ⊢
   omega
theorem Ziz (N:Nat) {a b:Int} (hb:0<b) (hb2:b≤1000000):Zdk N a b=some (a % b):=by
 unfold Zdk
 have h1:=Int.lt_tmod_of_pos a hb
 have h2:=Int.tmod_lt_of_pos a hb
 rw [Zcy (by omega),Option.bind_some,Zb7 (by omega) (by omega),Zcy (by omega),Option.bind_some,ZmH hb]
theorem Zhb (M:Nat):∀ (b N a:Nat),b<N→Zaf (fun x:Int × Int=>ZaR M x.1 x.2) N ((a:Int),(b:Int))=some (Nat.gcd a b:Int):=by
 intro b
 induction b using Nat.strongRecOn with
 | _ b ih =>
  intro N a hN
  cases N with
  | zero=>omega
  | succ N =>
   by_cases hb:b=0
   ·subst hb
    rw [Zbk (r:=(a:Int))]
    ·simp
    ·simp [ZaR]
   ·have hlt:=Nat.mod_lt a (Nat.pos_of_ne_zero hb)
    rw [ZcG (y:=((b:Int),((a % b:Nat):Int)))]
    ·rw [ih (a % b) hlt N b (by omega)]
     rw [Nat.gcd_comm a b,Nat.gcd_rec b a,Nat.gcd_comm (a % b) b]
    ·simp only [ZaR]
     rw [if_pos (by simp;omega),Zcy (by omega),Option.bind_some,Int.tmod_eq_emod_of_nonneg (by omega)]
     rfl
theorem Zfx {N:Nat} {a b:Int} (ha:0≤a) (hb:0≤b) (hN:b.toNat<N):Zcp N a b=some (Nat.gcd a.toNat b.toNat:Int):=by
 unfold Zcp
 have:=Zhb N b.toNat N a.toNat hN
 rw [Int.toNat_of_nonneg ha,Int.toNat_of_nonneg hb] at this
 rw [this]
 rfl
def gP (a b:Zs):Int:=(Nat.gcd a.Period.toNat b.Period.toNat:Int)
theorem Zmq {a b:Zs} (ha:1≤a.Period):0<gP a b:=by
 have:0<Nat.gcd a.Period.toNat b.Period.toNat:=Nat.gcd_pos_of_pos_left _ (by omega)
 unfold gP;omega
theorem gP_le {a b:Zs} (ha:1≤a.Period):gP a b≤a.Period:=by
 have:=Nat.le_of_dvd (by omega:0<a.Period.toNat) (Nat.gcd_dvd_left a.Period.toNat b.Period.toNat)
 unfold gP;omega
theorem ZkS {a b:Zs} (ha:1≤a.Period):gP a b ∣ a.Period:=by
 have:=Int.natCast_dvd_natCast.2 (Nat.gcd_dvd_left a.Period.toNat b.Period.toNat)
 rwa [Int.toNat_of_nonneg (by omega)] at this
theorem Zkl {a b:Zs} (hb:1≤b.Period):gP a b ∣ b.Period:=by
 have:=Int.natCast_dvd_natCast.2 (Nat.gcd_dvd_right a.Period.toNat b.Period.toNat)
 rwa [Int.toNat_of_nonneg (by omega)] at this
def SepD (a b:Zs) (d:Int):Prop:=a.Long≤d % gP a b∧d % gP a b≤gP a b - b.Long
instance (a b:Zs) (d:Int):Decidable (SepD a b d):=by unfold SepD;infer_instance
end Go.Sh

set_option linter.unusedVariables false
set_option linter.unusedSimpArgs false
namespace Go.Sh
open Go Go.Eng
theorem VSpan.bounds {s:Zs} (h:VSpan s):1≤s.Period∧s.Period≤960∧0≤s.From∧s.From<s.Period∧1≤s.Long∧s.Long≤s.Period:=h
theorem gP_comm (a b:Zs):gP a b=gP b a:=by unfold gP;rw [Nat.gcd_comm]
theorem ZhN {N:Nat} (hN:2000≤N) {a b:Zs} (ha:VSpan a) (hb:VSpan b):ZcD N a b=some (a.Long,gP a b - b.Long,gP a b):=by
 obtain ⟨a1,a2,a3,a4,a5,a6⟩:=ha
 obtain ⟨b1,b2,b3,b4,b5,b6⟩:=hb
 have hg0:0<gP a b:=Zmq a1
 have hg1:gP a b≤a.Period:=gP_le a1
 unfold ZcD
 rw [Zfx (by omega) (by omega) (by omega),Option.bind_some]
 show some (a.Long,w64 (gP a b - b.Long),gP a b)=_
 rw [Zb7 (by omega) (by omega)]
theorem Zhd {N:Nat} (hN:2000≤N) {a b:Zs} (ha:VSpan a) (hb:VSpan b):Zcd N a b=some (decide (SepD a b (b.From - a.From))):=by
 have hr:=ZhN hN ha hb
 obtain ⟨a1,a2,a3,a4,a5,a6⟩:=ha
 obtain ⟨b1,b2,b3,b4,b5,b6⟩:=hb
 have hg0:0<gP a b:=Zmq a1
 have hg1:gP a b≤a.Period:=gP_le a1
 unfold Zcd
 by_cases h:((a.Period==b.Period)&&((a.From==b.From)&&((a.Long==b.Long)&&true)))=true
 ·rw [if_pos h]
  simp only [Bool.and_eq_true,beq_iff_eq,and_true] at h
  symm
  simp only [Option.some.injEq,decide_eq_false_iff_not]
  unfold SepD
  rw [h.2.1,Int.sub_self,Int.zero_emod]
  omega
 ·rw [if_neg h,hr]
  simp only [Option.bind_some]
  rw [Zb7 (by omega) (by omega),Ziz N hg0 (by omega)]
  simp only [Option.bind_some,Option.some.injEq]
  rw [Bool.eq_iff_iff,decide_eq_true_iff]
  simp only [Bool.and_eq_true,decide_eq_true_eq,SepD]
theorem Zhh {N:Nat} (hN:2000≤N) (a b:Zs):Zcf N a b=some (if VSpan a∧VSpan b then (decide (SepD a b (b.From - a.From)),0) else (false,330)):=by
 unfold Zcf
 rw [ZcP,ZcP]
 simp only [Option.bind_some]
 by_cases ha:VSpan a
 ·by_cases hb:VSpan b
  ·simp only [ha,hb,if_true,and_self,bne_self_eq_false,Bool.false_eq_true,if_false,Zhd hN ha hb,Option.bind_some]
  ·simp [ha,hb]
 ·simp [ha]
end Go.Sh
