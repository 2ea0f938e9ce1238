/- Part of the proof; written by a program out of the texts in wip/. -/
import Derived.Test.YthipedbbcjemhaaPlanFitsSh
import Derived.Test.YthipedbbcjemhaaPlanFitsRd
namespace Go.Sh
open Go Go.Eng
theorem ZaW {x:Int} (h : -9223372036854775808≤x) (h2:x≤9223372036854775807):w64 x=x:=by
 unfold w64 IntKind.wrap
 simp only [IntKind.bits,IntKind.signed]
 by_cases h0:0≤x
 ·have:x % (2 ^ 64:Int)=x:=Int.emod_eq_of_lt h0 (by omega)
  simp only [this]
  rw [if_neg]
  simp;omega
 ·have:x % (2 ^ 64:Int)=x+2 ^ 64:=by
   rw [← Int.add_emod_right]
   exact Int.emod_eq_of_lt (by omega) (by omega)
  simp only [this]
  rw [if_pos]
  ·omega
  ·simp;omega
theorem ZjE {σ ρ:Type} (body:σ→Option (σ ⊕ ρ)) (m:Nat) (x:σ):Zac body (m+1) x=match body x with
  | none=>none
  | some (.inl y)=>Zac body m y
  | some (.inr r)=>some r:=rfl
theorem ZbK {σ ρ:Type} {body:σ→Option (σ ⊕ ρ)} {m:Nat} {x y:σ} (h:body x=some (.inl y)):Zac body (m+1) x=Zac body m y:=by rw [ZjE,h]
theorem Zay {σ ρ:Type} {body:σ→Option (σ ⊕ ρ)} {m:Nat} {x:σ} {r:ρ} (h:body x=some (.inr r)):Zac body (m+1) x=some r:=by rw [ZjE,h]
theorem Zia {σ ρ:Type} {body:σ→Option (σ ⊕ ρ)} (I:σ→Prop) (μ:σ→Nat) (Post:ρ→Prop)
  (step:∀ x,I x→(∃ y,body x=some (.inl y)∧I y∧μ y<μ x)∨(∃ r,body x=some (.inr r)∧Post r)):∀ (N:Nat) (x:σ),I x→μ x<N→∃ r,Zac body N x=some r∧Post r
 | 0,x,_,h=>by omega
 | N+1,x,hI,h=>by
  rcases step x hI with ⟨y,h1,h2,h3⟩ | ⟨r,h1,h2⟩
  ·rw [ZbK h1]
   exact Zia I μ Post step N y h2 (by omega)
  ·exact ⟨r,by rw [Zay h1],h2⟩
theorem ZfF {α:Type} (l:List α) (k:Nat):idx l (k:Int)=l[k]?:=by
 unfold idx
 rw [if_pos (by omega)]
 rfl
theorem ZgO {α:Type} {l:List α} {i:Int} (h0:0≤i) (h:i.toNat<l.length):idx l i=some l[i.toNat]:=by
 unfold idx
 rw [if_pos h0]
 exact List.getElem?_eq_getElem h
theorem ZaU {a b:Int} (h:b ≠ 0):remI a b=some (a.tmod b):=by unfold remI;rw [if_neg h]
theorem ZnG {k:IntKind} {a b:Int} (h:b ≠ 0):quoI k a b=some (k.wrap (a.tdiv b)):=by unfold quoI;rw [if_neg h]
theorem Zi9 {α:Type} {l:List α} {k:Nat} (h:k<l.length):l.drop k=l[k]::l.drop (k+1):=List.drop_eq_getElem_cons h
theorem ZlT {a b:Int} (hb:0<b):(a.tmod b+b).tmod b=a % b:=by
 have h1:0≤a.tmod b+b:=by have:=Int.lt_tmod_of_pos a hb;omega
 rw [Int.tmod_eq_emod_of_nonneg h1,Int.add_emod_right]
 rw [Int.tmod_eq_emod]
 split
 ·simp
 ·have:(b.natAbs:Int)=b:=by omega
  rw [this]
  simp
theorem Zlg {α ρ:Type} {l:List α} {p:α→Bool} {body:Int→Option (Int ⊕ ρ)} {bad fin:ρ} (hstep:∀ (k:Nat) (h:k<l.length),body (k:Int)=if p l[k]=true then some (.inl ((k+1:Nat):Int)) else some (.inr bad))
  (hend:body (l.length:Int)=some (.inr fin)):∀ (n N k:Nat),l.length - k=n→k≤l.length→n<N→Zac body N (k:Int)=some (if (l.drop k).all p then fin else bad):=by
 intro n
 induction n with
 | zero =>
  intro N k hn hk hN
  have:k=l.length:=by omega
  subst this
  cases N with
  | zero=>omega
  | succ N=>rw [Zay hend];simp
 | succ n ih =>
  intro N k hn hk hN
  cases N with
  | zero=>omega
  | succ N =>
   have hlt:k<l.length:=by omega
   rw [Zi9 hlt,List.all_cons]
   by_cases hp:p l[k]=true
   ·rw [ZbK (by rw [hstep k hlt,if_pos hp]),ih N (k+1) (by omega) (by omega) (by omega)]
    simp [hp]
   ·rw [Zay (by rw [hstep k hlt,if_neg hp])]
    simp [hp]
end Go.Sh

set_option linter.unusedVariables false
set_option linter.unusedSimpArgs false
namespace Go.Sh
open Go Go.Eng
def VSpan (s:Zw):Prop:=1≤s.Period∧s.Period≤960∧0≤s.From∧s.From<s.Period∧1≤s.Long∧s.Long≤s.Period
instance (s:Zw):Decidable (VSpan s):=by unfold VSpan;infer_instance
theorem Zdv (N:Nat) (s:Zw):ZbC N s=some (if VSpan s then 0 else 330):=by
 unfold ZbC
 by_cases h:VSpan s
 ·rw [if_pos h]
  unfold VSpan at h
  rw [if_neg (by simp;omega),if_neg (by simp;omega)]
 ·rw [if_neg h]
  unfold VSpan at h
  by_cases h1:((decide (s.Period<1))||((decide (s.Period > 960))||((decide (s.From<0))||(decide (s.From ≥ s.Period)))))=true
  ·rw [if_pos h1]
  ·rw [if_neg h1,if_pos]
   simp at h1 ⊢
   omega
theorem Zjq (N:Nat) {a b:Int} (hb:0<b) (hb2:b≤1000000):ZdY N a b=some (a % b):=by
 unfold ZdY
 have h1:=Int.lt_tmod_of_pos a hb
 have h2:=Int.tmod_lt_of_pos a hb
 rw [ZaU (by omega),Option.bind_some,ZaW (by omega) (by omega),ZaU (by omega),Option.bind_some,ZlT hb]
theorem ZkY (N:Nat) {a b:Int} (hb:0<b) (hb2:b≤1000000):Zfs N a b=some (a % b):=by
 unfold Zfs
 have h1:=Int.lt_tmod_of_pos a hb
 have h2:=Int.tmod_lt_of_pos a hb
 have h3:=ZlT (a:=a) hb
 rw [ZaU (by omega),Option.bind_some]
 by_cases h:a.tmod b<0
 ·rw [if_pos (by simpa using h),Option.bind_some,ZaW (by omega) (by omega)]
  rw [Int.tmod_eq_of_lt (by omega) (by omega)] at h3
  rw [h3]
 ·rw [if_neg (by simpa using h),Option.bind_some]
  rw [← h3,show a.tmod b+b=a.tmod b+b * 1 by omega]
  have e:(a.tmod b+b).tmod b=(a.tmod b+b) % b:=Int.tmod_eq_emod_of_nonneg (by omega)
  rw [Int.mul_one,e,Int.add_emod_right]
  rw [Int.emod_eq_of_lt (by omega) (by omega)]
theorem ZhZ (M:Nat):∀ (b N a:Nat),b<N→Zac (fun x:Int × Int=>Zbd M x.1 x.2) N ((a:Int),(b:Int))=some (Nat.gcd a b:Int):=by
 intro b
 induction b using Nat.strongRecOn with
 | _ b ih =>
  intro N a hN
  cases N with
  | zero=>omega
  | succ N =>
   by_cases hb:b=0
   ·subst hb
    rw [Zay (r:=(a:Int))]
    ·simp
    ·simp [Zbd]
   ·have hlt:=Nat.mod_lt a (Nat.pos_of_ne_zero hb)
    rw [ZbK (y:=((b:Int),((a % b:Nat):Int)))]
    ·rw [ih (a % b) hlt N b (by omega)]
     rw [Nat.gcd_comm a b,Nat.gcd_rec b a,Nat.gcd_comm (a % b) b]
    ·simp only [Zbd]
     rw [if_pos (by simp;omega),ZaU (by omega),Option.bind_some,Int.tmod_eq_emod_of_nonneg (by omega)]
     rfl
theorem Zge {N:Nat} {a b:Int} (ha:0≤a) (hb:0≤b) (hN:b.toNat<N):ZcY N a b=some (Nat.gcd a.toNat b.toNat:Int):=by
 unfold ZcY
 have:=ZhZ N b.toNat N a.toNat hN
 rw [Int.toNat_of_nonneg ha,Int.toNat_of_nonneg hb] at this
 rw [this]
 rfl
theorem ZcH {a d:Int} (hd:0<d) (ha:0≤a):a.tmod d=0↔d.toNat ∣ a.toNat:=by
 rw [Int.tmod_eq_emod_of_nonneg ha]
 constructor
 ·intro h
  have h1:d ∣ a:=Int.dvd_of_emod_eq_zero h
  rw [← Int.toNat_of_nonneg ha,← Int.toNat_of_nonneg (show 0≤d by omega)] at h1
  exact Int.natCast_dvd_natCast.1 h1
 ·intro h
  have:((d.toNat:Nat):Int) ∣ ((a.toNat:Nat):Int):=Int.natCast_dvd_natCast.2 h
  rw [Int.toNat_of_nonneg ha,Int.toNat_of_nonneg (by omega)] at this
  exact Int.emod_eq_zero_of_dvd this
theorem Zjr (M:Nat) {a b:Int} (ha:1≤a) (hb:1≤b) (ha2:a≤1000000):∀ (d:Nat) (N:Nat),d<N→(d:Int)≤a→(∀ e:Nat,d<e→¬ (e ∣ a.toNat∧e ∣ b.toNat)) →
  ∃ r,Zac (fun x:Int=>Zbu M a b x) N (d:Int)=some r∧(match r with | .inl _=>(1:Int) | .inr p=>p)=(Nat.gcd a.toNat b.toNat:Int):=by
 intro d
 induction d with
 | zero =>
  intro N hN _ hall
  exfalso
  exact hall 1 (by omega) ⟨Nat.one_dvd _,Nat.one_dvd _⟩
 | succ d ih =>
  intro N hN hle hall
  cases N with
  | zero=>omega
  | succ N =>
   have hgpos:0<Nat.gcd a.toNat b.toNat:=Nat.gcd_pos_of_pos_left _ (by omega)
   have hgle:Nat.gcd a.toNat b.toNat≤d+1:=by
    rcases Nat.lt_or_ge (d+1) (Nat.gcd a.toNat b.toNat) with h | h
    ·exact absurd ⟨Nat.gcd_dvd_left _ _,Nat.gcd_dvd_right _ _⟩ (hall _ h)
    ·exact h
   by_cases h1:d=0
   ·subst h1
    refine ⟨.inl (),Zay (by simp [Zbu]),?_⟩
    simp only
    omega
   ·have hd1:((d+1:Nat):Int) > 1:=by omega
    by_cases h2:(d+1) ∣ a.toNat∧(d+1) ∣ b.toNat
    ·refine ⟨.inr ((d+1:Nat):Int),Zay ?_,?_⟩
     ·simp only [Zbu]
      rw [if_pos (by simpa using hd1),ZaU (by omega),Option.bind_some,if_pos,ZaU (by omega),Option.bind_some]
      ·simp only [Option.bind_some]
       rw [if_pos]
       simp only [beq_iff_eq]
       exact (ZcH (by omega) (by omega)).2 (by simpa using h2.2)
      ·simp only [beq_iff_eq]
       exact (ZcH (by omega) (by omega)).2 (by simpa using h2.1)
     ·simp only
      have:d+1 ∣ Nat.gcd a.toNat b.toNat:=Nat.dvd_gcd h2.1 h2.2
      have:=Nat.le_of_dvd hgpos this
      omega
    ·rw [ZbK (y:=(d:Int))]
     ·refine ih N (by omega) (by omega) fun e he hd => ?_
      by_cases h3:e=d+1
      ·subst h3;exact h2 hd
      ·exact hall e (by omega) hd
     ·simp only [Zbu]
      rw [if_pos (by simpa using hd1),ZaU (by omega),Option.bind_some]
      have hiff1:=ZcH (a:=a) (d:=((d+1:Nat):Int)) (by omega) (by omega)
      have hiff2:=ZcH (a:=b) (d:=((d+1:Nat):Int)) (by omega) (by omega)
      simp only [Int.toNat_natCast] at hiff1 hiff2
      by_cases h4:a.tmod ((d+1:Nat):Int)=0
      ·rw [if_pos (by simpa using h4),ZaU (by omega),Option.bind_some,Option.bind_some,if_neg,ZaW (by omega) (by omega)]
       ·congr 2;omega
       ·simp only [beq_iff_eq]
        intro h5
        exact h2 ⟨hiff1.1 h4,hiff2.1 h5⟩
      ·rw [if_neg (by simpa using h4),Option.bind_some,if_neg (by simp),ZaW (by omega) (by omega)]
       congr 2;omega
theorem Zk0 {N:Nat} {a b:Int} (ha:1≤a) (hb:1≤b) (ha2:a≤1000000) (hN:a.toNat<N):Zft N a b=some (Nat.gcd a.toNat b.toNat:Int):=by
 unfold Zft
 obtain ⟨r,h1,h2⟩:=Zjr N ha hb ha2 a.toNat N hN (by omega) (fun e he hd=>by
  have:=Nat.le_of_dvd (by omega) hd.1
  omega)
 rw [Int.toNat_of_nonneg (by omega)] at h1
 rw [h1,Option.bind_some,← h2]
 cases r<;>rfl
def gP (a b:Zw):Int:=(Nat.gcd a.Period.toNat b.Period.toNat:Int)
theorem Zl7 {a b:Zw} (ha:1≤a.Period):0<gP a b:=by
 have:0<Nat.gcd a.Period.toNat b.Period.toNat:=Nat.gcd_pos_of_pos_left _ (by omega)
 unfold gP;omega
theorem gP_le {a b:Zw} (ha:1≤a.Period):gP a b≤a.Period:=by
 have:=Nat.le_of_dvd (by omega:0<a.Period.toNat) (Nat.gcd_dvd_left a.Period.toNat b.Period.toNat)
 unfold gP;omega
def SepD (a b:Zw) (d:Int):Prop:=a.Long≤d % gP a b∧d % gP a b≤gP a b - b.Long
instance (a b:Zw) (d:Int):Decidable (SepD a b d):=by unfold SepD;infer_instance
theorem ZmX {al bl d g:Int} (hg:0<g) (ha:1≤al) (hb:1≤bl):(∀ x,1 - bl≤x→x<al→(d - x) % g ≠ 0)↔(al≤d % g∧d % g≤g - bl):=by
 have h0:=Int.emod_nonneg d (show g ≠ 0 by omega)
 have h1:=Int.emod_lt_of_pos d hg
 have hd:=Int.mul_ediv_add_emod d g
 constructor
 ·intro h
  constructor
  ·rcases Int.lt_or_le (d % g) al with hlt | hle
   ·exfalso
    refine h (d % g) (by omega) hlt ?_
    have:d - d % g=g * (d / g):=by omega
    rw [this]
    exact Int.mul_emod_right _ _
   ·exact hle
  ·rcases Int.lt_or_le (g - bl) (d % g) with hlt | hle
   ·exfalso
    refine h (d % g - g) (by omega) (by omega) ?_
    have:d - (d % g - g)=g * (d / g+1):=by rw [Int.mul_add];omega
    rw [this]
    exact Int.mul_emod_right _ _
   ·exact hle
 ·rintro ⟨h2,h3⟩ x hx1 hx2 hx
  obtain ⟨q,hq⟩:=Int.dvd_of_emod_eq_zero hx
  have e:d % g - x=g * (q - d / g):=by rw [Int.mul_sub];omega
  generalize q - d / g=k at e
  rcases Int.lt_trichotomy k 0 with hk | hk | hk
  ·have:g * k≤g * (-1):=Int.mul_le_mul_of_nonneg_left (by omega) (by omega)
   omega
  ·subst hk;omega
  ·have:g * 1≤g * k:=Int.mul_le_mul_of_nonneg_left (by omega) (by omega)
   omega
end Go.Sh

set_option linter.unusedVariables false
set_option linter.unusedSimpArgs false
namespace Go.Sh
open Go Go.Eng
theorem VSpan.bounds {s:Zw} (h:VSpan s):1≤s.Period∧s.Period≤960∧0≤s.From∧s.From<s.Period∧1≤s.Long∧s.Long≤s.Period:=h
theorem gP_comm (a b:Zw):gP a b=gP b a:=by unfold gP;rw [Nat.gcd_comm]
theorem Zhh {N:Nat} (hN:2000≤N) {a b:Zw} (ha:1≤a.Period) (ha2:a.Period≤960) (hb:1≤b.Period) (hb2:b.Period≤960) (haf:0≤a.From) (haf2:a.From≤960) (hbf:0≤b.From) (hbf2:b.From≤960)
  (hal:1≤a.Long) (hal2:a.Long≤960) (hbl:1≤b.Long) (hbl2:b.Long≤960):ZbQ N a b=some (decide (SepD a b (b.From - a.From))):=by
 unfold ZbQ
 rw [Zk0 ha hb (by omega) (by omega),Option.bind_some]
 have hg0:0<gP a b:=Zl7 ha
 have hg1:gP a b≤a.Period:=gP_le ha
 have key:∀ (n:Nat) (M:Nat) (x:Int),(a.Long - x).toNat=n→1 - b.Long≤x→n<M→(∀ y,1 - b.Long≤y→y<x→(b.From - a.From - y) % gP a b ≠ 0) →
   ∃ r,Zac (fun x:Int=>Zam N a b (gP a b) x) M x=some r∧(match r with | .inl _=>true | .inr p=>p)=decide (SepD a b (b.From - a.From)):=by
  intro n
  induction n with
  | zero =>
   intro M x hn hx hM hall
   cases M with
   | zero=>omega
   | succ M =>
    refine ⟨.inl (),Zay (by simp only [Zam];rw [if_neg (by simp;omega)]),?_⟩
    symm
    simp only [decide_eq_true_eq]
    refine (ZmX hg0 hal hbl).1 fun y h1 h2=>hall y h1 (by omega)
  | succ n ih =>
   intro M x hn hx hM hall
   cases M with
   | zero=>omega
   | succ M =>
    have hlt:x<a.Long:=by omega
    have e1:w64 (b.From - a.From)=b.From - a.From:=ZaW (by omega) (by omega)
    have e2:w64 (b.From - a.From - x)=b.From - a.From - x:=ZaW (by omega) (by omega)
    have hbody:Zam N a b (gP a b) x=if ((b.From - a.From - x) % gP a b==0)=true then some (.inr (.inr false)) else some (.inl (w64 (x+1))):=by
     simp only [Zam]
     rw [if_pos (by simpa using hlt),e1,e2,ZkY N hg0 (by omega),Option.bind_some]
    by_cases h0:(b.From - a.From - x) % gP a b=0
    ·refine ⟨.inr false,Zay (by rw [hbody,if_pos (by simpa using h0)]),?_⟩
     symm
     simp only [decide_eq_false_iff_not]
     intro hs
     exact (ZmX hg0 hal hbl).2 hs x hx hlt h0
    ·rw [ZbK (y:=x+1) (by rw [hbody,if_neg (by simpa using h0),ZaW (by omega) (by omega)])]
     refine ih M (x+1) (by omega) (by omega) (by omega) fun y h1 h2 => ?_
     by_cases h3:y=x
     ·subst h3;exact h0
     ·exact hall y h1 (by omega)
 rw [ZaW (by omega) (by omega)]
 obtain ⟨r,h1,h2⟩:=key (a.Long - (1 - b.Long)).toNat N (1 - b.Long) rfl (Int.le_refl _) (by omega) (fun y h1 h2=>by omega)
 show (Zac (fun x:Int=>Zam N a b (gP a b) x) N (1 - b.Long)).bind _=_
 rw [h1,Option.bind_some,← h2]
 cases r<;>rfl
theorem VSpan.separate {N:Nat} (hN:2000≤N) {a b:Zw} (ha:VSpan a) (hb:VSpan b):ZbQ N a b=some (decide (SepD a b (b.From - a.From))):=by
 obtain ⟨a1,a2,a3,a4,a5,a6⟩:=ha
 obtain ⟨b1,b2,b3,b4,b5,b6⟩:=hb
 exact Zhh hN a1 a2 b1 b2 a3 (by omega) b3 (by omega) a5 (by omega) b5 (by omega)
theorem Ziz {N:Nat} (hN:2000≤N) {a b:Zw} (ha:VSpan a) (hb:VSpan b):Zdj N a b=some (a.Long,gP a b - b.Long,gP a b):=by
 obtain ⟨a1,a2,a3,a4,a5,a6⟩:=ha
 obtain ⟨b1,b2,b3,b4,b5,b6⟩:=hb
 have hg0:0<gP a b:=Zl7 a1
 have hg1:gP a b≤a.Period:=gP_le a1
 unfold Zdj
 rw [Zge (by omega) (by omega) (by omega),Option.bind_some]
 show some (a.Long,w64 (gP a b - b.Long),gP a b)=_
 rw [ZaW (by omega) (by omega)]
theorem Zh1 {N:Nat} (hN:2000≤N) {a b:Zw} (ha:VSpan a) (hb:VSpan b):ZcM N a b=some (decide (SepD a b (b.From - a.From))):=by
 have hr:=Ziz hN ha hb
 obtain ⟨a1,a2,a3,a4,a5,a6⟩:=ha
 obtain ⟨b1,b2,b3,b4,b5,b6⟩:=hb
 have hg0:0<gP a b:=Zl7 a1
 have hg1:gP a b≤a.Period:=gP_le a1
 unfold ZcM
 by_cases h:((a.Period==b.Period)&&((a.From==b.From)&&((a.Long==b.Long)&&true)))=true
 ·rw [if_pos h]
  simp only [Bool.and_eq_true,beq_iff_eq,and_true] at h
  symm
  simp only [Option.some.injEq,decide_eq_false_iff_not]
  unfold SepD
  rw [h.2.1,Int.sub_self,Int.zero_emod]
  omega
 ·rw [if_neg h,hr]
  simp only [Option.bind_some]
  rw [ZaW (by omega) (by omega),Zjq N hg0 (by omega)]
  simp only [Option.bind_some,Option.some.injEq]
  rw [Bool.eq_iff_iff,decide_eq_true_iff]
  simp only [Bool.and_eq_true,decide_eq_true_eq,SepD]
theorem Zh5 {N:Nat} (hN:2000≤N) (a b:Zw):ZcO N a b=some (if VSpan a∧VSpan b then (decide (SepD a b (b.From - a.From)),0) else (false,330)):=by
 unfold ZcO
 rw [Zdv,Zdv]
 simp only [Option.bind_some]
 by_cases ha:VSpan a
 ·by_cases hb:VSpan b
  ·simp only [ha,hb,if_true,and_self,bne_self_eq_false,Bool.false_eq_true,if_false,Zh1 hN ha hb,Option.bind_some]
  ·simp [ha,hb]
 ·simp [ha]
end Go.Sh
