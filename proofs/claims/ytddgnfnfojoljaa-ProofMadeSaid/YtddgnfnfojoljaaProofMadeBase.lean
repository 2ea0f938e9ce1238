/- Part of the proof. -/
import Derived.Test.YtddgnfnfojoljaaProofMadeSh
import Derived.Test.YtddgnfnfojoljaaProofMadeRd
import Derived.KernelRfl
set_option linter.all false
namespace Go.Sh
open Go Go.Eng
theorem Za9 {x:Int}(h : -9223372036854775808<=x)(h2:x<=9223372036854775807):w64 x=x:=by
 unfold w64 IntKind.wrap
 simp only [IntKind.bits,IntKind.signed]
 by_cases h0:0<=x
 ·have:x%(2 ^ 64:Int)=x:=Int.emod_eq_of_lt h0 (by omega)
  simp only [this]
  rw [ZZ]
  simp;omega
 have:x%(2 ^ 64:Int)=x+2 ^ 64:=by
  rw [← Int.add_emod_right]
  exact Int.emod_eq_of_lt (by omega) (by omega)
 simp only [this]
 rw [Z0]
 ·omega
 simp;omega
theorem ZiI {σ ρ:Type}(body:σ->Option (σ⊕ρ))(m:Nat)(x:σ):ZaS body (m+1) x=match body x with
  | none=>none
  | some (.inl y)=>ZaS body m y
  | some (.inr r)=>some r:=rfl
theorem Zcv {σ ρ:Type}{body:σ->Option (σ⊕ρ)}{m:Nat}{x y:σ}(h:body x=some (.inl y)):ZaS body (m+1) x=ZaS body m y:=by rw [ZiI,h]
theorem Zbb {σ ρ:Type}{body:σ->Option (σ⊕ρ)}{m:Nat}{x:σ}{r:ρ}(h:body x=some (.inr r)):ZaS body (m+1) x=some r:=by rw [ZiI,h]
theorem ZcX {σ ρ:Type}{body:σ->Option (σ⊕ρ)}(I:σ->Prop)(μ:σ->Nat)(Post:ρ->Prop)
  (step:∀ x,I x->(∃ y,body x=some (.inl y)/\I y/\μ y<μ x)∨(∃ r,body x=some (.inr r)/\Post r)):∀ (N:Nat) (x:σ),I x->μ x<N->∃ r,ZaS body N x=some r/\Post r
 | 0,x,_,h=>by omega
 | N+1,x,hI,h=>by
  rcases step x hI with ⟨y,h1,h2,h3⟩|⟨r,h1,h2⟩
  ·rw [Zcv h1]
   exact ZcX I μ Post step N y h2 (by omega)
  exact ⟨r,by rw [Zbb h1],h2⟩
theorem ZeR {α:Type}(l:List α)(k:Nat):idx l (k:Int)=l[k]?:=by
 unfold idx
 rw [Z0 (by omega)]
 rfl
theorem Znh {α:Type}{l:List α}{i:Int}(h0:0<=i)(h:i.toNat<l.length):idx l i=some l[i.toNat]:=by
 unfold idx
 rw [Z0 h0]
 exact Zw h
theorem ZbJ {a b:Int}(h:b≠0):remI a b=some (a.tmod b):=by unfold remI;rw [ZZ h]
theorem Zn3 {k:IntKind}{a b:Int}(h:b≠0):quoI k a b=some (k.wrap (a.tdiv b)):=by unfold quoI;rw [ZZ h]
theorem ZkG {α:Type}{l:List α}{k:Nat}(h:k<l.length):l.drop k=l[k]::l.drop (k+1):=List.drop_eq_getElem_cons h
theorem Zi7 {a b:Int}(hb:0<b):(a.tmod b+b).tmod b=a%b:=by
 have h1:0<=a.tmod b+b:=by have:=Int.lt_tmod_of_pos a hb;omega
 rw [Zj h1,Int.add_emod_right]
 rw [Int.tmod_eq_emod]
 split
 ·simp
 have:(b.natAbs:Int)=b:=by omega
 rw [this]
 simp
theorem Zkv {α ρ:Type}{l:List α}{p:α->Bool}{body:Int->Option (Int⊕ρ)}{bad fin:ρ}(hstep:∀ (k:Nat) (h:k<l.length),body (k:Int)=if p l[k]=true then some (.inl ((k+1:Nat):Int)) else some (.inr bad))
  (hend:body (l.length:Int)=some (.inr fin)):∀ (n N k:Nat),l.length-k=n->k<=l.length->n<N->ZaS body N (k:Int)=some (if (l.drop k).all p then fin else bad):=by
 intro n
 induction n with
 | zero =>
  intro N k hn hk hN
  have:k=l.length:=by omega
  subst this
  cases N with
  | zero=>omega
  | succ N=>rw [Zbb hend];simp
 | succ n ih =>
  intro N k hn hk hN
  cases N with
  | zero=>omega
  | succ N =>
   have hlt:k<l.length:=by omega
   rw [ZkG hlt,List.all_cons]
   by_cases hp:p l[k]=true
   ·rw [Zcv (by rw [hstep k hlt,Z0 hp]),ih N (k+1) (by omega) (by omega) (by omega)]
    simp [hp]
   rw [Zbb (by rw [hstep k hlt,ZZ hp])]
   simp [hp]
end Go.Sh

namespace Go.Sh
open Go Go.Eng
def VSpan (s:Zaa):Prop:=1<=s.Period/\s.Period<=960/\0<=s.From/\s.From<s.Period/\1<=s.Long/\s.Long<=s.Period
instance (s:Zaa):Decidable (VSpan s):=by unfold VSpan;infer_instance
theorem Zdt (N:Nat)(s:Zaa):ZbU N s=some (if VSpan s then 0 else 330):=by
 unfold ZbU
 by_cases h:VSpan s
 ·rw [Z0 h]
  unfold VSpan at h
  rw [ZZ (by simp;omega),ZZ (by simp;omega)]
 rw [ZZ h]
 unfold VSpan at h
 by_cases h1:((decide (s.Period<1))||((decide (s.Period>960))||((decide (s.From<0))||(decide (s.From≥s.Period)))))=true
 ·rw [Z0 h1]
 rw [ZZ h1,Z0]
 simp at h1 ⊢
 omega
theorem Zij (N:Nat){a b:Int}(hb:0<b)(hb2:b<=1000000):ZdG N a b=some (a%b):=by
 unfold ZdG
 have h1:=Int.lt_tmod_of_pos a hb
 have h2:=Int.tmod_lt_of_pos a hb
 rw [ZbJ (by omega),ZS,Za9 (by omega) (by omega),ZbJ (by omega),ZS,Zi7 hb]
theorem Zj3 (N:Nat){a b:Int}(hb:0<b)(hb2:b<=1000000):ZeG N a b=some (a%b):=by
 unfold ZeG
 have h1:=Int.lt_tmod_of_pos a hb
 have h2:=Int.tmod_lt_of_pos a hb
 have h3:=Zi7 (a:=a) hb
 rw [ZbJ (by omega),ZS]
 by_cases h:a.tmod b<0
 ·rw [Z0 (by simpa using h),ZS,Za9 (by omega) (by omega)]
  rw [Int.tmod_eq_of_lt (by omega) (by omega)] at h3
  rw [h3]
 rw [ZZ (by simpa using h),ZS]
 rw [← h3,show a.tmod b+b=a.tmod b+b*1 by omega]
 have e:(a.tmod b+b).tmod b=(a.tmod b+b)%b:=Zj (by omega)
 rw [Int.mul_one,e,Int.add_emod_right]
 rw [Int.emod_eq_of_lt (by omega) (by omega)]
theorem ZgQ (M:Nat):∀ (b N a:Nat),b<N->ZaS (λx:Int×Int=>ZbE M x.1 x.2) N ((a:Int),(b:Int))=some (Nat.gcd a b:Int):=by
 intro b
 induction b using Nat.strongRecOn with
 | _ b ih =>
  intro N a hN
  cases N with
  | zero=>omega
  | succ N =>
   by_cases hb:b=0
   ·subst hb
    rw [Zbb (r:=(a:Int))]
    ·simp
    simp [ZbE]
   have hlt:=Nat.mod_lt a (Nat.pos_of_ne_zero hb)
   rw [Zcv (y:=((b:Int),((a%b:Nat):Int)))]
   ·rw [ih (a%b) hlt N b (by omega)]
    rw [Nat.gcd_comm a b,Nat.gcd_rec b a,Nat.gcd_comm (a%b) b]
   simp only [ZbE]
   rw [Z0 (by simp;omega),ZbJ (by omega),ZS,Zj (by omega)]
   rfl
theorem Zfj {N:Nat}{a b:Int}(ha:0<=a)(hb:0<=b)(hN:b.toNat<N):Zc4 N a b=some (Nat.gcd a.toNat b.toNat:Int):=by
 unfold Zc4
 have:=ZgQ N b.toNat N a.toNat hN
 rw [Zl ha,Zl hb] at this
 rw [this]
 rfl
theorem Zdx {a d:Int}(hd:0<d)(ha:0<=a):a.tmod d=0↔d.toNat∣a.toNat:=by
 rw [Zj ha]
 constructor
 ·intro h
  have h1:d∣a:=Int.dvd_of_emod_eq_zero h
  rw [← Zl ha,← Zl (show 0<=d by omega)] at h1
  exact Int.natCast_dvd_natCast.1 h1
 intro h
 have:((d.toNat:Nat):Int)∣((a.toNat:Nat):Int):=Int.natCast_dvd_natCast.2 h
 rw [Zl ha,Zl (by omega)] at this
 exact Int.emod_eq_zero_of_dvd this
theorem Zin (M:Nat){a b:Int}(ha:1<=a)(hb:1<=b)(ha2:a<=1000000):∀ (d:Nat) (N:Nat),d<N->(d:Int)<=a->(∀ e:Nat,d<e->¬ (e∣a.toNat/\e∣b.toNat)) →
  ∃ r,ZaS (λx:Int=>ZbS M a b x) N (d:Int)=some r/\(match r with | .inl _=>(1:Int) | .inr p=>p)=(Nat.gcd a.toNat b.toNat:Int):=by
 intro d
 induction d with
 | zero =>
  intro N hN _ hall
  exfalso
  exact hall 1 (by omega) ⟨Nat.one_dvd _,Nat.one_dvd _⟩
 | succ d ih =>
  intro N hN hle hall
  cases N with
  | zero=>omega
  | succ N =>
   have hgpos:0<Nat.gcd a.toNat b.toNat:=Nat.gcd_pos_of_pos_left _ (by omega)
   have hgle:Nat.gcd a.toNat b.toNat<=d+1:=by
    rcases Nat.lt_or_ge (d+1) (Nat.gcd a.toNat b.toNat) with h|h
    ·exact absurd ⟨Nat.gcd_dvd_left _ _,Nat.gcd_dvd_right _ _⟩ (hall _ h)
    exact h
   by_cases h1:d=0
   ·subst h1
    refine ⟨.inl (),Zbb (by simp [ZbS]),?_⟩
    simp only
    omega
   have hd1:((d+1:Nat):Int)>1:=by omega
   by_cases h2:(d+1)∣a.toNat/\(d+1)∣b.toNat
   ·refine ⟨.inr ((d+1:Nat):Int),Zbb ?_,?_⟩
    ·simp only [ZbS]
     rw [Z0 (by simpa using hd1),ZbJ (by omega),ZS,Z0,ZbJ (by omega),ZS]
     ·simp only [ZS]
      rw [Z0]
      simp only [beq_iff_eq]
      exact (Zdx (by omega) (by omega)).2 (by simpa using h2.2)
     simp only [beq_iff_eq]
     exact (Zdx (by omega) (by omega)).2 (by simpa using h2.1)
    simp only
    have:d+1∣Nat.gcd a.toNat b.toNat:=Nat.dvd_gcd h2.1 h2.2
    have:=Nat.le_of_dvd hgpos this
    omega
   rw [Zcv (y:=(d:Int))]
   ·refine ih N (by omega) (by omega) λe he hd=>?_
    by_cases h3:e=d+1
    ·subst h3;exact h2 hd
    exact hall e (by omega) hd
   simp only [ZbS]
   rw [Z0 (by simpa using hd1),ZbJ (by omega),ZS]
   have hiff1:=Zdx (a:=a) (d:=((d+1:Nat):Int)) (by omega) (by omega)
   have hiff2:=Zdx (a:=b) (d:=((d+1:Nat):Int)) (by omega) (by omega)
   simp only [Zk] at hiff1 hiff2
   by_cases h4:a.tmod ((d+1:Nat):Int)=0
   ·rw [Z0 (by simpa using h4),ZbJ (by omega),ZS,ZS,ZZ,Za9 (by omega) (by omega)]
    ·congr 2;omega
    simp only [beq_iff_eq]
    intro h5
    exact h2 ⟨hiff1.1 h4,hiff2.1 h5⟩
   rw [ZZ (by simpa using h4),ZS,ZZ (by simp),Za9 (by omega) (by omega)]
   congr 2;omega
theorem Zj5 {N:Nat}{a b:Int}(ha:1<=a)(hb:1<=b)(ha2:a<=1000000)(hN:a.toNat<N):ZeH N a b=some (Nat.gcd a.toNat b.toNat:Int):=by
 unfold ZeH
 obtain ⟨r,h1,h2⟩:=Zin N ha hb ha2 a.toNat N hN (by omega) (λe he hd=>by
  have:=Nat.le_of_dvd (by omega) hd.1
  omega)
 rw [Zl (by omega)] at h1
 rw [h1,ZS,← h2]
 cases r<;>rfl
def gP (a b:Zaa):Int:=(Nat.gcd a.Period.toNat b.Period.toNat:Int)
theorem Znm {a b:Zaa}(ha:1<=a.Period):0<gP a b:=by
 have:0<Nat.gcd a.Period.toNat b.Period.toNat:=Nat.gcd_pos_of_pos_left _ (by omega)
 unfold gP;omega
theorem ZoY {a b:Zaa}(ha:1<=a.Period):gP a b<=a.Period:=by
 have:=Nat.le_of_dvd (by omega:0<a.Period.toNat) (Nat.gcd_dvd_left a.Period.toNat b.Period.toNat)
 unfold gP;omega
theorem Zlj {a b:Zaa}(ha:1<=a.Period):gP a b∣a.Period:=by
 have:=Int.natCast_dvd_natCast.2 (Nat.gcd_dvd_left a.Period.toNat b.Period.toNat)
 rwa [Zl (by omega)] at this
theorem ZkB {a b:Zaa}(hb:1<=b.Period):gP a b∣b.Period:=by
 have:=Int.natCast_dvd_natCast.2 (Nat.gcd_dvd_right a.Period.toNat b.Period.toNat)
 rwa [Zl (by omega)] at this
def SepD (a b:Zaa)(d:Int):Prop:=a.Long<=d%gP a b/\d%gP a b<=gP a b-b.Long
instance (a b:Zaa) (d:Int):Decidable (SepD a b d):=by unfold SepD;infer_instance
theorem ZmT {al bl d g:Int}(hg:0<g)(ha:1<=al)(hb:1<=bl):(∀ x,1-bl<=x->x<al->(d-x)%g≠0)↔(al<=d%g/\d%g<=g-bl):=by
 have h0:=Int.emod_nonneg d (show g≠0 by omega)
 have h1:=Int.emod_lt_of_pos d hg
 have hd:=Int.mul_ediv_add_emod d g
 constructor
 ·intro h
  constructor
  ·rcases Int.lt_or_le (d%g) al with hlt|hle
   ·exfalso
    refine h (d%g) (by omega) hlt ?_
    have:d-d%g=g*(d/g):=by omega
    rw [this]
    exact Int.mul_emod_right _ _
   exact hle
  rcases Int.lt_or_le (g-bl) (d%g) with hlt|hle
  ·exfalso
   refine h (d%g-g) (by omega) (by omega) ?_
   have:d-(d%g-g)=g*(d/g+1):=by rw [Int.mul_add];omega
   rw [this]
   exact Int.mul_emod_right _ _
  exact hle
 rintro ⟨h2,h3⟩ x hx1 hx2 hx
 obtain ⟨q,hq⟩:=Int.dvd_of_emod_eq_zero hx
 have e:d%g-x=g*(q-d/g):=by rw [Int.mul_sub];omega
 generalize q-d/g=k at e
 rcases Int.lt_trichotomy k 0 with hk|hk|hk
 ·have:g*k<=g*(-1):=Int.mul_le_mul_of_nonneg_left (by omega) (by omega)
  omega
 ·subst hk;omega
 have:g*1<=g*k:=Int.mul_le_mul_of_nonneg_left (by omega) (by omega)
 omega
end Go.Sh

namespace Go.Sh
open Go Go.Eng
theorem VSpan.bounds {s:Zaa}(h:VSpan s):1<=s.Period/\s.Period<=960/\0<=s.From/\s.From<s.Period/\1<=s.Long/\s.Long<=s.Period:=h
theorem Zgb {N:Nat}(hN:2000<=N){a b:Zaa}(ha:1<=a.Period)(ha2:a.Period<=960)(hb:1<=b.Period)(hb2:b.Period<=960)(haf:0<=a.From)(haf2:a.From<=960)(hbf:0<=b.From)(hbf2:b.From<=960)
  (hal:1<=a.Long) (hal2:a.Long<=960) (hbl:1<=b.Long) (hbl2:b.Long<=960):Zb7 N a b=some (decide (SepD a b (b.From-a.From))):=by
 unfold Zb7
 rw [Zj5 ha hb (by omega) (by omega),ZS]
 have hg0:0<gP a b:=Znm ha
 have hg1:gP a b<=a.Period:=ZoY ha
 have key:∀ (n:Nat) (M:Nat) (x:Int),(a.Long-x).toNat=n->1-b.Long<=x->n<M->(∀ y,1-b.Long<=y->y<x->(b.From-a.From-y)%gP a b≠0) →
   ∃ r,ZaS (λx:Int=>ZaW N a b (gP a b) x) M x=some r/\(match r with | .inl _=>true | .inr p=>p)=decide (SepD a b (b.From-a.From)):=by
  intro n
  induction n with
  | zero =>
   intro M x hn hx hM hall
   cases M with
   | zero=>omega
   | succ M =>
    refine ⟨.inl (),Zbb (by simp only [ZaW];rw [ZZ (by simp;omega)]),?_⟩
    symm
    simp only [ZX]
    refine (ZmT hg0 hal hbl).1 λy h1 h2=>hall y h1 (by omega)
  | succ n ih =>
   intro M x hn hx hM hall
   cases M with
   | zero=>omega
   | succ M =>
    have hlt:x<a.Long:=by omega
    have e1:w64 (b.From-a.From)=b.From-a.From:=Za9 (by omega) (by omega)
    have e2:w64 (b.From-a.From-x)=b.From-a.From-x:=Za9 (by omega) (by omega)
    have hbody:ZaW N a b (gP a b) x=if ((b.From-a.From-x)%gP a b==0)=true then some (.inr (.inr false)) else some (.inl (w64 (x+1))):=by
     simp only [ZaW]
     rw [Z0 (by simpa using hlt),e1,e2,Zj3 N hg0 (by omega),ZS]
    by_cases h0:(b.From-a.From-x)%gP a b=0
    ·refine ⟨.inr false,Zbb (by rw [hbody,Z0 (by simpa using h0)]),?_⟩
     symm
     simp only [decide_eq_false_iff_not]
     intro hs
     exact (ZmT hg0 hal hbl).2 hs x hx hlt h0
    rw [Zcv (y:=x+1) (by rw [hbody,ZZ (by simpa using h0),Za9 (by omega) (by omega)])]
    refine ih M (x+1) (by omega) (by omega) (by omega) λy h1 h2=>?_
    by_cases h3:y=x
    ·subst h3;exact h0
    exact hall y h1 (by omega)
 rw [Za9 (by omega) (by omega)]
 obtain ⟨r,h1,h2⟩:=key (a.Long-(1-b.Long)).toNat N (1-b.Long) rfl (Int.le_refl _) (by omega) (λy h1 h2=>by omega)
 show (ZaS (λx:Int=>ZaW N a b (gP a b) x) N (1-b.Long)).bind _=_
 rw [h1,ZS,← h2]
 cases r<;>rfl
theorem VSpan.separate {N:Nat}(hN:2000<=N){a b:Zaa}(ha:VSpan a)(hb:VSpan b):Zb7 N a b=some (decide (SepD a b (b.From-a.From))):=by
 obtain ⟨a1,a2,a3,a4,a5,a6⟩:=ha
 obtain ⟨b1,b2,b3,b4,b5,b6⟩:=hb
 exact Zgb hN a1 a2 b1 b2 a3 (by omega) b3 (by omega) a5 (by omega) b5 (by omega)
theorem Zhv {N:Nat}(hN:2000<=N){a b:Zaa}(ha:VSpan a)(hb:VSpan b):Zdh N a b=some (a.Long,gP a b-b.Long,gP a b):=by
 obtain ⟨a1,a2,a3,a4,a5,a6⟩:=ha
 obtain ⟨b1,b2,b3,b4,b5,b6⟩:=hb
 have hg0:0<gP a b:=Znm a1
 have hg1:gP a b<=a.Period:=ZoY a1
 unfold Zdh
 rw [Zfj (by omega) (by omega) (by omega),ZS]
 show some (a.Long,w64 (gP a b-b.Long),gP a b)=_
 rw [Za9 (by omega) (by omega)]
theorem ZgS {N:Nat}(hN:2000<=N){a b:Zaa}(ha:VSpan a)(hb:VSpan b):ZcJ N a b=some (decide (SepD a b (b.From-a.From))):=by
 have hr:=Zhv hN ha hb
 obtain ⟨a1,a2,a3,a4,a5,a6⟩:=ha
 obtain ⟨b1,b2,b3,b4,b5,b6⟩:=hb
 have hg0:0<gP a b:=Znm a1
 have hg1:gP a b<=a.Period:=ZoY a1
 unfold ZcJ
 by_cases h:((a.Period==b.Period)&&((a.From==b.From)&&((a.Long==b.Long)&&true)))=true
 ·rw [Z0 h]
  simp only [Ze,beq_iff_eq,ZW] at h
  symm
  simp only [ZU,decide_eq_false_iff_not]
  unfold SepD
  rw [h.2.1,Int.sub_self,Int.zero_emod]
  omega
 rw [ZZ h,hr]
 simp only [ZS]
 rw [Za9 (by omega) (by omega),Zij N hg0 (by omega)]
 simp only [ZS,ZU]
 rw [Bool.eq_iff_iff,decide_eq_true_iff]
 simp only [Ze,ZX,SepD]
theorem ZgW {N:Nat}(hN:2000<=N)(a b:Zaa):ZcL N a b=some (if VSpan a/\VSpan b then (decide (SepD a b (b.From-a.From)),0) else (false,330)):=by
 unfold ZcL
 rw [Zdt,Zdt]
 simp only [ZS]
 by_cases ha:VSpan a
 ·by_cases hb:VSpan b
  ·simp only [ha,hb,Z1,and_self,bne_self_eq_false,Zf,ZY,ZgS hN ha hb,ZS]
  simp [ha,hb]
 simp [ha]
end Go.Sh
namespace Go.Sh
open Go Go.Eng
theorem ZbQ {α:Type}{b:Nat}{l m:List α}(h:l.length+m.length<=100000)(hb:b<=100000):appI b l m=some (l++m):=by
 unfold appI
 rw [Z0]
 have:(l.length+m.length)*b<=100000*100000:=Nat.mul_le_mul h hb
 omega
def allV (l:List Zaa):Bool:=l.all λs=>decide (VSpan s)
theorem Zft {N:Nat}(hN:100<=N)(l:List Zaa):Zb0 N l=some (if 32<l.length then 3 else if allV l then 0 else 330):=by
 unfold Zb0
 by_cases h:32<l.length
 ·rw [Z0 (by simp;omega),Z0 h]
 rw [ZZ (by simp;omega),ZZ h]
 have:=Zkv (l:=l) (p:=λs=>decide (VSpan s)) (body:=λx:Int=>Za1 N l x) (bad:=.inr 330) (fin:=.inl ()) (λk hk=>by
  simp only [Za1]
  rw [Z0 (by simpa using hk),ZeR,Zw hk,ZS,Zdt,ZS]
  by_cases hv:VSpan l[k]
  ·simp only [hv,Z1,bne_self_eq_false,Zf,ZY,decide_true]
   rw [Za9 (by omega) (by omega)];simp
  simp [hv]) (by simp [Za1]) l.length N 0 (by omega) (by omega) (by omega)
 rw [show ((0:Nat):Int)=0 from rfl] at this
 rw [this,ZS,List.drop_zero]
 have e:(l.all λs=>decide (VSpan s))=allV l:=rfl
 rw [e]
 cases allV l<;>rfl
def shift (b:Zaa)(k:Int):Zaa:=⟨b.Period,(b.From+k)%b.Period,b.Long⟩
end Go.Sh
namespace Go.Sh
open Go Go.Eng
def lcmP:List Zaa->Nat
 | []=>1
 | s::l=>Nat.lcm s.Period.toNat (lcmP l)
theorem ZlR:∀ {l:List Zaa},(∀ s∈l,VSpan s)->0<lcmP l
 | [],_=>by decide
 | s::l,h=>by
  have h1:=(h s (by simp)).bounds
  exact Nat.lcm_pos (by omega) (ZlR λt ht=>h t (by simp [ht]))
theorem ZgE:∀ {l:List Zaa} {n:Nat},lcmP l∣n↔∀ s∈l,s.Period.toNat∣n
 | [],n=>by simp [lcmP]
 | s::l,n=>by
  simp only [lcmP,List.mem_cons,forall_eq_or_imp]
  rw [Nat.lcm_dvd_iff,ZgE]
theorem Zf9 {N:Nat}(hN:2000<=N){ps:List Int}(hps:∀ p∈ps,1<=p/\p<=960):∀ (n M k:Nat) (m:Nat),ps.length-k=n->k<=ps.length->n<M->1<=m->m<=960->ps.length<=1000 →
  ∃ r,ZaS (λx:Int×Int=>Za4 N 960 ps x.1 x.2) M ((m:Int),(k:Int))=some r ∧
   (r<=960->r=((ps.drop k).foldl (λa p=>Nat.lcm a p.toNat) m:Nat))/\(960<r->960<(ps.drop k).foldl (λa p=>Nat.lcm a p.toNat) m):=by
 have mono:∀ (l:List Int) (a:Nat),(∀ p∈l,1<=p)->0<a->a<=l.foldl (λa p=>Nat.lcm a p.toNat) a:=by
  intro l
  induction l with
  | nil=>intro a _ _;exact Nat.le_refl _
  | cons p l ih =>
   intro a hp ha
   simp only [List.foldl_cons]
   have h1:=hp p (by simp)
   have hpos:0<Nat.lcm a p.toNat:=Nat.lcm_pos ha (by omega)
   exact Nat.le_trans (Nat.le_of_dvd hpos (Nat.dvd_lcm_left _ _)) (ih _ (λq hq=>hp q (by simp [hq])) hpos)
 intro n
 induction n with
 | zero =>
  intro M k m hn hk hM hm hm2 hl
  have:k=ps.length:=by omega
  subst this
  cases M with
  | zero=>omega
  | succ M =>
   refine ⟨(m:Int),Zbb (by simp only [Za4];rw [ZZ (by simp)]),λ_=>?_,λh=>?_⟩
   ·simp
   omega
 | succ n ih =>
  intro M k m hn hk hM hm hm2 hl
  cases M with
  | zero=>omega
  | succ M =>
   have hlt:k<ps.length:=by omega
   obtain ⟨p1,p2⟩:=hps ps[k] (List.getElem_mem hlt)
   have hg:0<Nat.gcd m ps[k].toNat:=Nat.gcd_pos_of_pos_left _ (by omega)
   have hq:(m:Int).tdiv (Nat.gcd m ps[k].toNat:Int)=((m/Nat.gcd m ps[k].toNat:Nat):Int):=by
    rw [Int.tdiv_eq_ediv_of_nonneg (by omega)];rfl
   have hqle:m/Nat.gcd m ps[k].toNat<=m:=Nat.div_le_self _ _
   have hmul:((m/Nat.gcd m ps[k].toNat:Nat):Int)*ps[k]=(Nat.lcm m ps[k].toNat:Int):=by
    have e1:ps[k]=(ps[k].toNat:Int):=by omega
    have e2:Nat.lcm m ps[k].toNat=m/Nat.gcd m ps[k].toNat*ps[k].toNat:=by
     rw [Nat.lcm,Nat.mul_comm m,Nat.mul_div_assoc _ (Nat.gcd_dvd_left _ _),Nat.mul_comm]
    rw [e2,Int.natCast_mul,← e1]
   have hlcm:Nat.lcm m ps[k].toNat<=960*960:=by
    have h1:m/Nat.gcd m ps[k].toNat*ps[k].toNat<=960*960:=Nat.mul_le_mul (by omega) (by omega)
    have e2:Nat.lcm m ps[k].toNat=m/Nat.gcd m ps[k].toNat*ps[k].toNat:=by
     rw [Nat.lcm,Nat.mul_comm m,Nat.mul_div_assoc _ (Nat.gcd_dvd_left _ _),Nat.mul_comm]
    omega
   have hlpos:0<Nat.lcm m ps[k].toNat:=Nat.lcm_pos (by omega) (by omega)
   have hbody:Za4 N 960 ps (m:Int) (k:Int)=if 960<Nat.lcm m ps[k].toNat then some (.inr (Nat.lcm m ps[k].toNat:Int)) else some (.inl ((Nat.lcm m ps[k].toNat:Int),((k+1:Nat):Int))):=by
    simp only [Za4]
    rw [Z0 (by simpa using hlt),ZeR,Zw hlt,ZS,Zfj (by omega) (by omega) (by omega),ZS,Zk,Zn3 (by omega),ZS,hq]
    have hq0:(0:Int)<=((m/Nat.gcd m ps[k].toNat:Nat):Int):=Int.natCast_nonneg _
    have hq1:((m/Nat.gcd m ps[k].toNat:Nat):Int)<=960:=Int.ofNat_le.2 (Nat.le_trans hqle hm2)
    have e3:IntKind.i64.wrap ((m/Nat.gcd m ps[k].toNat:Nat):Int)=((m/Nat.gcd m ps[k].toNat:Nat):Int):=Za9 (Int.le_trans (by decide) hq0) (Int.le_trans hq1 (by decide))
    rw [e3,hmul,Za9 (by omega) (by omega),Za9 (by omega) (by omega)]
    by_cases hc:960<Nat.lcm m ps[k].toNat
    ·rw [Z0 (by simp;omega),Z0 hc]
    rw [ZZ (by simp;omega),ZZ hc];simp
   rw [ZkG hlt,List.foldl_cons]
   by_cases hc:960<Nat.lcm m ps[k].toNat
   ·refine ⟨(Nat.lcm m ps[k].toNat:Int),Zbb (by rw [hbody,Z0 hc]),λh=>?_,λ_=>?_⟩
    ·omega
    exact Nat.lt_of_lt_of_le hc (mono _ _ (λq hq=>(hps q (List.mem_of_mem_drop hq)).1) hlpos)
   rw [Zcv (by rw [hbody,ZZ hc])]
   exact ih M (k+1) _ (by omega) (by omega) (by omega) (by omega) (by omega) hl
theorem ZiN:∀ (l:List Zaa) (m:Nat),(l.map Zaa.Period).foldl (λa p=>Nat.lcm a p.toNat) m=Nat.lcm m (lcmP l)
 | [],m=>by simp [lcmP,Nat.lcm_one_right]
 | s::l,m=>by simp only [ZK,List.foldl_cons,lcmP];rw [ZiN l,Nat.lcm_assoc]
def ZlU (l:List Zaa):Int×Int:=if 32<l.length then (0,3) else if allV l=true then (if lcmP l<=960 then ((lcmP l:Int),0) else (0,6)) else (0,330)
theorem ZlZ {l:List Zaa}(h:allV l=true):∀ s∈l,VSpan s:=by
 unfold allV at h
 rw [Zm] at h
 exact λs hs=>by simpa using h s hs
theorem ZgU {N:Nat}(hN:2000<=N)(l:List Zaa):ZcK N l=some (ZlU l):=by
 unfold ZcK ZlU
 rw [Zft (by omega)]
 simp only [ZS]
 by_cases h:32<l.length
 ·simp [h]
 by_cases hv:allV l=true
 ·simp only [h,hv,Z1,ZY,bne_self_eq_false,Zf]
  have hmk:ZhW 8 (l.length:Int) (l.length:Int) (0:Int)=some (List.replicate l.length 0):=by
   unfold ZhW;rw [Z0 (by omega)];simp
  rw [hmk,ZS]
  have hloop:∀ (n M k:Nat),l.length-k=n->k<=l.length->n<M->ZaS (λx:Int×List Int=>Zbl N l x.1 x.2) M ((k:Int),(l.map Zaa.Period).take k++List.replicate (l.length-k) 0)=some (l.map Zaa.Period):=by
   intro n
   induction n with
   | zero =>
    intro M k hn hk hM
    have:k=l.length:=by omega
    subst this
    cases M with
    | zero=>omega
    | succ M =>
     refine Zbb ?_
     simp only [Zbl]
     rw [ZZ (by simp)]
     simp [List.take_of_length_le]
   | succ n ih =>
    intro M k hn hk hM
    cases M with
    | zero=>omega
    | succ M =>
     have hlt:k<l.length:=by omega
     have hc:=ih M (k+1) (by omega) (by omega) (by omega)
     rw [Zcv (y:=(((k+1:Nat):Int),(l.map Zaa.Period).take (k+1)++List.replicate (l.length-(k+1)) 0)),hc]
     simp only [Zbl]
     have hlen:((l.map Zaa.Period).take k++List.replicate (l.length-k) 0).length=l.length:=by simp;omega
     rw [Z0 (by simpa using hlt),ZeR,Zw hlt,ZS,ZeR,Zw (by omega),ZS,Za9 (by omega) (by omega)]
     have hset:List.set ((l.map Zaa.Period).take k++List.replicate (l.length-k) 0) k l[k].Period=(l.map Zaa.Period).take (k+1)++List.replicate (l.length-(k+1)) 0:=by
      rw [ZP _ _ (by simp;omega)]
      have e1:k-((l.map Zaa.Period).take k).length=0:=by simp;omega
      rw [e1,show l.length-k=(l.length-(k+1))+1 by omega,List.replicate_succ,List.set_cons_zero,List.take_succ_eq_append_getElem (by simpa using hlt)]
      simp
     simp only [Zk,hset]
     rfl
  have hc:=hloop l.length N 0 (by omega) (by omega) (by omega)
  simp only [List.take_zero,ZO,Nat.sub_zero] at hc
  rw [show ((0:Nat):Int)=0 from rfl] at hc
  rw [hc,ZS]
  have hVl:=ZlZ hv
  obtain ⟨r,h1,h2,h3⟩:=Zf9 hN (ps:=l.map Zaa.Period) (λp hp=>by
   obtain ⟨s,hs,rfl⟩:=List.mem_map.1 hp
   have:=(hVl s hs).bounds;omega) l.length N 0 1 (by simp) (by omega) (by omega) (by omega) (by omega) (by simp;omega)
  rw [List.drop_zero,ZiN,Nat.lcm_one_left] at h2 h3
  have hf:Zdi N 960 (l.map Zaa.Period)=some r:=by
   unfold Zdi
   have h1':ZaS (λx:Int×Int=>Za4 N 960 (l.map Zaa.Period) x.1 x.2) N (1,0)=some r:=h1
   rw [h1',ZS]
  rw [hf,ZS]
  by_cases hc2:960<r
  ·rw [Z0 (by simpa using hc2),ZZ (by have:=h3 hc2;omega)]
  have:=h2 (by omega)
  rw [ZZ (by simpa using hc2),Z0 (by omega),this]
 simp [h,hv]
end Go.Sh
namespace Go.Sh
open Go Go.Eng
theorem ZmS {a b:Zaa}(ha:VSpan a)(hb:VSpan b)(k:Int):SepD (shift a k) (shift b k) ((shift b k).From-(shift a k).From)↔SepD a b (b.From-a.From):=by
 obtain ⟨a1,a2,a3,a4,a5,a6⟩:=ha.bounds
 obtain ⟨b1,b2,b3,b4,b5,b6⟩:=hb.bounds
 have hga:gP a b∣a.Period:=Zlj a1
 have hgb:gP a b∣b.Period:=ZkB b1
 have hg:gP (shift a k) (shift b k)=gP a b:=rfl
 have hd:((shift b k).From-(shift a k).From)%gP a b=(b.From-a.From)%gP a b:=by
  show ((b.From+k)%b.Period-(a.From+k)%a.Period)%gP a b=_
  rw [Int.sub_emod,Int.emod_emod_of_dvd _ hgb,Int.emod_emod_of_dvd _ hga,← Int.sub_emod]
  congr 1;omega
 unfold SepD
 rw [hg,hd]
 rfl
end Go.Sh
namespace Go.Sh
open Go Go.Eng
def allB (n:Nat)(p:Nat->Bool):Bool:=(List.range n).all p
theorem ZcY {n:Nat}{p:Nat->Bool}:allB n p=true↔∀ k,k<n->p k=true:=by simp [allB]
theorem ZiX {n:Nat}{p q:Nat->Bool}(h:∀ k,k<n->p k=q k):allB n p=allB n q:=by
 rw [Bool.eq_iff_iff,ZcY,ZcY]
 exact ⟨λhp k hk=>by rw [← h k hk];exact hp k hk,λhp k hk=>by rw [h k hk];exact hp k hk⟩
theorem ZiJ {ρ:Type}{n:Nat}{p:Nat->Bool}{body:Int->Option (Int⊕ρ)}{bad fin:ρ}(hstep:∀ k:Nat,k<n->body (k:Int)=if p k=true then some (.inl ((k+1:Nat):Int)) else some (.inr bad))
  (hend:body (n:Int)=some (.inr fin)) {N:Nat} (hN:n<N):ZaS body N 0=some (if allB n p then fin else bad):=by
 have key:∀ (m N k:Nat),n-k=m->k<=n->m<N->ZaS body N (k:Int)=some (if (List.range' k m).all p then fin else bad):=by
  intro m
  induction m with
  | zero =>
   intro N k h1 h2 h3
   obtain rfl:k=n:=by omega
   cases N with
   | zero=>omega
   | succ N=>rw [Zbb hend];rfl
  | succ m ih =>
   intro N k h1 h2 h3
   cases N with
   | zero=>omega
   | succ N =>
    rw [List.range'_succ,List.all_cons]
    by_cases hp:p k=true
    ·rw [Zcv (by rw [hstep k (by omega),Z0 hp]),ih N (k+1) (by omega) (by omega) (by omega),hp,Zi]
    rw [Zbb (by rw [hstep k (by omega),ZZ hp])]
    simp [hp]
 have:=key n N 0 (by omega) (by omega) hN
 rw [← List.range_eq_range'] at this
 exact this
theorem ZhZ {β ρ:Type}{n:Nat}{p:Nat->Bool}{f:β->Nat->β}{body:Int×β->Option ((Int×β)⊕ρ)}{bad:ρ}{fin:β->ρ}(I:Nat->β->Prop)
  (hstep:∀ k b,k<n->I k b->body ((k:Int),b)=if p k=true then some (.inl (((k+1:Nat):Int),f b k)) else some (.inr bad)) (hI:∀ k b,k<n->I k b->p k=true->I (k+1) (f b k))
  (hend:∀ b,I n b->body ((n:Int),b)=some (.inr (fin b))) {N:Nat} (hN:n<N) {b0:β} (h0:I 0 b0):ZaS body N (0,b0)=some (if allB n p then fin ((List.range n).foldl f b0) else bad)/\(allB n p=true->I n ((List.range n).foldl f b0)):=by
 have key:∀ (m N k:Nat) (b:β),n-k=m->k<=n->m<N->I k b->ZaS body N ((k:Int),b)=some (if (List.range' k m).all p then fin ((List.range' k m).foldl f b) else bad)/\((List.range' k m).all p=true->I n ((List.range' k m).foldl f b)):=by
  intro m
  induction m with
  | zero =>
   intro N k b h1 h2 h3 hb
   obtain rfl:k=n:=by omega
   cases N with
   | zero=>omega
   | succ N=>exact ⟨by rw [Zbb (hend b hb)];rfl,λ_=>hb⟩
  | succ m ih =>
   intro N k b h1 h2 h3 hb
   cases N with
   | zero=>omega
   | succ N =>
    rw [List.range'_succ,List.all_cons,List.foldl_cons]
    by_cases hp:p k=true
    ·obtain ⟨i1,i2⟩:=ih N (k+1) (f b k) (by omega) (by omega) (by omega) (hI k b (by omega) hb hp)
     rw [hp,Zi]
     exact ⟨by rw [Zcv (by rw [hstep k b (by omega) hb,Z0 hp]),i1],i2⟩
    refine ⟨?_,λh=>?_⟩
    ·rw [Zbb (by rw [hstep k b (by omega) hb,ZZ hp])];simp [hp]
    simp [hp] at h
 obtain ⟨h1,h2⟩:=key n N 0 b0 (by omega) (by omega) hN h0
 rw [← List.range_eq_range'] at h1 h2
 exact ⟨h1,h2⟩
theorem Zbj {n:Nat}(h:n<1000000):w64 ((n:Int)+1)=((n+1:Nat):Int):=by rw [Za9 (by omega) (by omega)];omega
theorem Zcn {α:Type}{l:List α}{k:Nat}(h:k<l.length):idx l (k:Int)=some l[k]:=by rw [ZeR,Zw h]
theorem ZfV {α:Type}{l:List α}{i:Int}(d:α)(h0:0<=i)(h:i<l.length):idx l i=some (l.getD i.toNat d):=by
 rw [Znh h0 (by omega)]
 simp [Zq,Zw (show i.toNat<l.length by omega)]
theorem Za5 {α:Type}{l:List α}{k:Nat}(h:k<l.length)(d:α):l.getD k d=l[k]:=by simp [Zq,h]
end Go.Sh

namespace Go.Sh
open Go Go.Eng
def mkS (p:Int):Zaa:=⟨p,0,1⟩
def perB (p:Int):Bool:=decide (1<=p)&&decide (p<=240)
def lcmL (P:List Int):Nat:=lcmP (P.map mkS)
def perU (P:List Int)(u:Zaz):Int:=P.getD u.Stream.toNat 0
def useB (P:List Int)(u:Zaz):Bool:=decide (0<=u.Stream/\u.Stream<(P.length:Int)/\0<=u.Port/\u.Port<48/\0<=u.From/\u.From<perU P u/\1<=u.Long/\u.Long<=perU P u)
def Zd5 (p:Z5):Bool:=decide (p.Periods.length<=12)&&decide (p.Uses.length<=192)&&p.Periods.all perB&&p.Uses.all (useB p.Periods)&&decide (lcmL p.Periods<=960)
theorem Zg6 {p:Int}:perB p=true↔1<=p/\p<=240:=by simp [perB]
theorem ZlY {P:List Int}(h:P.all perB=true):allV (P.map mkS)=true:=by
 unfold allV
 rw [Zm] at h ⊢
 intro s hs
 obtain ⟨p,hp,rfl⟩:=List.mem_map.1 hs
 have:=Zg6.1 (h p hp)
 rw [ZX]
 show 1<=p/\p<=960/\(0:Int)<=0/\(0:Int)<p/\(1:Int)<=1/\(1:Int)<=p
 omega
theorem Zjt {N:Nat}(hN:2000<=N){P:List Int}(hl:P.length<=1000):Zdz N P=some (ZlU (P.map mkS)):=by
 unfold Zdz
 have hmk:ZhW 24 (P.length:Int) (P.length:Int) (Zaa.mk 0 0 0)=some (List.replicate P.length (Zaa.mk 0 0 0)):=by
  unfold ZhW;rw [Z0 (by omega)];simp
 rw [hmk,ZS]
 have hloop:∀ (n M k:Nat),P.length-k=n->k<=P.length->n<M->ZaS (λx:Int×List Zaa=>ZbY N P x.1 x.2) M ((k:Int),(P.map mkS).take k++List.replicate (P.length-k) (Zaa.mk 0 0 0))=some (P.map mkS):=by
  intro n
  induction n with
  | zero =>
   intro M k hn hk hM
   have:k=P.length:=by omega
   subst this
   cases M with
   | zero=>omega
   | succ M =>
    refine Zbb ?_
    simp only [ZbY]
    rw [ZZ (by simp)]
    simp [List.take_of_length_le]
  | succ n ih =>
   intro M k hn hk hM
   cases M with
   | zero=>omega
   | succ M =>
    have hlt:k<P.length:=by omega
    have hc:=ih M (k+1) (by omega) (by omega) (by omega)
    rw [Zcv (y:=(((k+1:Nat):Int),(P.map mkS).take (k+1)++List.replicate (P.length-(k+1)) (Zaa.mk 0 0 0))),hc]
    simp only [ZbY]
    have hlen:((P.map mkS).take k++List.replicate (P.length-k) (Zaa.mk 0 0 0)).length=P.length:=by simp;omega
    rw [Z0 (by simpa using hlt),ZeR,Zw hlt,ZS,ZeR,Zw (by omega),ZS,Za9 (by omega) (by omega)]
    have hset:List.set ((P.map mkS).take k++List.replicate (P.length-k) (Zaa.mk 0 0 0)) k (mkS P[k])=(P.map mkS).take (k+1)++List.replicate (P.length-(k+1)) (Zaa.mk 0 0 0):=by
     rw [ZP _ _ (by simp;omega)]
     have e1:k-((P.map mkS).take k).length=0:=by simp;omega
     rw [e1,show P.length-k=(P.length-(k+1))+1 by omega,List.replicate_succ,List.set_cons_zero,List.take_succ_eq_append_getElem (by simpa using hlt)]
     simp
    simp only [Zk]
    rw [show (Zaa.mk P[k] 0 1)=mkS P[k] from rfl,hset]
    rfl
 have hc:=hloop P.length N 0 (by omega) (by omega) (by omega)
 simp only [List.take_zero,ZO,Nat.sub_zero] at hc
 rw [show ((0:Nat):Int)=0 from rfl] at hc
 rw [hc,ZS,ZgU hN,ZS]
theorem Zoe {P:List Int}(h:P.all perB=true):0<lcmL P:=ZlR (ZlZ (ZlY h))
theorem Zkt {P:List Int}{n:Nat}:lcmL P∣n↔∀ p∈P,p.toNat∣n:=by
 unfold lcmL
 rw [ZgE]
 simp [mkS]
theorem ZhI {N:Nat}(hN:2000<=N){P:List Int}(hl:P.length<=12)(h:P.all perB=true):Zdz N P=some (if lcmL P<=960 then ((lcmL P:Int),0) else (0,6)):=by
 rw [Zjt hN (by omega)]
 unfold ZlU
 rw [ZZ (by simp;omega),Z0 (ZlY h)]
 rfl
theorem Ze9 {α ρ:Type}{l:List α}{p:α->Bool}{body:Int->Option (Int⊕ρ)}{bad fin:ρ}(hstep:∀ (k:Nat) (h:k<l.length),body (k:Int)=if p l[k]=true then some (.inl ((k+1:Nat):Int)) else some (.inr bad))
  (hend:body (l.length:Int)=some (.inr fin)) {N:Nat} (hN:l.length<N):ZaS body N 0=some (if l.all p=true then fin else bad):=by
 have:=Zkv hstep hend l.length N 0 (by omega) (by omega) hN
 rw [show ((0:Nat):Int)=0 from rfl] at this
 rw [this,List.drop_zero]
theorem Zli {P:List Int}{u:Zaz}(h0:0<=u.Stream)(h1:u.Stream<(P.length:Int)):idx P u.Stream=some (perU P u):=ZfV 0 h0 h1
theorem ZfF {P:List Int}{u:Zaz}:useB P u=true↔0<=u.Stream/\u.Stream<(P.length:Int)/\0<=u.Port/\u.Port<48/\0<=u.From/\u.From<perU P u/\1<=u.Long/\u.Long<=perU P u:=by simp [useB]
theorem ZfQ {N:Nat}(hN:2000<=N)(p:Z5):ZdA N p=some (if Zd5 p=true then 0 else 340):=by
 unfold ZdA Zd5
 by_cases h1:p.Periods.length<=12
 ·by_cases h2:p.Uses.length<=192
  ·rw [ZZ (by simp;omega)]
   simp only [h1,h2,decide_true,Zi]
   rw [Ze9 (l:=p.Periods) (p:=perB) (bad:=.inr 340) (fin:=.inl ()) (λk hk=>?_) (by simp [Zcm]) (by omega)]
   ·cases hP:p.Periods.all perB with
    | false=>simp
    | true =>
     simp only [Z1,ZS,Zi]
     rw [ZhI hN h1 hP,ZS]
     by_cases hc:lcmL p.Periods<=960
     ·rw [Z0 hc]
      simp only [bne_self_eq_false,Zf,ZY]
      rw [Ze9 (l:=p.Uses) (p:=useB p.Periods) (bad:=.inr 340) (fin:=.inl ()) (λk hk=>?_) (by simp [Zcl]) (by omega)]
      ·cases hU:p.Uses.all (useB p.Periods) with
       | false=>simp
       | true=>simp [hc]
      simp only [Zcl]
      rw [Z0 (by simpa using hk),Zcn hk,ZS]
      have hw:w64 ((k:Int)+1)=((k+1:Nat):Int):=Zbj (by omega)
      rw [hw]
      by_cases hc:0<=p.Uses[k].Stream/\p.Uses[k].Stream<(p.Periods.length:Int)/\0<=p.Uses[k].Port/\p.Uses[k].Port<48
      ·obtain ⟨c1,c2,c3,c4⟩:=hc
       rw [ZZ (by simp;omega),Zli c1 c2]
       simp only [ZS]
       by_cases hu:useB p.Periods p.Uses[k]=true
       ·obtain ⟨_,_,_,_,u1,u2,u3,u4⟩:=ZfF.1 hu
        rw [ZZ (by simp;omega),Z0 hu]
       have hn:¬ (0<=p.Uses[k].From/\p.Uses[k].From<perU p.Periods p.Uses[k]/\1<=p.Uses[k].Long/\p.Uses[k].Long<=perU p.Periods p.Uses[k]):=λq=>hu (ZfF.2 ⟨c1,c2,c3,c4,q⟩)
       rw [ZZ hu,Z0 (by simp;omega)]
      have hu:¬ useB p.Periods p.Uses[k]=true:=λq=>hc (by obtain ⟨a,b,c,d,_⟩:=ZfF.1 q;exact ⟨a,b,c,d⟩)
      rw [Z0 (by simp;omega),ZZ hu]
     rw [ZZ hc];simp [hc]
   simp only [Zcm]
   rw [Z0 (by simpa using hk),Zcn hk]
   simp only [ZS]
   rw [Zbj (by omega)]
   by_cases c:perB p.Periods[k]=true
   ·have:=Zg6.1 c
    rw [ZZ (by simp;omega),Z0 c]
   rw [Z0,ZZ c]
   simp [perB] at c ⊢;omega
  rw [Z0 (by simp;omega)];simp [h2]
 rw [Z0 (by simp;omega)];simp [h1]
theorem Zkd {p:Z5}:Zd5 p=true↔p.Periods.length<=12/\p.Uses.length<=192/\p.Periods.all perB=true/\p.Uses.all (useB p.Periods)=true/\lcmL p.Periods<=960:=by
 unfold Zd5
 simp only [Ze,ZX]
 constructor
 ·rintro ⟨⟨⟨⟨a,b⟩,c⟩,d⟩,e⟩;exact ⟨a,b,c,d,e⟩
 rintro ⟨a,b,c,d,e⟩;exact ⟨⟨⟨⟨a,b⟩,c⟩,d⟩,e⟩
end Go.Sh
namespace Go.Sh
open Go Go.Eng
structure VP (p:Z5):Prop where
 len:p.Periods.length<=12
 uses:p.Uses.length<=192
 per:∀ q∈p.Periods,1<=q/\q<=240
 use:∀ u∈p.Uses,0<=u.Stream/\u.Stream<(p.Periods.length:Int)/\0<=u.Port/\u.Port<48/\0<=u.From/\u.From<perU p.Periods u/\1<=u.Long/\u.Long<=perU p.Periods u
 lcm:lcmL p.Periods<=960
 lpos:0<lcmL p.Periods
theorem VP.of {p:Z5}(h:Zd5 p=true):VP p:=by
 obtain ⟨h1,h2,h3,h4,h5⟩:=Zkd.1 h
 exact ⟨h1,h2,λq hq=>Zg6.1 (List.all_eq_true.1 h3 q hq),λu hu=>ZfF.1 (List.all_eq_true.1 h4 u hu),h5,Zoe h3⟩
theorem ZoN {P:List Int}{u:Zaz}(h0:0<=u.Stream)(h1:u.Stream<(P.length:Int)):perU P u∈P:=by
 unfold perU
 rw [Za5 (by omega)]
 exact List.getElem_mem _
theorem VP.peru {p:Z5}(h:VP p){u:Zaz}(hu:u∈p.Uses):1<=perU p.Periods u/\perU p.Periods u<=240:=by
 obtain ⟨a,b,_⟩:=h.use u hu
 exact h.per _ (ZoN a b)
def Zc1 (p:Z5)(u:Zaz)(x:Int):Zaa:=⟨perU p.Periods u,(u.From+x)%perU p.Periods u,u.Long⟩
def u0:Zaz:=⟨0,0,0,0⟩
theorem VP.vspan {p:Z5}(h:VP p){u:Zaz}(hu:u∈p.Uses)(x:Int):VSpan (Zc1 p u x):=by
 obtain ⟨_,_,_,_,_,_,h1,h2⟩:=h.use u hu
 obtain ⟨h3,h4⟩:=h.peru hu
 have h5:=Int.emod_nonneg (u.From+x) (show perU p.Periods u≠0 by omega)
 have h6:=Int.emod_lt_of_pos (u.From+x) (show 0<perU p.Periods u by omega)
 show 1<=perU p.Periods u/\perU p.Periods u<=960/\0<=(u.From+x)%perU p.Periods u/\(u.From+x)%perU p.Periods u<perU p.Periods u/\1<=u.Long/\u.Long<=perU p.Periods u
 omega
theorem VP.rem {p:Z5}(h:VP p){u:Zaz}(hu:u∈p.Uses){x:Int}(h0:0<=x)(h1:x<=1000000):remI (w64 (u.From+x)) (perU p.Periods u)=some ((u.From+x)%perU p.Periods u):=by
 obtain ⟨_,_,_,_,h5,h6,h7,h8⟩:=h.use u hu
 obtain ⟨h3,h4⟩:=h.peru hu
 rw [Za9 (by omega) (by omega),ZbJ (by omega),Zj (by omega)]
theorem Zev (N:Nat){p:Z5}(h:VP p){u:Zaz}(hu:u∈p.Uses){x:Int}(h0:0<=x)(h1:x<=1000000):Zck N p u x=some (Zc1 p u x):=by
 obtain ⟨a,b,_⟩:=h.use u hu
 unfold Zck
 rw [Zli a b,ZS,h.rem hu h0 h1,ZS]
 rfl
theorem Zhz (N:Nat){p:Z5}(h:VP p){k:Nat}(hk:k<p.Uses.length){x:Int}(h0:0<=x)(h1:x<=1000000):Ze1 N p k x=some (Zc1 p (p.Uses.getD k u0) x):=by
 have hu:p.Uses[k]∈p.Uses:=List.getElem_mem hk
 obtain ⟨a,b,_⟩:=h.use _ hu
 unfold Ze1
 rw [Zcn hk]
 simp only [ZS]
 rw [Zli a b,ZS,h.rem hu h0 h1,ZS,Za5 hk]
 rfl
def offB (p:Z5)(i x:Int):Bool:=decide (0<=i/\i<(p.Periods.length:Int)/\0<=x/\x<p.Periods.getD i.toNat 0)
theorem Zdb {p:Z5}{i x:Int}:offB p i x=true↔0<=i/\i<(p.Periods.length:Int)/\0<=x/\x<p.Periods.getD i.toNat 0:=by simp [offB]
theorem Zfm (N:Nat){p:Z5}{i x:Int}(h0:0<=i)(h1:i<(p.Periods.length:Int)):Zc7 N p i x=some (offB p i x):=by
 unfold Zc7
 by_cases hx:x≥0
 ·rw [Z0 (by simpa using hx),ZfV 0 h0 h1]
  simp only [ZS]
  congr 1
  rw [Bool.eq_iff_iff,Zdb]
  simp
  omega
 rw [ZZ (by simpa using hx),ZS]
 congr 1
 symm
 rw [Bool.eq_false_iff]
 intro q
 have:=Zdb.1 q
 omega
def hitB (p:Z5)(i a j b:Int)(k m:Nat):Bool :=
 decide (k≠m)&&(((p.Uses.getD k u0).Stream==i)&&(((p.Uses.getD m u0).Stream==j)&&(((p.Uses.getD k u0).Port==(p.Uses.getD m u0).Port) &&
  !(decide (SepD (Zc1 p (p.Uses.getD k u0) a) (Zc1 p (p.Uses.getD m u0) b) ((Zc1 p (p.Uses.getD m u0) b).From-(Zc1 p (p.Uses.getD k u0) a).From))))))
def Zcx (p:Z5)(i a j b:Int):Bool := !(allB p.Uses.length λk=>allB p.Uses.length λm => !(hitB p i a j b k m))
theorem Zfk {N:Nat}(hN:2000<=N){p:Z5}(h:VP p){i a j b:Int}(ha:0<=a)(ha2:a<=1000)(hb:0<=b)(hb2:b<=1000):Zc6 N p i a j b=some (Zcx p i a j b):=by
 have hl:=h.uses
 unfold Zc6
 rw [ZiJ (n:=p.Uses.length) (p:=λk=>allB p.Uses.length λm => !(hitB p i a j b k m)) (bad:=.inr true) (fin:=.inl ()) (λk hk=>?_) (by simp [Zb6]) (by omega)]
 ·unfold Zcx
  cases allB p.Uses.length λk=>allB p.Uses.length λm => !(hitB p i a j b k m)<;>rfl
 simp only [Zb6]
 rw [Z0 (by simpa using hk),ZiJ (n:=p.Uses.length) (p:=λm => !(hitB p i a j b k m)) (bad:=.inr true) (fin:=.inl ()) (λm hm=>?_) (by simp [Zb5]) (by omega)]
 ·have hw:w64 ((k:Int)+1)=((k+1:Nat):Int):=Zbj (by omega)
  cases allB p.Uses.length λm => !(hitB p i a j b k m) with
  | false=>rfl
  | true=>simp only [Z1,ZS];rw [hw]
 simp only [Zb5]
 have hw:w64 ((m:Int)+1)=((m+1:Nat):Int):=Zbj (by omega)
 rw [Z0 (by simpa using hm),Zcn hk,Zcn hm,hw]
 simp only [ZS]
 rw [Zhz N h hk ha (by omega),Zhz N h hm hb (by omega)]
 simp only [ZS]
 rw [Za5 hk,Za5 hm,VSpan.separate hN (h.vspan (List.getElem_mem hk) a) (h.vspan (List.getElem_mem hm) b)]
 simp only [ZS]
 unfold hitB
 rw [Za5 hk,Za5 hm]
 by_cases c0:k=m
 ·subst c0;simp
 rw [Z0 (by simp;omega)]
 cases c1:(p.Uses[k].Stream==i) with
 | false=>simp
 | true =>
  cases c2:(p.Uses[m].Stream==j) with
  | false=>simp
  | true =>
   cases c3:(p.Uses[k].Port==p.Uses[m].Port) with
   | false=>simp
   | true =>
    simp only [Z1,ZS,c0,ne_eq,not_false_eq_true,decide_true,Zi,Bool.not_not]
    cases decide (SepD (Zc1 p p.Uses[k] a) (Zc1 p p.Uses[m] b) ((Zc1 p p.Uses[m] b).From-(Zc1 p p.Uses[k] a).From))<;>rfl
theorem Zn0 {s:Zaa}(hs:VSpan s):¬ SepD s s (s.From-s.From):=by
 have:=hs.bounds
 unfold SepD
 simp
 omega
theorem ZoC {u v:Zaz}(h:(((u.Stream==v.Stream)&&((u.Port==v.Port)&&((u.From==v.From)&&((u.Long==v.Long)&&true))))=true)):u=v:=by
 obtain ⟨a,b,c,d⟩:=u
 obtain ⟨a',b',c',d'⟩:=v
 simp at h
 obtain ⟨rfl,rfl,rfl,rfl⟩:=h
 rfl
theorem Zew {N:Nat}(hN:2000<=N){p:Z5}(h:VP p){i a j b:Int}(ha:0<=a)(ha2:a<=1000)(hb:0<=b)(hb2:b<=1000)(hij:i=j->a=b):ZcP N p i a j b=some (Zcx p i a j b):=by
 have hl:=h.uses
 unfold ZcP Ze3
 simp only [ZS]
 have round:∀ k m:Nat,∀ (hk:k<p.Uses.length) (hm:m<p.Uses.length),p.Uses[k].Stream=i->p.Uses[m].Stream=j →
   Za6 N p a b false p.Uses[k] p.Uses[m]=some (if SepD (Zc1 p p.Uses[k] a) (Zc1 p p.Uses[m] b) ((Zc1 p p.Uses[m] b).From-(Zc1 p p.Uses[k] a).From) then (false,0) else (true,1)):=by
  intro k m hk hm e1 e2
  unfold Za6
  have hv1:=h.vspan (List.getElem_mem hk) a
  have hv2:=h.vspan (List.getElem_mem hm) b
  by_cases c:((p.Uses[k].Stream==p.Uses[m].Stream)&&((p.Uses[k].Port==p.Uses[m].Port)&&((p.Uses[k].From==p.Uses[m].From)&&((p.Uses[k].Long==p.Uses[m].Long)&&true))))=true
  ·rw [Z0 c]
   have e:=ZoC c
   have hab:a=b:=hij (by rw [← e1,← e2,e])
   subst hab
   rw [← e,ZZ (Zn0 hv1)]
  have hA:=ZgW hN (Zc1 p p.Uses[k] a) (Zc1 p p.Uses[m] b)
  rw [Z0 ⟨hv1,hv2⟩] at hA
  rw [ZZ c,Zev N h (List.getElem_mem hk) ha (by omega),ZS,Zev N h (List.getElem_mem hm) hb (by omega),ZS,hA,ZS]
  by_cases s:SepD (Zc1 p p.Uses[k] a) (Zc1 p p.Uses[m] b) ((Zc1 p p.Uses[m] b).From-(Zc1 p p.Uses[k] a).From)
  ·simp [s]
  simp [s]
 have loop:Zdk N (λ(s:Bool×Nat) (x16:Zaz) (x17:Zaz)=>Zhg (λv:Bool=>Za6 N p a b v x16 x17) s) p i j (false,0)=some (if Zcx p i a j b=true then (true,1) else (false,0)):=by
  unfold Zdk
  rw [(ZhZ (n:=p.Uses.length) (p:=λk=>allB p.Uses.length λm => !(hitB p i a j b k m)) (f:=λs _=>s) (bad:=.inr (true,1)) (fin:=λs=>.inl s) (λ_ s=>s=(false,0)) (λk s hk hs=>?_) (λ_ s _ hs _=>hs) (λs _=>by simp [ZbO]) (N:=N) (by omega) rfl).1]
  ·unfold Zcx
   have hf:∀ (l:List Nat),l.foldl (λ(s:Bool×Nat) _=>s) (false,0)=(false,0):=by
    intro l;induction l with
    | nil=>rfl
    | cons x l ih=>simpa using ih
   rw [hf]
   cases allB p.Uses.length λk=>allB p.Uses.length λm => !(hitB p i a j b k m)<;>rfl
  subst hs
  simp only [ZbO]
  have hw:w64 ((k:Int)+1)=((k+1:Nat):Int):=Zbj (by omega)
  rw [Z0 (by simpa using hk),Zcn hk,ZS,hw]
  by_cases c1:p.Uses[k].Stream=i
  ·rw [ZZ (by simpa using c1)]
   rw [(ZhZ (n:=p.Uses.length) (p:=λm => !(hitB p i a j b k m)) (f:=λs _=>s) (bad:=.inr (true,1)) (fin:=λs=>.inl s) (λ_ s=>s=(false,0)) (λm s hm hs=>?_) (λ_ s _ hs _=>hs) (λs _=>by simp [ZbN]) (N:=N) (by omega) rfl).1]
   ·have hf:∀ (l:List Nat),l.foldl (λ(s:Bool×Nat) _=>s) (false,0)=(false,0):=by
     intro l;induction l with
     | nil=>rfl
     | cons x l ih=>simpa using ih
    rw [hf]
    cases allB p.Uses.length λm => !(hitB p i a j b k m)<;>rfl
   subst hs
   simp only [ZbN]
   have hw2:w64 ((m:Int)+1)=((m+1:Nat):Int):=Zbj (by omega)
   rw [Z0 (by simpa using hm),Zcn hm,ZS,hw2]
   unfold hitB
   rw [Za5 hk,Za5 hm]
   by_cases c0:k=m
   ·subst c0;simp
   have c0':((m:Int)==(k:Int))=false:=by simp;omega
   rw [c0']
   simp only [Zf,ZY]
   by_cases c2:p.Uses[m].Stream=j
   ·rw [ZZ (by simpa using c2),ZS]
    by_cases c3:p.Uses[k].Port=p.Uses[m].Port
    ·rw [ZZ (by simp [c3])]
     unfold Zhg
     simp only [Z1]
     rw [round k m hk hm c1 c2]
     simp only [c0,c1,c2,c3,ne_eq,not_false_eq_true,decide_true,Zi,beq_self_eq_true,Bool.not_not]
     by_cases s:SepD (Zc1 p p.Uses[k] a) (Zc1 p p.Uses[m] b) ((Zc1 p p.Uses[m] b).From-(Zc1 p p.Uses[k] a).From)
     ·simp [s]
     simp [s]
    rw [Z0 (by simp;exact λq=>c3 q.symm)]
    simp [c3]
   rw [Z0 (by simpa using c2),ZS]
   simp [c2]
  rw [Z0 (by simpa using c1)]
  have:(allB p.Uses.length λm => !(hitB p i a j b k m))=true:=by
   rw [ZcY]
   intro m hm
   unfold hitB
   rw [Za5 hk]
   simp [c1]
  rw [this,Z0 rfl]
 rw [loop,ZS]
 cases Zcx p i a j b<;>rfl
def argB (p:Z5)(i a j b:Int):Bool:=offB p i a&&offB p j b && !(decide (i=j)&&decide (a≠b))
def ZdL (p:Z5)(i a j b:Int):Bool×Int:=if Zd5 p=true then (if argB p i a j b=true then (Zcx p i a j b,0) else (false,2)) else (false,340)
theorem ZhQ {p:Z5}(h:VP p){i x:Int}(ho:offB p i x=true):0<=x/\x<240:=by
 obtain ⟨a,b,c,d⟩:=Zdb.1 ho
 rw [Za5 (by omega)] at d
 have:=h.per _ (List.getElem_mem (show i.toNat<p.Periods.length by omega))
 omega
theorem Zg2 {N:Nat}(hN:2000<=N)(p:Z5)(i a j b:Int):ZcQ N p i a j b=some (ZdL p i a j b):=by
 unfold ZcQ ZdL
 rw [ZfQ hN,ZS]
 cases hp:Zd5 p with
 | false=>rfl
 | true =>
  have h:=VP.of hp
  simp only [Z1,bne_self_eq_false,Zf,ZY]
  by_cases c1:0<=i/\i<(p.Periods.length:Int)/\0<=j/\j<(p.Periods.length:Int)
  ·obtain ⟨i1,i2,j1,j2⟩:=c1
   rw [ZZ (by simp;omega),Zfm N i1 i2,Zfm N j1 j2]
   simp only [ZS]
   unfold argB
   cases o1:offB p i a with
   | false=>rfl
   | true =>
    cases o2:offB p j b with
    | false=>rfl
    | true =>
     simp only [Bool.not_true,Zf,ZY,Zi]
     have b1:=ZhQ h o1
     have b2:=ZhQ h o2
     by_cases c:i=j
     ·by_cases d:a=b
      ·rw [Zew hN h b1.1 (by omega) b2.1 (by omega) (λ_=>d)]
       simp [c,d]
      simp [c,d]
     rw [Zew hN h b1.1 (by omega) b2.1 (by omega) (λq=>absurd q c)]
     simp [c]
  rw [Z0 (by simp;omega)]
  have:argB p i a j b=false:=by
   unfold argB
   rw [Bool.eq_false_iff]
   intro q
   simp only [Ze] at q
   have q1:=Zdb.1 q.1.1
   have q2:=Zdb.1 q.1.2
   omega
  rw [this];rfl
end Go.Sh

namespace Go.Sh
open Go Go.Eng
def upF {σ:Type}(step:Nat->σ->Option σ):Nat->σ->Option σ
 | 0,s=>some s
 | n+1,s=>(upF step n s).bind (step n)
theorem Zlz {σ:Type}{step:Nat->σ->Option σ}{k:Nat}{s:σ}(h:upF step k s=none):∀ n,k<=n->upF step n s=none:=by
 intro n hn
 induction n with
 | zero =>
  obtain rfl:k=0:=by omega
  exact h
 | succ n ih =>
  by_cases e:k=n+1
  ·subst e;exact h
  simp only [upF];rw [ih (by omega)];rfl
theorem ZjC {σ τ ρ:Type}(mk:Int->σ->τ)(ix:τ->Int)(hix:∀ k s,ix (mk k s)=k){step:Nat->σ->Option σ}{body:τ->Option (τ⊕ρ)}{n:Nat}{s0:σ}{bad:ρ}{fin:σ->ρ}
  (hstep:∀ (k:Nat) (s:σ),k<n->upF step k s0=some s->body (mk k s)=match step k s with|some s'=>some (.inl (mk ((k+1:Nat):Int) s'))|none=>some (.inr bad))
  (hend:∀ s,upF step n s0=some s->body (mk n s)=some (.inr (fin s))) {N:Nat} (hN:n<N) :
  ZaS body N (mk 0 s0)=some (match upF step n s0 with|some s=>fin s|none=>bad):=by
 obtain ⟨r,hr,e⟩:=ZcX (body:=body) (λx=>∃ (k:Nat) (s:σ),x=mk k s/\k<=n/\upF step k s0=some s) (λx=>(n-ix x).toNat) (λr=>r=match upF step n s0 with|some s=>fin s|none=>bad) (λx hx=>by
  obtain ⟨k,s,rfl,k2,k3⟩:=hx
  by_cases c:k<n
  ·have hb:=hstep k s c k3
   cases hs:step k s with
   | some s' =>
    rw [hs] at hb
    left
    refine ⟨_,hb,⟨k+1,s',rfl,by omega,by simp only [upF];rw [k3];exact hs⟩,by rw [hix,hix];omega⟩
   | none =>
    rw [hs] at hb
    right
    refine ⟨_,hb,?_⟩
    have:upF step (k+1) s0=none:=by simp only [upF];rw [k3];exact hs
    rw [Zlz this n (by omega)]
  right
  obtain rfl:k=n:=by omega
  exact ⟨_,hend s k3,by rw [k3]⟩) N (mk 0 s0) ⟨0,s0,rfl,by omega,rfl⟩ (by rw [hix];omega)
 rw [hr,e]
section
variable {N:Nat} {p:Z5} {f:List Z4}
def Zbm (nP len c:Int)(a:Zak):Bool :=
 if a.By = -1 then decide (a.To=w64 (a.From+1)/\c<a.Next/\a.Next<len)
 else if a.Next=0 then (if a.By = -2 then decide (c=0/\a.From≠0) else decide (0<=a.By/\a.By<nP)) else false
def Zer (nP len c per at_:Int)(a:Zak):Bool:=decide (a.From=at_/\a.From<a.To/\a.To<=per)&&Zbm nP len c a
def ZaQ (nP len c per:Int)(l:List Zak)(k:Nat)(at_:Int):Option Int:=(l[k]?).bind λa=>if Zer nP len c per at_ a=true then some a.To else none
def Zd6 (nP len c per:Int)(l:List Zak):Bool:=match upF (ZaQ nP len c per l) l.length 0 with
 | some e=>e==per
 | none=>false
theorem Zge (c:Nat)(a:Zak):Zct N p f (c:Int) a=some (Zbm p.Periods.length f.length c a):=by
 unfold Zct Zbm
 by_cases h1:a.By = -1
 ·rw [Z0 (by simpa using h1),Z0 h1]
  congr 1
  rw [Bool.eq_iff_iff]
  simp only [Ze,beq_iff_eq,ZX,gt_iff_lt]
 rw [ZZ (by simpa using h1),ZZ h1]
 by_cases h2:a.Next=0
 ·rw [ZZ (by simpa using h2),Z0 h2]
  by_cases h3:a.By = -2
  ·rw [Z0 (by simpa using h3),Z0 h3]
   congr 1
   rw [Bool.eq_iff_iff]
   simp
  rw [ZZ (by simpa using h3),ZZ h3]
  congr 1
  rw [Bool.eq_iff_iff]
  simp
 rw [Z0 (by simpa using h2),ZZ h2]
def ZnF (nP len c per:Int)(l:List Zak):Int⊕Bool:=match upF (ZaQ nP len c per l) l.length 0 with
 | some e=>.inl e
 | none=>.inr false
theorem Zmw {c per:Int}{l:List Zak}{body:Int×Int->Option ((Int×Int)⊕(Int⊕Bool))}{nP len:Int}
  (hstep:∀ (k:Nat) (e:Int) (h:k<l.length),body (e,(k:Int))=if Zer nP len c per e l[k]=true then some (.inl (l[k].To,((k+1:Nat):Int))) else some (.inr (.inr false)))
  (hend:∀ e,body (e,(l.length:Int))=some (.inr (.inl e))) (hN:l.length<N):ZaS body N (0,0)=some (ZnF nP len c per l):=by
 have:=ZjC (λk (s:Int)=>(s,k)) (·.2) (λ_ _=>rfl) (ρ:=Int⊕Bool) (body:=body) (step:=ZaQ nP len c per l) (n:=l.length) (s0:=0) (fin:=λe=>.inl e) (bad:=.inr false) (λk s hk _=>by
  rw [hstep k s hk]
  unfold ZaQ
  rw [Zw hk,ZS]
  by_cases h:Zer nP len c per s l[k]=true
  ·rw [Z0 h,Z0 h]
  rw [ZZ h,ZZ h]) (λs _=>hend s) hN
 rw [this]
 unfold ZnF
 cases upF (ZaQ nP len c per l) l.length 0<;>rfl
theorem Zo1 {nP len c per:Int}{l:List Zak}:(match ZnF nP len c per l with | .inl e=>e==per | .inr b=>b)=Zd6 nP len c per l:=by
 unfold ZnF Zd6
 cases upF (ZaQ nP len c per l) l.length 0<;>rfl
def ZaU (p:Z5)(f:List Z4)(c:Nat):Bool:=match f[c]? with
 | some x=>decide (0<=x.Stream/\x.Stream<(p.Periods.length:Int))&&Zd6 p.Periods.length f.length c (p.Periods.getD x.Stream.toNat 0) x.Arms
 | none=>false
theorem ZcG {nP len c per e:Int}{a:Zak}(h:Zer nP len c per e a=true):a.From=e/\a.From<a.To/\a.To<=per/\Zbm nP len c a=true:=by
 simp only [Zer,Ze,ZX] at h
 exact ⟨h.1.1,h.1.2.1,h.1.2.2,h.2⟩
theorem Zir {c:Nat}(hc:c<f.length)(h0:0<=f[c].Stream)(h1:f[c].Stream<(p.Periods.length:Int))(hl:f[c].Arms.length<1000000)(hN:f[c].Arms.length<N) :
  ZdI N p f (c:Int)=some (Zd6 p.Periods.length f.length c (p.Periods.getD f[c].Stream.toNat 0) f[c].Arms):=by
 obtain ⟨x,hx⟩:∃ x,x=f[c]:=⟨_,rfl⟩
 obtain ⟨per,hper⟩:∃ per,per=p.Periods.getD x.Stream.toNat 0:=⟨_,rfl⟩
 unfold ZdI
 rw [Zcn hc,ZS,← hx]
 rw [← hx] at h0 h1 hl hN
 rw [ZfV 0 h0 h1,ZS,← hper,ZS]
 rw [Zmw (nP:=p.Periods.length) (len:=f.length) (c:=c) (per:=per) (l:=x.Arms) (λk e hk=>by
   simp only [Zb8]
   rw [Z0 (by simpa using hk),Zcn hk,ZS,Zge,Zbj (by omega)]
   simp only [ZS]
   by_cases h:Zer p.Periods.length f.length c per e x.Arms[k]=true
   ·obtain ⟨a1,a2,a3,a4⟩:=ZcG h
    rw [Z0 h,ZZ (by simpa using a1),ZZ (by simpa using a2),ZZ (by simpa using a3),a4]
    rfl
   rw [ZZ h]
   by_cases a1:x.Arms[k].From=e
   ·by_cases a2:x.Arms[k].From<x.Arms[k].To
    ·by_cases a3:x.Arms[k].To<=per
     ·have a4:Zbm p.Periods.length f.length c x.Arms[k]=false:=by
       cases hr:Zbm p.Periods.length f.length c x.Arms[k] with
       | false=>rfl
       | true=>exact absurd (by simp [Zer,a1 ▸ a2,a3,hr,a1]) h
      rw [ZZ (by simpa using a1),ZZ (by simpa using a2),ZZ (by simpa using a3),a4]
      rfl
     rw [ZZ (by simpa using a1),ZZ (by simpa using a2),Z0 (by simpa using a3)];rfl
    rw [ZZ (by simpa using a1),Z0 (by simpa using a2)];rfl
   rw [Z0 (by simpa using a1)];rfl) (λe=>by simp [Zb8]) hN,ZS,← Zo1]
 cases ZnF p.Periods.length f.length c per x.Arms<;>rfl
end
end Go.Sh

namespace Go.Sh
open Go Go.Eng
theorem Zhi {σ:Type}{step:Nat->σ->Option σ}:∀ {n:Nat} {s0 s:σ},upF step n s0=some s->∀ k,k<n->∃ s1 s2,upF step k s0=some s1/\step k s1=some s2
 | 0,_,_,_,k,hk=>by omega
 | n+1,s0,s,h,k,hk=>by
  simp only [upF] at h
  obtain ⟨s1,h1,h2⟩:=bind_some h
  by_cases e:k=n
  ·subst e;exact ⟨s1,s,h1,h2⟩
  exact Zhi h1 k (by omega)
section
variable {N:Nat} {p:Z5} {f:List Z4}
theorem ZeW {nP len c per:Int}{l:List Zak}(h:Zd6 nP len c per l=true):∀ a∈l,Zbm nP len c a=true:=by
 intro a ha
 obtain ⟨k,hk,rfl⟩:=List.getElem_of_mem ha
 unfold Zd6 at h
 cases hu:upF (ZaQ nP len c per l) l.length 0 with
 | none=>rw [hu] at h;cases h
 | some s =>
  obtain ⟨s1,s2,_,h2⟩:=Zhi hu k hk
  unfold ZaQ at h2
  rw [Zw hk,ZS] at h2
  by_cases c1:Zer nP len c per s1 l[k]=true
  ·exact (ZcG c1).2.2.2
  rw [ZZ c1] at h2;cases h2
theorem ZcE {c:Nat}(hc:c<f.length):ZaU p f c=(decide (0<=f[c].Stream/\f[c].Stream<(p.Periods.length:Int))&&Zd6 p.Periods.length f.length c (p.Periods.getD f[c].Stream.toNat 0) f[c].Arms):=by
 unfold ZaU
 rw [Zw hc]
def bump (l:List Int)(a:Zak):List Int:=if a.By = -1 then l.set a.Next.toNat (w64 (l.getD a.Next.toNat 0+1)) else l
def Zmr (f:List Z4)(k:Nat)(l:List Int):List Int:=match f[k]? with
 | some x=>x.Arms.foldl bump l
 | none=>l
def Zdl (f:List Z4):Nat->List Int->List Int
 | 0,l=>l
 | k+1,l=>Zmr f k (Zdl f k l)
theorem ZjJ (l:List Int)(a:Zak):(bump l a).length=l.length:=by
 unfold bump
 by_cases h:a.By = -1
 ·rw [Z0 h];simp
 rw [ZZ h]
theorem Zib:∀ (as:List Zak) (l:List Int),(as.foldl bump l).length=l.length
 | [],_=>rfl
 | a::as,l=>by rw [List.foldl_cons,Zib as,ZjJ]
theorem ZdC (f:List Z4)(l:List Int):∀ k,(Zdl f k l).length=l.length
 | 0=>rfl
 | k+1=>by
  unfold Zdl Zmr
  cases f[k]? with
  | none=>exact ZdC f l k
  | some x=>simp only;rw [Zib,ZdC f l k]
theorem Znx {l:List Int}{as:List Zak}{body:Int×List Int->Option ((Int×List Int)⊕List Int)}(hl:as.length<1000000)
  (hstep:∀ (k:Nat) (m:List Int) (h:k<as.length),m.length=l.length->body ((k:Int),m)=some (.inl (((k+1:Nat):Int),bump m as[k])))
  (hend:∀ m,body ((as.length:Int),m)=some (.inr m)) (hN:as.length<N):ZaS body N (0,l)=some (as.foldl bump l):=by
 obtain ⟨r,hr,e⟩:=ZcX (body:=body) (λx=>∃ k:Nat,x.1=k/\k<=as.length/\x.2=(as.take k).foldl bump l) (λx=>(as.length-x.1).toNat) (λr=>r=as.foldl bump l) (λx hx=>by
  obtain ⟨i,m⟩:=x
  obtain ⟨k,k1,k2,k3⟩:=hx
  simp only at k1 k3
  subst k1 k3
  by_cases c:k<as.length
  ·left
   refine ⟨_,hstep k _ c (by rw [Zib]),⟨k+1,rfl,by omega,?_⟩,by simp;omega⟩
   rw [List.take_succ_eq_append_getElem c,List.foldl_append]
   rfl
  right
  obtain rfl:k=as.length:=by omega
  exact ⟨_,hend _,by rw [List.take_length]⟩) N (0,l) ⟨0,rfl,by omega,rfl⟩ (by simp;omega)
 rw [hr,e]
theorem Zoj {m:List Int}{a:Zak}{nP c:Int}(hr:Zbm nP m.length c a=true)(hc:0<=c)(hb:a.By = -1):0<=a.Next/\a.Next<(m.length:Int):=by
 unfold Zbm at hr
 rw [Z0 hb,ZX] at hr
 omega
end
end Go.Sh

namespace Go.Sh
open Go Go.Eng
section
variable {N:Nat} {p:Z5} {f:List Z4}
def ZfH (p:Z5)(f:List Z4)(k:Nat)(l:List Int):Option (List Int):=if ZaU p f k=true then some (Zmr f k l) else none
theorem Zjc (l:List Int):∀ n,upF (ZfH p f) n l=if allB n (ZaU p f)=true then some (Zdl f n l) else none
 | 0=>by simp [upF,allB,Zdl]
 | n+1=>by
  simp only [upF]
  rw [Zjc l n]
  have e:allB (n+1) (ZaU p f)=(allB n (ZaU p f)&&ZaU p f n):=by
   unfold allB
   rw [List.range_succ,List.all_append]
   simp
  rw [e]
  cases h1:allB n (ZaU p f) with
  | false=>simp
  | true =>
   simp only [Z1,ZS,Zi]
   unfold ZfH
   cases h2:ZaU p f n<;>simp [Zdl]
def Zen (p:Z5)(f:List Z4):Bool :=
 decide (1<=f.length/\f.length<=2000)&&allB f.length (ZaU p f)&&((Zdl f f.length (List.replicate f.length 0)).drop 1).all (· == 1)
theorem Zc9 {c:Nat}(h:ZaU p f c=true):∃ hc:c<f.length,0<=f[c].Stream/\f[c].Stream<(p.Periods.length:Int)/\Zd6 p.Periods.length f.length c (p.Periods.getD f[c].Stream.toNat 0) f[c].Arms=true:=by
 by_cases hc:c<f.length
 ·rw [ZcE hc,Ze,ZX] at h
  exact ⟨hc,h.1.1,h.1.2,h.2⟩
 unfold ZaU at h
 rw [Zx (by omega)] at h
 cases h
theorem Zmq {c:Nat}{l:List Int}(h:ZaU p f c=true)(hl:l.length=f.length)(ha:∀ x∈f,x.Arms.length<1000000/\x.Arms.length<N){x:Z4}(hx:f[c]?=some x) :
  ZaS (λy:Int×(List Int)=>Zby N x y.1 y.2) N (0,l)=some (Zmr f c l):=by
 obtain ⟨hc,h0,h1,h2⟩:=Zc9 h
 rw [Zw hc] at hx
 cases hx
 have hb:=ha _ (List.getElem_mem hc)
 rw [Znx hb.1 (λk m hk hm=>?_) (λm=>by simp [Zby]) hb.2]
 ·unfold Zmr
  rw [Zw hc]
 have hr:=ZeW h2 _ (List.getElem_mem hk)
 rw [← hl,← hm] at hr
 simp only [Zby]
 rw [Z0 (by simpa using hk),Zcn hk,ZS,Zbj (by omega)]
 unfold bump
 by_cases b:f[c].Arms[k].By = -1
 ·obtain ⟨n0,n1⟩:=Zoj hr (by omega) b
  rw [Z0 (by simpa using b),Z0 b,ZfV 0 n0 n1]
  rfl
 rw [ZZ (by simpa using b),ZZ b]
 rfl
theorem ZhE (hf:f.length<N)(hN:2000<=N)(ha:∀ x∈f,x.Arms.length<1000000/\x.Arms.length<N):Zdj N p f=some (Zen p f):=by
 unfold Zdj Zen
 by_cases h1:1<=f.length/\f.length<=2000
 ·rw [ZZ (by simp;omega),decide_eq_true h1,Zi]
  have hm:ZhW 8 ((List.length f:Nat):Int) ((List.length f:Nat):Int) (0:Int)=some (List.replicate f.length 0):=by
   unfold ZhW
   rw [Z0 (by omega)]
   simp
  rw [hm,ZS]
  rw [ZjC (λk (s:List Int)=>(k,s)) (·.1) (λ_ _=>rfl) (body:=λx:Int×(List Int)=>Zbz N p f x.1 x.2) (step:=ZfH p f) (n:=f.length) (s0:=List.replicate f.length 0) (bad:=.inr false) (fin:=λs=>.inl s) (λk s hk hs=>by
    have hsl:s.length=f.length:=by
     rw [Zjc] at hs
     by_cases q:allB k (ZaU p f)=true
     ·rw [Z0 q,ZU] at hs
      subst hs
      rw [ZdC];simp
     rw [ZZ q] at hs;cases hs
    simp only [Zbz]
    rw [Z0 (by simpa using hk),Zcn hk,ZS]
    unfold ZfH
    have hb:=ha _ (List.getElem_mem hk)
    by_cases c0:0<=f[k].Stream
    ·by_cases c1:f[k].Stream<(p.Periods.length:Int)
     ·rw [ZZ (by simpa using c0),ZZ (by simpa using c1),Zir hk c0 c1 hb.1 hb.2,ZS,ZS,ZcE hk,decide_eq_true (show 0<=f[k].Stream/\f[k].Stream<(p.Periods.length:Int) from ⟨c0,c1⟩),Zi]
      cases h2:Zd6 p.Periods.length f.length k (p.Periods.getD f[k].Stream.toNat 0) f[k].Arms with
      | false=>rfl
      | true =>
       have hch:ZaU p f k=true:=by rw [ZcE hk,decide_eq_true (show 0<=f[k].Stream/\f[k].Stream<(p.Periods.length:Int) from ⟨c0,c1⟩),h2];rfl
       simp only [Bool.not_true,Zf,ZY,Z1]
       rw [Zmq hch hsl ha (Zw hk),ZS,Zbj (by omega)]
     rw [ZZ (by simpa using c0),Z0 (by simpa using c1),ZS,Z0 rfl,ZcE hk,decide_eq_false (by omega)]
     rfl
    rw [Z0 (by simpa using c0),ZS,Z0 rfl,ZcE hk,decide_eq_false (by omega)]
    rfl) (λs _=>by simp [Zbz]) hf,ZS,Zjc]
  cases hall:allB f.length (ZaU p f) with
  | false=>rfl
  | true =>
   simp only [Z1,Zi]
   have hnl:=ZdC f (List.replicate f.length 0) f.length
   rw [List.length_replicate] at hnl
   obtain ⟨nm,hnm⟩:∃ nm,nm=Zdl f f.length (List.replicate f.length 0):=⟨_,rfl⟩
   rw [← hnm] at hnl ⊢
   have hsub:subI nm 1 ((List.length nm:Nat):Int)=some (nm.drop 1):=by
    unfold subI
    rw [Z0 (by omega)]
    simp
   rw [hsub,ZS]
   rw [Ze9 (l:=nm.drop 1) (p:=λx=>x==1) (bad:=.inr false) (fin:=.inl ()) (λk hk=>?_) (by simp [ZbM]) (by rw [List.length_drop];omega),ZS]
   ·cases (nm.drop 1).all λx=>x==1<;>rfl
   simp only [ZbM]
   rw [Z0 (by simpa using hk),Zcn hk,ZS,Zbj (by rw [List.length_drop] at hk;omega)]
   by_cases e:(nm.drop 1)[k]=1
   ·rw [ZZ (by simpa using e),Z0 (by simpa using e)]
   rw [Z0 (by simpa using e),ZZ (by simpa using e)]
 rw [Z0 (by simp;omega),decide_eq_false h1]
 rfl
end
end Go.Sh

namespace Go.Sh
open Go Go.Eng
def ZjR:List Int:=[4,6,8,12,3,5,10,24]
theorem Zja:∀ x∈ZjR,3<=x/\x<=24/\x.toNat∣120:=by decide
structure GP (p:Z5):Prop where
 prob:Zd5 p=true
 len:p.Periods.length<=5
 uses:p.Uses.length<=12
 tab:∀ x∈p.Periods,x∈ZjR
 port:∀ u∈p.Uses,u.Port<4
theorem ZkN {α:Type}{b:Nat}{l:List α}{x:α}(hl:l.length<=1000)(hb:b<=1000):appI b l [x]=some (l++[x]):=by
 refine ZbQ ?_ (by omega)
 simp;omega
theorem ZeA {N:Nat}(hN:2000<=N){d:Zbx}(hd:Zd7 d):∃ p,Zbw N d=some p/\GP p:=by
 obtain ⟨⟨_,d1⟩,⟨_,d2⟩⟩:=hd
 unfold Zbw
 obtain ⟨P,hP,P1,P2⟩:=ZcX (body:=λx:Int×(List Int)=>ZaY N d x.1 x.2) (λx=>0<=x.1/\x.1<=5/\(x.2.length:Int)=x.1/\∀ q∈x.2,q∈ZjR) (λx=>(5-x.1).toNat) (λl=>l.length<=5/\∀ q∈l,q∈ZjR) (λx hx=>by
  obtain ⟨i,l⟩:=x
  obtain ⟨i0,i1,i2,i3⟩:=hx
  simp only at i0 i1 i2 i3
  simp only [ZaY]
  by_cases c:i<(d.Periods.length:Int)/\i<5
  ·left
   obtain ⟨k,rfl⟩:∃ k:Nat,i=k:=⟨i.toNat,by omega⟩
   have hk:k<d.Periods.length:=by omega
   have hb:0<=d.Periods[k]/\d.Periods[k]<=255:=(d1 _ (List.getElem_mem hk)).u8
   have hm0:=Int.emod_nonneg d.Periods[k] (show (8:Int)≠0 by decide)
   have hm1:=Int.emod_lt_of_pos d.Periods[k] (show (0:Int)<8 by decide)
   have ht:(d.Periods[k]%8).toNat<ZjR.length:=by simp [ZjR];omega
   refine ⟨(((k+1:Nat):Int),l++[ZjR[(d.Periods[k]%8).toNat]]),?_,⟨by omega,by omega,by simp;omega,λq hq=>?_⟩,by omega⟩
   ·rw [Z0 (by simp;omega),Zcn hk,ZS,Zj hb.1,show ([4,6,8,12,3,5,10,24]:List Int)=ZjR from rfl,Znh hm0 ht,ZS,ZkN (by omega) (by omega),ZS,Zbj (by omega)]
   rcases List.mem_append.1 hq with q1|q1
   ·exact i3 q q1
   simp only [ZN] at q1
   subst q1
   exact List.getElem_mem ht
  right
  refine ⟨l,?_,by omega,i3⟩
  rw [ZZ (by simp;omega)]) N (0,[]) ⟨by omega,by omega,rfl,by simp⟩ (by simp;omega)
 rw [hP,ZS]
 have hper:P.all perB=true:=List.all_eq_true.2 λq hq=>by
  have:=Zja q (P2 q hq)
  exact Zg6.2 (by omega)
 obtain ⟨U,hU,U1,U2⟩:=ZcX (body:=λx:Int×(List Zaz)=>ZaX N d P x.1 x.2) (λx=>0<=x.1/\x.1<=12/\(x.2.length:Int)=x.1/\∀ u∈x.2,useB P u=true/\u.Port<4) (λx=>(12-x.1).toNat) (λl=>l.length<=12/\∀ u∈l,useB P u=true/\u.Port<4) (λx hx=>by
  obtain ⟨i,l⟩:=x
  obtain ⟨i0,i1,i2,i3⟩:=hx
  simp only at i0 i1 i2 i3
  simp only [ZaX]
  by_cases c:i<(d.Uses.length:Int)/\i<12/\0<P.length
  ·left
   obtain ⟨c1,c2,c3⟩:=c
   obtain ⟨k,rfl⟩:∃ k:Nat,i=k:=⟨i.toNat,by omega⟩
   have hk:k<d.Uses.length:=by omega
   obtain ⟨b0,b1,b2,b3⟩:=d2 _ (List.getElem_mem hk)
   have b0:0<=d.Uses[k].x0/\d.Uses[k].x0<=255:=b0.u8
   have b1:0<=d.Uses[k].x1/\d.Uses[k].x1<=255:=b1.u8
   have b2:0<=d.Uses[k].x2/\d.Uses[k].x2<=255:=b2.u8
   have b3:0<=d.Uses[k].x3/\d.Uses[k].x3<=255:=b3.u8
   have s0:=Int.emod_nonneg d.Uses[k].x0 (show (P.length:Int)≠0 by omega)
   have s1:=Int.emod_lt_of_pos d.Uses[k].x0 (show 0<(P.length:Int) by omega)
   have hn:(d.Uses[k].x0%(P.length:Int)).toNat<P.length:=by omega
   obtain ⟨n,en⟩:∃ n,n=P[(d.Uses[k].x0%(P.length:Int)).toNat]:=⟨_,rfl⟩
   have hn3:=Zja n (P2 n (by rw [en];exact List.getElem_mem hn))
   have f0:=Int.emod_nonneg d.Uses[k].x2 (show n≠0 by omega)
   have f1:=Int.emod_lt_of_pos d.Uses[k].x2 (show 0<n by omega)
   have g0:=Int.emod_nonneg d.Uses[k].x3 (show n≠0 by omega)
   have g1:=Int.emod_lt_of_pos d.Uses[k].x3 (show 0<n by omega)
   have g2:=Int.emod_nonneg (d.Uses[k].x3%n) (show (4:Int)≠0 by decide)
   have g3:=Int.emod_lt_of_pos (d.Uses[k].x3%n) (show (0:Int)<4 by decide)
   have g4:=Int.emod_nonneg (d.Uses[k].x3%n%4) (show n≠0 by omega)
   have g5:=Int.emod_lt_of_pos (d.Uses[k].x3%n%4) (show 0<n by omega)
   have p0:=Int.emod_nonneg d.Uses[k].x1 (show (4:Int)≠0 by decide)
   have p1:=Int.emod_lt_of_pos d.Uses[k].x1 (show (0:Int)<4 by decide)
   refine ⟨(((k+1:Nat):Int),l++[⟨d.Uses[k].x0%P.length,d.Uses[k].x1%4,d.Uses[k].x2%n,1+d.Uses[k].x3%n%4%n⟩]),?_,⟨by omega,by omega,by simp;omega,λu hu=>?_⟩,by omega⟩
   ·rw [Z0 (by simp;omega),Z0 (by simp;omega)]
    simp only [ZS]
    rw [Z0 (by simp;omega),Zcn hk,ZS,Za9 (by omega) (by omega),ZbJ (by omega),ZS,Zj b0.1,Znh s0 hn,ZS,← en,
     Za9 (x:=d.Uses[k].x2) (by omega) (by omega),ZbJ (by omega),ZS,Za9 (x:=d.Uses[k].x3) (by omega) (by omega),ZbJ (by omega),ZS,ZbJ (by omega),ZS,
     Zj b1.1,Zj b2.1,Zj b3.1,Zj g0,Zj g2,Za9 (x:=d.Uses[k].x1%4) (by omega) (by omega),Za9 (x:=1+_) (by omega) (by omega),ZkN (by omega) (by omega),ZS,Zbj (by omega)]
   rcases List.mem_append.1 hu with q1|q1
   ·exact i3 u q1
   simp only [ZN] at q1
   subst q1
   refine ⟨ZfF.2 ?_,p1⟩
   unfold perU
   simp only
   rw [Za5 hn,← en]
   omega
  right
  refine ⟨l,?_,by omega,i3⟩
  by_cases c1:i<(d.Uses.length:Int)
  ·rw [Z0 (by simpa using c1)]
   by_cases c2:i<12
   ·rw [Z0 (by simpa using c2),ZS,ZZ (by rw [ZX];omega)]
   rw [ZZ (by simpa using c2),ZS,ZZ (by simp)]
  rw [ZZ (by simpa using c1),ZS,ZZ (by simp)]) N (0,[]) ⟨by omega,by omega,rfl,by simp⟩ (by simp;omega)
 rw [hU,ZS]
 refine ⟨_,rfl,?_,P1,U1,P2,λu hu=>(U2 u hu).2⟩
 rw [Zkd]
 refine ⟨by show P.length<=12;omega,by show U.length<=192;omega,hper,List.all_eq_true.2 λu hu=>(U2 u hu).1,?_⟩
 have hdv:lcmL P∣120:=Zkt.2 λq hq=>(Zja q (P2 q hq)).2.2
 have:=Nat.le_of_dvd (by decide) hdv
 show lcmL P<=960
 omega
end Go.Sh
namespace Go.Sh
open Go Go.Eng
theorem ZkO (n:Nat)(p:Nat->Bool):allB (n+1) p=(allB n p&&p n):=by
 unfold allB
 rw [List.range_succ,List.all_append]
 simp
theorem Zhp {p:Z5}(h:VP p){u:Zaz}(hu:u∈p.Uses){i:Nat}(hi:u.Stream=(i:Int))(x by_:Int):Zc1 p u ((x+by_)%p.Periods.getD i 0)=shift (Zc1 p u x) by_:=by
 have e:perU p.Periods u=p.Periods.getD i 0:=by unfold perU;rw [hi];simp
 unfold Zc1 shift
 simp only [← e]
 congr 1
 rw [Int.emod_add_emod,Int.add_emod_emod,Int.add_assoc]
theorem Zk8 {p:Z5}(h:VP p)(i j:Nat)(a b by_:Int):Zcx p i ((a+by_)%p.Periods.getD i 0) j ((b+by_)%p.Periods.getD j 0)=Zcx p i a j b:=by
 unfold Zcx
 congr 1
 refine ZiX λk hk=>ZiX λm hm=>?_
 congr 1
 unfold hitB
 rw [Za5 hk,Za5 hm,Bool.eq_iff_iff]
 simp only [Ze,ZX,beq_iff_eq,Zg,decide_eq_false_iff_not]
 refine and_congr_right λ_=>and_congr_right λc=>and_congr_right λd=>and_congr_right λ_=>?_
 rw [Zhp h (List.getElem_mem hk) c,Zhp h (List.getElem_mem hm) d,ZmS (h.vspan (List.getElem_mem hk) a) (h.vspan (List.getElem_mem hm) b)]
end Go.Sh
namespace Go.Sh
open Go Go.Eng
theorem Zm8 {κ υ:Type}[DecidableEq κ](m:List (κ×υ))(x y:κ)(v:υ):Zem (Zfx m x v) y=if x=y then some v else Zem m y:=by
 induction m with
 | nil =>
  unfold Zfx Zem
  by_cases h:x=y<;>simp [h]
 | cons q m ih =>
  unfold Zfx
  by_cases h:q.1=x
  ·rw [Z0 h]
   unfold Zem
   rw [List.find?_cons,List.find?_cons]
   by_cases e:x=y
   ·simp [e]
   simp [e,h]
  rw [ZZ h]
  have e1:Zem (q::Zfx m x v) y=if q.1=y then some q.2 else Zem (Zfx m x v) y:=by
   unfold Zem
   rw [List.find?_cons]
   by_cases e:q.1=y<;>simp [e]
  have e2:Zem (q::m) y=if q.1=y then some q.2 else Zem m y:=by
   unfold Zem
   rw [List.find?_cons]
   by_cases e:q.1=y<;>simp [e]
  rw [e1,e2,ih]
  by_cases e:q.1=y
  ·rw [Z0 e,Z0 e,ZZ (λe3=>h (by rw [e,e3]))]
  rw [ZZ e,ZZ e]
section
variable {N:Nat} {p:Z5}
def MOK (p:Z5)(m:List (Zag×Bool)):Prop:=∀ k b,Zem m k=some b->b=(ZdL p k.i k.x_ k.j 0).1
theorem MOK.nil:MOK p []:=λk b h=>by simp [Zem] at h
theorem MOK.set {m:List (Zag×Bool)}(h:MOK p m)(k:Zag):MOK p (Zfx m k (ZdL p k.i k.x_ k.j 0).1):=λk' b hb=>by
 rw [Zm8] at hb
 by_cases e:k=k'
 ·rw [Z0 e,ZU] at hb
  rw [← hb,e]
 rw [ZZ e] at hb
 exact h k' b hb
theorem Zka {x y per:Int}(hp:1<=per)(hp2:per<=1000)(hx:0<=x)(hx2:x<=1000)(hy:0<=y)(hy2:y<=1000):Zea N (w64 (x-y)) per=some ((x-y)%per):=by
 unfold Zea
 have h1:=Int.lt_tmod_of_pos (x-y) (show 0<per by omega)
 have h2:=Int.tmod_lt_of_pos (x-y) (show 0<per by omega)
 rw [Za9 (x:=x-y) (by omega) (by omega),ZbJ (by omega),ZS,Za9 (by omega) (by omega),ZbJ (by omega),ZS,Zi7 (by omega)]
theorem Zoi (hN:2000<=N)(hp:Zd5 p=true){r:List (Zag×Bool)}{m:List (Zag×Bool)}(hm:MOK p m){i j:Nat}{x y:Int}(hi:offB p i x=true)(hj:offB p j y=true)(hij:i=j->x=y) :
  ∃ m',Zbi N (p,r) m i x j y=some (m',Zcx p i x j y)/\MOK p m':=by
 have h:=VP.of hp
 obtain ⟨i0,i1,x0,x1⟩:=Zdb.1 hi
 obtain ⟨j0,j1,y0,y1⟩:=Zdb.1 hj
 have xl:=ZhQ h hi;have yl:=ZhQ h hj
 have hpi:p.Periods.getD i 0∈p.Periods:=by rw [Za5 (by omega)];exact List.getElem_mem _
 have hpj:p.Periods.getD j 0∈p.Periods:=by rw [Za5 (by omega)];exact List.getElem_mem _
 have pi:=h.per _ hpi;have pj:=h.per _ hpj
 simp only [Zk] at x1 y1
 obtain ⟨q,hq⟩:∃ q,q=(x-y)%p.Periods.getD i 0:=⟨_,rfl⟩
 have q0:0<=q:=by rw [hq];exact Int.emod_nonneg _ (by omega)
 have q1:q<p.Periods.getD i 0:=by rw [hq];exact Int.emod_lt_of_pos _ (by omega)
 have ec:ZdL p i q j 0=(Zcx p i x j y,0):=by
  unfold ZdL
  have ea:argB p i q j 0=true:=by
   unfold argB
   have o1:offB p i q=true:=Zdb.2 ⟨by omega,by omega,q0,by rw [Zk];exact q1⟩
   have o2:offB p j 0=true:=Zdb.2 ⟨by omega,by omega,by omega,by rw [Zk];omega⟩
   rw [o1,o2]
   by_cases e:i=j
   ·have:=hij e
    have hz:q=0:=by rw [hq,this];simp
    simp [hz]
   have:¬ ((i:Int)=(j:Int)):=by omega
   simp [this]
  rw [Z0 hp,Z0 ea]
  congr 1
  have:=Zk8 h i j x y (-y)
  rw [show y + -y=0 by omega,Int.zero_emod,show x + -y=x-y by omega,← hq] at this
  exact this
 unfold Zbi
 simp only
 rw [show idx p.Periods ((i:Nat):Int)=some (p.Periods.getD i 0) by rw [Zcn (by omega),Za5 (by omega)],ZS,Zka pi.1 (by omega) x0 (by omega) y0 (by omega),ZS,← hq]
 cases hg:Zem m (Zag.mk i q j) with
 | some b =>
  have hb:=hm _ _ hg
  simp only [ec] at hb
  refine ⟨m,?_,hm⟩
  unfold mhas Zm9
  rw [hg]
  simp [hb]
 | none =>
  refine ⟨Zfx m (Zag.mk i q j) (ZdL p i q j 0).1,?_,hm.set (Zag.mk i q j)⟩
  unfold mhas
  rw [hg,Z0 (by simp),Zg2 hN,ec]
  rfl
end
end Go.Sh

namespace Go.Sh
open Go Go.Eng
section
variable {N:Nat} {p:Z5}
def AOK (p:Z5)(g:Z8):Prop:=∀ k:Nat,k<p.Periods.length->g.l.getD k 0 = -1∨offB p k (g.l.getD k 0)=true
theorem Zdn (g:Z8){k:Nat}(h:k<12):g.get (k:Int)=some (g.l.getD k 0):=by
 have hl:g.l.length=12:=rfl
 unfold Z8.get
 rw [Zcn (by omega),Za5 (by omega)]
theorem Zf3 (g:Z8)(k j:Nat)(x:Int)(h:k<12):(g.set k x).l.getD j 0=if j=k then x else g.l.getD j 0:=by
 have hl:g.l.length=12:=rfl
 rw [Z8.l_set,Zk]
 simp only [Zq,Zz]
 by_cases e:k=j
 ·subst e
  rw [Z0 rfl,Z0 (by omega),Z0 rfl]
  rfl
 rw [ZZ e,ZZ (Ne.symm e)]
theorem AOK.set {g:Z8}(h:AOK p g)(hP:p.Periods.length<=12){s:Nat}(hs:s<p.Periods.length){x:Int}(hx:offB p s x=true):AOK p (g.set s x):=λk hk=>by
 rw [Zf3 g s k x (by omega)]
 by_cases e:k=s
 ·subst e;rw [Z0 rfl];exact .inr hx
 rw [ZZ e];exact h k hk
def othO (g:Z8)(s b:Nat)(x:Int):Int:=if b=s then x else g.l.getD b 0
def refB (p:Z5)(s:Nat)(g:Z8)(a:Zak):Bool :=
 (decide (a.By.toNat=s) || !(g.l.getD a.By.toNat 0 == -1))&&allB (a.To-a.From).toNat λk=>Zcx p s (a.From+k) a.By.toNat (othO g s a.By.toNat (a.From+k))
structure ZnO (p:Z5) (s:Nat) (a:Zak):Prop where
 f0:0<=a.From
 lt:a.From<a.To
 le:a.To<=p.Periods.getD s 0
theorem Zjw {s:Nat}{a:Zak}(ha:ZnO p s a)(hs:s<p.Periods.length){k:Nat}(hk:k<(a.To-a.From).toNat):offB p s (a.From+k)=true:=by
 have:=ha.f0;have:=ha.lt;have:=ha.le
 exact Zdb.2 ⟨by omega,by omega,by omega,by rw [Zk];omega⟩
theorem ZgZ (hN:2000<=N)(hp:Zd5 p=true){r m:List (Zag×Bool)}(hm:MOK p m){s:Nat}(hs:s<p.Periods.length){a:Zak}(ha:ZnO p s a)(b0:0<=a.By)(b1:a.By<(p.Periods.length:Int)){g:Z8}(hg:AOK p g) :
  ∃ m',ZcN N (λ(s:(List (Zag×Bool))) (x2578:Int) (x2579:Int) (x2580:Int) (x2581:Int)=>Zbi N (p,r) s x2578 x2579 x2580 x2581) (s:Int) g a m=some (m',refB p s g a)/\MOK p m':=by
 have h:=VP.of hp
 have hP:=h.len
 obtain ⟨b,hb⟩:∃ b:Nat,a.By=b:=⟨a.By.toNat,by omega⟩
 have f0:=ha.f0;have lt:=ha.lt;have le:=ha.le
 have hps:p.Periods.getD s 0∈p.Periods:=by rw [Za5 hs];exact List.getElem_mem _
 have ps:=h.per _ hps
 have hbn:a.By.toNat=b:=by omega
 unfold ZcN refB
 rw [hbn]
 by_cases none1:a.By≠s/\g.l.getD b 0 = -1
 ·have e1:(decide (b=s) || !(g.l.getD b 0 == -1))=false:=by
   rw [decide_eq_false (by omega),none1.2];rfl
  rw [e1,Bool.false_and]
  refine ⟨m,?_,hm⟩
  rw [Z0 (by simpa using none1.1),hb,Zdn g (by omega),ZS,none1.2]
  rfl
 have e1:(decide (b=s) || !(g.l.getD b 0 == -1))=true:=by
  by_cases q:b=s
  ·simp [q]
  have:¬ g.l.getD b 0 = -1:=λe=>none1 ⟨by omega,e⟩
  rw [beq_eq_false_iff_ne.2 this];simp
 rw [e1,Zi]
 have e2:(if (a.By != (s:Int))=true then ((g.get a.By).bind λe2=>(some (e2==(-1)))) else (some false))=some false:=by
  by_cases q:a.By=s
  ·rw [ZZ (by simpa using q)]
  rw [Z0 (by simpa using q),hb,Zdn g (by omega),ZS]
  have:¬ g.l.getD b 0 = -1:=λe=>none1 ⟨q,e⟩
  rw [beq_eq_false_iff_ne.2 this]
 rw [e2,ZS,ZZ (by simp)]
 obtain ⟨n,hn⟩:∃ n,n=(a.To-a.From).toNat:=⟨_,rfl⟩
 rw [← hn]
 obtain ⟨o,ho,eo⟩:=ZcX (body:=λx:Int×(List (Zag×Bool))=>ZbC N (λ(s:(List (Zag×Bool))) (x2578:Int) (x2579:Int) (x2580:Int) (x2581:Int)=>Zbi N (p,r) s x2578 x2579 x2580 x2581) (s:Int) g a x.1 x.2)
  (λx=>∃ k:Nat,x.1=a.From+k/\k<=n/\MOK p x.2/\allB k (λk=>Zcx p s (a.From+k) b (othO g s b (a.From+k)))=true) (λx=>(a.To-x.1).toNat)
  (λo=>∃ m',MOK p m'/\((o=.inl m'/\allB n (λk=>Zcx p s (a.From+k) b (othO g s b (a.From+k)))=true)∨(o=.inr (m',false)/\allB n (λk=>Zcx p s (a.From+k) b (othO g s b (a.From+k)))=false))) (λx hx=>by
   obtain ⟨i,m1⟩:=x
   obtain ⟨k,k1,k2,k3,k4⟩:=hx
   simp only at k1 k3
   subst k1
   simp only [ZbC]
   by_cases c:k<n
   ·rw [Z0 (by simp;omega),hb,Zdn g (by omega),ZS]
    have hx:=Zjw ha hs (k:=k) (by omega)
    have ej:(if ((b:Int)==(s:Int))=true then (some (a.From+(k:Int))) else (some (g.l.getD b 0)))=some (othO g s b (a.From+k)):=by
     unfold othO
     by_cases q:b=s
     ·rw [Z0 (by rw [beq_iff_eq];omega),Z0 q]
     rw [ZZ (by rw [beq_iff_eq];omega),ZZ q]
    rw [ej,ZS]
    have hy:offB p b (othO g s b (a.From+k))=true:=by
     unfold othO
     by_cases q:b=s
     ·rw [Z0 q,q];exact hx
     rw [ZZ q]
     rcases hg b (by omega) with e|e
     ·exact absurd ⟨by omega,e⟩ none1
     exact e
    obtain ⟨m2,hm2,hk2⟩:=Zoi (N:=N) hN hp (r:=r) k3 hx hy (λe=>by unfold othO;rw [Z0 e.symm])
    rw [hm2,ZS]
    cases hme:Zcx p s (a.From+k) b (othO g s b (a.From+k)) with
    | true =>
     left
     refine ⟨(a.From+((k+1:Nat):Int),m2),?_,⟨k+1,rfl,by omega,hk2,by rw [ZkO,k4,hme];rfl⟩,by simp only;omega⟩
     rw [ZZ (by simp),Za9 (by omega) (by omega)]
     congr 3
     omega
    | false =>
     right
     refine ⟨_,by rw [Z0 (by simp)],m2,hk2,.inr ⟨rfl,?_⟩⟩
     cases hq:allB n (λk=>Zcx p s (a.From+k) b (othO g s b (a.From+k))) with
     | false=>rfl
     | true=>have:=ZcY.1 hq k c;rw [hme] at this;cases this
   right
   obtain rfl:k=n:=by omega
   exact ⟨.inl m1,by rw [ZZ (by simp;omega)],m1,k3,.inl ⟨rfl,k4⟩⟩) N (a.From,m) ⟨0,by simp,by omega,hm,by simp [allB]⟩ (by simp only;omega)
 obtain ⟨m',hm',h1|h1⟩:=eo
 ·obtain ⟨rfl,h2⟩:=h1
  exact ⟨m',by rw [ho,ZS,h2],hm'⟩
 obtain ⟨rfl,h2⟩:=h1
 exact ⟨m',by rw [ho,ZS,h2],hm'⟩
end
end Go.Sh

namespace Go.Sh
open Go Go.Eng
section
variable {N:Nat} {p:Z5}
theorem Zjm (hN:2000<=N)(hp:Zd5 p=true){s:Nat}(hs:s<p.Periods.length){e1:Z4}(hst:e1.Stream=s){a:Zak}(ha:ZnO p s a)(b0:0<=a.By)(b1:a.By<(p.Periods.length:Int)){g:Z8}(hg:AOK p g) :
  ZaS (λx:Int=>Zb4 N p g e1 a x) N a.From=some (if refB p s g a=true then .inl () else .inr false):=by
 have h:=VP.of hp
 have hP:=h.len
 obtain ⟨b,hb⟩:∃ b:Nat,a.By=b:=⟨a.By.toNat,by omega⟩
 have f0:=ha.f0;have lt:=ha.lt;have le:=ha.le
 have hps:p.Periods.getD s 0∈p.Periods:=by rw [Za5 hs];exact List.getElem_mem _
 have ps:=h.per _ hps
 have hbn:a.By.toNat=b:=by omega
 obtain ⟨n,hn⟩:∃ n,n=(a.To-a.From).toNat:=⟨_,rfl⟩
 have hget:g.get a.By=some (g.l.getD b 0):=by rw [hb,Zdn g (by omega)]
 have ej:∀ i:Int,(if (a.By==e1.Stream)=true then (some i) else (some (g.l.getD b 0)))=some (othO g s b i):=λi=>by
  unfold othO
  by_cases q:b=s
  ·rw [Z0 (by rw [beq_iff_eq];omega),Z0 q]
  rw [ZZ (by rw [beq_iff_eq];omega),ZZ q]
 by_cases none1:a.By≠s/\g.l.getD b 0 = -1
 ·have e2:refB p s g a=false:=by
   unfold refB
   rw [hbn,decide_eq_false (by omega),none1.2];rfl
  rw [e2,ZZ (by simp)]
  obtain ⟨N',rfl⟩:∃ N',N=N'+1:=⟨N-1,by omega⟩
  refine Zbb ?_
  simp only [Zb4]
  have eo:othO g s b a.From = -1:=by unfold othO;rw [ZZ (by omega),none1.2]
  rw [Z0 (by simp only [Ze,ZX];omega),hget,ZS,ej,ZS,eo,Z0 (by decide),ZS,Z0 rfl]
 have e1':(decide (b=s) || !(g.l.getD b 0 == -1))=true:=by
  by_cases q:b=s
  ·simp [q]
  have:¬ g.l.getD b 0 = -1:=λe=>none1 ⟨by omega,e⟩
  rw [beq_eq_false_iff_ne.2 this];simp
 have er:refB p s g a=allB n (λk=>Zcx p s (a.From+k) b (othO g s b (a.From+k))):=by
  unfold refB
  rw [hbn,e1',Zi,hn]
 rw [er]
 obtain ⟨o,ho,eo⟩:=ZcX (body:=λx:Int=>Zb4 N p g e1 a x)
  (λx=>∃ k:Nat,x=a.From+k/\k<=n/\allB k (λk=>Zcx p s (a.From+k) b (othO g s b (a.From+k)))=true) (λx=>(a.To-x).toNat)
  (λo=>o=if allB n (λk=>Zcx p s (a.From+k) b (othO g s b (a.From+k)))=true then .inl () else .inr false) (λx hx=>by
   obtain ⟨k,rfl,k2,k4⟩:=hx
   simp only [Zb4]
   by_cases c:k<n
   ·rw [Z0 (by simp only [Ze,ZX];omega),hget,ZS,ej,ZS]
    have hx:=Zjw ha hs (k:=k) (by omega)
    have hy:offB p b (othO g s b (a.From+k))=true:=by
     unfold othO
     by_cases q:b=s
     ·rw [Z0 q,q];exact hx
     rw [ZZ q]
     rcases hg b (by omega) with e|e
     ·exact absurd ⟨by omega,e⟩ none1
     exact e
    have xl:=ZhQ h hx;have yl:=ZhQ h hy
    rw [ZZ (by rw [ZX];omega),hst,hb,Zfk hN h (by omega) (by omega) (by omega) (by omega),ZS,ZS]
    cases hme:Zcx p s (a.From+k) b (othO g s b (a.From+k)) with
    | true =>
     left
     refine ⟨a.From+((k+1:Nat):Int),?_,⟨k+1,rfl,by omega,by rw [ZkO,k4,hme];rfl⟩,by omega⟩
     rw [ZZ (by simp),Za9 (by omega) (by omega)]
     congr 2
     omega
    | false =>
     right
     refine ⟨_,by rw [Z0 (by simp)],?_⟩
     cases hq:allB n (λk=>Zcx p s (a.From+k) b (othO g s b (a.From+k))) with
     | false=>rfl
     | true=>have:=ZcY.1 hq k c;rw [hme] at this;cases this
   right
   obtain rfl:k=n:=by omega
   exact ⟨.inl (),by rw [ZZ (by simp only [Ze,ZX];omega)],by rw [k4,Z0 rfl]⟩) N a.From ⟨0,by simp,by omega,by simp [allB]⟩ (by omega)
 rw [ho,eo]
end
end Go.Sh

namespace Go.Sh
open Go Go.Eng
section
variable {N:Nat} {p:Z5} {f:List Z4}
theorem Zfn {nP len c per:Int}{l:List Zak}:∀ {k:Nat} {e:Int},upF (ZaQ nP len c per l) k 0=some e->0<=e
 | 0,e,h=>by simp only [upF,ZU] at h;omega
 | k+1,e,h=>by
  simp only [upF] at h
  obtain ⟨s,h1,h2⟩:=bind_some h
  have:=Zfn h1
  unfold ZaQ at h2
  obtain ⟨a,h3,h4⟩:=bind_some h2
  by_cases q:Zer nP len c per s a=true
  ·rw [Z0 q,ZU] at h4
   obtain ⟨a1,a2,_⟩:=ZcG q
   omega
  rw [ZZ q] at h4;cases h4
theorem ZkL {c:Nat}(h:ZaU p f c=true):∃ (hc:c<f.length) (s:Nat),f[c].Stream=s/\s<p.Periods.length/\∀ a∈f[c].Arms,ZnO p s a/\Zbm p.Periods.length f.length c a=true:=by
 obtain ⟨hc,h0,h1,h2⟩:=Zc9 h
 refine ⟨hc,f[c].Stream.toNat,by omega,by omega,λa ha=>?_⟩
 have hr:=ZeW h2 a ha
 refine ⟨?_,hr⟩
 obtain ⟨k,hk,rfl⟩:=List.getElem_of_mem ha
 unfold Zd6 at h2
 cases hu:upF (ZaQ p.Periods.length f.length c (p.Periods.getD f[c].Stream.toNat 0) f[c].Arms) f[c].Arms.length 0 with
 | none=>rw [hu] at h2;cases h2
 | some s =>
  obtain ⟨s1,s2,h3,h4⟩:=Zhi hu k hk
  have:=Zfn h3
  unfold ZaQ at h4
  rw [Zw hk,ZS] at h4
  by_cases q:Zer p.Periods.length f.length c (p.Periods.getD f[c].Stream.toNat 0) s1 f[c].Arms[k]=true
  ·obtain ⟨a1,a2,a3,_⟩:=ZcG q
   exact ⟨by omega,a2,a3⟩
  rw [ZZ q] at h4;cases h4
def armH (p:Z5)(s:Nat)(g:Z8)(rec_:Nat->Z8->Bool)(a:Zak):Bool :=
 if a.By = -1 then rec_ a.Next.toNat (g.set s a.From) else if 0<=a.By then refB p s g a else true
def hB (p:Z5)(f:List Z4):Nat->Nat->Z8->Bool
 | 0,_,_=>false
 | n+1,c,g=>match f[c]? with
  | none=>false
  | some x=>(g.l.getD x.Stream.toNat 0 == -1)&&x.Arms.all (armH p x.Stream.toNat g (hB p f n))
theorem ZjD (hp:Zd5 p=true)(hall:∀ c,c<f.length->ZaU p f c=true){M:Nat}(hM:2000<=M)(ha:∀ x∈f,x.Arms.length<1000000/\x.Arms.length<M) :
  ∀ (n N c:Nat) (g:Z8),c<f.length->f.length-c<=n->M+n<=N->AOK p g->Zfu N p f c g=some (hB p f n c g)
 | 0,_,c,_,h1,h2,_,_=>by omega
 | n+1,0,c,g,h1,h2,h3,hg=>by omega
 | n+1,N+1,c,g,h1,h2,h3,hg=>by
  have hP:=(VP.of hp).len
  obtain ⟨hc,s,hs,hsl,harm⟩:=ZkL (hall c h1)
  have hb:=ha _ (List.getElem_mem hc)
  have hst:f[c].Stream.toNat=s:=by omega
  show Zek N (Zfu N) p f (c:Int) g=_
  unfold Zek hB
  rw [Zw hc]
  simp only
  rw [Zcn hc,ZS,hs,Zdn g (by omega),ZS,Zk]
  by_cases hz:g.l.getD s 0 = -1
  ·rw [ZZ (by rw [ZX];omega),beq_iff_eq.2 hz,Zi]
   rw [Ze9 (l:=f[c].Arms) (p:=armH p s g (hB p f n)) (bad:=.inr false) (fin:=.inl ()) (λk hk=>?_) (by simp [Zd4,Zcn hc]) (by omega),ZS]
   ·cases f[c].Arms.all (armH p s g (hB p f n))<;>rfl
   obtain ⟨hok,hre⟩:=harm _ (List.getElem_mem hk)
   have f0:=hok.f0;have lt:=hok.lt;have le:=hok.le
   simp only [Zd4]
   rw [Zcn hc,ZS,Z0 (by simpa using hk),ZS,Zcn hk,ZS,Zbj (by omega)]
   unfold armH
   by_cases b:f[c].Arms[k].By = -1
   ·rw [Z0 (by simpa using b),Z0 b,hs,Zdn g (by omega),ZS]
    unfold Zbm at hre
    rw [Z0 b,ZX] at hre
    have hset:AOK p (g.set s f[c].Arms[k].From):=hg.set hP hsl (by have:=Zjw hok hsl (k:=0) (by omega);simpa using this)
    have hi:=ZjD hp hall hM ha n N f[c].Arms[k].Next.toNat (g.set s f[c].Arms[k].From) (by omega) (by omega) (by omega) hset
    rw [Zl (by omega)] at hi
    rw [hi,ZS]
    cases hB p f n f[c].Arms[k].Next.toNat (g.set s f[c].Arms[k].From)<;>rfl
   rw [ZZ (by simpa using b),ZZ b]
   by_cases b2:0<=f[c].Arms[k].By
   ·have b3:f[c].Arms[k].By<(p.Periods.length:Int):=by
     unfold Zbm at hre
     rw [ZZ b] at hre
     by_cases q:f[c].Arms[k].Next=0
     ·rw [Z0 q,ZZ (by omega),ZX] at hre;exact hre.2
     rw [ZZ q] at hre;cases hre
    rw [Z0 b2,Zjm (by omega) hp hsl hs hok b2 b3 hg,ZS]
    cases refB p s g f[c].Arms[k]<;>rfl
   rw [ZZ b2]
   obtain ⟨N',rfl⟩:∃ N',N=N'+1:=⟨N-1,by omega⟩
   rw [Zbb (r:=.inl ()) (by simp only [Zb4];rw [ZZ (by simp only [Ze,ZX];omega)]),ZS]
   rfl
  rw [beq_eq_false_iff_ne.2 hz,Bool.false_and,Z0 ?_]
  rw [ZX]
  rcases hg s hsl with e|e
  ·exact absurd e hz
  have:=ZhQ (VP.of hp) e
  omega
end
end Go.Sh

namespace Go.Sh
open Go Go.Eng
section
variable {N:Nat} {p:Z5} {f:List Z4}
def rOK (p:Z5)(s:Nat)(g:Z8)(a:Zak):Bool:=if a.By = -1 then true else if 0<=a.By then refB p s g a else true
def kids (s:Nat)(g:Z8)(as:List Zak):List Zaf:=(as.filter λa=>a.By == -1).map λa=>⟨a.Next,g.set s a.From⟩
theorem ZjB (s:Nat)(g:Z8)(as:List Zak):(kids s g as).length<=as.length:=by
 unfold kids
 rw [ZE]
 exact List.length_filter_le _ _
theorem Zku (s:Nat)(g:Z8)(as:List Zak)(a:Zak):kids s g (as++[a])=kids s g as++(if a.By = -1 then [⟨a.Next,g.set s a.From⟩] else []):=by
 unfold kids
 rw [List.filter_append,ZJ]
 congr 1
 by_cases h:a.By = -1
 ·rw [Z0 h];simp [List.filter,h]
 rw [ZZ h];simp [List.filter,beq_eq_false_iff_ne.2 h]
theorem ZnD (hN:2000<=N)(hp:Zd5 p=true){r m:List (Zag×Bool)}(hm:MOK p m){s:Nat}(hs:s<p.Periods.length){t:Zaf}(hg:AOK p t.given){x:Z4}(hst:x.Stream=s){nP len c:Int}(hnP:nP=p.Periods.length)
  (harm:∀ a∈x.Arms,ZnO p s a/\Zbm nP len c a=true) {l:List Zaf} (hl:l.length<=100000000) (hA:x.Arms.length<1000000) (hAN:x.Arms.length<N) :
  ∃ m',MOK p m'/\ZaS (λy:Int×(List Zaf)×(List (Zag×Bool))=>ZbF N (p,r) t x x y.1 y.2.1 y.2.2) N (0,l,m)=some (if x.Arms.all (rOK p s t.given)=true then .inl (l++kids s t.given x.Arms,m') else .inr false):=by
 have hP:=(VP.of hp).len
 obtain ⟨o,ho,m',hm',eo⟩:=ZcX (body:=λy:Int×(List Zaf)×(List (Zag×Bool))=>ZbF N (p,r) t x x y.1 y.2.1 y.2.2)
  (λy=>∃ k:Nat,y.1=k/\k<=x.Arms.length/\y.2.1=l++kids s t.given (x.Arms.take k)/\MOK p y.2.2/\(x.Arms.take k).all (rOK p s t.given)=true) (λy=>(x.Arms.length-y.1).toNat)
  (λo=>∃ m',MOK p m'/\o=if x.Arms.all (rOK p s t.given)=true then .inl (l++kids s t.given x.Arms,m') else .inr false) (λy hy=>by
   obtain ⟨i,l1,m1⟩:=y
   obtain ⟨k,k1,k2,k3,k4,k5⟩:=hy
   simp only at k1 k3 k4
   subst k1 k3
   simp only [ZbF]
   by_cases c1:k<x.Arms.length
   ·obtain ⟨hok,hre⟩:=harm _ (List.getElem_mem c1)
    have hkl:=ZjB s t.given (x.Arms.take k)
    rw [ZI] at hkl
    have etake:x.Arms.take (k+1)=x.Arms.take k++[x.Arms[k]]:=List.take_succ_eq_append_getElem c1
    rw [Z0 (by simpa using c1),Zcn c1,ZS,Zbj (by omega)]
    by_cases b:x.Arms[k].By = -1
    ·left
     refine ⟨(((k+1:Nat):Int),l++kids s t.given (x.Arms.take (k+1)),m1),?_,⟨k+1,rfl,by omega,rfl,k4,?_⟩,by simp;omega⟩
     ·rw [Z0 (by simpa using b),hst,Zdn _ (by omega),ZS]
      simp only [Zcr]
      have ha:appI 104 (l++kids s t.given (x.Arms.take k)) [Zaf.mk x.Arms[k].Next (t.given.set s x.Arms[k].From)]=some (l++kids s t.given (x.Arms.take k)++[Zaf.mk x.Arms[k].Next (t.given.set s x.Arms[k].From)]):=by
       unfold appI
       rw [Z0 (by simp only [ZC,ZD,ZF];omega)]
      rw [ha,ZS,ZS,etake,Zku,Z0 b,Zn]
     rw [etake,List.all_append,k5,Zi]
     simp [rOK,b]
    have hre2:=hre
    unfold Zbm at hre2
    rw [ZZ b] at hre2
    rw [ZZ (by simpa using b)]
    have ek:kids s t.given (x.Arms.take (k+1))=kids s t.given (x.Arms.take k):=by rw [etake,Zku,ZZ b,List.append_nil]
    by_cases b2:0<=x.Arms[k].By
    ·have b3:x.Arms[k].By<(p.Periods.length:Int):=by
      by_cases q:x.Arms[k].Next=0
      ·rw [Z0 q,ZZ (by omega),ZX] at hre2;omega
      rw [ZZ q] at hre2;cases hre2
     obtain ⟨m2,hm2,hk2⟩:=ZgZ (N:=N) hN hp (r:=r) k4 hs hok b2 b3 hg
     rw [Z0 (by simpa using b2),hst,hm2,ZS,ZS]
     have er:rOK p s t.given x.Arms[k]=refB p s t.given x.Arms[k]:=by unfold rOK;rw [ZZ b,Z0 b2]
     cases hr:refB p s t.given x.Arms[k] with
     | true =>
      left
      refine ⟨(((k+1:Nat):Int),l++kids s t.given (x.Arms.take (k+1)),m2),?_,⟨k+1,rfl,by omega,rfl,hk2,?_⟩,by simp;omega⟩
      ·rw [ZZ (by simp),ek]
      rw [etake,List.all_append,k5,Zi,List.all_cons,er,hr];rfl
     | false =>
      right
      refine ⟨_,by rw [Z0 (by simp)],m2,hk2,?_⟩
      rw [ZZ]
      rw [Zm]
      intro hq
      have:=hq _ (List.getElem_mem c1)
      rw [er,hr] at this
      cases this
    rw [ZZ (by simpa using b2),ZS]
    left
    refine ⟨(((k+1:Nat):Int),l++kids s t.given (x.Arms.take (k+1)),m1),?_,⟨k+1,rfl,by omega,rfl,k4,?_⟩,by simp;omega⟩
    ·rw [ZZ (by simp),ek]
    rw [etake,List.all_append,k5,Zi]
    simp [rOK,b,b2]
   right
   obtain rfl:k=x.Arms.length:=by omega
   rw [List.take_length] at k5 ⊢
   exact ⟨_,by rw [ZZ (by simp)],m1,k4,by rw [Z0 k5]⟩) N (0,l,m) ⟨0,rfl,by omega,by simp [kids],hm,by simp⟩ (by simp;omega)
 exact ⟨m',hm',by rw [ho,eo]⟩
end
end Go.Sh

namespace Go.Sh
open Go Go.Eng
theorem ZiR {q q':Nat->Bool}{s:Nat}(h0:q s=false)(h1:q' s=true)(h:∀ k,k≠s->q' k=q k):∀ n,(List.range n).countP q'=(List.range n).countP q+(if s<n then 1 else 0)
 | 0=>by simp
 | n+1=>by
  rw [List.range_succ,List.countP_append,List.countP_append,ZiR h0 h1 h n]
  by_cases e:n=s
  ·subst e
   simp [h0,h1]
  have:q' n=q n:=h n e
  simp only [List.countP_cons,List.countP_nil,this]
  by_cases c:s<n
  ·have c2:s<n+1:=by omega
   simp only [c,c2,Z1];omega
  have c2:¬ s<n+1:=by omega
  simp only [c,c2,ZY];omega
section
variable {N:Nat} {p:Z5} {f:List Z4}
def dep (p:Z5)(g:Z8):Nat:=(List.range p.Periods.length).countP λk=>g.l.getD k 0 != -1
theorem Zoy (g:Z8):dep p g<=p.Periods.length:=by
 unfold dep
 have:=List.countP_le_length (p:=λk=>g.l.getD k 0 != -1) (l:=List.range p.Periods.length)
 simpa using this
theorem ZoZ {g:Z8}(hP:p.Periods.length<=12){s:Nat}(hs:s<p.Periods.length)(h0:g.l.getD s 0 = -1){x:Int}(hx:x ≠ -1):dep p (g.set s x)=dep p g+1:=by
 unfold dep
 rw [ZiR (q:=λk=>g.l.getD k 0 != -1) (q':=λk=>(g.set s x).l.getD k 0 != -1) (s:=s) (by rw [h0];rfl) (by rw [Zf3 g s s x (by omega),Z0 rfl,bne_iff_ne];exact hx) (λk hk=>by rw [Zf3 g s k x (by omega),ZZ hk]),Z0 hs]
def SI (p:Z5)(A:Nat):Nat->List Zaf->Prop
 | 0,l=>l.length<=A/\∀ t∈l,dep p t.given=0
 | d+1,l=>∃ l1 B,l=l1++B/\SI p A d l1/\B.length<=A/\∀ t∈B,dep p t.given=d+1
theorem SI.len {A:Nat}:∀ {d:Nat} {l:List Zaf},SI p A d l->l.length<=A*(d+1)
 | 0,l,h=>by rw [Nat.mul_one];exact h.1
 | d+1,l,h=>by
  obtain ⟨l1,B,rfl,h1,h2,_⟩:=h
  have:=SI.len h1
  rw [ZC,Nat.mul_add A (d+1) 1]
  omega
theorem SI.pop {A:Nat}{t:Zaf}:∀ {d:Nat} {l:List Zaf},SI p A d (l++[t])->SI p A (dep p t.given) l
 | 0,l,h=>by
  obtain ⟨h1,h2⟩:=h
  rw [h2 t (by simp)]
  exact ⟨by rw [ZC] at h1;omega,λu hu=>h2 u (by simp [hu])⟩
 | d+1,l,h=>by
  obtain ⟨l1,B,e,h1,h2,h3⟩:=h
  rcases List.eq_nil_or_concat B with rfl|⟨B',u,rfl⟩
  ·rw [List.append_nil] at e
   subst e
   exact SI.pop h1
  rw [List.concat_eq_append,← Zn] at e
  obtain ⟨rfl,e2⟩:=List.append_inj' e rfl
  cases e2
  rw [h3 t (by simp)]
  exact ⟨l1,B',rfl,h1,by rw [List.concat_eq_append,ZC] at h2;omega,λu hu=>h3 u (by simp [hu])⟩
theorem ZoW (hp:Zd5 p=true)(hall:∀ c,c<f.length->ZaU p f c=true){A:Nat}(ha:∀ x∈f,x.Arms.length<=A)(hA:A<1000000){n m c:Nat}{g:Z8}(hc:c<f.length)(h1:f.length-c<=n)(h2:f.length-c<=m)(hg:AOK p g):hB p f n c g=hB p f m c g:=by
 have a1:=ZjD hp hall (M:=2000+A+1) (by omega) (λx hx=>by have:=ha x hx;omega) n (2000+A+1+n+m) c g hc h1 (by omega) hg
 have a2:=ZjD hp hall (M:=2000+A+1) (by omega) (λx hx=>by have:=ha x hx;omega) m (2000+A+1+n+m) c g hc h2 (by omega) hg
 rw [a1] at a2
 exact Option.some.inj a2
theorem ZlX (s:Nat)(g:Z8)(R:Nat->Z8->Bool):∀ as:List Zak,as.all (armH p s g R)=(as.all (rOK p s g)&&(kids s g as).all λt=>R t.choice.toNat t.given)
 | []=>rfl
 | a::as=>by
  rw [List.all_cons,List.all_cons,ZlX s g R as]
  unfold kids
  by_cases h:a.By = -1
  ·rw [List.filter_cons_of_pos (by simpa using h),ZK,List.all_cons]
   have e1:armH p s g R a=R a.Next.toNat (g.set s a.From):=by unfold armH;rw [Z0 h]
   have e2:rOK p s g a=true:=by unfold rOK;rw [Z0 h]
   rw [e1,e2,Zi]
   cases R a.Next.toNat (g.set s a.From)<;>simp
  rw [List.filter_cons_of_neg (by simpa using h)]
  have e1:armH p s g R a=rOK p s g a:=by unfold armH rOK;rw [ZZ h,ZZ h]
  rw [e1,Bool.and_assoc]
def wt (p:Z5)(A:Nat)(t:Zaf):Nat:=(A+1) ^ (13-dep p t.given)
def wts (p:Z5)(A:Nat)(l:List Zaf):Nat:=(l.map (wt p A)).sum
theorem ZmC (A:Nat)(a b:List Zaf):wts p A (a++b)=wts p A a+wts p A b:=by simp [wts]
theorem Zoq {A W:Nat}:∀ {l:List Zaf},(∀ t∈l,wt p A t=W)->wts p A l=l.length*W
 | [],_=>by simp [wts]
 | t::l,h=>by
  have:=Zoq (l:=l) λu hu=>h u (by simp [hu])
  unfold wts at this ⊢
  rw [ZK,List.sum_cons,this,h t (by simp),ZD,ZQ]
  omega
structure TOK (p:Z5) (f:List Z4) (t:Zaf):Prop where
 c0:0<=t.choice
 c1:t.choice<(f.length:Int)
 g:AOK p t.given
def Zi9 (p:Z5)(f:List Z4)(t:Zaf):Bool:=hB p f f.length t.choice.toNat t.given
theorem Zl4 (hp:Zd5 p=true)(hall:∀ c,c<f.length->ZaU p f c=true){A:Nat}(hA1:1<=A)(ha:∀ x∈f,x.Arms.length<=A)(hA:A<1000000){r:List (Zag×Bool)}{t0:Zaf}(ht0:TOK p f t0)(hd0:dep p t0.given=0)
  (hN:2000+A<N) (hN2:(A+1) ^ 13<N) :
  ZaS (λx:(List Zaf)×(List (Zag×Bool))=>ZbG N f (p,r) x.1 x.2) N ([t0],[])=some (if Zi9 p f t0=true then .inl () else .inr false):=by
 have hP:=(VP.of hp).len
 obtain ⟨o,ho,eo⟩:=ZcX (body:=λx:(List Zaf)×(List (Zag×Bool))=>ZbG N f (p,r) x.1 x.2)
  (λx=>MOK p x.2/\(∀ t∈x.1,TOK p f t)/\(∃ d,d<=12/\SI p A d x.1)/\x.1.all (Zi9 p f)=Zi9 p f t0) (λx=>wts p A x.1)
  (λo=>o=if Zi9 p f t0=true then .inl () else .inr false) (λx hx=>by
   obtain ⟨l,m⟩:=x
   obtain ⟨h1,h2,⟨d,hd,h3⟩,h4⟩:=hx
   simp only at h1 h2 h3 h4
   simp only [ZbG]
   rcases List.eq_nil_or_concat l with rfl|⟨l0,t,rfl⟩
   ·right
    exact ⟨_,by rw [ZZ (by simp)],by rw [← h4];rfl⟩
   ·rw [List.concat_eq_append] at h2 h3 h4 ⊢
    have ht:=h2 t (by simp)
    obtain ⟨c,hc⟩:∃ c:Nat,t.choice=c:=⟨t.choice.toNat,by have:=ht.c0;omega⟩
    have hcl:c<f.length:=by have:=ht.c1;omega
    obtain ⟨_,s,hs,hsl,harm⟩:=ZkL (hall c hcl)
    have hb:=ha _ (List.getElem_mem hcl)
    have hlen:=h3.len
    have hlen2:A*(d+1)<=A*13:=Nat.mul_le_mul_left A (by omega)
    rw [ZC,ZD,ZF] at hlen
    have e1:w64 (((List.length (l0++[t]):Nat):Int)-1)=(l0.length:Int):=by
     rw [ZC,ZD,ZF,Za9 (by omega) (by omega)];omega
    have e2:idx (l0++[t]) ((l0.length:Nat):Int)=some t:=by rw [ZeR];simp
    have e3:popI (l0++[t]) ((l0.length:Nat):Int)=some l0:=by
     unfold popI
     rw [Z0 (by simp;omega)]
     simp
    rw [Z0 (by simp),e1,e2,ZS,e3,ZS,hc,Zcn hcl,ZS,hs,Zdn t.given (by omega),ZS]
    have hstep:Zi9 p f t=((t.given.l.getD s 0 == -1)&&f[c].Arms.all (armH p s t.given (hB p f f.length))):=by
     unfold Zi9
     rw [hc,Zk,ZoW hp hall ha hA hcl (n:=f.length) (m:=f.length+1) (by omega) (by omega) ht.g]
     show (match f[c]? with
      | none=>false
      | some x=>(t.given.l.getD x.Stream.toNat 0 == -1)&&x.Arms.all (armH p x.Stream.toNat t.given (hB p f f.length)))=_
     rw [Zw hcl]
     simp only [hs,Zk]
    have hbad:Zi9 p f t=false->Zi9 p f t0=false:=λhf=>by
     rw [← h4,List.all_append]
     simp [hf]
    by_cases hz:t.given.l.getD s 0 = -1
    ·rw [ZZ (by rw [hz];simp),ZS]
     obtain ⟨m',hm',hloop⟩:=ZnD (N:=N) (by omega) hp (r:=r) h1 hsl ht.g hs rfl harm (l:=l0) (by omega) (by omega) (by omega)
     rw [hloop,ZS]
     rw [ZlX,beq_iff_eq.2 hz,Zi] at hstep
     cases hr:f[c].Arms.all (rOK p s t.given) with
     | false =>
      right
      rw [hr,Bool.false_and] at hstep
      exact ⟨_,by rw [ZZ (by simp)],by rw [hbad hstep,ZZ (by simp)]⟩
     | true =>
      left
      rw [hr,Zi] at hstep
      have hkid:∀ u∈kids s t.given f[c].Arms,TOK p f u/\dep p u.given=dep p t.given+1:=λu hu=>by
       unfold kids at hu
       obtain ⟨a,haf,rfl⟩:=List.mem_map.1 hu
       obtain ⟨ha1,ha2⟩:=List.mem_filter.1 haf
       rw [beq_iff_eq] at ha2
       obtain ⟨hok,hre⟩:=harm a ha1
       unfold Zbm at hre
       rw [Z0 ha2,ZX] at hre
       have hf0:=hok.f0
       have hlt:=hok.lt
       have ho:=Zjw hok hsl (k:=0) (by omega)
       exact ⟨⟨by simp only;omega,by simp only;omega,ht.g.set hP hsl (by simpa using ho)⟩,ZoZ hP hsl hz (by omega)⟩
      have hpop:=SI.pop h3
      have hdl:=Zoy (p:=p) t.given
      refine ⟨(l0++kids s t.given f[c].Arms,m'),by rw [Z0 rfl],⟨hm',λu hu=>?_,?_,?_⟩,?_⟩
      ·rcases List.mem_append.1 hu with hu|hu
       ·exact h2 u (by simp [hu])
       exact (hkid u hu).1
      ·by_cases hk0:kids s t.given f[c].Arms=[]
       ·exact ⟨dep p t.given,by omega,by simp only;rw [hk0,List.append_nil];exact hpop⟩
       obtain ⟨u,hu⟩:=List.exists_mem_of_ne_nil _ hk0
       have:=Zoy (p:=p) u.given
       have:=(hkid u hu).2
       exact ⟨dep p t.given+1,by omega,l0,_,rfl,hpop,Nat.le_trans (ZjB _ _ _) hb,λu hu=>(hkid u hu).2⟩
      ·rw [← h4]
       simp only [List.all_append,List.all_cons,List.all_nil,Bool.and_true]
       rw [hstep]
       rfl
      simp only
      rw [ZmC,ZmC]
      have w1:wts p A [t]=(A+1) ^ (13-dep p t.given):=by simp [wts,wt]
      have hdt:dep p t.given<=12:=by omega
      have w2:=Zoq (p:=p) (A:=A) (W:=(A+1) ^ (13-(dep p t.given+1))) (l:=kids s t.given f[c].Arms) (λu hu=>by unfold wt;rw [(hkid u hu).2])
      have w3:(A+1) ^ (13-dep p t.given)=(A+1) ^ (13-(dep p t.given+1))*(A+1):=by
       rw [← Nat.pow_succ]
       congr 1
       omega
      have w4:0<(A+1) ^ (13-(dep p t.given+1)):=Nat.pow_pos (by omega)
      have w5:=Nat.mul_le_mul_right ((A+1) ^ (13-(dep p t.given+1))) (Nat.le_trans (ZjB s t.given f[c].Arms) hb)
      rw [w1,w2,w3,Nat.mul_add,Nat.mul_comm _ A]
      omega
    right
    rw [beq_eq_false_iff_ne.2 hz,Bool.false_and] at hstep
    exact ⟨_,by rw [Z0 (by simpa using hz)],by rw [hbad hstep,ZZ (by simp)]⟩) N ([t0],[]) ⟨MOK.nil,λt ht=>by simp only [ZN] at ht;subst ht;exact ht0,⟨0,by omega,by simp;omega,λt ht=>by simp only [ZN] at ht;subst ht;exact hd0⟩,by simp⟩ (by
   simp only [wts,wt,ZK,ZL,List.sum_cons,List.sum_nil,hd0]
   simpa using hN2)
 rw [ho,eo]
end
end Go.Sh

namespace Go.Sh
open Go Go.Eng
def g0:Z8:=⟨-1,-1,-1,-1,-1,-1,-1,-1,-1,-1,-1,-1⟩
theorem Znn (k:Nat)(h:k<12):g0.l.getD k 0 = -1:=by
 rcases k with _|_|_|_|_|_|_|_|_|_|_|_|k<;>first|rfl|omega
theorem ZnV (n M:Nat):ZaS (λx:Int×Z8=>Zcq M x.1 x.2) (n+13) (0,(Z8.mk 0 0 0 0 0 0 0 0 0 0 0 0))=some g0:=by kernel_rfl
section
variable {N:Nat} {p:Z5} {f:List Z4}
theorem ZeT (h:Zen p f=true):1<=f.length/\f.length<=2000/\∀ c,c<f.length->ZaU p f c=true:=by
 unfold Zen at h
 simp only [Ze,ZX] at h
 exact ⟨h.1.1.1,h.1.1.2,ZcY.1 h.1.2⟩
theorem Zv5 (hp:Zd5 p=true):AOK p g0:=λk hk=>.inl (Znn k (by have:=(VP.of hp).len;omega))
theorem ZqU (hp:Zd5 p=true):dep p g0=0:=by
 unfold dep
 rw [List.countP_eq_zero]
 intro k hk
 rw [List.mem_range] at hk
 rw [Znn k (by have:=(VP.of hp).len;omega)]
 simp
def Zhh (p:Z5)(f:List Z4):Bool:=hB p f f.length 0 g0
def Zf0 (p:Z5)(f:List Z4):Int:=if Zd5 p=true then (if Zen p f=true then (if Zhh p f=true then 0 else 351) else 350) else 340
theorem Zip (hp:Zd5 p=true)(hf:Zen p f=true){A:Nat}(hA1:1<=A)(ha:∀ x∈f,x.Arms.length<=A)(hA:A<1000000)(hN:2000+A<N)(hN2:(A+1) ^ 13<N):ZdH N p f=some (Zhh p f):=by
 obtain ⟨h1,h2,hall⟩:=ZeT hf
 obtain ⟨n,rfl⟩:∃ n,N=n+13:=⟨N-13,by omega⟩
 unfold ZdH
 have e1:ZcO (n+13) p=some (p,[]):=rfl
 rw [e1,ZS,ZnV,ZS]
 have e2:Zcs (n+13) [] 0 g0=some [⟨0,g0⟩]:=rfl
 simp only [e2,ZS]
 rw [Zl4 hp hall hA1 ha hA (t0:=⟨0,g0⟩) ⟨by simp,by simp only;omega,Zv5 hp⟩ (ZqU hp) hN hN2,ZS]
 have e3:Zi9 p f ⟨0,g0⟩=Zhh p f:=rfl
 rw [e3]
 cases Zhh p f<;>rfl
theorem Zis {A:Nat}(hA1:1<=A)(ha:∀ x∈f,x.Arms.length<=A)(hA:A<1000000)(hfl:f.length<N)(hN:2000+A<N)(hN2:(A+1) ^ 13<N):Zbd N p f=some (Zf0 p f):=by
 unfold Zbd Zf0
 rw [ZfQ (by omega),ZS]
 cases hp:Zd5 p with
 | false=>rfl
 | true =>
  simp only [Z1]
  rw [ZZ (by simp),ZhE hfl (by omega) (λx hx=>by have:=ha x hx;omega),ZS]
  cases hf:Zen p f with
  | false=>rfl
  | true =>
   simp only [Z1]
   rw [ZZ (by simp),Zip hp hf hA1 ha hA hN hN2,ZS]
   cases Zhh p f<;>rfl
end
end Go.Sh

namespace Go.Sh
open Go Go.Eng
def ZeU (q:Nat->Bool):Nat->Option Nat
 | 0=>none
 | n+1=>match ZeU q n with
  | some j=>some j
  | none=>if q n=true then some n else none
theorem ZfA {q:Nat->Bool}:∀ {n:Nat},ZeU q n=none↔∀ k,k<n->q k=false
 | 0=>by simp [ZeU]
 | n+1=>by
  have ih:=ZfA (q:=q) (n:=n)
  simp only [ZeU]
  cases h:ZeU q n with
  | some j =>
   simp only [reduceCtorEq,false_iff]
   intro h2
   rw [ih.2 λk hk=>h2 k (by omega)] at h
   cases h
  | none =>
   simp only
   have h3:=ih.1 h
   constructor
   ·intro h2 k hk
    by_cases e:k=n
    ·subst e
     cases hq:q k with
     | false=>rfl
     | true=>rw [hq,Z0 rfl] at h2;cases h2
    exact h3 k (by omega)
   intro h2
   rw [h2 n (by omega),ZZ (by simp)]
theorem Zeo {q:Nat->Bool}{j:Nat}:∀ {n:Nat},ZeU q n=some j↔j<n/\q j=true/\∀ k,k<j->q k=false
 | 0=>by simp [ZeU]
 | n+1=>by
  have ih:=Zeo (q:=q) (j:=j) (n:=n)
  simp only [ZeU]
  cases h:ZeU q n with
  | some j' =>
   simp only [ZU]
   rw [h] at ih
   simp only [ZU] at ih
   constructor
   ·intro e
    obtain ⟨a,b,c⟩:=ih.1 e
    exact ⟨by omega,b,c⟩
   rintro ⟨a,b,c⟩
   by_cases e:j=n
   ·subst e
    obtain ⟨a',b',_⟩:=Zeo.1 h
    rw [c j' a'] at b'
    cases b'
   exact ih.2 ⟨by omega,b,c⟩
  | none =>
   simp only
   have h3:=ZfA.1 h
   constructor
   ·intro h2
    split at h2
    ·rename_i hq
     cases h2
     exact ⟨by omega,hq,h3⟩
    cases h2
   rintro ⟨a,b,c⟩
   by_cases e:j=n
   ·subst e;rw [Z0 b]
   rw [h3 j (by omega)] at b;cases b
section
variable {N:Nat} {p:Z5}
def byS (p:Z5)(i:Nat)(x:Int)(all:List Int):Int:=match ZeU (λj=>Zcx p i x j (all.getD j 0)) (i+1) with
 | some j=>j
 | none => -1
theorem Zo0 (hN:2000<=N)(hp:VP p){i:Nat}(hi:i<1000){x:Int}(hx:0<=x)(hx2:x<=1000){all:List Int}(hl:all.length=i+1)(ha:∀ y∈all,0<=y/\y<=1000) :
  ZaS (λy:Int×Int=>ZbV N p i x all y.1 y.2) N (0,-1)=some (byS p i x all):=by
 obtain ⟨r,hr,e⟩:=ZcX (body:=λy:Int×Int=>ZbV N p i x all y.1 y.2)
  (λy=>∃ k:Nat,y.1=k/\k<=i+1/\((y.2 = -1/\∀ m,m<k->Zcx p i x m (all.getD m 0)=false)∨(∃ m:Nat,m<k/\y.2=m/\Zcx p i x m (all.getD m 0)=true/\∀ m',m'<m->Zcx p i x m' (all.getD m' 0)=false)))
  (λy=>((i:Int)+2-y.1).toNat) (λb=>b=byS p i x all) (λy hy=>by
   obtain ⟨j,b⟩:=y
   obtain ⟨k,rfl,k1,k2⟩:=hy
   simp only at k2 ⊢
   simp only [ZbV]
   rcases k2 with ⟨rfl,k3⟩|⟨m,m1,rfl,m2,m3⟩
   ·by_cases c:k<=i
    ·left
     rw [Z0 (by simp;omega),Zcn (by omega),ZS]
     obtain ⟨a0,a1⟩:=ha _ (List.getElem_mem (by omega:k<all.length))
     rw [Zfk hN hp hx hx2 a0 a1,ZS]
     have eg:all[k]'(by omega)=all.getD k 0:=(Za5 (by omega) 0).symm
     rw [eg]
     cases hm:Zcx p i x k (all.getD k 0) with
     | true=>exact ⟨_,by rw [Z0 rfl,ZS],⟨k+1,by simp only;rw [Zbj (by omega)],by omega,.inr ⟨k,by omega,rfl,hm,k3⟩⟩,by simp only;rw [Zbj (by omega)];omega⟩
     | false=>exact ⟨_,by rw [ZZ (by simp),ZS],⟨k+1,by simp only;rw [Zbj (by omega)],by omega,.inl ⟨rfl,λm hm'=>by
       by_cases e:m=k
       ·subst e;exact hm
       exact k3 m (by omega)⟩⟩,by simp only;rw [Zbj (by omega)];omega⟩
    right
    refine ⟨_,by rw [ZZ (by simp;omega)],?_⟩
    unfold byS
    rw [ZfA.2 λm hm=>k3 m (by omega)]
   right
   refine ⟨_,by rw [ZZ (by simp)],?_⟩
   unfold byS
   rw [Zeo.2 ⟨by omega,m2,m3⟩]) N (0,-1) ⟨0,rfl,by omega,.inl ⟨rfl,λm hm=>by omega⟩⟩ (by simp only;omega)
 rw [hr,e]
def c00:Z4:=⟨0,[]⟩
def a00:Zak:=⟨0,0,0,0⟩
def Zld (l:List Zak)(b:Int):Bool:=decide (b ≠ -1)&&decide (l≠[])&&decide ((l.getD (l.length-1) a00).By=b)
def Znq (l:List Zak)(t:Int):List Zak:=l.set (l.length-1) { l.getD (l.length-1) a00 with To:=t }
def bS (p:Z5)(given:List Int)(c x:Nat):Int:=if c=0/\0<x then -2 else byS p given.length x (given++[(x:Int)])
def Zhl (p:Z5)(given:List Int)(c:Nat)(R:List Z4->List Int->Option (List Z4))(x:Nat)(s:List Z4):Option (List Z4):=
 if Zld (s.getD c c00).Arms (bS p given c x)=true then some (s.set c ⟨(s.getD c c00).Stream,Znq (s.getD c c00).Arms ((x:Int)+1)⟩)
 else if bS p given c x = -1 then (R s (given++[(x:Int)])).map λr=>r.set c ⟨(r.getD c c00).Stream,(r.getD c c00).Arms++[⟨x,(x:Int)+1,-1,s.length⟩]⟩
 else some (s.set c ⟨(s.getD c c00).Stream,(s.getD c c00).Arms++[⟨x,(x:Int)+1,bS p given c x,0⟩]⟩)
def Zg4 (p:Z5):Nat->List Z4->List Int->Option (List Z4)
 | 0,_,_=>none
 | n+1,f,given=>if 2000<=f.length then none else upF (Zhl p given f.length (Zg4 p n)) (p.Periods.getD given.length 0).toNat (f++[⟨given.length,[]⟩])
def Zdf (s:List Z4):Prop:=∀ y∈s,y.Arms.length<=240
structure GI (f:List Z4) (i x:Nat) (s:List Z4):Prop where
 pre:f <+: s
 lt:f.length<s.length
 le:s.length<=2000
 st:(s.getD f.length c00).Stream=i
 ar:(s.getD f.length c00).Arms.length<=x
 sm:Zdf s
def RK (R:List Z4->List Int->Option (List Z4)):Prop:=∀ s g r,s.length<=2000->Zdf s->R s g=some r->s <+: r/\r.length<=2000/\Zdf r
theorem Zdf.set {s:List Z4}(h:Zdf s){c:Nat}{y:Z4}(hy:y.Arms.length<=240):Zdf (s.set c y):=λz hz=>by
 rcases List.mem_or_eq_of_mem_set hz with hz|rfl
 ·exact h z hz
 exact hy
theorem ZlL {α:Type}{l m:List α}{i:Nat}(x:α)(h:l <+: m)(hi:l.length<=i):l <+: m.set i x:=by
 obtain ⟨t,rfl⟩:=h
 rw [ZP _ _ hi]
 exact ⟨_,rfl⟩
theorem ZfO {α:Type}{l m:List α}{i:Nat}(d:α)(h:l <+: m)(hi:i<l.length):m.getD i d=l.getD i d:=by
 obtain ⟨t,rfl⟩:=h
 simp [Zq,Zr hi]
theorem Zco {α:Type}{l:List α}{i:Nat}(d x:α)(hi:i<l.length):(l.set i x).getD i d=x:=by
 simp [Zq,hi]
theorem Znp (l:List Zak)(t:Int):(Znq l t).length=l.length:=by simp [Znq]
theorem GI.set {f:List Z4}{i x x':Nat}{s:List Z4}(h:GI f i x s){l:List Zak}(hl:l.length<=x')(hx:x'<=240):GI f i x' (s.set f.length ⟨(s.getD f.length c00).Stream,l⟩):=
 {pre:=ZlL _ h.pre (Nat.le_refl _)
  lt:=by rw [ZG];exact h.lt
  le:=by rw [ZG];exact h.le
  st:=by rw [Zco _ _ h.lt];exact h.st
  ar:=by rw [Zco _ _ h.lt];exact hl
  sm:=h.sm.set (by simp only;omega) }
theorem GI.step {f:List Z4}{given:List Int}{R:List Z4->List Int->Option (List Z4)}(hR:RK R){i x:Nat}{s s':List Z4}(h:GI f i x s)(hx:x<240)(hs:Zhl p given f.length R x s=some s'):GI f i (x+1) s':=by
 unfold Zhl at hs
 split at hs
 ·cases hs
  exact h.set (by rw [Znp];have:=h.ar;omega) (by omega)
 split at hs
 ·cases hr:R s (given++[(x:Int)]) with
  | none=>rw [hr] at hs;cases hs
  | some r =>
   rw [hr] at hs
   cases hs
   obtain ⟨h1,h2,h3⟩:=hR s _ r h.le h.sm hr
   have h4:GI f i x r :=
    {pre:=h.pre.trans h1
     lt:=Nat.lt_of_lt_of_le h.lt h1.length_le
     le:=h2
     st:=by rw [ZfO _ h1 h.lt];exact h.st
     ar:=by rw [ZfO _ h1 h.lt];exact h.ar
     sm:=h3 }
   exact h4.set (by have:=h4.ar;rw [ZC,ZH];omega) (by omega)
 cases hs
 exact h.set (by have:=h.ar;rw [ZC,ZH];omega) (by omega)
theorem GI.start {f:List Z4}(i:Nat)(hf:f.length<2000)(hs:Zdf f):GI f i 0 (f++[⟨i,[]⟩]):=
 {pre:=List.prefix_append _ _
  lt:=by simp
  le:=by simp;omega
  st:=by simp [Zq]
  ar:=by simp [Zq]
  sm:=λy hy=>by
   rcases List.mem_append.1 hy with hy|hy
   ·exact hs y hy
   simp only [ZN] at hy;subst hy;simp }
theorem GI.loop {f:List Z4}{given:List Int}{R:List Z4->List Int->Option (List Z4)}(hR:RK R){i:Nat}{s0:List Z4}(h0:GI f i 0 s0) :
  ∀ {n:Nat} {s:List Z4},n<=240->upF (Zhl p given f.length R) n s0=some s->GI f i n s
 | 0,s,_,h=>by simp only [upF,ZU] at h;subst h;exact h0
 | n+1,s,hn,h=>by
  simp only [upF] at h
  cases hu:upF (Zhl p given f.length R) n s0 with
  | none=>rw [hu] at h;cases h
  | some s1 =>
   rw [hu] at h
   exact (GI.loop hR h0 (by omega) hu).step hR (by omega) h
theorem Zg7 (hp:VP p):∀ n,RK (Zg4 p n)
 | 0=>λs g r _ _ h=>by cases h
 | n+1=>λs g r h1 h2 h=>by
  simp only [Zg4] at h
  split at h
  ·cases h
  rename_i hc
  have hper:(p.Periods.getD g.length 0).toNat<=240:=by
   by_cases e:g.length<p.Periods.length
   ·rw [Za5 e]
    have:=hp.per _ (List.getElem_mem e)
    omega
   rw [Zq,Zx (by omega)];simp
  have hG:=GI.loop (Zg7 hp n) (GI.start g.length (by omega) h2) hper h
  exact ⟨hG.pre,hG.le,hG.sm⟩
def resS (o:Option (List Z4)):List Z4×Bool:=match o with
 | some r=>(r,true)
 | none=>([],false)
theorem Zky {l:List Zak}(hl:l.length<=1000)(b:Int):ZcM l b=some (Zld l b):=by
 unfold ZcM Zld
 by_cases hb:b = -1
 ·subst hb;rfl
 rw [Z0 (by simpa using hb),decide_eq_true hb,Zi]
 by_cases hn:l=[]
 ·subst hn;rfl
 have h0:0<l.length:=List.length_pos_iff.2 hn
 rw [Z0 (by simp;omega),decide_eq_true hn,Zi]
 have e:w64 (((List.length l:Nat):Int)-1)=((l.length-1:Nat):Int):=by rw [Za9 (by omega) (by omega)];omega
 rw [e,Zcn (by omega),ZS,Za5 (by omega)]
 rfl
theorem Znk (hp:VP p):∀ (n M:Nat) (f:List Z4) (given:List Int),2000<=M->given.length+n=p.Periods.length->(∀ y∈given,0<=y/\y<=1000)->f.length<=2000->Zdf f →
  Zc5 (M+n+1) p f given=some (resS (Zg4 p n f given))
 | 0,M,f,given,hM,hg,ha,hf,hs=>by
  show Zce _ _ p f given=_
  unfold Zce
  rw [Z0 (by rw [show given.length=p.Periods.length by omega];simp)]
  rfl
 | n+1,M,f,given,hM,hg,ha,hf,hs=>by
  show Zce (M+(n+1)) (Zc5 (M+n+1)) p f given=_
  unfold Zce
  simp only [Zg4]
  have hP:=hp.len
  by_cases hc:2000<=f.length
  ·rw [Z0 (by simp;omega),Z0 hc]
   rfl
  rw [ZZ (by simp;omega),ZZ hc]
  have hap:appI 32 f [(⟨((List.length given:Nat):Int),[]⟩:Z4)]=some (f++[⟨((List.length given:Nat):Int),[]⟩]):=ZbQ (by simp;omega) (by omega)
  rw [hap,ZS]
  have hin:given.length<p.Periods.length:=by omega
  have hpe:=hp.per _ (List.getElem_mem hin)
  have hpg:p.Periods.getD given.length 0=p.Periods[given.length]:=Za5 hin 0
  have hup:=ZjC (λk (s:List Z4)=>(k,s)) (·.1) (λ_ _=>rfl) (ρ:=List Z4⊕(List Z4×Bool)) (body:=λy:Int×List Z4=>ZbW (M+(n+1)) (Zc5 (M+n+1)) p given ((List.length given:Nat):Int) ((List.length f:Nat):Int) y.1 y.2)
   (step:=Zhl p given f.length (Zg4 p n)) (n:=(p.Periods.getD given.length 0).toNat) (s0:=f++[⟨given.length,[]⟩]) (fin:=λs=>.inl s) (bad:=.inr ([],false)) (N:=M+(n+1)) (λk s hk hu=>by
    have hG:=GI.loop (Zg7 hp n) (GI.start given.length (by omega) hs) (by omega) hu
    simp only [ZbW]
    rw [Zcn hin,ZS,Z0 (by simp;omega)]
    have ha1:appI 8 [] given=some ([]++given):=ZbQ (by simp;omega) (by omega)
    have ha2:appI 8 ([]++given) [(k:Int)]=some (given++[(k:Int)]):=by rw [ZO];exact ZbQ (by simp;omega) (by omega)
    have hall:∀ y∈given++[(k:Int)],0<=y/\y<=1000:=λy hy=>by
     rcases List.mem_append.1 hy with hy|hy
     ·exact ha y hy
     simp only [ZN] at hy;omega
    rw [ha1,ZS,ha2,ZS,Zo0 (by omega) hp (by omega) (by omega) (by omega) (by simp) hall,ZS]
    have hb:(if (((List.length f:Nat):Int)==0&&decide ((k:Int)>0))=true then some (-2) else some (byS p given.length (k:Int) (given++[(k:Int)])))=some (bS p given f.length k):=by
     unfold bS
     by_cases e:f.length=0/\0<k
     ·rw [Z0 e,Z0 (by simp only [Ze,beq_iff_eq,ZX];omega)]
     rw [ZZ e,ZZ (by simp only [Ze,beq_iff_eq,ZX];omega)]
    rw [hb,ZS,Zcn hG.lt,ZS]
    have hsg:s[f.length]'hG.lt=s.getD f.length c00:=(Za5 hG.lt _).symm
    have hal:=hG.ar
    rw [hsg,Zky (by omega),ZS]
    have hw1:w64 ((k:Int)+1)=(k:Int)+1:=Za9 (by omega) (by omega)
    have hk1:((k+1:Nat):Int)=(k:Int)+1:=by omega
    unfold Zhl
    cases hlb:Zld (s.getD f.length c00).Arms (bS p given f.length k) with
    | true =>
     rw [Z0 rfl,Z0 rfl]
     have hne:(s.getD f.length c00).Arms≠[]:=by
      unfold Zld at hlb
      simp only [Ze,ZX] at hlb
      exact hlb.1.2
     have h0:0<(s.getD f.length c00).Arms.length:=List.length_pos_iff.2 hne
     have e:w64 (((List.length (s.getD f.length c00).Arms:Nat):Int)-1)=(((s.getD f.length c00).Arms.length-1:Nat):Int):=by rw [Za9 (by omega) (by omega)];omega
     rw [e,ZfV a00 (by omega) (by omega),ZS,hw1]
     simp only [Zk,hk1]
     rfl
    | false =>
     simp only [Zf,ZY]
     by_cases hb1:bS p given f.length k = -1
     ·rw [Z0 (by simpa using hb1),Z0 hb1,Znk hp n M s (given++[(k:Int)]) hM (by simp;omega) hall hG.le hG.sm,ZS]
      cases hr:Zg4 p n s (given++[(k:Int)]) with
      | none=>rfl
      | some r =>
       obtain ⟨g1,g2,g3⟩:=Zg7 hp n s _ r hG.le hG.sm hr
       have hlr:f.length<r.length:=Nat.lt_of_lt_of_le hG.lt g1.length_le
       simp only [resS,Bool.not_true,Zf,ZY,ZS,ZT]
       rw [Zcn hlr,ZS,← Za5 hlr c00,ZfO c00 g1 hG.lt]
       have ha3:∀ a:Zak,appI 32 (s.getD f.length c00).Arms [a]=some ((s.getD f.length c00).Arms++[a]):=λa=>ZbQ (by rw [ZH];omega) (by omega)
       rw [ha3,ZS,hb1,hw1]
       simp only [Zk,hk1]
     rw [ZZ (by simpa using hb1),ZZ hb1,ZS]
     simp only
     rw [Zcn hG.lt,ZS,hsg]
     have ha3:∀ a:Zak,appI 32 (s.getD f.length c00).Arms [a]=some ((s.getD f.length c00).Arms++[a]):=λa=>ZbQ (by rw [ZH];omega) (by omega)
     rw [ha3,ZS,hw1]
     simp only [Zk,hk1]) (λs hu=>by
    simp only [ZbW]
    rw [Zcn hin,ZS,ZZ (by rw [ZX];omega)]) (by omega)
  rw [hup,ZS]
  cases upF (Zhl p given f.length (Zg4 p n)) (p.Periods.getD given.length 0).toNat (f++[⟨given.length,[]⟩])<;>rfl
end
end Go.Sh

